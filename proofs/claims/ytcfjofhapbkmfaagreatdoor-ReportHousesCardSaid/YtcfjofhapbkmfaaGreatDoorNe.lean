/- Steps in the calculus over abstract states: functions that take a pointer to pure data and turn it: their contracts, their calls (also in a region that draws its order), loads and stores through such a pointer. No dump. No conditions but those of each statement. -/
import Derived.Test.YtcfjofhapbkmfaaGreatDoorMc
import Derived.OwnWalk
set_option linter.unusedSimpArgs false
set_option linter.unusedVariables false
namespace Go.Proofs.YtcfjofhapbkmfaaGreatDoor
open Go Go.RowKit
section
variable {P : Program} {N : Nat} {ops : Array Oper} {m : Option Nat} {K : Tm -> AH -> Prop} {tm tm' : Tm} {H : AH} {rest : List Oper} {ty : TypeId} {pos : String} {af : Array Edge} {d : Nat} {t e : TypeId} {x y z : Operand}
def callee : Operand -> Option FuncId
 | .func f => some f
 | _ => none
end
section
variable {P : Program} {N : Nat} {ops : Array Oper} {m : Option Nat} {K : Tm -> AH -> Prop} {tm tm' : Tm} {H : AH} {rest : List Oper} {ty : TypeId} {pos : String} {af : Array Edge} {d : Nat} {t e u : TypeId} {x y z : Operand}
theorem S.makeO {b n nb : Nat} {zv : Value} [hu : HasU P t (.slice e)] [hi : HasS P e 1] [hz : HasZ P e zv] [hby : HasB P e nb] (hb' : H.nextId = some b) (hx : evT tm x = some (.val (.int .i64 (n : Int)))) (hzc : zv.cells = #[zv]) (hl : n <= 1000000) (hnb : Nat.ble nb 1048576 = true) (hN : Nat.ble (d + 1) N = true)
  (h : Reg none P N ops rest ((d, .own b 0 n 1) :: tm) (H.put b (.live (List.replicate n (.val zv)))) K) : Reg none P N ops (⟨some d, .makeSlice t x x, ty, pos, af, none⟩ :: rest) tm H K := by
 refine ⟨fun E a w ρ hE hR => ?_⟩
 replace h := h.out
 refine wpList_plain rfl fun K' hK => ?_
 have hlen := D7 hb'
 have hf : H.at b = .free := by subst hlen;exact AH.at_len H
 have hv := (hR.ev (by rw [Ah];exact hx) : RelV w E.L ρ (.val (.int .i64 (n : Int))) (a.eval x)).val_eq
 obtain ⟨i, hi1, hi2, hi3, hi4⟩ : ∃ i, P.info? e = some i /\ i.zero = some zv /\ i.size = 1 /\ i.bytes = nb := by
  have h1 := hi.out
  have h2 := hz.out
  have h3 := hby.out
  cases hq : P.info? e with
  | none => rw [hq] at h1;cases h1
  | some i =>
   rw [hq] at h1 h2 h3
   simp only [Option.map_some, Option.some.injEq, Option.bind_some] at h1 h2 h3
   exact ⟨i, rfl, h2, h1, h3⟩
 have hnb' := Nat.le_of_ble_eq_true hnb
 have hbytes : (i.bytes : Int) * (n : Int) <= 281474976710656 := by
  rw [hi4]
  have : nb * n <= 1048576 * 1000000 := Nat.mul_le_mul hnb' hl
  have h4 : ((nb * n : Nat) : Int) = (nb : Int) * n := Int.natCast_mul nb n
  omega
 have hr := run_make (P := P) w t e i zv hu.out hi1 hi2 .i64 .i64 (n : Int) (n : Int) (by omega) (Int.le_refl _) hbytes (by omega)
 rw [Int.toNat_natCast, hi3, Nat.mul_one, hzc] at hr
 have hsz : (madeCells #[zv] n).size = n := size_madeCells _ _
 have hat : ∀ j, j < n -> (madeCells #[zv] n)[j]? = some zv := fun j hj => by
  simp [madeCells, hj, Nat.mod_one]
 obtain ⟨s1, s2⟩ := hR.alloc (b := b) hf (List.replicate n (.val zv)) (madeCells #[zv] n) e (by rw [List.length_replicate, hsz];exact Nat.le_refl _) fun j z hj => by
  have hjn : j < n := by
   rcases Nat.lt_or_ge j n with h | h
   ·exact h
   ·rw [List.getElem?_eq_none (by simpa using h)] at hj;cases hj
  rw [List.getElem?_replicate, if_pos hjn] at hj
  injection hj with hj
  subst hj
  exact ⟨zv, hat j hjn, A9 zv⟩
 unfold Oper.wp
 rw [show (execOp a.eval ⟨some d, .makeSlice t x x, ty, pos, af, none⟩).run P w = .ok (.value (.slice (some ⟨w.heap.size, 0, none⟩) n n)) (w.alloc (.cells (madeCells #[zv] n) e)) by
  simp [execOp, hv, Sem.run_bind, hr, Result.andThen]]
 exact hK _ _ (h E _ _ _ hE (s1.put (by rw [hE];exact Nat.le_of_ble_eq_true hN) (Gq (Nat.le_refl _) (Dg (B5 w _)) (by rw [hsz];omega))))
theorem S.convW {k k' : IntKind} {n r : Int} {ds : TypeDesc} [hu : HasU P t ds] [hv : HasU P u (.int k')] (hx : evT tm x = some (.val (.int k n))) (hw : k'.wrap n = r) (hN : Nat.ble (d + 1) N = true) (h : Reg m P N ops rest ((d, .val (.int k' r)) :: tm) H K) : Reg m P N ops (⟨some d, .convert t u x, ty, pos, af, none⟩ :: rest) tm H K := by
 refine S.val (OpV.mk fun L w ρ η hη hH => ?_) hN h
 have h1 := (hη x (by simp [Op.operands]) _ hx).val_eq
 refine ⟨_, ?_, A9 _⟩
 simp [execOp, h1, convert, run_underlying hu.out, run_underlying hv.out, Conv.intToInt, hw]
theorem Ax (n : Int) : IntKind.u64.wrap n = n % 18446744073709551616 := by simp [IntKind.wrap, IntKind.signed, IntKind.bits]
theorem wrap_i64 (n : Int) (h : -9223372036854775808 <= n /\ n <= 9223372036854775807) : IntKind.i64.wrap n = n := by
 simp [IntKind.wrap, IntKind.signed, IntKind.bits]
 omega
theorem Q7 : ∀ (n : Nat) (x : AV) (cs : List AV), Bi n [x] cs = cs.set n x
 | 0, x, [] => rfl
 | 0, x, c :: cs => by rw [Bi, Eu];rfl
 | n + 1, x, [] => rfl
 | n + 1, x, c :: cs => by rw [Bi, Q7 n];rfl
theorem S.negU {a r : Int} (hx : evT tm x = some (.val (.int .u64 a))) (hw : IntKind.u64.wrap (-a) = r) (hN : Nat.ble (d + 1) N = true) (h : Reg m P N ops rest ((d, .val (.int .u64 r)) :: tm) H K) : Reg m P N ops (⟨some d, .unOp .neg t x, ty, pos, af, none⟩ :: rest) tm H K := by
 refine S.val (OpV.mk fun L w ρ η hη hH => ?_) hN h
 have h1 := (hη x (by simp [Op.operands]) _ hx).val_eq
 exact ⟨_, by simp [execOp, h1, Op.unary, Op.intArith, hw], A9 _⟩
theorem S.boolEqB {a b c : Bool} [hu : HasU P t .bool] (hx : evT tm x = some (.val (.bool a))) (hy : evT tm y = some (.val (.bool b))) (hc : (a == b) = c) (hN : Nat.ble (d + 1) N = true) (h : Reg m P N ops rest ((d, .val (.bool c)) :: tm) H K) : Reg m P N ops (⟨some d, .binOp .eql t x y u, ty, pos, af, none⟩ :: rest) tm H K := by
 subst hc
 refine S.val (OpV.mk fun L w ρ η hη hH => ?_) hN h
 have h1 := (hη x (by simp [Op.operands]) _ hx).val_eq
 have h2 := (hη y (by simp [Op.operands]) _ hy).val_eq
 have he : ∀ d, (Op.equalIn (d + 1) t (.bool a) (.bool b)).run P w = .ok (a == b) w := fun d => by
  rw [Op.equalIn, Sem.run_bind, run_underlying hu.out];rfl
 have he2 : (Op.equal t (.bool a) (.bool b)).run P w = .ok (a == b) w := he _
 exact ⟨_, by simp [execOp, h1, h2, eqGuard, binOp, he2], A9 _⟩
theorem S.boolNeB {a b c : Bool} [hu : HasU P t .bool] (hx : evT tm x = some (.val (.bool a))) (hy : evT tm y = some (.val (.bool b))) (hc : (a != b) = c) (hN : Nat.ble (d + 1) N = true) (h : Reg m P N ops rest ((d, .val (.bool c)) :: tm) H K) : Reg m P N ops (⟨some d, .binOp .neq t x y u, ty, pos, af, none⟩ :: rest) tm H K :=
 S.val (OpV.boolNe rfl hx hy hu.out) hN (by rw [<- hc] at h;exact h)
end
/-! ### Where ways meet -/
theorem RelSt.reH {E : Env} {tm : Tm} {H : AH} {a : Act} {w : World} {ρ : Pl} (h : RelSt E ⟨tm, H⟩ a w ρ) {b : Nat} {cells cells' : List AV} (hb : H.at b = .live cells) (hl : cells'.length <= cells.length)
  (hc : ∀ k o c e lo hi, ρ b = some (some (k, o)) -> w.heap[k]? = some (.cells c e (lo, hi)) -> (∀ (j : Nat) (x : AV), cells[j]? = some x -> ∃ v, c[o + j]? = some v /\ RelV w E.L ρ x v) -> ∀ (j : Nat) (x : AV), cells'[j]? = some x -> ∃ v, c[o + j]? = some v /\ RelV w E.L ρ x v) :
  RelSt E ⟨tm, H.put b (.live cells')⟩ a w ρ := by
 have hput : ∀ b', b' ≠ b -> (H.put b (.live cells')).at b' = H.at b' := fun b' hb' => by rw [AH.at_put, if_neg hb']
 have hbe : (H.at b).isExt = false := by rw [hb];rfl
 refine ⟨h.size, h.defers, h.tm, ⟨fun b' hb' => ?_, fun b' hb' => ?_, fun b' cs hb' => ?_, fun b' es hb' => ?_, h.H.dist, h.H.ext.put (fun k o u h1 h2 => ⟨h2, h1⟩) hbe rfl (fun b' _ => rfl) (Nat.le_refl _) (fun _ _ _ _ _ _ _ _ h => h) fun _ _ _ _ _ => rfl⟩, h.fr, fun b' k o hk => ?_, h.lim⟩
 ·by_cases e : b' = b
  ·subst e;rw [AH.at_put, if_pos rfl] at hb';cases hb'
  ·rw [hput b' e] at hb';exact h.H.free b' hb'
 ·by_cases e : b' = b
  ·subst e;rw [AH.at_put, if_pos rfl] at hb';cases hb'
  ·rw [hput b' e] at hb';exact h.H.dead b' hb'
 ·by_cases e : b' = b
  ·subst e
   rw [AH.at_put, if_pos rfl] at hb'
   injection hb' with hb'
   subst hb'
   obtain ⟨k, o, c, el, lo, hi, h1, h2, h3, h4, h5, h6⟩ := h.H.live b' cells hb
   exact ⟨k, o, c, el, lo, hi, h1, h2, h3, by omega, h5, hc k o c el lo hi h1 h2 h6⟩
  ·rw [hput b' e] at hb';exact h.H.live b' cs hb'
 ·by_cases e : b' = b
  ·subst e;rw [AH.at_put, if_pos rfl] at hb';cases hb'
  ·rw [hput b' e] at hb';exact h.H.map b' es hb'
 ·by_cases e : b' = b
  ·subst e
   rcases h.mine b' k o hk with ⟨h1, _⟩ | h1
   ·exact .inl ⟨h1, by show ((H.put b' (.live cells')).at b').isExt = false;rw [AH.at_put, if_pos rfl];rfl⟩
   ·exact .inr h1
  ·rcases h.mine b' k o hk with ⟨h1, h2⟩ | h1
   ·exact .inl ⟨h1, by show ((H.put b (.live cells')).at b').isExt = false;rw [hput b' e];exact h2⟩
   ·exact .inr h1
section
variable {P : Program} {N : Nat} {ops : Array Oper} {m : Option Nat} {K : Tm -> AH -> Prop} {tm tm' : Tm} {H : AH} {rest : List Oper}
theorem RelSt.freezeH {E : Env} {a : Act} {w : World} {ρ : Pl} (hR : RelSt E ⟨tm, H⟩ a w ρ) {s j b off len n : Nat} {cs cells : List AV} {rows : List (List Lf)} (hs : H.at s = .live cs) (hj : cs[j]? = some (.own b off len n)) (hb : H.at b = .live cells) (hne : s ≠ b) (hr : OwnRows cells off len n rows) : RelSt E ⟨tm, (H.put b .dead).put s (.live (cs.set j (.sl rows)))⟩ a w (ρ.upd b none) := by
 obtain ⟨k, o, c, e, lo, hi, g1, g2, g3, g4, g5, g6⟩ := hR.H.live b cells hb
 obtain ⟨k', o', c', e', lo', hi', i1, i2, i3, i4, i5, i6⟩ := hR.H.live s cs hs
 obtain ⟨v, hv1, hv⟩ := i6 j _ hj
 have hk := hR.kill (b := b) (by show (H.at b).isExt = false;rw [hb];rfl)
 have hF : ∀ i, Fb E.L (ρ.upd b none) i -> Fb E.L ρ i := fun i hi => by
  rcases hi with hi | ⟨b', o', hi⟩
  ·exact .inl hi
  ·unfold Pl.upd at hi
   by_cases e' : b' = b
   ·rw [if_pos e'] at hi;cases hi
   ·rw [if_neg e'] at hi;exact .inr ⟨b', o', hi⟩
 have hnk : ¬ Fb E.L (ρ.upd b none) k := by
  rintro (hf | ⟨b', o', hf⟩)
  ·exact g5 hf
  ·unfold Pl.upd at hf
   by_cases e' : b' = b
   ·rw [if_pos e'] at hf;cases hf
   ·rw [if_neg e'] at hf;exact e' (hR.H.dist _ _ _ _ _ hf g1)
 have hrel : RelV w E.L (ρ.upd b none) (.sl rows) v := by
  obtain ⟨cap, e2, n2, hveq, hc, _⟩ := hv.own_out k o g1
  rw [hveq]
  obtain ⟨rfl, hr⟩ := hr
  refine .lf _ _ (.sl rows ⟨k, o + off, none⟩ cap (fun i j => c.getD (o + (off + (i * n + j))) undef) (.inl rfl) hc (fun i row j x h1 h2 => ?_) fun i row j x h1 h2 => ?_)
  ·obtain ⟨hl, hx⟩ := hr i row h1
   obtain ⟨v, g7, g8⟩ := g6 _ _ (hx j x h2)
   refine ⟨hnk, ?_⟩
   simp only [hl]
   rw [Nat.add_assoc, Bh g2 g7]
   simp [Array.getD_eq_getD_getElem?, g7]
  ·obtain ⟨hl, hx⟩ := hr i row h1
   obtain ⟨v, g7, g8⟩ := g6 _ _ (hx j x h2)
   simp only [Array.getD_eq_getD_getElem?, g7, Option.getD_some]
   exact g8.lf_out.less hF
 have hs' : (H.put b .dead).at s = .live cs := by rw [AH.at_put, if_neg hne];exact hs
 refine RelSt.reH (tm := tm) (H := H.put b .dead) hk hs' (by simp) fun k2 o2 c2 e2 lo2 hi2 q1 q2 q3 i x hi => ?_
 have : (ρ.upd b none) s = ρ s := by unfold Pl.upd;rw [if_neg hne]
 rw [this, i1] at q1
 injection q1 with q1
 injection q1 with q1
 injection q1 with q1a q1b
 subst q1a q1b
 rw [i2] at q2
 injection q2 with q2
 injection q2 with q2 _ _
 subst q2
 by_cases e : j = i
 ·subst e
  have hlt : j < cs.length := (List.getElem?_eq_some_iff.1 hj).1
  rw [List.getElem?_set_self hlt] at hi
  injection hi with hi
  subst hi
  exact ⟨v, hv1, hrel⟩
 ·rw [List.getElem?_set_ne e] at hi
  exact q3 i x hi
theorem T.freezeH {c : Code} {Q : Exit -> St -> Prop} (s j : Nat) {b off len n : Nat} {cs cells : List AV} {rows : List (List Lf)} (hs : H.at s = .live cs) (hj : cs[j]? = some (.own b off len n)) (hb : H.at b = .live cells) (hne : Nat.beq s b = false) (hr : OwnRows cells off len n rows) (h : T P N c ⟨tm, (H.put b .dead).put s (.live (cs.set j (.sl rows)))⟩ Q) : T P N c ⟨tm, H⟩ Q :=
 ⟨fun E a w ρ hE hR => h.out E a w _ hE (hR.freezeH hs hj hb (fun e => by subst e;rw [Nat.beq_refl] at hne;cases hne) hr)⟩
end
section
variable {P : Program} {N : Nat} {ops : Array Oper} {m : Option Nat} {K : Tm -> AH -> Prop} {tm tm' : Tm} {H : AH} {rest : List Oper} {ty : TypeId} {pos : String} {af : Array Edge} {d : Nat} {t e u : TypeId} {x y : Operand}
theorem S.remU {a b : Int} (hx : evT tm x = some (.val (.int .u64 a))) (hy : evT tm y = some (.val (.int .u64 b))) (hN : Nat.ble (d + 1) N = true) (h0 : 0 <= a /\ 0 < b) (h : Reg m P N ops rest ((d, .val (.int .u64 (a % b))) :: tm) H K) : Reg m P N ops (⟨some d, .binOp .rem t x y u, ty, pos, af, none⟩ :: rest) tm H K :=
 S.val (OpV.mk fun L w ρ η hη _ => by
  have h1 := (hη x (by simp [Op.operands]) _ hx).val_eq
  have h2 := (hη y (by simp [Op.operands]) _ hy).val_eq
  have hb : b ≠ 0 := by omega
  exact ⟨_, by simp [execOp, h1, h2, eqGuard, binOp, Op.intDiv, hb, Int.tmod_eq_emod_of_nonneg h0.1], A9 _⟩) hN h
theorem S.quoU {a b : Int} (hx : evT tm x = some (.val (.int .u64 a))) (hy : evT tm y = some (.val (.int .u64 b))) (hN : Nat.ble (d + 1) N = true) (h0 : 0 <= a /\ 0 < b /\ a <= 18446744073709551615) (h : Reg m P N ops rest ((d, .val (.int .u64 (a / b))) :: tm) H K) : Reg m P N ops (⟨some d, .binOp .quo t x y u, ty, pos, af, none⟩ :: rest) tm H K :=
 S.val (OpV.mk fun L w ρ η hη _ => by
  have h1 := (hη x (by simp [Op.operands]) _ hx).val_eq
  have h2 := (hη y (by simp [Op.operands]) _ hy).val_eq
  have hb : b ≠ 0 := by omega
  have hq : 0 <= a / b /\ a / b <= a := ⟨Int.ediv_nonneg h0.1 (by omega), Int.ediv_le_self b h0.1⟩
  have hw : IntKind.u64.wrap (a / b) = a / b := by
   simp [IntKind.wrap, IntKind.signed, IntKind.bits]
   omega
  exact ⟨_, by simp [execOp, h1, h2, eqGuard, binOp, Op.intDiv, hb, Int.tdiv_eq_ediv_of_nonneg h0.1, hw], A9 _⟩) hN h
end
theorem T.nilU {P : Program} {N : Nat} {c : Code} {Q : Exit -> St -> Prop} {tm : Tm} {H : AH} (q : Nat) (ht : tm.get q = some (.val (.slice none 0 0))) (h : T P N c ⟨(q, .sl []) :: tm, H⟩ Q) : T P N c ⟨tm, H⟩ Q :=
 ⟨fun E a w ρ hE hR => h.out E a w ρ hE ⟨hR.size, hR.defers, fun t x hx => by
  rw [Tm.get_cons] at hx
  by_cases e : q = t
  ·rw [if_pos e] at hx
   injection hx with hx
   subst hx e
   obtain ⟨h1, h2⟩ := hR.tm q _ ht
   refine ⟨h1, ?_⟩
   have := h2.val_eq
   rw [this]
   exact .lf _ _ .slnil
  ·rw [if_neg e] at hx
   exact hR.tm t x hx, hR.H, hR.fr, hR.mine, hR.lim⟩⟩
theorem T.nilH {P : Program} {N : Nat} {c : Code} {Q : Exit -> St -> Prop} {tm : Tm} {H : AH} (s j : Nat) {cs : List AV} (hs : H.at s = .live cs) (hj : cs[j]? = some (.val (.slice none 0 0))) (h : T P N c ⟨tm, H.put s (.live (cs.set j (.sl [])))⟩ Q) : T P N c ⟨tm, H⟩ Q :=
 ⟨fun E a w ρ hE hR => h.out E a w ρ hE (hR.reH hs (by simp) fun k o c e lo hi hk hw hc i x hi => by
  by_cases e' : j = i
  ·subst e'
   obtain ⟨v, g1, g2⟩ := hc j _ hj
   have hlt : j < cs.length := (List.getElem?_eq_some_iff.1 hj).1
   rw [List.getElem?_set_self hlt] at hi
   injection hi with hi
   subst hi
   exact ⟨v, g1, by rw [g2.val_eq];exact .lf _ _ .slnil⟩
  ·rw [List.getElem?_set_ne e'] at hi
   exact hc i x hi)⟩
end Go.Proofs.YtcfjofhapbkmfaaGreatDoor
