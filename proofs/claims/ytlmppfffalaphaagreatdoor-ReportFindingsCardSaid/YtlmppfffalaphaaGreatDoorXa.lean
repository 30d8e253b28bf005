/- A calculus over abstract states: loops that are walked round by round. Plain theory over any program. -/
import Derived.LoopN
import Derived.Test.YtlmppfffalaphaaGreatDoorMa
import Derived.Test.YtlmppfffalaphaaGreatDoorMb
import Derived.WideLaws
import Derived.Lib.AtoiAll
import Derived.Lib.IndexMore
import Derived.Lib.IndexBytes
import Derived.Lib.ItoaMem
import Derived.Lib.ItoaLen
import Derived.Lib.Split
import Derived.Lib.Join
set_option linter.unusedSimpArgs false
set_option linter.unusedVariables false
namespace Go.Proofs.YtlmppfffalaphaaGreatDoor
open Go Go.RowKit
def LW (P : Program) (c : Code) (Q : Exit -> Act -> World -> Prop) (a : Act) (w : World) : Prop :=
 ∀ b k cs, ∃ e a' w', Q e a' w' /\ Arrives P (lone (b.at a (.code c :: .inLoop c :: k)) cs w) b k cs e a' w'
theorem LW.loop {P : Program} {c : Code} {Q : Exit -> Act -> World -> Prop} {a : Act} {w : World} (h : LW P c Q a w) : (Code.loop c).wp P Q a w := by
 intro b k cs
 obtain ⟨e, a', w', hq, harr⟩ := h b k cs
 exact ⟨e, a', w', hq, .of_steps (.one step_loop) harr⟩
theorem LW.round {P : Program} {c : Code} {Q : Exit -> Act -> World -> Prop} {a : Act} {w : World} (h : c.wp P (Exit.then (LW P c Q) Q) a w) : LW P c Q a w := by
 intro b k cs
 obtain ⟨e, a₁, w₁, hq, harr⟩ := h b (.inLoop c :: k) cs
 cases e with
 | normal =>
  obtain ⟨e₂, a₂, w₂, hq₂, harr₂⟩ := hq b k cs
  exact ⟨e₂, a₂, w₂, hq₂, .of_steps (Steps.trans harr (.one step_inLoop)) harr₂⟩
 | exit id => exact ⟨_, a₁, w₁, hq, .pass (x := .inLoop c) rfl (fun _ _ => .inl (by simp)) harr⟩
 | goto l => exact ⟨_, a₁, w₁, hq, .pass (x := .inLoop c) rfl (fun _ _ => .inl (by simp)) harr⟩
 | ret => exact ⟨_, a₁, w₁, hq, .pass (x := .inLoop c) rfl (fun _ _ => .inl (by simp)) harr⟩
 | panic ch => exact ⟨_, a₁, w₁, hq, .pass (x := .inLoop c) rfl (fun _ _ => .inl (by simp)) harr⟩
 | outgrown => exact ⟨_, a₁, w₁, hq, .pass (x := .inLoop c) rfl (fun _ _ => .inl (by simp)) harr⟩
structure TL (P : Program) (N : Nat) (c : Code) (st : St) (Q : Exit -> St -> Prop) : Prop where
 out : ∀ (E : Env) (a : Act) (w : World) (ρ : Pl), E.N = N -> RelSt E st a w ρ -> LW P c (fun e a' w' => ∃ st' ρ', Q e st' /\ RelSt E st' a' w' ρ') a w
section
variable {P : Program} {N : Nat} {c : Code} {Q : Exit -> St -> Prop}
theorem T.unroll {st : St} (h : TL P N c st Q) : T P N (.loop c) st Q := ⟨fun E a w ρ hE hr => (h.out E a w ρ hE hr).loop⟩
theorem TL.round {st : St} (h : T P N c st (An (fun st' => TL P N c st' Q) Q)) : TL P N c st Q := ⟨fun E a w ρ hE hr => LW.round (wp_mono (h.out E a w ρ hE hr) (by
 rintro e a' w' ⟨st', ρ', q, r⟩
 cases e with
 | normal => exact q.out E a' w' ρ' hE r
 | _ => exact ⟨st', ρ', q, r⟩))⟩
end
section
variable {P : Program} {N : Nat} {ops : Array Oper} {m : Option Nat} {K : Tm -> AH -> Prop} {tm : Tm} {H : AH} {rest : List Oper} {ty : TypeId} {pos : String} {af : Array Edge} {d : Nat} {t : TypeId} {x y : Operand}
theorem Lz {ms : Array (String × TypeId)} (h : P.underlying t = some (.interface ms)) : P.underlying t = some (.interface (P.methodsAt t)) := by
 unfold Program.methodsAt
 rw [h]
theorem S.errNe {u : TypeId} {ms : Array (String × TypeId)} [hu : HasU P t (.interface ms)] (hx : evT tm x = some .err) (hN : Nat.ble (d + 1) N = true) (h : Reg m P N ops rest ((d, .val (.bool true)) :: tm) H K) : Reg m P N ops (⟨some d, .binOp .neq t x (.const .nilIface) u, ty, pos, af, none⟩ :: rest) tm H K := by
 refine S.val (OpV.mk fun L w ρ η hη hH => ?_) hN h
 obtain ⟨t', u', h1⟩ := (hη x (by simp [Op.operands]) _ hx).err_out
 have h2 := (hη (.const .nilIface) (by simp [Op.operands]) _ rfl).val_eq
 refine ⟨_, ?_, A3 _⟩
 simp [execOp, h1, h2, eqGuard, Sem.run_bind, Sem.run_pure, Result.andThen_ok, run_neq_held_nil w t t' u' (Lz hu.out)]
theorem S.nilNe {u : TypeId} {ms : Array (String × TypeId)} [hu : HasU P t (.interface ms)] (hx : evT tm x = some (.val .nilIface)) (hN : Nat.ble (d + 1) N = true) (h : Reg m P N ops rest ((d, .val (.bool false)) :: tm) H K) : Reg m P N ops (⟨some d, .binOp .neq t x (.const .nilIface) u, ty, pos, af, none⟩ :: rest) tm H K := by
 refine S.val (OpV.mk fun L w ρ η hη hH => ?_) hN h
 have h1 := (hη x (by simp [Op.operands]) _ hx).val_eq
 have h2 := (hη (.const .nilIface) (by simp [Op.operands]) _ rfl).val_eq
 refine ⟨_, ?_, A3 _⟩
 simp [execOp, h1, h2, eqGuard, Sem.run_bind, Sem.run_pure, Result.andThen_ok, run_neq_nil_nil w t (Lz hu.out)]
end
def AV.denil1 : AV -> AV
 | .lf (.val (.slice none 0 0)) => .lf (.sl [])
 | x => x
def AV.denil : AV -> AV
 | .agg cs => .agg (cs.map AV.denil1)
 | x => x.denil1
theorem RelV.denil1 {w : World} {L : Nat -> Prop} {ρ : Pl} {x : AV} {v : Value} (h : RelV w L ρ x v) : RelV w L ρ x.denil1 v := by
 unfold AV.denil1
 split
 ·have := h.val_eq
  subst this
  exact .lf _ _ .slnil
 ·exact h
theorem RelV.denil {w : World} {L : Nat -> Prop} {ρ : Pl} {x : AV} {v : Value} (h : RelV w L ρ x v) : RelV w L ρ x.denil v := by
 unfold AV.denil
 split
 ·rename_i cs
  obtain ⟨vs, rfl, hl, hr⟩ := h.agg_out
  refine .agg _ vs (by simpa using hl) fun i x v hx hv => ?_
  rw [List.getElem?_map] at hx
  cases e : cs[i]? with
  | none => rw [e] at hx;cases hx
  | some y =>
   rw [e] at hx
   simp only [Option.map_some, Option.some.injEq] at hx
   subst hx
   exact (hr i y v e hv).denil1
 ·exact h.denil1
theorem Fn0.nils {P : Program} {f : FuncId} {args zs : List AV} {r : AV} (h : Fn0 P f zs r) (e : args.map AV.denil = zs) : Fn0 P f args r := by
 subst e
 refine ⟨h.ent, fun L w vs hG hL hl hv => h.run L w vs hG hL (by simpa using hl) fun i x v hx hu => ?_⟩
 rw [List.getElem?_map] at hx
 cases e : args[i]? with
 | none => rw [e] at hx;cases hx
 | some y =>
  rw [e] at hx
  simp only [Option.map_some, Option.some.injEq] at hx
  subst hx
  exact (hv i y v e hu).denil
end Go.Proofs.YtlmppfffalaphaaGreatDoor
namespace Go.Proofs.YtlmppfffalaphaaGreatDoor
open Go.Lib
theorem D1 {d : Nat} (h : d < 10) : (UInt8.ofNat (48 + d)).toNat = 48 + d := by
 rw [UInt8.toNat_ofNat_of_lt' (by simp [UInt8.size];omega)]
theorem Fg {u : Nat} (h : ¬ u < 10) : decDigits u = decDigits (u / 10) ++ [UInt8.ofNat (48 + u % 10)] := by rw [decDigits, dif_neg h]
theorem Dj (u : Nat) : ∀ c ∈ decDigits u, 48 <= c.toNat /\ c.toNat <= 57 := by
 induction u using Nat.strongRecOn with
 | _ u ih =>
  intro c hc
  by_cases h : u < 10
  ·rw [decDigits_one h] at hc
   obtain rfl : c = UInt8.ofNat (48 + u) := by simpa using hc
   rw [D1 h];omega
  ·rw [Fg h] at hc
   rcases List.mem_append.1 hc with h1 | h1
   ·exact ih (u / 10) (by omega) c h1
   ·obtain rfl : c = UInt8.ofNat (48 + u % 10) := by simpa using h1
    rw [D1 (by omega)];omega
theorem Ev (u : Nat) : decDigits u ≠ [] := by
 intro h
 have := decDigits_length u
 have h2 := nDigits_pos u
 rw [h] at this
 simp at this
 omega
theorem Nb (c : UInt8) (l : List UInt8) : ∀ (acc m : Nat), parseUint10 acc l = .ok m -> parseUint10 acc (l ++ [c]) = parseUint10 m [c] := by
 induction l with
 | nil => intro acc m h;simp only [parseUint10] at h;injection h with h;subst h;rfl
 | cons b r ih =>
  intro acc m h
  simp only [parseUint10, List.cons_append] at h ⊢
  split
  ·rename_i h1
   rw [if_pos h1] at h
   split
   ·rename_i h2;rw [if_pos h2] at h;cases h
   ·rename_i h2
    rw [if_neg h2] at h
    split
    ·rename_i h3;rw [if_pos h3] at h;cases h
    ·rename_i h3
     rw [if_neg h3] at h
     have := ih _ m h
     simpa only [parseUint10] using this
  ·rename_i h1;rw [if_neg h1] at h;cases h
theorem K5 (u : Nat) (hu : u < 18446744073709551616) : parseUint10 0 (decDigits u) = .ok u := by
 induction u using Nat.strongRecOn with
 | _ u ih =>
  by_cases h : u < 10
  ·rw [decDigits_one h]
   simp only [parseUint10, D1 h]
   rw [if_pos (by omega), if_neg (by omega), if_neg (by omega)]
   simp
  ·rw [Fg h, Nb _ _ 0 (u / 10) (ih (u / 10) (by omega) (by omega))]
   simp only [parseUint10, D1 (show u % 10 < 10 by omega)]
   rw [if_pos (by omega), if_neg (by omega), if_neg (by omega)]
   congr 1
   omega
theorem Na (u : Nat) : ∃ c r, decDigits u = c :: r /\ 48 <= c.toNat /\ c.toNat <= 57 := by
 cases h : decDigits u with
 | nil => exact absurd h (Ev u)
 | cons c r => exact ⟨c, r, rfl, Dj u c (by rw [h];simp)⟩
theorem Ew (n : Int) (h0 : -9223372036854775808 <= n) (h1 : n <= 9223372036854775807) : atoiAll (itoa n) = .ok n := by
 unfold itoa
 by_cases hn : n < 0
 ·rw [if_pos hn]
  unfold atoiAll
  simp only []
  have e : parseMag (decDigits n.natAbs) = .ok n.natAbs := by
   unfold parseMag
   rw [if_neg (Ev _), K5 _ (by omega)]
  rw [show (if (45 : UInt8).toNat = 43 \/ (45 : UInt8).toNat = 45 then decDigits n.natAbs else 45 :: decDigits n.natAbs) = decDigits n.natAbs from rfl, e]
  show (if ¬ ((45 : UInt8).toNat = 45) /\ 9223372036854775808 <= n.natAbs then NumEnd.range else if ((45 : UInt8).toNat = 45) /\ 9223372036854775808 < n.natAbs then .range else .ok (if (45 : UInt8).toNat = 45 then -(n.natAbs : Int) else n.natAbs)) = .ok n
  rw [if_neg (fun h => h.1 rfl), if_neg (fun h => absurd h.2 (by omega)), if_pos (by decide : (45 : UInt8).toNat = 45)]
  congr 1
  omega
 ·rw [if_neg hn]
  obtain ⟨c, r, e, c1, c2⟩ := Na n.toNat
  have e2 : parseMag (decDigits n.toNat) = .ok n.toNat := by
   unfold parseMag
   rw [if_neg (Ev _), K5 _ (by omega)]
  rw [e] at e2 ⊢
  unfold atoiAll
  simp only []
  rw [if_neg (by omega), e2]
  show (if ¬ (c.toNat = 45) /\ 9223372036854775808 <= n.toNat then NumEnd.range else if (c.toNat = 45) /\ 9223372036854775808 < n.toNat then .range else .ok (if c.toNat = 45 then -(n.toNat : Int) else n.toNat)) = .ok n
  rw [if_neg (fun h => absurd h.2 (by omega)), if_neg (fun h => absurd h.1 (by omega)), if_neg (by omega)]
  congr 1
  omega
theorem Ny {n m : Int} (n0 : -9223372036854775808 <= n) (n1 : n <= 9223372036854775807) (m0 : -9223372036854775808 <= m) (m1 : m <= 9223372036854775807) (h : itoa n = itoa m) : n = m := by
 have := Ew n n0 n1
 rw [h, Ew m m0 m1] at this
 injection this with this
 exact this.symm
theorem F1 {l : List UInt8} {c : UInt8} (h : c ∉ l) : indexByte l c = -1 := by
 induction l with
 | nil => rfl
 | cons b r ih =>
  have hb : (b == c) = false := by
   rw [beq_eq_false_iff_ne];intro e;exact h (by simp [e])
  unfold indexByte
  rw [hb, ih fun hm => h (by simp [hm])]
  rfl
theorem F0 {l r : List UInt8} {c : UInt8} (h : c ∉ l) : indexByte (l ++ c :: r) c = l.length := by
 induction l with
 | nil => simp [indexByte]
 | cons b t ih =>
  have hb : (b == c) = false := by
   rw [beq_eq_false_iff_ne];intro e;exact h (by simp [e])
  have := ih fun hm => h (by simp [hm])
  simp only [List.cons_append, indexByte, hb, this]
  have h2 : ((t.length : Int) == -1) = false := by rw [beq_eq_false_iff_ne];omega
  simp [h2]
theorem K9 {c : UInt8} {l : List UInt8} (h : c ∉ l) : cut l [c] = (l, [], false) := by
 unfold cut
 rw [index_one, F1 h]
 rfl
theorem Fh {c : UInt8} {l r : List UInt8} (h : c ∉ l) : cut (l ++ c :: r) [c] = (l, r, true) := by
 unfold cut
 rw [index_one, F0 h, if_pos (by omega)]
 simp
theorem N1 {c : UInt8} {l : List UInt8} (h : c ∉ l) : split l [c] = [l] := by
 unfold split
 rw [count_miss (by rw [index_one, F1 h])]
 rfl
theorem N0 {c : UInt8} {l r : List UInt8} (h : c ∉ l) : split (l ++ c :: r) [c] = l :: split r [c] := by
 have hi : index (l ++ c :: r) [c] = l.length := by rw [index_one, F0 h]
 unfold split
 rw [count_hit (by simp) hi]
 have hd : (l ++ c :: r).drop (l.length + [c].length) = r := by simp
 rw [hd, Nat.add_comm]
 show splitK [c] 0 (count r [c] + 1) _ = _
 rw [splitK, if_neg (by rw [hi];simp only [beq_iff_eq];omega), hi]
 simp
theorem I8 (sep : List UInt8) : ∀ (k : Nat) (s : List UInt8), ∀ w ∈ splitK sep 0 k s, w.length <= s.length
 | 0, s, w, hw => by simp [splitK] at hw;subst hw;exact Nat.le_refl _
 | k + 1, s, w, hw => by
  rw [splitK] at hw
  split at hw
  ·simp at hw;subst hw;exact Nat.le_refl _
  ·rcases List.mem_cons.1 hw with rfl | hw
   ·rw [List.length_take];omega
   ·have := I8 sep k _ w hw
    rw [List.length_drop] at this;omega
theorem Oo {s sep w : List UInt8} (h : w ∈ split s sep) : w.length <= s.length := I8 sep _ s w h
theorem Ln (s sep : List UInt8) : (cut s sep).1.length <= s.length /\ (cut s sep).2.1.length <= s.length := by
 unfold cut
 split
 ·constructor
  ·simp only [List.length_take];omega
  ·simp only [List.length_drop];omega
 ·exact ⟨Nat.le_refl _, Nat.zero_le _⟩
theorem Iw {s : List UInt8} {c : UInt8} (h : s ≠ []) : (cut s [c]).2.1.length < s.length := by
 have hp : 0 < s.length := List.length_pos_iff.2 h
 unfold cut
 split
 ·simp only [List.length_drop, List.length_cons, List.length_nil];omega
 ·exact hp
theorem Js {s : List UInt8} {n : Int} (h : atoiAll s = .ok n) : -9223372036854775808 <= n /\ n <= 9223372036854775807 := by
 unfold atoiAll at h
 split at h
 ·cases h
 ·simp only [] at h
  split at h
  ·cases h
  ·cases h
  ·split at h
   ·cases h
   ·split at h
    ·cases h
    ·injection h with h
     subst h
     split <;> omega
end Go.Proofs.YtlmppfffalaphaaGreatDoor
