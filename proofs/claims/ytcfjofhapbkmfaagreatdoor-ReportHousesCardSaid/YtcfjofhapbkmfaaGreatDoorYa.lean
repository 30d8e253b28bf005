/- Steps in the calculus over abstract states: values held in interfaces, and asked for their types. No dump. No conditions but those of each statement. -/
import Derived.Test.YtcfjofhapbkmfaaGreatDoorXa
import Derived.Test.YtcfjofhapbkmfaaGreatDoorNx
import Derived.Test.YtcfjofhapbkmfaaGreatDoorMc
import Derived.Test.YtcfjofhapbkmfaaGreatDoorNe
import Derived.Test.YtcfjofhapbkmfaaGreatDoorMb
import Derived.Test.YtcfjofhapbkmfaaGreatDoorPa
set_option linter.unusedSimpArgs false
set_option linter.unusedVariables false
namespace Go.Proofs.YtcfjofhapbkmfaaGreatDoor
open Go Go.RowKit
def AV.plain1 : AV -> Option Value
 | .lf (.val v) => some v
 | _ => none
def Gr : List AV -> Option (List Value)
 | [] => some []
 | x :: r => match x.plain1, Gr r with
  | some v, some vs => some (v :: vs)
  | _, _ => none
def AV.whole : AV -> Option Value
 | .agg cs => (Gr cs).map fun vs => .agg vs.toArray
 | x => x.plain1
def J8 : Value -> AV
 | .agg vs => .agg (vs.toList.map AV.val)
 | v => .val v
theorem Nr {w : World} {L : Nat -> Prop} {ρ : Pl} {x : AV} {v u : Value} (h : RelV w L ρ x v) (e : x.plain1 = some u) : v = u := by
 unfold AV.plain1 at e
 split at e
 ·injection e with e
  subst e
  exact h.val_eq
 ·cases e
theorem Ns {w : World} {L : Nat -> Prop} {ρ : Pl} : ∀ {cs : List AV} {vs us : List Value}, cs.length = vs.length -> (∀ (i : Nat) (x : AV) (v : Value), cs[i]? = some x -> vs[i]? = some v -> RelV w L ρ x v) -> Gr cs = some us -> vs = us
 | [], [], us, _, _, e => by
  simp only [Gr, Option.some.injEq] at e
  exact e
 | [], v :: vs, us, hl, _, _ => by simp at hl
 | x :: cs, [], us, hl, _, _ => by simp at hl
 | x :: cs, v :: vs, us, hl, h, e => by
  unfold Gr at e
  split at e
  ·rename_i a b ha hb
   injection e with e
   subst e
   have e1 := Nr (h 0 x v rfl rfl) ha
   have e2 : vs = b := Ns (by simpa using hl) (fun i y u hy hu => h (i + 1) y u (by simpa using hy) (by simpa using hu)) hb
   rw [e1, e2]
  ·cases e
theorem Y8 {w : World} {L : Nat -> Prop} {ρ : Pl} {x : AV} {v u : Value} (h : RelV w L ρ x v) (e : x.whole = some u) : v = u := by
 unfold AV.whole at e
 split at e
 ·rename_i cs
  obtain ⟨vs, rfl, hl, hr⟩ := h.agg_out
  cases hp : Gr cs with
  | none => rw [hp] at e;cases e
  | some us =>
   rw [hp] at e
   injection e with e
   subst e
   rw [Ns hl hr hp]
 ·exact Nr h e
theorem Jq (w : World) (L : Nat -> Prop) (ρ : Pl) (v : Value) : RelV w L ρ (J8 v) v := by
 unfold J8
 split
 ·rename_i vs
  have := RelV.agg (w := w) (L := L) (ρ := ρ) (vs.toList.map AV.val) vs.toList (by simp) (fun i x v hx hv => by
   rw [List.getElem?_map, hv] at hx
   injection hx with hx
   subst hx
   exact A9 _)
  simpa using this
 ·exact A9 _
def Ec : TypeDesc -> Bool
 | .interface _ => true
 | _ => false
theorem Qn {P : Program} {t : TypeId} {ds : TypeDesc} (h : P.underlying t = some ds) (hd : Ec ds = false) : P.concrete t = true := by
 unfold Program.concrete
 rw [h]
 cases ds <;> first | rfl | cases hd
section
variable {P : Program} {N : Nat} {ops : Array Oper} {m : Option Nat} {K : Tm -> AH -> Prop} {tm : Tm} {H : AH} {rest : List Oper} {ty : TypeId} {pos : String} {af : Array Edge} {d : Nat} {t : TypeId} {x y : Operand}
theorem S.mkIface {r : AV} {v : Value} {ds : TypeDesc} [hu : HasU P t ds] (hx : evT tm x = some r) (hd : Ec ds = false) (hp : r.whole = some v) (hN : Nat.ble (d + 1) N = true) (h : Reg m P N ops rest ((d, .val (.iface t v)) :: tm) H K) : Reg m P N ops (⟨some d, .makeInterface t x, ty, pos, af, none⟩ :: rest) tm H K := by
 refine S.val (OpV.mk fun L w ρ η hη hH => ?_) hN h
 have h1 := Y8 (hη x (by simp [Op.operands]) _ hx) hp
 refine ⟨_, ?_, A9 _⟩
 simp [execOp, h1, Sem.run_bind, Sem.run_pure, Result.andThen_ok, run_makeInterface w t v (Qn hu.out hd)]
theorem N0 {P : Program} {w : World} {t xt : TypeId} {v : Value} {ds : TypeDesc} (hu : P.underlying t = some ds) (hd : Ec ds = false) : (Instr.typeAssert (.iface t v) xt t true).run P w = .ok (.tuple #[v, .bool true]) w := by
 cases ds <;> first|(cases hd;done) | simp [Instr.typeAssert, run_underlying hu, Sem.run_bind, Sem.run_pure, Result.andThen_ok]
theorem Ok {P : Program} {w : World} {t u xt : TypeId} {v z : Value} {ds : TypeDesc} (hu : P.underlying t = some ds) (hd : Ec ds = false) (hz : (P.info? t).bind (·.zero) = some z) (hne : u ≠ t) : (Instr.typeAssert (.iface u v) xt t true).run P w = .ok (.tuple #[z, .bool false]) w := by
 cases hi : P.info? t with
 | none => rw [hi] at hz;cases hz
 | some i =>
  rw [hi] at hz
  have hz' : i.zero = some z := hz
  cases ds <;> first|(cases hd;done) | simp [Instr.typeAssert, run_underlying hu, Sem.run_bind, Sem.run_pure, Result.andThen_ok, hne, zeroValue, typeInfo, hi, hz']
theorem S.assertYes {xt : TypeId} {v : Value} {ds : TypeDesc} [hu : HasU P t ds] (hx : evT tm x = some (.val (.iface t v))) (hd : Ec ds = false) (hN : Nat.ble (d + 1) N = true) (h : Reg m P N ops rest ((d, .tup [J8 v, .val (.bool true)]) :: tm) H K) : Reg m P N ops (⟨some d, .typeAssert x xt t true, ty, pos, af, none⟩ :: rest) tm H K := by
 refine S.val (OpV.mk fun L w ρ η hη hH => ?_) hN h
 have h1 := (hη x (by simp [Op.operands]) _ hx).val_eq
 refine ⟨.tuple #[v, .bool true], ?_, RelV.tup [_, _] [_, _] rfl fun i a b ha hb => ?_⟩
 ·simp [execOp, h1, Sem.run_bind, Sem.run_pure, Result.andThen_ok, N0 hu.out hd]
 ·match i, ha, hb with
  | 0, ha, hb => simp at ha hb;subst ha hb;exact Jq _ _ _ _
  | 1, ha, hb => simp at ha hb;subst ha hb;exact A9 _
theorem S.assertNo {xt u : TypeId} {v z : Value} {ds : TypeDesc} [hu : HasU P t ds] [hz : HasZ P t z] (hx : evT tm x = some (.val (.iface u v))) (hd : Ec ds = false) (hne : Nat.beq u t = false) (hN : Nat.ble (d + 1) N = true) (h : Reg m P N ops rest ((d, .tup [J8 z, .val (.bool false)]) :: tm) H K) : Reg m P N ops (⟨some d, .typeAssert x xt t true, ty, pos, af, none⟩ :: rest) tm H K := by
 refine S.val (OpV.mk fun L w ρ η hη hH => ?_) hN h
 have h1 := (hη x (by simp [Op.operands]) _ hx).val_eq
 have hne' : u ≠ t := fun e => by
  subst e
  rw [show Nat.beq u u = true from Nat.beq_refl u] at hne
  cases hne
 refine ⟨.tuple #[z, .bool false], ?_, RelV.tup [_, _] [_, _] rfl fun i a b ha hb => ?_⟩
 ·simp [execOp, h1, Sem.run_bind, Sem.run_pure, Result.andThen_ok, Ok hu.out hd hz.out hne']
 ·match i, ha, hb with
  | 0, ha, hb => simp at ha hb;subst ha hb;exact Jq _ _ _ _
  | 1, ha, hb => simp at ha hb;subst ha hb;exact A9 _
end
section
variable {P : Program} {N : Nat} {ops : Array Oper} {K : Tm -> AH -> Prop} {tm : Tm} {H : AH} {rest : List Oper} {ty : TypeId} {pos : String} {af : Array Edge} {d : Nat} {t e u : TypeId} {x y : Operand}
theorem S.copyO {n len b : Nat} {rows : List (List Lf)} {cells : List AV} [hu : HasU P t (.slice e)] [hi : HasS P e n] (hx : evT tm x = some (.own b 0 len n)) (hb : H.at b = .live cells) (hy : evT tm y = some (.sl rows)) (hn1 : Nat.ble 1 n = true) (hN : Nat.ble (d + 1) N = true) (hle : rows.length <= len) (hc : cells.length = len * n)
  (hr : ∀ row ∈ rows, row.length = n) (h1 : rows.flatten.all Lf.one = true)
  (h : Reg none P N ops rest ((d, .val (.int .i64 rows.length)) :: tm) (H.put b (.live (rows.flatten.map .lf ++ cells.drop (rows.length * n)))) K) : Reg none P N ops (⟨some d, .call ⟨.builtin .copy, #[x, y], #[t, u]⟩, ty, pos, af, none⟩ :: rest) tm H K := by
 refine ⟨fun E a w ρ hE hR => ?_⟩
 replace h := h.out
 refine wpList_plain rfl fun K' hK => ?_
 have hN' := Nat.le_of_ble_eq_true hN
 have hxv : RelV w E.L ρ (.own b 0 len n) (a.eval x) := hR.ev (by rw [Ah];exact hx)
 have hyv : RelV w E.L ρ (.sl rows) (a.eval y) := hR.ev (by rw [Ah];exact hy)
 obtain ⟨k, o, c, el, lo, hi', g1, g2, g3, g4, g5, g6⟩ := hR.H.live b _ hb
 obtain ⟨cap, e2, n2, hxe, hcap, hsh, hfitc⟩ := hxv.own_out k o g1
 rw [Nat.add_zero] at hxe hfitc
 have hn1' := Nat.le_of_ble_eq_true hn1
 obtain ⟨news, q1, q2, q3, q4⟩ := hyv.lf_out.news (P := P) hr hn1' h1
 obtain ⟨i, hi1, hi2⟩ : ∃ i, P.info? e = some i /\ i.size = n := by
  have := hi.out
  cases hh : P.info? e with
  | none => rw [hh] at this;cases this
  | some i => rw [hh] at this;exact ⟨i, rfl, by simpa using this⟩
 have hlr : rows.length * n <= len * n := Nat.mul_le_mul_right _ hle
 have hfl := B6 rows hr
 obtain ⟨c', w', f1, f2, f3, f4, f5, f6, f7, f8, f9, f10⟩ := Dn (P := P) (k := k) (off := o) g3 news 0 c w g2 (by rw [q1];omega) q2
 have hF : Fr (fun j => j = k) w w' := ⟨f7, f8, f9, Nat.le_of_eq f10.symm, fun i _ hn => f5 i hn, f6⟩
 have hmin : Nat.min rows.length len = rows.length := Nat.min_eq_left hle
 have hrun : (execOp a.eval ⟨some d, .call ⟨.builtin .copy, #[x, y], #[t, u]⟩, ty, pos, af, none⟩).run P w = .ok (.value (goInt rows.length)) w' := by
  rcases q4 with ⟨hv, rfl⟩ | ⟨ad, cx, hv, hcellsv⟩
  ·have hnil : news = [] := List.eq_nil_of_length_eq_zero (by simpa using q1)
   subst hnil
   simp [execOp, resolve, invoke, builtin, hxe, hv, Builtin.copy_, run_underlying hu.out, sizeOf, typeInfo, hi1, hi2, Builtin.lenOf, Builtin.firstCells, f1]
  ·have hf : (Builtin.firstCells n rows.length (.slice (some ad) rows.length cx)).run P w = .ok news.toArray w := run_firstCells_some (P := P) w n rows.length ad rows.length cx news q1 hcellsv
   simp [execOp, resolve, invoke, builtin, hxe, hv, Builtin.copy_, run_underlying hu.out, sizeOf, typeInfo, hi1, hi2, Builtin.lenOf, hmin, hf, f1]
 unfold Oper.wp
 rw [hrun]
 have s2 := hR.turn (cells' := rows.flatten.map AV.lf ++ cells.drop (rows.length * n)) hb g1 hF f2 g3 (by rw [List.length_append, List.length_map, hfl, List.length_drop, f3];omega) fun hla j z hj => by
  rcases Nat.lt_or_ge j (rows.length * n) with hjl | hjl
  ·rw [List.getElem?_append_left (by rw [List.length_map, hfl];exact hjl), List.getElem?_map] at hj
   cases hf : rows.flatten[j]? with
   | none => rw [hf] at hj;cases hj
   | some v =>
    rw [hf] at hj
    simp only [Option.map_some, Option.some.injEq] at hj
    subst hj
    obtain ⟨v', p1, p2⟩ := q3 j v hf
    refine ⟨v', ?_, (RelV.lf _ _ p2).later hla⟩
    rw [f4, if_pos (by rw [q1];omega), show o + j - (o + 0) = j by omega]
    exact p1
  ·rw [List.getElem?_append_right (by rw [List.length_map, hfl];exact hjl), List.length_map, hfl, List.getElem?_drop, show rows.length * n + (j - rows.length * n) = j by omega] at hj
   obtain ⟨v, p1, p2⟩ := g6 j z hj
   exact ⟨v, by rw [f4, if_neg (by rw [q1];omega)];exact p1, p2.later hla⟩
 exact hK _ _ (h E _ w' ρ hE (s2.put (by rw [hE];exact hN') (A9 _)))
end
section
variable {P : Program} {N : Nat} {ops : Array Oper} {K : Tm -> AH -> Prop} {tm : Tm} {H : AH} {rest : List Oper} {ty : TypeId} {pos : String} {af : Array Edge} {d : Nat} {t : TypeId} {x : Operand}
theorem S.fieldB {i off b o2 b2 : Nat} {T e : TypeId} {s : List Value} [hf : HasF P t i off] (hx : evT tm x = some (.ptr b o2)) (hb : H.at b = .bld T e b2 s) (hN : Nat.ble (d + 1) N = true) (h : Reg none P N ops rest ((d, .ptr b (o2 + off)) :: tm) H K) : Reg none P N ops (⟨some d, .fieldAddr t x i, ty, pos, af, none⟩ :: rest) tm H K := by
 refine ⟨fun E a w ρ hE hR => ?_⟩
 replace h := h.out
 refine wpList_plain rfl fun K' hK => ?_
 obtain ⟨_, k, p, v, q1, _⟩ := hR.H.ext.bld b T e b2 s hb
 have hxv := (hR.ev (by rw [Ah];exact hx) : RelV w E.L ρ (.ptr b o2) (a.eval x)).ptr_out k 0 q1
 obtain ⟨fs, f, n, h1, h2, h3, h4, h5⟩ := hf.out
 unfold Oper.wp
 subst h5
 rw [show (execOp a.eval ⟨some d, .fieldAddr t x i, ty, pos, af, none⟩).run P w = .ok (.value (.pointer (some ⟨k, 0 + (o2 + f.offset), none⟩))) w by
  simp only [execOp, hxv, Sem.run_bind, Dt h1 h2 h3 h4, Result.andThen_ok, Sem.run_pure, B0, Nat.add_assoc]]
 refine hK _ _ (h E _ w ρ hE (hR.put (by rw [hE];exact Nat.le_of_ble_eq_true hN) (.ptr b _ _ (by rw [q1];simp) rfl fun k1 o1 hk => ?_)))
 rw [q1] at hk
 injection hk with hk
 injection hk with hk
 injection hk with hk hk2
 subst hk hk2
 rfl
theorem S.nilCheckB {b off b2 : Nat} {T e : TypeId} {s : List Value} (hx : evT tm x = some (.ptr b off)) (hb : H.at b = .bld T e b2 s) (hN : Nat.ble (d + 1) N = true) (h : Reg none P N ops rest ((d, .ptr b off) :: tm) H K) : Reg none P N ops (⟨some d, .nilCheck x, ty, pos, af, none⟩ :: rest) tm H K := by
 refine ⟨fun E a w ρ hE hR => ?_⟩
 replace h := h.out
 refine wpList_plain rfl fun K' hK => ?_
 obtain ⟨_, k, p, v, q1, _⟩ := hR.H.ext.bld b T e b2 s hb
 have hxr : RelV w E.L ρ (.ptr b off) (a.eval x) := hR.ev (by rw [Ah];exact hx)
 have hxv := hxr.ptr_out k 0 q1
 unfold Oper.wp
 rw [show (execOp a.eval ⟨some d, .nilCheck x, ty, pos, af, none⟩).run P w = .ok (.value (a.eval x)) w by simp [execOp, hxv]]
 exact hK _ _ (h E _ w ρ hE (hR.put (by rw [hE];exact Nat.le_of_ble_eq_true hN) hxr))
end
end Go.Proofs.YtcfjofhapbkmfaaGreatDoor
namespace Go.Proofs.YtcfjofhapbkmfaaGreatDoor
open Go.RowKit
def Ml : List (ByteArray × Value) -> ByteArray -> Option Value
 | [], _ => none
 | (k, u) :: r, s => if k = s then some u else Ml r s
theorem Jf (s : ByteArray) : ∀ (l : List MapEntry) (es : List (ByteArray × Value)) (i : Nat), l.map (fun (e : MapEntry) => (e.key, e.val)) = es.map (fun p => (Value.string p.1, p.2)) ->
  (∃ j u, Instr.findNow .string (.string s) l i = some (some (j, u)) /\ Ml es s = some u) \/ (Instr.findNow .string (.string s) l i = some none /\ Ml es s = none)
 | [], [], i, _ => .inr ⟨rfl, rfl⟩
 | [], _ :: _, i, h => by simp at h
 | _ :: _, [], i, h => by simp at h
 | x :: l, (k, u) :: es, i, h => by
  simp only [List.map_cons, List.cons.injEq, Prod.mk.injEq] at h
  obtain ⟨⟨h1, h2⟩, h3⟩ := h
  by_cases e : k = s
  ·subst e
   exact .inl ⟨i, x.val, by simp [Instr.findNow, h1, Instr.sameNow, I6], by simp [Ml, h2]⟩
  ·have hs : (s == k) = false := by rw [I6];exact decide_eq_false (fun h => e (Eq.symm h))
   have hf : Instr.findNow .string (.string s) (x :: l) i = Instr.findNow .string (.string s) l (i + 1) := by simp [Instr.findNow, h1, Instr.sameNow, hs]
   rw [hf, Ml, if_neg e]
   exact Jf s l es (i + 1) h3
section
variable {P : Program} {N : Nat} {ops : Array Oper} {K : Tm -> AH -> Prop} {tm : Tm} {H : AH} {rest : List Oper} {ty : TypeId} {pos : String} {af : Array Edge} {d : Nat} {x y z : Operand} {t e : TypeId}
theorem S.lookupS {k : TypeId} {b : Nat} {s : ByteArray} {zv u : Value} {es : List (ByteArray × Value)} [hu : HasU P t (.map k e)] [hk : HasU P k .string] [hz : HasZ P e zv] (hx : evT tm x = some (.mp b)) (hb : H.at b = .map (Is es)) (hy : evT tm y = some (.val (.string s))) (hv : (Ml es s).getD zv = u) (hN : Nat.ble (d + 1) N = true) (h : Reg none P N ops rest ((d, .val u) :: tm) H K) : Reg none P N ops (⟨some d, .lookup t x y false, ty, pos, af, none⟩ :: rest) tm H K := by
 refine ⟨fun E a w ρ hE hr => ?_⟩
 replace h := h.out
 refine wpList_plain rfl fun K' hK => ?_
 obtain ⟨k0, entries, clock, g1, g2, g3, g4⟩ := hr.H.map b _ hb
 have h1 := (hr.ev (x := x) (by rw [Ah];exact hx)).mp_out k0 0 g1
 have h2 := (hr.ev (x := y) (by rw [Ah];exact hy)).val_eq
 have hget : (getObj k0).run P w = .ok (.map entries clock) w := by simp [getObj, Sem.run, g2]
 have hck : ∀ em, (Instr.checkKey em 10000 k (.string s)).run P w = .ok () w := fun em => by
  rw [Instr.checkKey, Sem.run_bind, run_underlying hk.out]
  rfl
 have hfind : ∀ r, Instr.findNow .string (.string s) entries.toList 0 = some r -> (Instr.findKey k (.string s) entries.toList).run P w = .ok r w := fun r hr => by
  rw [Instr.findKey, Sem.run_bind, run_underlying hk.out]
  simp only [Result.andThen_ok, hr, Sem.run_pure]
 unfold Oper.wp
 have hrun : (execOp a.eval ⟨some d, .lookup t x y false, ty, pos, af, none⟩).run P w = .ok (.value u) w := by
  rcases Jf s entries.toList es 0 g4 with ⟨j, u', f1, f2⟩ | ⟨f1, f2⟩
  ·rw [f2] at hv
   simp only [Option.getD_some] at hv
   subst hv
   simp [execOp, h1, h2, Instr.lookup, Sem.run_bind, run_underlying hu.out, hget, hck, hfind _ f1]
  ·rw [f2] at hv
   simp only [Option.getD_none] at hv
   subst hv
   simp [execOp, h1, h2, Instr.lookup, Sem.run_bind, run_underlying hu.out, hget, hck, hfind _ f1, Dj hz.out]
 rw [hrun]
 exact hK _ _ (h E _ _ _ hE (hr.put (by rw [hE];exact Nat.le_of_ble_eq_true hN) (A9 _)))
end
end Go.Proofs.YtcfjofhapbkmfaaGreatDoor
namespace Go.Proofs.YtcfjofhapbkmfaaGreatDoor
open Go Go.RowKit
theorem FnOwn.pure {P : Program} {f : FuncId} {args : List AV} {rows : List (List Lf)} {n : Nat} (h : FnOwn P f args rows n) (hr : ∀ row ∈ rows, row.length = n) : Fn0 P f args (.sl rows) := by
 refine ⟨h.ent, fun L w vs hG hL hl hv => (h.run L w vs hG hL hl hv).mono ?_⟩
 rintro e w' ⟨v, rfl, hb, hres⟩
 rcases hres with ⟨h0, h1⟩ | ⟨k, o, c, el, lo, hi, cap, rfl, hk, hw, hlo, hcap, hsz, hc⟩
 ·subst h0
  exact ⟨v, rfl, h1, hb⟩
 have hnk : ¬ Fb L An k := by
  rintro (hf | ⟨b', o', hf⟩)
  ·have := hL k hf;omega
  ·cases hf
 have hat : ∀ (i : Nat) (row : List Lf) (j : Nat) (x : Lf), rows[i]? = some row -> row[j]? = some x -> ∃ u, c[o + (i * n + j)]? = some u /\ RelL w' (fun i => L i \/ i = k) x u := fun i row j x h1 h2 => by
  have hrl := hr row (List.mem_of_getElem? h1)
  have hjn : j < n := by rw [<- hrl];exact (List.getElem?_eq_some_iff.1 h2).1
  exact hc _ x (by rw [Fj rows i j hr hjn, h1];exact h2)
 refine ⟨_, rfl, .lf _ _ (.sl rows ⟨k, o, none⟩ cap (fun i j => c.getD (o + (i * n + j)) undef) (.inl rfl) hcap (fun i row j x h1 h2 => ?_) fun i row j x h1 h2 => ?_), hb⟩
 ·obtain ⟨u, g1, _⟩ := hat i row j x h1 h2
  refine ⟨hnk, ?_⟩
  rw [hr row (List.mem_of_getElem? h1)]
  rw [Bh hw g1]
  simp [Array.getD_eq_getD_getElem?, g1]
 ·obtain ⟨u, g1, g2⟩ := hat i row j x h1 h2
  simp only [Array.getD_eq_getD_getElem?, g1, Option.getD_some]
  exact g2.less fun i hi => by
   rcases hi with hi | ⟨b', o', hi⟩
   ·exact .inl hi
   ·cases hi
section
variable {P : Program} {N : Nat} {ops : Array Oper}
theorem Ords.takeFieldB {K : Tm -> AH -> Prop} {n d : Nat} (i : Nat) {listed : Array Bool} {tm : Tm} {H : AH} {x : Operand} {t ty : TypeId} {j b b2 off fo : Nat} {pos : String} {af : Array Edge} {T e : TypeId} {s : List Value} (ho : ops[i]? = some ⟨some d, .fieldAddr t x j, ty, pos, af, none⟩) (hs : Region.noSelect ops = true) (hf : Region.free .any ops listed i = true) (hr : (Region.ready .any ops listed).contains i = true) (hfi : HasF P t j fo) (hx : evT tm x = some (.ptr b off)) (hb : H.at b = .bld T e b2 s) (hN : Nat.ble (d + 1) N = true)
  (h : Ords P N ops K n (listed.setIfInBounds i true) ((d, .ptr b (off + fo)) :: tm) H) : Ords P N ops K (n + 1) listed tm H := ⟨fun E a w ρ hE hR => by
 obtain ⟨fs, f, m, h1, h2, h3, h4, rfl⟩ := hfi.out
 obtain ⟨_, k, p, v, g1, _⟩ := hR.H.ext.bld b T e b2 s hb
 have hv := (hR.ev (x := x) (by rw [Ah];exact hx)).ptr_out k 0 g1
 refine wpAny_take ho hs hf hr (fun c a w hq => absurd hq.1 (by simp)) (.inl ⟨rfl, fun w' => by simp only [execOp, hv, Sem.run_bind, Dt h1 h2 h3 h4, Result.andThen_ok, Sem.run_pure];rfl⟩) (h.out E _ w ρ hE (hR.put (by rw [hE];exact Nat.le_of_ble_eq_true hN) ?_))
 refine .ptr _ _ _ (by rw [g1];simp) rfl fun k2 o2 h2 => ?_
 rw [g1] at h2
 injection h2 with h2
 injection h2 with h2
 injection h2 with h2 h3
 subst h2 h3
 rw [B0 rfl, Nat.add_assoc]⟩
theorem Ords.takeNilB {K : Tm -> AH -> Prop} {n d : Nat} (i : Nat) {listed : Array Bool} {tm : Tm} {H : AH} {x : Operand} {ty : TypeId} {b b2 off : Nat} {pos : String} {af : Array Edge} {T e : TypeId} {s : List Value} (ho : ops[i]? = some ⟨some d, .nilCheck x, ty, pos, af, none⟩) (hs : Region.noSelect ops = true) (hf : Region.free .any ops listed i = true) (hr : (Region.ready .any ops listed).contains i = true) (hx : evT tm x = some (.ptr b off)) (hb : H.at b = .bld T e b2 s) (hN : Nat.ble (d + 1) N = true)
  (h : Ords P N ops K n (listed.setIfInBounds i true) ((d, .ptr b off) :: tm) H) : Ords P N ops K (n + 1) listed tm H := ⟨fun E a w ρ hE hR => by
 obtain ⟨_, k, p, v, g1, _⟩ := hR.H.ext.bld b T e b2 s hb
 have hxr : RelV w E.L ρ (.ptr b off) (a.eval x) := hR.ev (by rw [Ah];exact hx)
 have hv := hxr.ptr_out k 0 g1
 exact wpAny_take ho hs hf hr (fun c a w hq => absurd hq.1 (by simp)) (.inl ⟨rfl, fun w' => by simp [execOp, hv]⟩) (h.out E _ w ρ hE (hR.put (by rw [hE];exact Nat.le_of_ble_eq_true hN) (hv ▸ hxr)))⟩
end
section
variable {P : Program} {N : Nat} {ops : Array Oper} {K : Tm -> AH -> Prop} {tm tm' : Tm} {H : AH} {rest : List Oper} {ty : TypeId} {pos : String} {af : Array Edge} {d : Nat} {t e u : TypeId} {x y z : Operand}
theorem S.makeOc {b n nb c : Nat} {zv : Value} {cells : List AV} [hu : HasU P t (.slice e)] [hi : HasS P e c] [hz : HasZ P e zv] [hby : HasB P e nb] (hb' : H.nextId = some b) (hx : evT tm x = some (.val (.int .i64 (n : Int)))) (hcs : (madeCells zv.cells (n * c)).toList.map AV.val = cells) (hl : n <= 1000000) (hnb : Nat.ble nb 1048576 = true) (hN : Nat.ble (d + 1) N = true)
  (h : Reg none P N ops rest ((d, .own b 0 n c) :: tm) (H.put b (.live cells)) K) : Reg none P N ops (⟨some d, .makeSlice t x x, ty, pos, af, none⟩ :: rest) tm H K := by
 subst hcs
 refine ⟨fun E a w ρ hE hR => ?_⟩
 replace h := h.out
 refine wpList_plain rfl fun K' hK => ?_
 have hlen := D7 hb'
 have hf : H.at b = .free := by subst hlen;exact AH.at_len H
 have hv := (hR.ev (by rw [Ah];exact hx) : RelV w E.L ρ (.val (.int .i64 (n : Int))) (a.eval x)).val_eq
 obtain ⟨i, hi1, hi2, hi3, hi4⟩ : ∃ i, P.info? e = some i /\ i.zero = some zv /\ i.size = c /\ i.bytes = nb := by
  have h1 := hi.out
  have h2 := hz.out
  have h3 := hby.out
  cases hq : P.info? e with
  | none => rw [hq] at h1;cases h1
  | some i =>
   rw [hq] at h1 h2 h3
   simp only [Option.map_some, Option.some.injEq, Option.bind_some] at h1 h2 h3
   exact ⟨i, rfl, h2, h1, h3⟩
 have hnb' := Nat.le_of_ble_eq_true hnb
 have hbytes : (i.bytes : Int) * (n : Int) <= 281474976710656 := by
  rw [hi4]
  have : nb * n <= 1048576 * 1000000 := Nat.mul_le_mul hnb' hl
  have h4 : ((nb * n : Nat) : Int) = (nb : Int) * n := Int.natCast_mul nb n
  omega
 have hr := run_make (P := P) w t e i zv hu.out hi1 hi2 .i64 .i64 (n : Int) (n : Int) (by omega) (Int.le_refl _) hbytes (by omega)
 rw [Int.toNat_natCast, hi3] at hr
 have hsz : (madeCells zv.cells (n * c)).size = n * c := size_madeCells _ _
 obtain ⟨s1, s2⟩ := hR.alloc (b := b) hf ((madeCells zv.cells (n * c)).toList.map AV.val) (madeCells zv.cells (n * c)) e (by simp) fun j z hj => by
  rw [List.getElem?_map] at hj
  cases hg : (madeCells zv.cells (n * c)).toList[j]? with
  | none => rw [hg] at hj;cases hj
  | some v =>
   rw [hg] at hj
   injection hj with hj
   subst hj
   exact ⟨v, by simpa using hg, A9 v⟩
 unfold Oper.wp
 rw [show (execOp a.eval ⟨some d, .makeSlice t x x, ty, pos, af, none⟩).run P w = .ok (.value (.slice (some ⟨w.heap.size, 0, none⟩) n n)) (w.alloc (.cells (madeCells zv.cells (n * c)) e)) by
  simp [execOp, hv, Sem.run_bind, hr, Result.andThen]]
 exact hK _ _ (h E _ _ _ hE (s1.put (by rw [hE];exact Nat.le_of_ble_eq_true hN) (Gq (Nat.le_refl _) (Dg (B5 w _)) (by rw [hsz];omega))))
end
section
variable {P : Program} {N : Nat} {ops : Array Oper}
theorem Ords.takeIdxO {K : Tm -> AH -> Prop} {n d c : Nat} (i o2 : Nat) {listed : Array Bool} {tm : Tm} {H : AH} {x y : Operand} {t e ty : TypeId} {b off len : Nat} {j : Int} {k : IntKind} {pos : String} {af : Array Edge} {cells : List AV} (ho : ops[i]? = some ⟨some d, .indexAddr t x y, ty, pos, af, none⟩) (hs : Region.noSelect ops = true) (hf : Region.free .any ops listed i = true) (hr : (Region.ready .any ops listed).contains i = true) (hu : HasU P t (.slice e)) (hi : HasS P e c) (hx : evT tm x = some (.own b off len c)) (hy : evT tm y = some (.val (.int k j))) (hb : H.at b = .live cells) (hN : Nat.ble (d + 1) N = true) (h0 : 0 <= j /\ j < len) (ho2 : off + j.toNat * c = o2)
  (h : Ords P N ops K n (listed.setIfInBounds i true) ((d, .ptr b o2) :: tm) H) : Ords P N ops K (n + 1) listed tm H := ⟨fun E a w ρ hE hR => by
 subst ho2
 obtain ⟨k', o', cc, el, lo, hi', g1, g2, g3, g4, g5, g6⟩ := hR.H.live b cells hb
 obtain ⟨cap, e2, m2, hv, hcap, hsh, hfit⟩ := (hR.ev (x := x) (by rw [Ah];exact hx) : RelV w E.L ρ (.own b off len c) (a.eval x)).own_out k' o' g1
 have hj := (hR.ev (x := y) (by rw [Ah];exact hy) : RelV w E.L ρ (.val (.int k j)) (a.eval y)).val_eq
 refine wpAny_take ho hs hf hr (fun c a w hq => absurd hq.1 (by simp)) (.inl ⟨rfl, fun w' => by simp only [execOp, hv, hj, Sem.run_bind, F0 hu.out hi.out w' _ len cap k j h0.1 h0.2, Result.andThen_ok, Sem.run_pure];rfl⟩) (h.out E _ w ρ hE (hR.put (by rw [hE];exact Nat.le_of_ble_eq_true hN) ?_))
 refine .ptr _ _ _ (by rw [g1];simp) rfl fun k2 o2 h2 => ?_
 rw [g1] at h2
 injection h2 with h2
 injection h2 with h2
 injection h2 with h2 h3
 subst h2 h3
 rw [B0 rfl, Nat.add_assoc]⟩
end
end Go.Proofs.YtcfjofhapbkmfaaGreatDoor
