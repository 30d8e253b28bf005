/- Steps in the calculus over abstract states: conversions of integers; a call that takes one element out of a slice of the caller's own. No dump. No conditions but those of each statement. -/
import Derived.Test.YtfchdagalklgpaaGreatDoorMc
import Derived.ArgAppend
set_option linter.unusedSimpArgs false
namespace Go.Proofs.YtfchdagalklgpaaGreatDoor
set_option linter.unusedVariables false
open Go Go.RowKit
theorem setCells_row {k : Nat} {e : TypeId} {lo hi : Nat} : ∀ (vs : List Value) (off : Nat) (c : Array Value) (w : World), w.heap[k]? = some (.cells c e (lo, hi)) → off + vs.length ≤ c.size →
    ∃ (c' : Array Value), (w.setCells k off vs).heap[k]? = some (.cells c' e (lo, hi)) ∧ c'.size = c.size ∧ (∀ j, c'[j]? = if off ≤ j ∧ j < off + vs.length then vs[j - off]? else c[j]?) ∧ (∀ k', k' ≠ k → (w.setCells k off vs).heap[k']? = w.heap[k']?) ∧ (∀ k' x, w.shape? k' = some x → (w.setCells k off vs).shape? k' = some x) ∧ (w.setCells k off vs).os = w.os ∧ (w.setCells k off vs).tape = w.tape ∧ (w.setCells k off vs).output = w.output ∧ (w.setCells k off vs).heap.size = w.heap.size
  | [], off, c, w, hw, hl => ⟨c, hw, rfl, fun j => by rw [if_neg (by simp)], fun _ _ => rfl, fun _ _ h => h, rfl, rfl, rfl, rfl⟩
  | v :: vs, off, c, w, hw, hl => by
    simp only [List.length_cons] at hl
    obtain ⟨c', g2, g3, g4, g5, g6, g7, g8, g9, g10⟩ := setCells_row vs (off + 1) (c.setIfInBounds off v) (w.setCell ⟨k, off, none⟩ v) (heap_setCell w k off v c e _ hw) (by simp; omega)
    refine ⟨c', g2, by simpa using g3, fun j => ?_, fun k' hk => by rw [World.setCells, g5 k' hk, Below.heap_setCell w _ v k' hk], fun k' x hx => g6 k' x (by rw [shape_setCell]; exact hx), g7, g8, g9, by rw [World.setCells, g10]; simp [World.setCell]⟩
    rw [g4 j]
    by_cases e1 : j = off
    · subst e1
      rw [if_neg (by omega), if_pos (by simp), Array.getElem?_setIfInBounds]
      simp
      omega
    · by_cases e2 : off + 1 ≤ j ∧ j < off + 1 + vs.length
      · rw [if_pos e2, if_pos (by simp; omega), show j - off = j - (off + 1) + 1 by omega, List.getElem?_cons_succ]
      · rw [if_neg e2, if_neg (by simp; omega), Array.getElem?_setIfInBounds_ne (by omega)]
theorem AH.clear_nil {b n : Nat} : AH.clear b n [] = true := rfl
theorem AH.clear_live {b n : Nat} {cs : List AV} {H : AH} (h : cs.all (AV.clear b) = true) (k : AH.clear b (n + 1) H = true) : AH.clear b n (.live cs :: H) = true := by
  rw [AH.clear, k, Bool.and_true]
  split
  · rfl
  · exact h
/-- A function that takes element i out of a slice of n cells an element: what is behind it moves on, in place. -/
structure FnDel (P : Program) (f : FuncId) (n : Nat) : Prop where
  ent : Enters P f
  run : ∀ (k o len cap i : Nat) (c : Array Value) (el : TypeId) (lo hi : Nat) (w : World), w.heap[k]? = some (.cells c el (lo, hi)) → hi ≤ lo → i < len → len ≤ cap → len ≤ 1000 → o + cap * n ≤ c.size → (∀ j v, j < len * n → c[o + j]? = some v → v.oneCell' = true) →
    Calls P f #[.slice (some ⟨k, o, none⟩) len cap, .int .i64 i, .int .i64 ((i : Int) + 1)] w fun e w' => e = .returned (.slice (some ⟨k, o, none⟩) (len - 1) cap) ∧
      ∃ c', w'.heap[k]? = some (.cells c' el (lo, hi)) ∧ c'.size = c.size ∧ (∀ j, j < (len - 1) * n → c'[o + j]? = if j < i * n then c[o + j]? else c[o + (j + n)]?) ∧
        (∀ k', k' ≠ k → w'.heap[k']? = w.heap[k']?) ∧ (∀ k' x, w.shape? k' = some x → w'.shape? k' = some x) ∧ w'.os = w.os ∧ w'.tape = w.tape ∧ w'.output = w.output ∧ w'.heap.size = w.heap.size
section
variable {P : Program} {N : Nat} {ops : Array Oper} {m : Option Nat} {K : Tm → AH → Prop} {tm tm' : Tm} {H : AH} {rest : List Oper} {ty : TypeId} {pos : String} {af : Array Edge} {d : Nat} {t u e : TypeId} {x y z : Operand}
theorem S.conv {k k' : IntKind} {n : Int} {ds : TypeDesc} [hu : HasU P t ds] [hv : HasU P u (.int k')] (hx : evT tm x = some (.val (.int k n))) (hw : k'.wrap n = n) (hN : Nat.ble (d + 1) N = true) (h : Reg m P N ops rest ((d, .val (.int k' n)) :: tm) H K) : Reg m P N ops (⟨some d, .convert t u x, ty, pos, af, none⟩ :: rest) tm H K := by
  refine S.val (OpV.mk fun L w ρ η hη hH => ?_) hN h
  have h1 := (hη x (by simp [Op.operands]) _ hx).val_eq
  refine ⟨_, ?_, relV_val _⟩
  simp [execOp, h1, convert, run_underlying hu.out, run_underlying hv.out, Conv.intToInt, hw]
theorem S.callDel {b n len : Nat} {iz : Int} {f : FuncId} {ts : Array TypeId} {cells : List AV} {cs : List AV} (hp : FnDel P f n) (hx : evT tm x = some (.own b 0 len n)) (hy : evT tm y = some (.val (.int .i64 iz))) (hz : evT tm z = some (.val (.int .i64 (iz + 1)))) (hb : H.at b = .live cells) (htm : tm.clearO b = some tm') (hH : AH.clear b 0 H = true) (hcl : cells.all (AV.clear b) = true) (h1 : cells.all AV.one = true) (hN : Nat.ble (d + 1) N = true)
    (hc : cells.length = len * n) (hi : 0 ≤ iz ∧ iz < len) (hlen : len ≤ 1000) (hcs : cells.take (iz.toNat * n) ++ cells.drop (iz.toNat * n + n) = cs)
    (h : Reg none P N ops rest ((d, .own b 0 (len - 1) n) :: tm') (H.put b (.live cs)) K) :
    Reg none P N ops (⟨some d, .call ⟨.value (.func f), #[x, y, z], ts⟩, ty, pos, af, none⟩ :: rest) tm H K := by
  obtain ⟨i, rfl⟩ : ∃ i : Nat, iz = i := ⟨iz.toNat, by omega⟩
  replace hi : i < len := by omega
  rw [Int.toNat_natCast] at hcs
  subst hcs
  refine ⟨fun E a w ρ hE hR => ?_⟩
  replace h := h.out
  refine wpList_plain rfl fun K' hK => ?_
  have hN' := Nat.le_of_ble_eq_true hN
  have hxv : RelV w E.L ρ (.own b 0 len n) (a.eval x) := hR.ev (by rw [ev_evT]; exact hx)
  have hyv := (hR.ev (by rw [ev_evT]; exact hy)).val_eq
  have hzv := (hR.ev (by rw [ev_evT]; exact hz)).val_eq
  obtain ⟨k, o, c, el, lo, hi', g1, g2, g3, g4, g5, g6⟩ := hR.H.live b cells hb
  obtain ⟨cap, e2, n2, hxe, hcap, hsh, hfitc⟩ := hxv.own_out k o g1
  rw [Nat.add_zero] at hxe hfitc
  have hcs : n2 = c.size := by
    rw [shape_is g2] at hsh
    simp only [Option.some.injEq, Prod.mk.injEq] at hsh
    exact hsh.2.symm
  have hin : i * n + n ≤ len * n := by rw [← Nat.succ_mul]; exact Nat.mul_le_mul_right _ hi
  have hlm : (len - 1) * n = len * n - n := by rw [Nat.sub_mul, Nat.one_mul]
  have hrun : (execOp a.eval ⟨some d, .call ⟨.value (.func f), #[x, y, z], ts⟩, ty, pos, af, none⟩).run P w = .ok (.enter f #[a.eval x, a.eval y, a.eval z]) w := by
    have : (execOp a.eval ⟨some d, .call ⟨.value (.func f), #[x, y, z], ts⟩, ty, pos, af, none⟩).run P w = (callFunc f (#[] ++ #[x, y, z].map a.eval ++ #[])).run P w := by simp [execOp, resolve, Act.eval, Deferred.ofValue, invoke]
    rw [this, hp.ent.run]
    simp
  unfold Oper.wp
  rw [hrun, hxe, hyv, hzv]
  refine (hp.run k o len cap i c el lo hi' w g2 g3 hi hcap hlen (by rw [← hcs]; exact hfitc) fun j v hj hv => ?_).mono ?_
  · obtain ⟨z, hz'⟩ : ∃ z, cells[j]? = some z := ⟨_, List.getElem?_eq_getElem (by omega)⟩
    obtain ⟨v', q1, q2⟩ := g6 j z hz'
    rw [hv] at q1
    injection q1 with q1
    subst q1
    exact q2.one (List.all_eq_true.1 h1 z (List.mem_of_getElem? hz'))
  · rintro e w' ⟨rfl, c', p1, p2, p3, p4, p5, p6, p7, p8, p9⟩
    have hlen' : (cells.take (i * n) ++ cells.drop (i * n + n)).length = (len - 1) * n := by
      rw [List.length_append, List.length_take, List.length_drop]; omega
    obtain ⟨s1, s2⟩ := hR.regrow (tm' := tm') (cells' := cells.take (i * n) ++ cells.drop (i * n + n)) (w' := w') (k' := k) (o' := o) htm hH (by rw [hb]; rfl) p1 g3
      (by rw [p2, hlen']; omega) (.inl ⟨o, g1⟩) (fun k2 _ hk2 => p4 k2 hk2) p5 p6 p7 p8 (by omega) fun hla j z hj => by
        have hjl : j < (len - 1) * n := by rw [← hlen']; exact (List.getElem?_eq_some_iff.1 hj).1
        have hz' : cells[if j < i * n then j else j + n]? = some z := by
          by_cases hj2 : j < i * n
          · rw [List.getElem?_append_left (by rw [List.length_take]; omega), List.getElem?_take, if_pos hj2] at hj
            rw [if_pos hj2]; exact hj
          · rw [List.getElem?_append_right (by rw [List.length_take]; omega), List.getElem?_drop, List.length_take] at hj
            rw [if_neg hj2, ← hj]
            congr 1
            omega
        obtain ⟨v, q1, q2⟩ := g6 _ z hz'
        refine ⟨v, ?_, q2.laterX hla (List.all_eq_true.1 hcl z (List.mem_of_getElem? hz'))⟩
        rw [p3 j hjl, ← q1]
        split <;> rfl
    refine hK _ _ (h E _ w' _ hE (s2.put (by rw [hE]; exact hN') (own_upd (by omega) (shape_is p1) (by rw [p2, ← hcs]; exact hfitc))))
end
end Go.Proofs.YtfchdagalklgpaaGreatDoor
