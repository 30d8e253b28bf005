/- Steps in the calculus over abstract states: conversions of integers; a call that takes one element out of a slice of the caller's own. No dump. No conditions but those of each statement. | Contracts: slices.Delete of one move of a slice of the caller's own. No conditions but those of each statement. | Contracts: slices.Clone of moves. Cells of moves. No conditions but those of each statement. | Plain laws of cues: with greater speeds no move takes longer, no cue does; with fewer moves no cue does. No conditions but those of each statement. | Contracts: the walk of the law on faster cues. No conditions but those of each statement. -/
import Derived.Test.YtdcdfihidnajmaaGreatMc
import Derived.ArgAppend
import Derived.Test.YtdcdfihidnajmaaGreatMh
import Derived.WalkKit
import Derived.Deep.RegionLaw
import Derived.Lib.Walk
import Derived.Test.YtdcdfihidnajmaaGreatMr
import Derived.Test.YtdcdfihidnajmaaGreatMv
import Derived.Test.YtdcdfihidnajmaaGreatMs
set_option linter.unusedSimpArgs false
namespace Go.Proofs.YtdcdfihidnajmaaGreat
set_option linter.unusedVariables false
open Go Go.RowKit
theorem setCells_row {k : Nat} {e : TypeId} {lo hi : Nat} : ∀ (vs : List Value) (off : Nat) (c : Array Value) (w : World), w.heap[k]? = some (.cells c e (lo, hi)) → off + vs.length ≤ c.size →
    ∃ (c' : Array Value), (w.setCells k off vs).heap[k]? = some (.cells c' e (lo, hi)) ∧ c'.size = c.size ∧ (∀ j, c'[j]? = if off ≤ j ∧ j < off + vs.length then vs[j - off]? else c[j]?) ∧ (∀ k', k' ≠ k → (w.setCells k off vs).heap[k']? = w.heap[k']?) ∧ (∀ k' x, w.shape? k' = some x → (w.setCells k off vs).shape? k' = some x) ∧ (w.setCells k off vs).os = w.os ∧ (w.setCells k off vs).tape = w.tape ∧ (w.setCells k off vs).output = w.output ∧ (w.setCells k off vs).heap.size = w.heap.size
  | [], off, c, w, hw, hl => ⟨c, hw, rfl, fun j => by rw [if_neg (by simp)], fun _ _ => rfl, fun _ _ h => h, rfl, rfl, rfl, rfl⟩
  | v :: vs, off, c, w, hw, hl => by
    simp only [List.length_cons] at hl
    obtain ⟨c', g2, g3, g4, g5, g6, g7, g8, g9, g10⟩ := setCells_row vs (off + 1) (c.setIfInBounds off v) (w.setCell ⟨k, off, none⟩ v) (heap_setCell w k off v c e _ hw) (by simp; omega)
    refine ⟨c', g2, by simpa using g3, fun j => ?_, fun k' hk => by rw [World.setCells, g5 k' hk, Below.heap_setCell w _ v k' hk], fun k' x hx => g6 k' x (by rw [shape_setCell]; exact hx), g7, g8, g9, by rw [World.setCells, g10]; simp [World.setCell]⟩
    rw [g4 j]
    by_cases e1 : j = off
    · subst e1
      rw [if_neg (by omega), if_pos (by simp), Array.getElem?_setIfInBounds]
      simp
      omega
    · by_cases e2 : off + 1 ≤ j ∧ j < off + 1 + vs.length
      · rw [if_pos e2, if_pos (by simp; omega), show j - off = j - (off + 1) + 1 by omega, List.getElem?_cons_succ]
      · rw [if_neg e2, if_neg (by simp; omega), Array.getElem?_setIfInBounds_ne (by omega)]
theorem AH.clear_nil {b n : Nat} : AH.clear b n [] = true := rfl
theorem AH.clear_live {b n : Nat} {cs : List AV} {H : AH} (h : cs.all (AV.clear b) = true) (k : AH.clear b (n + 1) H = true) : AH.clear b n (.live cs :: H) = true := by
  rw [AH.clear, k, Bool.and_true]
  split
  · rfl
  · exact h
/-- A function that takes element i out of a slice of n cells an element: what is behind it moves on, in place. -/
structure FnDel (P : Program) (f : FuncId) (n : Nat) : Prop where
  ent : Enters P f
  run : ∀ (k o len cap i : Nat) (c : Array Value) (el : TypeId) (lo hi : Nat) (w : World), w.heap[k]? = some (.cells c el (lo, hi)) → hi ≤ lo → i < len → len ≤ cap → len ≤ 1000 → o + cap * n ≤ c.size → (∀ j v, j < len * n → c[o + j]? = some v → v.oneCell' = true) →
    Calls P f #[.slice (some ⟨k, o, none⟩) len cap, .int .i64 i, .int .i64 ((i : Int) + 1)] w fun e w' => e = .returned (.slice (some ⟨k, o, none⟩) (len - 1) cap) ∧
      ∃ c', w'.heap[k]? = some (.cells c' el (lo, hi)) ∧ c'.size = c.size ∧ (∀ j, j < (len - 1) * n → c'[o + j]? = if j < i * n then c[o + j]? else c[o + (j + n)]?) ∧
        (∀ k', k' ≠ k → w'.heap[k']? = w.heap[k']?) ∧ (∀ k' x, w.shape? k' = some x → w'.shape? k' = some x) ∧ w'.os = w.os ∧ w'.tape = w.tape ∧ w'.output = w.output ∧ w'.heap.size = w.heap.size
section
variable {P : Program} {N : Nat} {ops : Array Oper} {m : Option Nat} {K : Tm → AH → Prop} {tm tm' : Tm} {H : AH} {rest : List Oper} {ty : TypeId} {pos : String} {af : Array Edge} {d : Nat} {t u e : TypeId} {x y z : Operand}
theorem S.conv {k k' : IntKind} {n : Int} {ds : TypeDesc} [hu : HasU P t ds] [hv : HasU P u (.int k')] (hx : evT tm x = some (.val (.int k n))) (hw : k'.wrap n = n) (hN : Nat.ble (d + 1) N = true) (h : Reg m P N ops rest ((d, .val (.int k' n)) :: tm) H K) : Reg m P N ops (⟨some d, .convert t u x, ty, pos, af, none⟩ :: rest) tm H K := by
  refine S.val (OpV.mk fun L w ρ η hη hH => ?_) hN h
  have h1 := (hη x (by simp [Op.operands]) _ hx).val_eq
  refine ⟨_, ?_, relV_val _⟩
  simp [execOp, h1, convert, run_underlying hu.out, run_underlying hv.out, Conv.intToInt, hw]
theorem S.callDel {b n len : Nat} {iz : Int} {f : FuncId} {ts : Array TypeId} {cells : List AV} {cs : List AV} (hp : FnDel P f n) (hx : evT tm x = some (.own b 0 len n)) (hy : evT tm y = some (.val (.int .i64 iz))) (hz : evT tm z = some (.val (.int .i64 (iz + 1)))) (hb : H.at b = .live cells) (htm : tm.clearO b = some tm') (hH : AH.clear b 0 H = true) (hcl : cells.all (AV.clear b) = true) (h1 : cells.all AV.one = true) (hN : Nat.ble (d + 1) N = true)
    (hc : cells.length = len * n) (hi : 0 ≤ iz ∧ iz < len) (hlen : len ≤ 1000) (hcs : cells.take (iz.toNat * n) ++ cells.drop (iz.toNat * n + n) = cs)
    (h : Reg none P N ops rest ((d, .own b 0 (len - 1) n) :: tm') (H.put b (.live cs)) K) :
    Reg none P N ops (⟨some d, .call ⟨.value (.func f), #[x, y, z], ts⟩, ty, pos, af, none⟩ :: rest) tm H K := by
  obtain ⟨i, rfl⟩ : ∃ i : Nat, iz = i := ⟨iz.toNat, by omega⟩
  replace hi : i < len := by omega
  rw [Int.toNat_natCast] at hcs
  subst hcs
  refine ⟨fun E a w ρ hE hR => ?_⟩
  replace h := h.out
  refine wpList_plain rfl fun K' hK => ?_
  have hN' := Nat.le_of_ble_eq_true hN
  have hxv : RelV w E.L ρ (.own b 0 len n) (a.eval x) := hR.ev (by rw [ev_evT]; exact hx)
  have hyv := (hR.ev (by rw [ev_evT]; exact hy)).val_eq
  have hzv := (hR.ev (by rw [ev_evT]; exact hz)).val_eq
  obtain ⟨k, o, c, el, lo, hi', g1, g2, g3, g4, g5, g6⟩ := hR.H.live b cells hb
  obtain ⟨cap, e2, n2, hxe, hcap, hsh, hfitc⟩ := hxv.own_out k o g1
  rw [Nat.add_zero] at hxe hfitc
  have hcs : n2 = c.size := by
    rw [shape_is g2] at hsh
    simp only [Option.some.injEq, Prod.mk.injEq] at hsh
    exact hsh.2.symm
  have hin : i * n + n ≤ len * n := by rw [← Nat.succ_mul]; exact Nat.mul_le_mul_right _ hi
  have hlm : (len - 1) * n = len * n - n := by rw [Nat.sub_mul, Nat.one_mul]
  have hrun : (execOp a.eval ⟨some d, .call ⟨.value (.func f), #[x, y, z], ts⟩, ty, pos, af, none⟩).run P w = .ok (.enter f #[a.eval x, a.eval y, a.eval z]) w := by
    have : (execOp a.eval ⟨some d, .call ⟨.value (.func f), #[x, y, z], ts⟩, ty, pos, af, none⟩).run P w = (callFunc f (#[] ++ #[x, y, z].map a.eval ++ #[])).run P w := by simp [execOp, resolve, Act.eval, Deferred.ofValue, invoke]
    rw [this, hp.ent.run]
    simp
  unfold Oper.wp
  rw [hrun, hxe, hyv, hzv]
  refine (hp.run k o len cap i c el lo hi' w g2 g3 hi hcap hlen (by rw [← hcs]; exact hfitc) fun j v hj hv => ?_).mono ?_
  · obtain ⟨z, hz'⟩ : ∃ z, cells[j]? = some z := ⟨_, List.getElem?_eq_getElem (by omega)⟩
    obtain ⟨v', q1, q2⟩ := g6 j z hz'
    rw [hv] at q1
    injection q1 with q1
    subst q1
    exact q2.one (List.all_eq_true.1 h1 z (List.mem_of_getElem? hz'))
  · rintro e w' ⟨rfl, c', p1, p2, p3, p4, p5, p6, p7, p8, p9⟩
    have hlen' : (cells.take (i * n) ++ cells.drop (i * n + n)).length = (len - 1) * n := by
      rw [List.length_append, List.length_take, List.length_drop]; omega
    obtain ⟨s1, s2⟩ := hR.regrow (tm' := tm') (cells' := cells.take (i * n) ++ cells.drop (i * n + n)) (w' := w') (k' := k) (o' := o) htm hH (fun es => by rw [hb]; simp) p1 g3
      (by rw [p2, hlen']; omega) (.inl ⟨o, g1⟩) (fun k2 _ hk2 => p4 k2 hk2) p5 p6 p7 p8 (by omega) fun hla j z hj => by
        have hjl : j < (len - 1) * n := by rw [← hlen']; exact (List.getElem?_eq_some_iff.1 hj).1
        have hz' : cells[if j < i * n then j else j + n]? = some z := by
          by_cases hj2 : j < i * n
          · rw [List.getElem?_append_left (by rw [List.length_take]; omega), List.getElem?_take, if_pos hj2] at hj
            rw [if_pos hj2]; exact hj
          · rw [List.getElem?_append_right (by rw [List.length_take]; omega), List.getElem?_drop, List.length_take] at hj
            rw [if_neg hj2, ← hj]
            congr 1
            omega
        obtain ⟨v, q1, q2⟩ := g6 _ z hz'
        refine ⟨v, ?_, q2.laterX hla (List.all_eq_true.1 hcl z (List.mem_of_getElem? hz'))⟩
        rw [p3 j hjl, ← q1]
        split <;> rfl
    refine hK _ _ (h E _ w' _ hE (s2.put (by rw [hE]; exact hN') (own_upd (by omega) (shape_is p1) (by rw [p2, ← hcs]; exact hfitc))))
end
end Go.Proofs.YtdcdfihidnajmaaGreat
set_option linter.unusedSimpArgs false
namespace Go.Proofs.YtdcdfihidnajmaaGreat
set_option linter.unusedVariables false
open Go.RowKit
theorem info_move : (Tryz.prog.info? 50).map (fun i => (i.zero, i.size, i.bytes)) = some (some (.agg #[.string ⟨#[]⟩, .int .i64 0, .int .i64 0, .int .i64 0, .int .i64 0]), 5, 48) := by kernel_rfl
/-- The cells of a block from place p on. -/
def cellsFrom (c : Array Value) (p n : Nat) : List Value := (List.range n).map fun t => c.getD (p + t) undef
theorem cellsFrom_len (c : Array Value) (p n : Nat) : (cellsFrom c p n).length = n := by simp [cellsFrom]
theorem cellsFrom_at {c : Array Value} {p n t : Nat} {u : Value} (h : (cellsFrom c p n)[t]? = some u) (hs : p + n ≤ c.size) : t < n ∧ c[p + t]? = some u := by
  have ht : t < n := by rw [← cellsFrom_len c p n]; exact (List.getElem?_eq_some_iff.1 h).1
  refine ⟨ht, ?_⟩
  unfold cellsFrom at h
  rw [List.getElem?_map, List.getElem?_range ht] at h
  simp only [Option.map_some, Option.some.injEq] at h
  rw [Array.getD_eq_getD_getElem?, Array.getElem?_eq_getElem (by omega)] at h
  rw [Array.getElem?_eq_getElem (by omega), ← h]
  rfl
def zeroMove : List Value := [.string ⟨#[]⟩, .int .i64 0, .int .i64 0, .int .i64 0, .int .i64 0]
theorem live_frozen {w : World} {k p : Nat} {c : Array Value} {el : TypeId} {lo hi : Nat} (hw : w.heap[k]? = some (.cells c el (lo, hi))) (hlo : hi ≤ lo) : w.frozen? ⟨k, p, none⟩ = false := by
  simp only [World.frozen?, hw]
  simp
  omega
set_option maxHeartbeats 8000000 in
set_option maxRecDepth 1000000 in
theorem del_moves : FnDel Tryz.prog 25 5 := by
  refine ⟨⟨Tryz.f25, Tryz.func25, rfl, rfl⟩, ?_⟩
  intro k o len cap i c el lo hi w hw hlo hil hlc h1000 hsz h1c
  obtain ⟨i0, hi0, hz0, hz1, hz2⟩ := info_parts info_move
  obtain ⟨j, hj⟩ : ∃ j, j = i + 1 := ⟨_, rfl⟩
  rw [show ((i : Int) + 1) = (j : Int) by omega]
  have hne : ¬ i = j := by omega
  obtain ⟨news, hnews⟩ : ∃ news, news = cellsFrom c (o + j * 5) ((len - j) * 5) := ⟨_, rfl⟩
  have hlen : news.length = (len - j) * 5 := by rw [hnews, cellsFrom_len]
  have hjn : j * 5 + (len - j) * 5 ≤ cap * 5 := by omega
  have hget : ∀ t u, news[t]? = some u → t < (len - j) * 5 ∧ c[o + j * 5 + t]? = some u := fun t u h => by rw [hnews] at h; exact cellsFrom_at h (by omega)
  have hwd : w.drew.heap[k]? = some (.cells c el (lo, hi)) := hw
  obtain ⟨A, hA, hsrc⟩ : ∃ A : Addr, (if cap = j then some (⟨k, o, none⟩ : Addr) else some ⟨k, o + j * 5, none⟩) = some A ∧ Hid (∀ t u, news[t]? = some u → w.drew.cell? (A.add t) = some u) := by
    by_cases h : cap = j
    · refine ⟨⟨k, o, none⟩, by simp [h], fun t u hu => ?_⟩
      have := (hget t u hu).1
      omega
    · refine ⟨⟨k, o + j * 5, none⟩, by simp [h], fun t u hu => ?_⟩
      rw [Addr.add_lit]
      exact live_cell hwd (hget t u hu).2
  have s1 : Hid (news.length = (len - j) * 5) := hlen
  have s2 : Hid (∀ u ∈ news, u.oneCell' = true) := by
    intro u hu
    obtain ⟨t, ht⟩ := List.mem_iff_getElem?.1 hu
    obtain ⟨h1, h2⟩ := hget t u ht
    exact h1c (j * 5 + t) u (by omega) (by rw [← Nat.add_assoc]; exact h2)
  have s3 : Hid (∀ t, t < news.length → (w.drew.cell? ⟨k, o + i * 5 + t, none⟩).isSome = true ∧ w.drew.frozen? ⟨k, o + i * 5 + t, none⟩ = false) := by
    intro t ht
    rw [hlen] at ht
    refine ⟨?_, live_frozen hwd hlo⟩
    rw [live_cell hwd (Array.getElem?_eq_getElem (by omega : o + i * 5 + t < c.size))]
    rfl
  obtain ⟨W1, hW1⟩ : ∃ W1, W1 = w.drew.setCells k (o + i * 5) news := ⟨_, rfl⟩
  obtain ⟨c1, p1, p2, p3, p4, p5, p6, p7, p8, p9⟩ := setCells_row (k := k) news (o + i * 5) c w.drew hwd (by rw [hlen]; omega)
  rw [← hW1] at p1 p4 p5 p6 p7 p8 p9
  have hcl : ∀ ty, (Builtin.clear_ #[33] ty #[.slice (some ⟨k, o + (i + (len - j)) * 5, none⟩) (len - (i + (len - j))) (cap - (i + (len - j)))]).run Tryz.prog W1 = .ok (.tuple #[]) (W1.setCells k (o + (i + (len - j)) * 5) zeroMove) := fun ty => by
    have hst := run_storeCells_cells (P := Tryz.prog) k (o + (i + (len - j)) * 5) zeroMove 0 W1 (fun t ht => by
        have ht' : t < 5 := ht
        rw [Nat.add_zero, live_cell p1 (Array.getElem?_eq_getElem (by omega))]; rfl) (fun t ht => live_frozen p1 hlo) (by intro u hu; simp only [zeroMove, List.mem_cons, List.not_mem_nil, or_false] at hu; rcases hu with rfl | rfl | rfl | rfl | rfl <;> rfl)
    rw [show len - (i + (len - j)) = 1 by omega]
    rw [Nat.add_zero] at hst
    have hzc : (Builtin.zeroCells (Value.agg #[.string ⟨#[]⟩, .int .i64 0, .int .i64 0, .int .i64 0, .int .i64 0]).cells 1).toList = zeroMove := by kernel_rfl
    simp [Builtin.clear_, run_underlying (t := 33) (by exact (inferInstance : HasU Tryz.prog 33 _).out), zero_run (t := 50) (inferInstance : HasZ Tryz.prog 50 _).out, hzc, hst]
  have hW : Hid (W1 = w.drew.setCells k (o + i * 5) news) := hW1
  have hic : i ≤ cap := by omega
  have hjc : j ≤ cap := by omega
  have hjl : j ≤ len := by omega
  have hij : i ≤ j := by omega
  have hl1 : len - 1 = i + (len - j) := by omega
  obtain ⟨c2, q1, q2, q3, q4, q5, q6, q7, q8, q9⟩ := setCells_row (k := k) zeroMove (o + (i + (len - j)) * 5) c1 W1 p1 (by simp only [zeroMove, List.length_cons, List.length_nil]; omega)
  have X : Hid (∃ c', (W1.setCells k (o + (i + (len - j)) * 5) zeroMove).heap[k]? = some (.cells c' el (lo, hi)) ∧ c'.size = c.size ∧ (∀ j, j < (len - 1) * 5 → c'[o + j]? = if j < i * 5 then c[o + j]? else c[o + (j + 5)]?) ∧
        (∀ k', k' ≠ k → (W1.setCells k (o + (i + (len - j)) * 5) zeroMove).heap[k']? = w.heap[k']?) ∧ (∀ k' x, w.shape? k' = some x → (W1.setCells k (o + (i + (len - j)) * 5) zeroMove).shape? k' = some x) ∧ (W1.setCells k (o + (i + (len - j)) * 5) zeroMove).os = w.os ∧ (W1.setCells k (o + (i + (len - j)) * 5) zeroMove).tape = w.tape ∧ (W1.setCells k (o + (i + (len - j)) * 5) zeroMove).output = w.output ∧ (W1.setCells k (o + (i + (len - j)) * 5) zeroMove).heap.size = w.heap.size) := by
    refine ⟨c2, q1, by rw [q2, p2], fun t ht => ?_, fun k' hk => (q4 k' hk).trans (p4 k' hk), fun k' x hx => q5 k' x (p5 k' x hx), q6.trans p6, q7.trans p7, q8.trans p8, q9.trans p9⟩
    rw [q3, if_neg (by omega), p3]
    by_cases h : t < i * 5
    · rw [if_neg (by omega), if_pos h]
    · rw [if_pos (by rw [hlen]; omega), if_neg h, hnews]
      unfold cellsFrom
      rw [List.getElem?_map, List.getElem?_range (by omega)]
      simp only [Option.map_some]
      rw [Array.getD_eq_getD_getElem?, Array.getElem?_eq_getElem (by omega), Option.getD_some, Array.getElem?_eq_getElem (by omega)]
      congr 2
      omega
  have hj' : Hid (j = i + 1) := hj
  clear hj hz0 hz2 hne hij
  have hne : ¬ ((i : Int) = (j : Int)) := by have := hj'.out; omega
  clear hW1 p1 p2 p3 p4 p5 p6 p7 p8 p9 q1 q2 q3 q4 q5 q6 q7 q8 q9 hget hnews hlen hw hwd hsz h1c
  go_enter Tryz.func25, Tryz.ntmps25
  go_wp2_with fail
  go_region_law (refine step_append_room rfl (.tmp 22) (.tmp 25) 33 rfl 50 i0 5 (by exact (inferInstance : HasU Tryz.prog 33 _).out) hi0 hz1 k o i cap (by simp [Act.eval, Act.put]) A (len - j) (cap - j) news (by simp [Act.eval, Act.put]) s1.out hsrc.out s2.out (by omega) s3.out ?_; rw [← hW.out])
  go_wp2
  go_ret
  exact ⟨by rw [hl1]; rfl, X.out⟩
end Go.Proofs.YtdcdfihidnajmaaGreat
set_option linter.unusedSimpArgs false
namespace Go.Proofs.YtdcdfihidnajmaaGreat
set_option linter.unusedVariables false
open Go.RowKit
abbrev cellsM (l : List MoveR) : List AV := (l.map MoveR.row).flatten.map .lf
theorem moves_row (l : List MoveR) : ∀ r ∈ l.map MoveR.row, r.length = 5 := by
  intro r hr
  obtain ⟨n, _, rfl⟩ := List.mem_map.1 hr
  rfl
theorem moves_one (l : List MoveR) : (l.map MoveR.row).flatten.all Lf.one = true := by
  rw [List.all_eq_true]
  intro x hx
  obtain ⟨r, hr, hxr⟩ := List.mem_flatten.1 hx
  obtain ⟨n, _, rfl⟩ := List.mem_map.1 hr
  simp only [MoveR.row, List.mem_cons, List.not_mem_nil, or_false] at hxr
  rcases hxr with rfl | rfl | rfl | rfl | rfl <;> rfl
theorem cellsM_len (l : List MoveR) : (cellsM l).length = l.length * 5 := by
  rw [List.length_map, flatten_len _ (moves_row l), List.length_map]
theorem cellsM_cons (x : MoveR) (l : List MoveR) : cellsM (x :: l) = (x.row.map .lf) ++ cellsM l := by simp [cellsM]
theorem cellsM_at : ∀ (l : List MoveR) (i : Nat) (x : MoveR), l[i]? = some x → (cellsM l)[i * 5 + 2]? = some (.i x.speed)
  | [], i, x, h => by simp at h
  | y :: l, 0, x, h => by
    simp only [List.getElem?_cons_zero, Option.some.injEq] at h
    subst h
    rfl
  | y :: l, i + 1, x, h => by
    rw [cellsM_cons, show (i + 1) * 5 + 2 = (i * 5 + 2) + 5 by omega]
    exact cellsM_at l i x (by simpa using h)
theorem cellsM_set : ∀ (l : List MoveR) (i : Nat) (x : MoveR) (v : Int), l[i]? = some x → setA (i * 5 + 2) [.i v] (cellsM l) = cellsM (l.set i { x with speed := v })
  | [], i, x, v, h => by simp at h
  | y :: l, 0, x, v, h => by
    simp only [List.getElem?_cons_zero, Option.some.injEq] at h
    subst h
    rw [List.set_cons_zero, cellsM_cons, cellsM_cons]
    simp [MoveR.row, setA, setA_nil]
  | y :: l, i + 1, x, v, h => by
    rw [List.set_cons_succ, cellsM_cons, cellsM_cons, ← cellsM_set l i x v (by simpa using h), show (i + 1) * 5 + 2 = (i * 5 + 2) + 5 by omega]
    simp [MoveR.row, setA]
theorem cellsM_cut : ∀ (l : List MoveR) (i : Nat), i < l.length → (cellsM l).take (i * 5) ++ (cellsM l).drop (i * 5 + 5) = cellsM (l.eraseIdx i)
  | [], i, h => by simp at h
  | y :: l, 0, h => by
    rw [List.eraseIdx_cons_zero, cellsM_cons]
    simp [MoveR.row]
  | y :: l, i + 1, h => by
    rw [List.eraseIdx_cons_succ, cellsM_cons, cellsM_cons, ← cellsM_cut l i (by simpa using h), show (i + 1) * 5 = i * 5 + 5 by omega]
    simp [MoveR.row]
theorem under_moves (n : Nat) (l : List MoveR) : (cellsM l).all (AV.under n) = true := under_lf n _
theorem one_moves (l : List MoveR) : (cellsM l).all AV.one = true := by
  have := moves_one l
  rw [List.all_eq_true] at this ⊢
  intro x hx
  obtain ⟨y, hy, rfl⟩ := List.mem_map.1 hx
  have h := this y hy
  cases y <;> first | exact h | rfl
theorem own_moves (l : List MoveR) : OwnRows (cellsM l) 0 l.length 5 (l.map MoveR.row) := by
  have := OwnRows.of (l.map MoveR.row).flatten (moves_row l) rfl
  rw [List.length_map] at this
  exact this
set_option maxHeartbeats 8000000 in
theorem clone_moves (l : List MoveR) (hl : l.length ≤ 1000) : FnOwn Tryz.prog 24 [.sl (l.map MoveR.row)] (l.map MoveR.row) 5 := by
  have hle : (l.map MoveR.row).length = l.length := List.length_map _
  refine FnOwn.of Tryz.func24 Tryz.ntmps24 rfl rfl rfl ?_
  simp only [entryTm]
  repeat' (first
    | (apply S.move; exact rfl; exact rfl)
    | (apply S.assign; exact rfl; exact rfl)
    | (apply S.eqNil; exact rfl; exact rfl; intro hnil; rotate_left; rotate_right)
    | (apply S.buildSliceO; exact rfl; exact rfl; exact rfl; exact rfl; exact rfl; exact rfl)
    | (apply S.appendO; exact rfl; exact rfl; exact rfl; exact rfl; exact rfl; exact rfl; exact rfl; exact rfl; exact rfl; exact moves_row l; exact moves_one l; exact rfl; omega; omega)
    | apply S.nil
    | apply T.regs
    | (apply T.cC; exact rfl)
    | (apply T.cCN; exact rfl)
    | apply T.seq
    | (apply T.skip; first | change T _ _ _ _ _ | change Done _ _ _ _ _ | change Next _ _ _ _ _ _ | skip))
  all_goals (apply T.ret; change DoneO _ _ _ _ _ _)
  · exact ⟨.inr rfl, .inl ⟨_, .cons (.tmp rfl) .nil, rfl, hnil⟩⟩
  · exact ⟨.inr rfl, .inr (.inr ⟨0, .cons (Res.own0 rfl) .nil, rfl⟩)⟩
end Go.Proofs.YtdcdfihidnajmaaGreat
set_option linter.unusedSimpArgs false
namespace Go.Proofs.YtdcdfihidnajmaaGreat
set_option linter.unusedVariables false
open Go.RowKit
theorem ratV_le {a b c d : Int} (hb : 0 < b) (hd : 0 < d) (h : a * d ≤ c * b) : ratV a b ≤ ratV c d := by
  unfold ratV
  rw [Rat.le_iff_sub_nonneg, Rat.divInt_sub_divInt _ _ (by omega) (by omega)]
  exact Rat.divInt_nonneg (by omega) (Int.le_of_lt (Int.mul_pos hd hb))
theorem topN_mono {P : Nat → Bool} {k : Nat} : ∀ {k' : Nat}, k ≤ k' → topN P k ≤ topN P k'
  | 0, h => by
    obtain rfl : k = 0 := by omega
    exact Nat.le_refl _
  | k' + 1, h => by
    by_cases e : k = k' + 1
    · subst e; exact Nat.le_refl _
    · have := topN_le P k
      have ih := topN_mono (P := P) (k := k) (k' := k') (by omega)
      rw [show topN P (k' + 1) = if P (k' + 1) = true then k' + 1 else topN P k' from rfl]
      split <;> omega
theorem topN_sat {P : Nat → Bool} : ∀ k, 1 ≤ topN P k → P (topN P k) = true
  | 0, h => by simp [topN] at h
  | k + 1, h => by
    rw [topN] at h ⊢
    split
    · assumption
    · rename_i hn
      rw [if_neg hn] at h
      exact topN_sat k h
/-- A move at a greater speed. -/
def faster (more : Int) (m : MoveR) : MoveR := { m with speed := min 8192 (m.speed + more) }
theorem faster_ok {more : Int} (h0 : 0 ≤ more) {m : MoveR} (hm : moveP m) : moveP (faster more m) := by
  obtain ⟨h1, h2, h3, h4, h5⟩ := hm
  refine ⟨h1, h2, ?_, h4, h5⟩
  simp only [faster]
  omega
theorem top_sat {d : Int} {m : MoveR} (hm : moveP m) (hd : 1 ≤ d ∧ d ≤ 1048576) : fitsW d m (topS d m) := by
  have h := (topS_spec hm hd).1
  unfold topS at h ⊢
  rw [if_neg (by omega)] at h ⊢
  simpa using topN_sat (P := fun w => decide (fitsW d m w)) m.speed.toNat h
theorem time_faster {d more : Int} {m : MoveR} (h0 : 0 ≤ more) (hm : moveP m) (hd : 0 ≤ d ∧ d ≤ 1048576) : timeQ d (faster more m) ≤ timeQ d m := by
  unfold timeQ
  by_cases hz : d = 0
  · rw [if_pos hz, if_pos hz]; exact Rat.le_refl
  · rw [if_neg hz, if_neg hz]
    have hd' : 1 ≤ d ∧ d ≤ 1048576 := by omega
    have hf := faster_ok h0 hm
    rw [(curve_ok hm hd').time, (curve_ok hf hd').time]
    have s1 := top_sat hf hd'
    have w1 := topS_spec hm hd'
    have w2 := topS_spec hf hd'
    have hle : topS d m ≤ topS d (faster more m) := by
      unfold topS
      rw [if_neg hz, if_neg hz]
      refine topN_mono (P := fun w => decide (fitsW d m w)) ?_
      have := hm.2.2.1
      simp only [faster]
      omega
    obtain ⟨_, _, h3, h4, h5⟩ := hm
    unfold fitsW at s1
    generalize topS d m = w at *
    generalize topS d (faster more m) = v at *
    simp only [faster] at s1 ⊢
    generalize m.rise = R at *
    generalize m.fall = F at *
    obtain ⟨W, hW⟩ : ∃ W : Int, W = (w : Int) := ⟨_, rfl⟩
    obtain ⟨V, hV⟩ : ∃ V : Int, V = (v : Int) := ⟨_, rfl⟩
    rw [← hW, ← hV]
    rw [← hV] at s1
    have wv : 1 ≤ W ∧ W ≤ V := by omega
    have hRF : 0 < 2 * R * F := Int.mul_pos (by omega) (by omega)
    refine ratV_le (Int.mul_pos hRF (by omega)) (Int.mul_pos hRF (by omega)) ?_
    have k1 : V * W * (R + F) ≤ V * V * (R + F) := Int.mul_le_mul_of_nonneg_right (Int.mul_le_mul_of_nonneg_left (by omega) (by omega)) (by omega)
    have k2 : V * W * (R + F) ≤ 2 * R * F * d := by
      have : 2 * d * R * F = 2 * R * F * d := by grind
      omega
    have k3 := Int.mul_le_mul_of_nonneg_right k2 (by omega : 0 ≤ V - W)
    have k4 : (2 * R * F * d + V * V * (R + F)) * W ≤ (2 * R * F * d + W * W * (R + F)) * V := by grind
    have k5 := Int.mul_le_mul_of_nonneg_right k4 (Int.le_of_lt hRF)
    grind
theorem cmpQ_le {p q : Rat} (h : p ≤ q) : cmpQ p q ≤ 0 := by
  refine Int.not_lt.1 fun c => ?_
  exact Rat.not_le.2 (cmpQ_pos.1 c) h
theorem lenF_le {h : HouseR} {l : List Int} {a b : List MoveR} (hab : ∀ m ∈ a, ∃ n ∈ b, moveQ h l m ≤ moveQ h l n) : lenF h l a ≤ lenF h l b := by
  obtain ⟨b1, b2⟩ := lenF_ge h l b 0
  rcases lenF_in h l a 0 with e | ⟨m, hm, e⟩
  · rw [lenF, e]; exact b1
  · obtain ⟨n, hn, hle⟩ := hab m hm
    rw [lenF, e]
    exact Rat.le_trans hle (b2 n hn)
/-- The same cue with other moves. -/
def CueR.withMoves (q : CueR) (ms : List MoveR) : CueR := { q with moves := ms }
theorem given_fast {h : HouseR} {l : List Int} {q : CueR} (g : GivenOk h l q) {more : Int} (h0 : 0 ≤ more) : GivenOk h l (q.withMoves (q.moves.map (faster more))) := by
  refine ⟨g.house, ?_, g.len, g.trims⟩
  obtain ⟨a1, a2, a3, a4, a5, a6, a7⟩ := g.right
  refine ⟨a1, a2, a3, a4, a5, fun m hm => ?_, ?_⟩
  · obtain ⟨n, hn, rfl⟩ := List.mem_map.1 hm
    obtain ⟨b1, s, b2, b3, b4, b5⟩ := a6 n hn
    exact ⟨faster_ok h0 b1, s, b2, b3, b4, b5⟩
  · show ((q.moves.map (faster more)).map MoveR.set).Nodup
    rw [List.map_map]
    exact a7
theorem given_less {h : HouseR} {l : List Int} {q : CueR} (g : GivenOk h l q) (i : Nat) : GivenOk h l (q.withMoves (q.moves.eraseIdx i)) := by
  refine ⟨g.house, ?_, g.len, g.trims⟩
  obtain ⟨a1, a2, a3, a4, a5, a6, a7⟩ := g.right
  refine ⟨a1, a2, a3, a4, a5, fun m hm => a6 m (List.mem_of_mem_eraseIdx hm), ?_⟩
  exact ((List.eraseIdx_sublist q.moves i).map MoveR.set).nodup a7
theorem len_fast {h : HouseR} {l : List Int} {q : CueR} (g : GivenOk h l q) {more : Int} (h0 : 0 ≤ more) : cmpQ (lenF h l (q.moves.map (faster more))) (lenF h l q.moves) ≤ 0 := by
  refine cmpQ_le (lenF_le fun m hm => ?_)
  obtain ⟨n, hn, rfl⟩ := List.mem_map.1 hm
  exact ⟨n, hn, time_faster (d := distI h l n) h0 (g.move hn).1 (distI_range g hn)⟩
theorem len_less (h : HouseR) (l : List Int) (q : CueR) (i : Nat) : cmpQ (lenF h l (q.moves.eraseIdx i)) (lenF h l q.moves) ≤ 0 :=
  cmpQ_le (lenF_le fun m hm => ⟨m, List.mem_of_mem_eraseIdx hm, Rat.le_refl⟩)
end Go.Proofs.YtdcdfihidnajmaaGreat
set_option linter.unusedSimpArgs false
namespace Go.Proofs.YtdcdfihidnajmaaGreat
set_option linter.unusedVariables false
open Go.RowKit
/-- The first k moves at greater speeds. -/
def fastK (more : Int) (ms : List MoveR) (k : Nat) : List MoveR := (ms.take k).map (faster more) ++ ms.drop k
theorem fastK_zero (more : Int) (ms : List MoveR) : fastK more ms 0 = ms := by simp [fastK]
theorem fastK_all (more : Int) (ms : List MoveR) : fastK more ms ms.length = ms.map (faster more) := by simp [fastK]
theorem fastK_len (more : Int) (ms : List MoveR) (k : Nat) : (fastK more ms k).length = ms.length := by simp [fastK]; omega
theorem fastK_at {more : Int} {ms : List MoveR} {k : Nat} {x : MoveR} (hx : ms[k]? = some x) : (fastK more ms k)[k]? = some x := by
  have hk := (List.getElem?_eq_some_iff.1 hx).1
  unfold fastK
  rw [List.getElem?_append_right (by simp; omega), List.getElem?_drop, ← hx]
  congr 1
  simp
  omega
theorem fastK_succ {more : Int} {ms : List MoveR} {k : Nat} {x : MoveR} (hx : ms[k]? = some x) : (fastK more ms k).set k (faster more x) = fastK more ms (k + 1) := by
  have hk := (List.getElem?_eq_some_iff.1 hx).1
  unfold fastK
  have hd : ms.drop k = x :: ms.drop (k + 1) := by
    rw [List.drop_eq_getElem_cons hk]
    congr 1
    exact (List.getElem?_eq_some_iff.1 hx).2
  rw [List.set_append_right _ _ (by simp; omega), hd, List.take_add_one, hx]
  simp [Nat.min_eq_left (Nat.le_of_lt hk)]
theorem own_moves' {l : List MoveR} {n : Nat} (h : l.length = n) : OwnRows (cellsM l) 0 n 5 (l.map MoveR.row) := by subst h; exact own_moves l
set_option maxHeartbeats 32000000 in
theorem law_cueFaster (h : HouseR) (l : List Int) (q : CueR) (kk more : Int) (hf : h.fits) (hq : q.moves.length ≤ 140737488355328) (hl : l.length ≤ 9223372036854775807) (hk8 : 0 ≤ kk ∧ kk ≤ 255) (hm16 : 0 ≤ more ∧ more ≤ 65535) : Fn0 Tryz.prog 6 [rowA h.row, .sl (l.map intRow), rowA q.row, .val (.int .u8 kk), .val (.int .u16 more)] (.b true) := by
  have hle : (l.map intRow).length = l.length := List.length_map _
  have hle2 : (q.moves.map MoveR.row).length = q.moves.length := List.length_map _
  have hq' : q.moves.length ≤ 9223372036854775807 := by omega
  have co := law_lone q
  have cl := law_long h (loneOf q) hf (lone_fits hq)
  have rg := r36_given h l q hf hq' hl
  by_cases g0 : givenE h l q = 0 ∧ q.moves ≠ [] ∧ ¬ (¬ smallH h 8 ∨ ¬ smallC (loneOf q) 8)
  · obtain ⟨g0, hne, hlong⟩ := g0
    have g := givenOk_of g0
    have h8 : q.moves.length ≤ 8 := by
      have hs : smallC (loneOf q) 8 := Classical.byContradiction fun hh => hlong (.inr hh)
      have := (hs.2.2.1 q (by simp [loneOf])).1
      omega
    have hlen0 : ¬ ((q.moves.map MoveR.row).length : Int) = 0 := by
      rw [hle2]
      intro e
      exact hne (List.eq_nil_of_length_eq_zero (by omega))
    have hmn : ¬ q.moves.map MoveR.row = [] := fun e => hne (List.map_eq_nil_iff.1 e)
    have c1 := cue_length_ok h l q hf hq' hl g0
    have gf := given_fast g (more := more) hm16.1
    have c2 := cue_length_ok h l (q.withMoves (q.moves.map (faster more))) hf (by simp only [CueR.withMoves, List.length_map]; omega) hl (givenE_of gf)
    have hiz : 0 ≤ kk % ((q.moves.map MoveR.row).length : Nat) ∧ kk % ((q.moves.map MoveR.row).length : Nat) < ((q.moves.map MoveR.row).length : Nat) := ⟨Int.emod_nonneg _ (by omega), Int.emod_lt_of_pos _ (by omega)⟩
    have hiz' : 0 ≤ kk % (q.moves.length : Nat) ∧ kk % (q.moves.length : Nat) < (q.moves.length : Nat) := by rw [← hle2]; exact hiz
    have gl := given_less g (kk % ((q.moves.map MoveR.row).length : Nat)).toNat
    have hel : (q.moves.eraseIdx (kk % ((q.moves.map MoveR.row).length : Nat)).toNat).length = (q.moves.map MoveR.row).length - 1 := by rw [List.length_eraseIdx]; simp only [List.length_map]; rw [if_pos (by omega)]
    have c3 := cue_length_ok h l (q.withMoves (q.moves.eraseIdx (kk % ((q.moves.map MoveR.row).length : Nat)).toNat)) hf (by simp only [CueR.withMoves]; omega) hl (givenE_of gl)
    have hcut : (cellsM q.moves).take ((kk % ((q.moves.map MoveR.row).length : Nat)).toNat * 5) ++ (cellsM q.moves).drop ((kk % ((q.moves.map MoveR.row).length : Nat)).toNat * 5 + 5) = cellsM (q.moves.eraseIdx (kk % ((q.moves.map MoveR.row).length : Nat)).toNat) := cellsM_cut _ _ (by omega)
    have l2 := len_fast g (more := more) hm16.1
    have l3 := len_less h l q (kk % ((q.moves.map MoveR.row).length : Nat)).toNat
    have f1 := fits_len g (ms := q.moves) fun m hm => hm
    have f2 := fits_len gf (ms := q.moves.map (faster more)) fun m hm => hm
    have f3 := fits_len gl (ms := q.moves.eraseIdx (kk % ((q.moves.map MoveR.row).length : Nat)).toNat) fun m hm => hm
    have d2 := r02_cmp _ _ f2 f1
    have d3 := r02_cmp _ _ f3 f1
    have z0 : (0 : Int) = 0 := rfl
    rw [g0] at rg
    refine Fn0.of Tryz.func6 Tryz.ntmps6 rfl rfl rfl ?_
    simp only [entryTm]
    repeat' (first
      | (apply S.move; exact rfl; exact rfl)
      | (apply S.assign; exact rfl; exact rfl)
      | (apply S.gC; exact rfl; exact rfl; exact rfl)
      | (apply S.gCN; exact rfl; exact rfl; exact rfl; exact rfl)
      | (apply S.gFF; exact rfl; exact rfl; assumption)
      | (apply S.gFT; exact rfl; exact rfl; assumption; exact rfl)
      | (apply S.fieldP; exact rfl; exact rfl; exact rfl)
      | (apply S.loadP; exact rfl; exact rfl; exact rfl; exact rfl)
      | (apply S.pC; exact rfl; exact rfl; exact rfl)
      | (apply S.pCN; exact rfl; exact rfl; exact rfl)
      | (apply S.pTp; exact rfl; assumption; exact rfl; exact rfl)
      | (apply S.pFp; exact rfl; assumption; exact rfl; exact rfl)
      | (apply T.drawAll anyOrder (by decide +kernel))
      | (apply S.call; exact rfl; exact rfl; exact law_awake; exact rfl)
      | (apply S.call; exact rfl; exact rfl; exact co; exact rfl)
      | (apply S.call; exact rfl; exact rfl; exact cl; exact rfl)
      | (apply S.call; exact rfl; exact rfl; exact rg; exact rfl)
      | (apply S.call; exact rfl; exact rfl; exact c1; exact rfl)
      | (apply S.callOwn 4; exact clone_moves q.moves (by omega); exact rfl; exact rfl; exact rfl; exact rfl; exact rfl; exact rfl; exact moves_row q.moves; exact fun hnil => absurd hnil hmn)
      | (apply S.lenO; exact rfl; exact rfl; exact rfl)
      | (apply S.loadPA; exact rfl; exact rfl; exact rfl; exact rfl)
      | (apply S.box; exact rfl; exact rfl; exact rfl; exact rfl; exact rfl; exact rfl)
      | (apply S.alloc; exact rfl; exact rfl; exact rfl; exact rfl; exact rfl)
      | (apply S.store; exact rfl; exact rfl; exact rfl; exact rfl; exact rfl; exact rfl; exact rfl)
      | (apply S.cmp; exact rfl; exact rfl; exact rfl; exact rfl)
      | (apply S.not; exact rfl; exact rfl; exact rfl)
      | (apply S.extract; exact rfl; exact rfl; exact rfl)
      | (apply S.lenR; exact rfl; exact rfl)
      | (apply S.gsF; exact rfl; exact rfl; exact rfl; intro hc; rotate_left; intro hc; rotate_right)
      | apply S.nil
      | apply T.regs
      | (apply T.cC; exact rfl)
      | (apply T.cCN; exact rfl)
      | (apply T.cF; exact rfl; assumption)
      | apply T.seq
      | (apply T.skip; first | change T _ _ _ _ _ | change Done _ _ _ _ _ | change Next _ _ _ _ _ _ | skip)
      | (apply T.ret; change Done _ _ _ _ _)
      | apply T.block)
    all_goals first
      | exact doneV (by simp) Tryz.results6 rfl rfl
      | skip
    · refine T.loopS (fun k => k ≤ q.moves.length) (fun k => q.moves.length - k) (fun k => [(62, .i k), (61, .i (q.moves.map MoveR.row).length), (1, .sl (l.map intRow)), (3, .val (.int .u8 kk)), (4, .val (.int .u16 more)), (5, .ptr 0 0), (7, .ptr 1 0), (11, .ptr 2 0), (13, .ptr 3 0)]) (fun k => [.live (h.row.map .lf), .live (q.row.map .lf), .live ((frR (lenF h l q.moves)).map .lf), .live [.lf (.s q.name), .lf (.s q.after), .lf (.i q.link), .lf (.i q.delay), .own 4 0 (q.moves.map MoveR.row).length 5, .lf (.i q.crew), .lf (.i q.power)], .live (cellsM (fastK more q.moves k))]) 0 (Nat.zero_le _) (.cons rfl rfl (.cons rfl rfl (.cons rfl rfl (.cons rfl rfl (.cons rfl rfl (.cons rfl rfl (.cons rfl rfl (.cons rfl rfl (.cons rfl rfl .nil))))))))) (.live rfl (.live rfl (.live rfl (.live rfl (.live (under_moves _ _) .nil))))) ?_
      intro k hk
      by_cases hlt : k < q.moves.length
      · have h1 : (k : Int) < ((q.moves.map MoveR.row).length : Nat) := by omega
        obtain ⟨x, hx⟩ := get_at hlt
        have hmem : x ∈ q.moves := List.mem_of_getElem? hx
        obtain ⟨⟨_, _, sp, _, _⟩, _⟩ := g.move hmem
        have hfx := fastK_at (more := more) hx
        have hcell : (cellsM (fastK more q.moves k))[0 + ((k : Nat) : Int).toNat * 5 + 2]? = some (.i x.speed) := by
          rw [Nat.zero_add]; exact cellsM_at _ _ _ hfx
        have hclen : (cellsM (fastK more q.moves k)).length = q.moves.length * 5 := by rw [cellsM_len, fastK_len]
        have hwr : IntKind.i64.wrap more = more := by rw [IntKind.wrap_i64]; omega
        repeat' (first
          | (apply S.move; exact rfl; exact rfl)
          | (apply S.assign; exact rfl; exact rfl)
          | (apply S.fieldP; exact rfl; exact rfl; exact rfl)
          | (apply S.loadP; exact rfl; exact rfl; exact rfl; exact rfl)
          | (apply T.drawR 15 anyOrder (by decide +kernel); simp only [List.take_succ_cons, List.take_zero, List.drop_succ_cons, List.drop_zero])
          | (apply S.indexO; exact rfl; exact rfl; exact rfl; exact rfl; omega; exact rfl)
          | (apply S.loadP; exact rfl; exact rfl; exact hcell; exact rfl)
          | (apply S.conv; exact rfl; exact hwr; exact rfl)
          | (apply S.min2; exact rfl; exact rfl; exact rfl)
          | (apply S.storeW; exact rfl; exact rfl; exact rfl; exact rfl; exact rfl; exact rfl; (rw [hclen]; simp only [Int.toNat_natCast]; omega))
          | (apply S.arith; exact rfl; exact rfl; exact rfl; exact rfl; omega)
          | (apply S.cmp; exact rfl; exact rfl; exact rfl; exact rfl)
          | apply S.nil
          | apply T.regs
          | apply T.reg
          | (apply T.cT; exact rfl; assumption)
          | apply T.seq
          | (apply T.skip; first | change T _ _ _ _ _ | change Done _ _ _ _ _ | change Next _ _ _ _ _ _ | skip)
          | apply T.block)
        change Next _ _ _ _ _ _
        exact Next.go (k + 1) (by omega) (by omega) (.cons rfl rfl (.cons rfl rfl (.cons rfl rfl (.cons rfl rfl (.cons rfl rfl (.cons rfl rfl (.cons rfl rfl (.cons rfl rfl (.cons rfl rfl .nil))))))))) (by
          show CovH _ _ [_, _, _, _, .live (cellsM (fastK more q.moves (k + 1)))]
          have hset := cellsM_set (fastK more q.moves k) k x (min 8192 (x.speed + more)) hfx
          rw [show (fastK more q.moves k).set k { x with speed := min 8192 (x.speed + more) } = fastK more q.moves (k + 1) from fastK_succ hx] at hset
          have hu := under_moves 5 (fastK more q.moves (k + 1))
          rw [← hset, show k * 5 + 2 = 0 + k * 5 + 2 by omega] at hu ⊢
          exact .live rfl (.live rfl (.live rfl (.live rfl (.live hu .nil)))))
      · have h1 : ¬ (k : Int) < ((q.moves.map MoveR.row).length : Nat) := by omega
        have hke : k = q.moves.length := by omega
        have hwk : IntKind.i64.wrap kk = kk := by rw [IntKind.wrap_i64]; omega
        have ho2 : OwnRows (cellsM (fastK more q.moves k)) 0 (q.moves.map MoveR.row).length 5 ((q.moves.map (faster more)).map MoveR.row) := by
          rw [hke, fastK_all]
          exact own_moves' (by simp)
        have ho3 : OwnRows (cellsM (q.moves.eraseIdx (kk % ((q.moves.map MoveR.row).length : Nat)).toNat)) 0 ((q.moves.map MoveR.row).length - 1) 5 ((q.moves.eraseIdx (kk % ((q.moves.map MoveR.row).length : Nat)).toNat).map MoveR.row) := own_moves' hel
        repeat' (first
          | (apply S.move; exact rfl; exact rfl)
          | (apply S.assign; exact rfl; exact rfl)
          | (apply S.gC; exact rfl; exact rfl; exact rfl)
          | (apply S.gTT; exact rfl; exact rfl; assumption)
          | (apply S.fieldP; exact rfl; exact rfl; exact rfl)
          | (apply S.loadP; exact rfl; exact rfl; exact rfl; exact rfl)
          | (apply S.pC; exact rfl; exact rfl; exact rfl)
          | (apply S.pTp; exact rfl; assumption; exact rfl; exact rfl)
          | (apply S.callV; exact rfl; exact c2; exact .cons (.agg (outL_refl h.row)) (.cons (.one (.lf _)) (.cons (.agg (.cons (.lf _) (.cons (.lf _) (.cons (.lf _) (.cons (.lf _) (.cons (.own rfl ho2) (.cons (.lf _) (.cons (.lf _) .nil)))))))) .nil)); exact rfl; exact rfl)
          | (apply S.callV; exact rfl; exact c3; exact .cons (.agg (outL_refl h.row)) (.cons (.one (.lf _)) (.cons (.agg (.cons (.lf _) (.cons (.lf _) (.cons (.lf _) (.cons (.lf _) (.cons (.own rfl ho3) (.cons (.lf _) (.cons (.lf _) .nil)))))))) .nil)); exact rfl; exact rfl)
          | (apply S.callOwn 7; exact clone_moves q.moves (by omega); exact rfl; exact rfl; exact rfl; exact rfl; exact AH.clear_live rfl (AH.clear_live rfl (AH.clear_live rfl (AH.clear_live rfl (AH.clear_live (clear_lf _ _) (AH.clear_live rfl (AH.clear_live rfl AH.clear_nil)))))); exact rfl; exact moves_row q.moves; exact fun hnil => absurd hnil hmn)
          | (apply S.conv; exact rfl; exact hwk; exact rfl)
          | (apply S.rem; exact rfl; exact rfl; exact rfl; omega)
          | (apply S.callDel del_moves; exact rfl; exact rfl; exact rfl; exact rfl; exact rfl; exact AH.clear_live rfl (AH.clear_live rfl (AH.clear_live rfl (AH.clear_live rfl (AH.clear_live (clear_lf _ _) (AH.clear_live rfl (AH.clear_live rfl (AH.clear_live (clear_lf _ _) AH.clear_nil))))))); exact clear_lf _ _; exact one_moves _; exact rfl; (rw [cellsM_len, hle2]); exact hiz; omega; exact hcut)
          | (apply S.call; exact rfl; exact rfl; exact d2; exact rfl)
          | (apply S.call; exact rfl; exact rfl; exact d3; exact rfl)
          | (apply S.arith; exact rfl; exact rfl; exact rfl; exact rfl; omega)
          | (apply S.loadPA; exact rfl; exact rfl; exact rfl; exact rfl)
          | (apply S.alloc; exact rfl; exact rfl; exact rfl; exact rfl; exact rfl)
          | (apply S.store; exact rfl; exact rfl; exact rfl; exact rfl; exact rfl; exact rfl; exact rfl)
          | (apply S.cmp; exact rfl; exact rfl; exact rfl; exact rfl)
          | (apply S.extract; exact rfl; exact rfl; exact rfl)
          | (apply S.lenR; exact rfl; exact rfl)
          | apply S.nil
          | apply T.regs
          | (apply T.cF; exact rfl; assumption)
          | apply T.seq
          | (apply T.ret; change Done _ _ _ _ _)
          | (apply T.exit; first | change T _ _ _ _ _ | change Done _ _ _ _ _ | change Next _ _ _ _ _ _ | skip))
        all_goals exact doneV (by simp) Tryz.results6 rfl (congrArg Value.bool (decide_eq_true l3))
  · by_cases hlong : ¬ smallH h 8 ∨ ¬ smallC (loneOf q) 8
    · skip
      refine Fn0.of Tryz.func6 Tryz.ntmps6 rfl rfl rfl ?_
      simp only [entryTm]
      repeat' (first
        | (apply S.move; exact rfl; exact rfl)
        | (apply S.assign; exact rfl; exact rfl)
        | (apply S.gCN; exact rfl; exact rfl; exact rfl; exact rfl)
        | (apply S.gFT; exact rfl; exact rfl; assumption; exact rfl)
        | (apply S.pC; exact rfl; exact rfl; exact rfl)
        | (apply S.pTp; exact rfl; assumption; exact rfl; exact rfl)
        | (apply T.drawAll anyOrder (by decide +kernel))
        | (apply S.call; exact rfl; exact rfl; exact law_awake; exact rfl)
        | (apply S.call; exact rfl; exact rfl; exact co; exact rfl)
        | (apply S.call; exact rfl; exact rfl; exact cl; exact rfl)
        | (apply S.loadPA; exact rfl; exact rfl; exact rfl; exact rfl)
        | (apply S.box; exact rfl; exact rfl; exact rfl; exact rfl; exact rfl; exact rfl)
        | (apply S.not; exact rfl; exact rfl; exact rfl)
        | apply S.nil
        | apply T.regs
        | (apply T.cC; exact rfl)
        | (apply T.cCN; exact rfl)
        | apply T.seq
        | (apply T.skip; first | change T _ _ _ _ _ | change Done _ _ _ _ _ | change Next _ _ _ _ _ _ | skip)
        | (apply T.ret; change Done _ _ _ _ _))
      all_goals exact doneV (by simp) Tryz.results6 rfl (by simp [*])
    · by_cases g1 : givenE h l q = 0
      · have hm : q.moves = [] := Classical.byContradiction fun hn => g0 ⟨g1, hn, hlong⟩
        have hm0 : ((q.moves.map MoveR.row).length : Int) = 0 := by rw [hm]; rfl
        have z0 : (0 : Int) = 0 := rfl
        rw [g1] at rg
        refine Fn0.of Tryz.func6 Tryz.ntmps6 rfl rfl rfl ?_
        simp only [entryTm]
        repeat' (first
          | (apply S.move; exact rfl; exact rfl)
          | (apply S.assign; exact rfl; exact rfl)
          | (apply S.gC; exact rfl; exact rfl; exact rfl)
          | (apply S.gCN; exact rfl; exact rfl; exact rfl; exact rfl)
          | (apply S.gFF; exact rfl; exact rfl; assumption)
          | (apply S.gFT; exact rfl; exact rfl; assumption; exact rfl)
          | (apply S.fieldP; exact rfl; exact rfl; exact rfl)
          | (apply S.loadP; exact rfl; exact rfl; exact rfl; exact rfl)
          | (apply S.pC; exact rfl; exact rfl; exact rfl)
          | (apply S.pCN; exact rfl; exact rfl; exact rfl)
          | (apply S.pTp; exact rfl; assumption; exact rfl; exact rfl)
          | (apply S.pFp; exact rfl; assumption; exact rfl; exact rfl)
          | (apply T.drawAll anyOrder (by decide +kernel))
          | (apply S.call; exact rfl; exact rfl; exact law_awake; exact rfl)
          | (apply S.call; exact rfl; exact rfl; exact co; exact rfl)
          | (apply S.call; exact rfl; exact rfl; exact cl; exact rfl)
          | (apply S.call; exact rfl; exact rfl; exact rg; exact rfl)
          | (apply S.loadPA; exact rfl; exact rfl; exact rfl; exact rfl)
          | (apply S.box; exact rfl; exact rfl; exact rfl; exact rfl; exact rfl; exact rfl)
          | (apply S.cmp; exact rfl; exact rfl; exact rfl; exact rfl)
          | (apply S.not; exact rfl; exact rfl; exact rfl)
          | (apply S.lenR; exact rfl; exact rfl)
          | (apply S.gsF; exact rfl; exact rfl; exact rfl; intro hc; rotate_left; intro hc; rotate_right)
          | apply S.nil
          | apply T.regs
          | (apply T.cC; exact rfl)
          | (apply T.cCN; exact rfl)
          | (apply T.cT; exact rfl; assumption)
          | apply T.seq
          | (apply T.skip; first | change T _ _ _ _ _ | change Done _ _ _ _ _ | change Next _ _ _ _ _ _ | skip)
          | (apply T.ret; change Done _ _ _ _ _))
        all_goals exact doneV (by simp) Tryz.results6 rfl (by simp [*])
      · skip
        refine Fn0.of Tryz.func6 Tryz.ntmps6 rfl rfl rfl ?_
        simp only [entryTm]
        repeat' (first
          | (apply S.move; exact rfl; exact rfl)
          | (apply S.assign; exact rfl; exact rfl)
          | (apply S.gCN; exact rfl; exact rfl; exact rfl; exact rfl)
          | (apply S.gFF; exact rfl; exact rfl; assumption)
          | (apply S.gFT; exact rfl; exact rfl; assumption; exact rfl)
          | (apply S.pC; exact rfl; exact rfl; exact rfl)
          | (apply S.pTp; exact rfl; assumption; exact rfl; exact rfl)
          | (apply S.pFp; exact rfl; assumption; exact rfl; exact rfl)
          | (apply T.drawAll anyOrder (by decide +kernel))
          | (apply S.call; exact rfl; exact rfl; exact law_awake; exact rfl)
          | (apply S.call; exact rfl; exact rfl; exact co; exact rfl)
          | (apply S.call; exact rfl; exact rfl; exact cl; exact rfl)
          | (apply S.call; exact rfl; exact rfl; exact rg; exact rfl)
          | (apply S.loadPA; exact rfl; exact rfl; exact rfl; exact rfl)
          | (apply S.box; exact rfl; exact rfl; exact rfl; exact rfl; exact rfl; exact rfl)
          | (apply S.cmp; exact rfl; exact rfl; exact rfl; exact rfl)
          | (apply S.not; exact rfl; exact rfl; exact rfl)
          | (apply S.lenR; exact rfl; exact rfl)
          | (apply S.gsF; exact rfl; exact rfl; exact rfl; intro hc; rotate_left; intro hc; rotate_right)
          | apply S.nil
          | apply T.regs
          | (apply T.cC; exact rfl)
          | (apply T.cCN; exact rfl)
          | apply T.seq
          | (apply T.skip; first | change T _ _ _ _ _ | change Done _ _ _ _ _ | change Next _ _ _ _ _ _ | skip)
          | (apply T.ret; change Done _ _ _ _ _))
        all_goals exact doneV (by simp) Tryz.results6 rfl (by simp [*])
end Go.Proofs.YtdcdfihidnajmaaGreat
