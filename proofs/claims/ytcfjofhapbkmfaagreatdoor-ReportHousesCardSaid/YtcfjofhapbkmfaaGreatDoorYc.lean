/- Contracts: a strings.Builder that is the first field of a struct: copyCheck, WriteString, String. Conditions: those of each statement (bounds on lengths). -/
import Derived.Test.YtcfjofhapbkmfaaGreatDoorXb
import Derived.Test.YtcfjofhapbkmfaaGreatDoorMc
import Derived.Shelf.Strings.BuilderF
import Derived.Test.YtcfjofhapbkmfaaGreatDoorYa
import Derived.Test.YtcfjofhapbkmfaaGreatDoorPa
import Derived.Test.YtcfjofhapbkmfaaGreatDoorXa
import Derived.Test.YtcfjofhapbkmfaaGreatDoorQb
set_option linter.unusedSimpArgs false
set_option linter.unusedVariables false
namespace Go.Proofs.YtcfjofhapbkmfaaGreatDoor
open Go Go.RowKit
set_option maxHeartbeats 2000000 in
set_option maxRecDepth 100000 in
theorem Z8 {T : TypeId} {n : Nat} (hlT : liesAt Tryz.prog Tryz.prog.depth T (n / Tryz.prog.cellsOf T) 0 78 1 = true) (hn : 0 < n) (b : Nat) (w : World) (h0 : w.cell? ⟨b, 0, none⟩ = some (.pointer none)) (hsh : w.shape? b = some (T, n)) (hfz : w.frozen? ⟨b, 0, none⟩ = false) :
  Calls Tryz.prog 117 #[.pointer (some ⟨b, 0, none⟩)] w fun e w' => e = .returned (.tuple #[]) /\ w' = w.setCell ⟨b, 0, none⟩ (.pointer (some ⟨b, 0, none⟩)) := by
 obtain ⟨j, hj, hjs⟩ := Option.map_eq_some_iff.1 Oz
 have u66 := run_underlying (P := Tryz.prog) Tryz.underlying78
 have u63 := run_underlying (P := Tryz.prog) Tryz.underlying75
 go_enter Tryz.func117, Tryz.ntmps117
 go_wp2
 rw [Lib.run_to_unsafe w ⟨b, 0, none⟩ Tryz.underlying75 Ma hj (by rw [hjs];decide) hsh hn]
 simp only [Result.andThen]
 rw [Oper.upon_value]
 go_wp2
 rw [run_callFunc_extern A1e (by kernel_rfl) (by kernel_rfl) (by kernel_rfl) (e := Extern.AbiNoEscape.same) (by kernel_rfl)]
 rw [Lib.run_noEscape]
 simp only [Result.andThen]
 rw [Oper.upon_value]
 go_wp2
 rw [Lib.run_from_unsafe w ⟨b, 0, none⟩ Ma Tryz.underlying75 hj hsh hlT]
 simp only [Result.andThen]
 rw [Oper.upon_value]
 go_wp2
 go_end0
 exact ⟨rfl, rfl⟩
set_option maxHeartbeats 4000000 in
set_option maxRecDepth 100000 in
theorem A00 {T : TypeId} {tl : Array Value} (hT : E9 T = tl) (hlT : liesAt Tryz.prog Tryz.prog.depth T ((#[Value.nilIface, Value.nilIface] ++ tl).size / Tryz.prog.cellsOf T) 0 78 1 = true) {k : Nat} {p v : Value} {s : List Value} {w : World} (str : ByteArray) (hB : BAt w T 5 k p v s) (hlen : s.length + str.size <= 140737488355328) :
  Calls Tryz.prog 67 #[.pointer (some ⟨k, 0, none⟩), .string str] w fun e w' => e = .returned (.tuple #[.int .i64 str.size, .nilIface]) /\
   (∃ v', BAt w' T 5 k (.pointer (some ⟨k, 0, none⟩)) v' (s ++ Lib.strCells str) /\ ∀ g, v'.ownBlock = some g -> v.ownBlock = some g \/ w.heap.size <= g) /\
   (∀ j, j < w.heap.size -> j ≠ k -> v.ownBlock ≠ some j -> w'.heap[j]? = w.heap[j]?) /\ w'.os = w.os /\ w'.tape = w.tape /\ w'.output = w.output /\ w.heap.size <= w'.heap.size /\ ∀ j x, w.shape? j = some x -> w'.shape? j = some x := by
 obtain ⟨i0, hi, hz0, hz1, hz2⟩ := info_parts Ue
 obtain ⟨hbk, hp, hown, hne⟩ := hB
 rw [hT] at hbk
 have hsz2 : ∀ a b : Value, (#[a, b] ++ tl).size = (#[Value.nilIface, Value.nilIface] ++ tl).size := fun a b => by simp
 have g0 : ∀ a b : Value, (#[a, b] ++ tl)[0]? = some a := fun a b => by rw [Array.getElem?_append_left (Nat.zero_lt_succ 1)];rfl
 have g1 : ∀ a b : Value, (#[a, b] ++ tl)[1]? = some b := fun a b => by rw [Array.getElem?_append_left (Nat.lt_succ_self 1)];rfl
 have gs0 : ∀ a b c : Value, (#[a, b] ++ tl).setIfInBounds 0 c = #[c, b] ++ tl := fun a b c => by apply Array.ext';rw [Array.toList_setIfInBounds, Array.toList_append, Array.toList_append];rfl
 have gs1 : ∀ a b c : Value, (#[a, b] ++ tl).setIfInBounds 1 c = #[a, c] ++ tl := fun a b c => by apply Array.ext';rw [Array.toList_setIfInBounds, Array.toList_append, Array.toList_append];rfl
 have hcc : Calls Tryz.prog 117 #[.pointer (some ⟨k, 0, none⟩)] w fun e w1 => e = .returned (.tuple #[]) /\ w1.heap[k]? = some (.cells (#[.pointer (some ⟨k, 0, none⟩), v] ++ tl) T (0, 0)) /\ (∀ j, j ≠ k -> w1.heap[j]? = w.heap[j]?) /\ w1.os = w.os /\ w1.tape = w.tape /\ w1.output = w.output /\ w1.heap.size = w.heap.size /\ ∀ j, w1.shape? j = w.shape? j := by
  rcases hp with rfl | rfl
  ·refine (Z8 (T := T) hlT (by simp only [Array.size_append, List.size_toArray, List.length_cons, List.length_nil];omega) k w (by rw [Lib.cell_of_heap hbk];exact g0 _ _) (by unfold World.shape?;rw [hbk];simp) (Lib.frozen_of_heap hbk 0)).mono ?_
   rintro e w1 ⟨rfl, rfl⟩
   refine ⟨rfl, ?_, fun j hj => Below.heap_setCell w _ _ j hj, rfl, rfl, rfl, by simp [World.setCell], fun j => Cd _ _ _ j⟩
   rw [heap_setCell w k 0 _ _ _ _ hbk, gs0]
  ·refine (Mi k w (by rw [Lib.cell_of_heap hbk];exact g0 _ _)).mono ?_
   rintro e w1 ⟨rfl, rfl⟩
   exact ⟨rfl, hbk, fun _ _ => rfl, rfl, rfl, rfl, rfl, fun _ => rfl⟩
 have hkl : k < w.heap.size := Bm hbk
 go_enter Tryz.func67, Tryz.ntmps67
 go_wp2_with (go_at_call 117;(with_reducible refine hcc.mono ?_))
 rintro e w1 ⟨rfl, h1, h2, h3, h4, h5, h6, h7⟩
 have hown1 : w1.ownsRowF 0 5 1 v s.length s := by
  refine ⟨hown.1, ?_⟩
  rcases hown.2 with hh | ⟨g, cap, cur, fz, e1, e2, e3, e4⟩
  ·exact .inl hh
  ·exact .inr ⟨g, cap, cur, fz, e1, e2, by rw [h2 g (fun e => hne (by rw [e1, e];rfl))];exact e3, e4⟩
 have c0 : w1.cell? ⟨k, 0, none⟩ = some (.pointer (some ⟨k, 0, none⟩)) := by rw [Lib.cell_of_heap h1];exact g0 _ _
 have c1 : w1.cell? ⟨k, 1, none⟩ = some v := by rw [Lib.cell_of_heap h1];exact g1 _ _
 go_wp2_with (at_builtin;refine Jb rfl _ _ 76 9 rfl Tryz.underlying76 Tryz.underlying9 hi hz0 hz1 hz2 rfl hown1 (s := str) rfl hlen ?_)
 intro v' w2 hown2 hgr hfresh hshp0
 have hshp := Lib.hid hshp0
 clear hshp0
 have hb2 : w2.heap[k]? = some (.cells (#[.pointer (some ⟨k, 0, none⟩), v] ++ tl) T (0, 0)) := by
  rw [hgr.block k (by omega) (fun e => hne e.symm)]
  exact h1
 have d0 : w2.cell? ⟨k, 0, none⟩ = some (.pointer (some ⟨k, 0, none⟩)) := by rw [Lib.cell_of_heap hb2];exact g0 _ _
 have d1 : w2.cell? ⟨k, 1, none⟩ = some v := by rw [Lib.cell_of_heap hb2];first | exact g0 _ _ | exact g1 _ _
 have f1 : w2.frozen? ⟨k, 1, none⟩ = false := Lib.frozen_of_heap hb2 1
 obtain ⟨ao, n', cap, rfl⟩ : ∃ ao n' cap, v' = .slice ao n' cap := by
  rcases hown2.2 with ⟨hv, _⟩ | ⟨g, cap, cur, fz, hv, _⟩
  ·exact ⟨_, _, _, hv⟩
  ·exact ⟨_, _, _, hv⟩
 have hnk : (Value.slice ao n' cap).ownBlock ≠ some k := fun e => by
  rcases hfresh k e with hh | hh
  ·exact hne hh
  ·omega
 have hfresh' : ∀ g, (Value.slice ao n' cap).ownBlock = some g -> v.ownBlock = some g \/ w.heap.size <= g := fun g hg => (hfresh g hg).imp id (by omega)
 have hgs := hgr.size
 have hgb := hgr.block
 have hgo := hgr.os
 have hgt := hgr.tape
 have hgp := hgr.output
 go_wp2
 go_ret2
 refine ⟨rfl, ⟨_, ⟨?_, .inr rfl, ?_, hnk⟩, hfresh'⟩, fun j hj hjk hjv => ?_, ?_, ?_, ?_, ?_, fun j x hx => ?_⟩
 ·rw [hT, heap_setCell _ k 1 _ _ _ _ hb2, gs1]
 ·have hl : (s ++ Lib.strCells str).length = s.length + str.size := by rw [List.length_append, Lib.strCells_length]
  rw [hl]
  refine ⟨hown2.1, ?_⟩
  rcases hown2.2 with hh | ⟨g, cap', cur, fz, e1, e2, e3, e4⟩
  ·exact .inl hh
  ·exact .inr ⟨g, cap', cur, fz, e1, e2, by rw [Below.heap_setCell _ _ _ g (fun e => hnk (by rw [e1, e];rfl))];exact e3, e4⟩
 ·rw [Below.heap_setCell _ _ _ j hjk, hgb j (by omega) (fun e => hjv e.symm), h2 j hjk]
 ·exact hgo.trans h3
 ·exact hgt.trans h4
 ·exact hgp.trans h5
 ·simp [World.setCell];omega
 ·rw [Cd]
  obtain ⟨x1, x2⟩ := x
  exact hshp.out j x1 x2 hx
theorem Gi {T : TypeId} {tl : Array Value} {k : Nat} {p v : Value} {w : World} (hbk : w.heap[k]? = some (.cells (#[p, v] ++ tl) T (0, 0))) : w.cell? ⟨k, 1, none⟩ = some v := by
 rw [Lib.cell_of_heap hbk]
 rw [Array.getElem?_append_left (Nat.lt_succ_self 1)];rfl
set_option maxHeartbeats 2000000 in
set_option maxRecDepth 100000 in
theorem Wq {T : TypeId} {tl : Array Value} (l : List UInt8) (h0 : l ≠ []) {k B : Nat} {p v : Value} {w : World} (hbk : w.heap[k]? = some (.cells (#[p, v] ++ tl) T (0, 0))) (hown : w.ownsRowF B 5 1 v l.length (Lib.byteCells l)) :
  Calls Tryz.prog 72 #[.pointer (some ⟨k, 0, none⟩)] w fun e w' => e = .returned (.string ⟨l.toArray⟩) /\ Below B w w' := by
 have hl0 : l.length ≠ 0 := by simpa using h0
 obtain ⟨g, cap, cur, fz, rfl, hbg, hg, hfz, hnc, hcm, hcs, htake⟩ : ∃ g cap cur fz, v = .slice (some ⟨g, 0, none⟩) l.length cap /\ B <= g /\ w.heap[g]? = some (.cells cur 5 fz) /\ fz.2 <= l.length * 1 /\ l.length <= cap /\ cap <= maxLen /\ cur.size = cap * 1 /\ cur.toList.take (l.length * 1) = Lib.byteCells l := by
  rcases hown.2 with ⟨_, hz⟩ | ⟨g, cap, cur, fz, hv, r⟩
  ·exact absurd hz hl0
  ·exact ⟨g, cap, cur, fz, hv, r⟩
 have c1 : w.drew.cell? ⟨k, 1, none⟩ = some (.slice (some ⟨g, 0, none⟩) l.length cap) := Gi (w := w.drew) hbk
 have hSD : (Builtin.unsafeSliceData_ #[76] 176 #[.slice (some ⟨g, 0, none⟩) l.length cap]).run Tryz.prog w.drew = .ok (.pointer (some ⟨g, 0, none⟩)) w.drew :=
  Lib.run_unsafeSliceData_row _ _ _ _ _ _ (by omega)
 have hUS : (Builtin.unsafeString_ #[176, 3] 9 #[.pointer (some ⟨g, 0, none⟩), .int .i64 l.length]).run Tryz.prog w.drew = .ok (.string ⟨l.toArray⟩) (w.drew.freeze ⟨g, 0, none⟩ l.length) := by
  refine Lib.run_unsafeString_row w.drew 176 3 9 5 Tryz.underlying176 (by kernel_rfl) g cur.size (by have hg' : w.drew.heap[g]? = some (.cells cur 5 fz) := hg;simp [World.shape?, hg']) l h0 (by omega) (by unfold maxLen at hcm;omega) ?_
  intro j x hx
  have := hown.cells (g := g) rfl j (.int .u8 x.toNat) (by simp [Lib.byteCells, hx])
  exact this
 have uB := run_underlying (P := Tryz.prog) Tryz.underlying78
 have uPB := run_underlying (P := Tryz.prog) Tryz.underlying75
 have mixed := Tryz.lays169.mixed
 go_enter Tryz.func72, Tryz.ntmps72
 go_wp2
 go_region_o
 all_goals (go_wp2;go_ret;exact ⟨rfl, Lib.below_freeze (Below.drew (Below.refl B w)) (p := ⟨g, 0, none⟩) hbg _⟩)
set_option maxHeartbeats 2000000 in
set_option maxRecDepth 100000 in
theorem Wp {T : TypeId} {tl : Array Value} {k B : Nat} {p v : Value} {w : World} (hBw : B <= w.heap.size) (hbk : w.heap[k]? = some (.cells (#[p, v] ++ tl) T (0, 0))) (hown : w.ownsRowF B 5 1 v 0 []) :
  Calls Tryz.prog 72 #[.pointer (some ⟨k, 0, none⟩)] w fun e w' => e = .returned (.string ⟨#[]⟩) /\ Below B w w' := by
 have hUS : ∀ (W : World) (q : Option Addr), (Builtin.unsafeString_ #[176, 3] 9 #[.pointer q, .int .i64 0]).run Tryz.prog W = .ok (.string .empty) W := fun W q => Lib.run_unsafeString_none W _ _ _ q
 have uB := run_underlying (P := Tryz.prog) Tryz.underlying78
 have uPB := run_underlying (P := Tryz.prog) Tryz.underlying75
 have hlt : k < w.heap.size := Bm hbk
 rcases hown.2 with ⟨rfl, _⟩ | ⟨g, cap, cur, fz, rfl, hbg, hg, _, _, _, _, _⟩
 ·have c1 : w.drew.cell? ⟨k, 1, none⟩ = some (.slice none 0 0) := Gi (w := w.drew) hbk
  have hSD : (Builtin.unsafeSliceData_ #[76] 176 #[.slice none 0 0]).run Tryz.prog w.drew = .ok (.pointer none) w.drew := rfl
  have mixed := Tryz.lays169.mixed
  go_enter Tryz.func72, Tryz.ntmps72
  go_wp2
  go_region_o
  all_goals (go_wp2;go_ret;exact ⟨rfl, Below.drew (Below.refl B w)⟩)
 ·by_cases hc0 : cap = 0
  ·subst hc0
   have c1 : w.drew.cell? ⟨k, 1, none⟩ = some (.slice (some ⟨g, 0, none⟩) 0 0) := Gi (w := w.drew) hbk
   have hSD : (Builtin.unsafeSliceData_ #[76] 176 #[.slice (some ⟨g, 0, none⟩) 0 0]).run Tryz.prog w.drew = .ok (.pointer (some ⟨w.drew.heap.size, 0, none⟩)) (w.drew.alloc (.view ⟨g, 0, none⟩ 5)) :=
    Lib.run_unsafeSliceData_zero w.drew _ _ 5 Tryz.underlying176 ⟨g, 0, none⟩ 0 (5, cur.size) (by have hg' : w.drew.heap[g]? = some (.cells cur 5 fz) := hg;simp [World.shape?, hg'])
   have c2 : (w.drew.alloc (.view ⟨g, 0, none⟩ 5)).cell? ⟨k, 1, none⟩ = some (.slice (some ⟨g, 0, none⟩) 0 0) := by
    have : (w.drew.alloc (.view ⟨g, 0, none⟩ 5)).heap[k]? = some (.cells (#[p, .slice (some ⟨g, 0, none⟩) 0 0] ++ tl) T (0, 0)) := (Lib.alloc_old w.drew _ k hlt).trans hbk
    exact Gi this
   have c3 : (w.alloc (.view ⟨g, 0, none⟩ 5)).drew.cell? ⟨k, 1, none⟩ = some (.slice (some ⟨g, 0, none⟩) 0 0) := c2
   have c0 : w.cell? ⟨k, 1, none⟩ = some (.slice (some ⟨g, 0, none⟩) 0 0) := c1
   have mixed := Tryz.lays169.mixed
   go_enter Tryz.func72, Tryz.ntmps72
   go_wp2
   go_region_o
   all_goals (go_wp2;go_ret;exact ⟨rfl, (Below.drew (Below.refl B w)).alloc hBw _⟩)
  ·have c1 : w.drew.cell? ⟨k, 1, none⟩ = some (.slice (some ⟨g, 0, none⟩) 0 cap) := Gi (w := w.drew) hbk
   have hSD : (Builtin.unsafeSliceData_ #[76] 176 #[.slice (some ⟨g, 0, none⟩) 0 cap]).run Tryz.prog w.drew = .ok (.pointer (some ⟨g, 0, none⟩)) w.drew :=
    Lib.run_unsafeSliceData_row _ _ _ _ _ _ hc0
   clear hc0
   have mixed := Tryz.lays169.mixed
   go_enter Tryz.func72, Tryz.ntmps72
   go_wp2
   go_region_o
   all_goals (go_wp2;go_ret;exact ⟨rfl, Below.drew (Below.refl B w)⟩)
theorem Si {T : TypeId} {tl : Array Value} (hT : E9 T = tl) (hlT : liesAt Tryz.prog Tryz.prog.depth T ((#[Value.nilIface, Value.nilIface] ++ tl).size / Tryz.prog.cellsOf T) 0 78 1 = true) (str : ByteArray) (l : List UInt8) (hlen : l.length + str.size <= 140737488355328) : FnBld Tryz.prog T 5 67 [.s str] (Lib.byteCells l) (Lib.byteCells (l ++ str.data.toList)) (.tup [.i str.size, .val .nilIface]) := by
 refine ⟨⟨_, Tryz.func67, rfl, rfl⟩, fun L w k p v vs hG hL hl hv hB => ?_⟩
 match vs, hl with
 | [u], _ =>
  obtain rfl := (hv 0 (.s str) u rfl rfl).val_eq
  refine (A00 hT hlT str hB (by rw [Hw];exact hlen)).mono ?_
  rintro e w' ⟨rfl, ⟨v', hB', hg⟩, h1, h2, h3, h4, h5, h6⟩
  refine ⟨_, rfl, .tup _ [_, _] rfl (fun i x v hx hv => ?_), ⟨.pointer (some ⟨k, 0, none⟩), v', ?_, hg⟩, ⟨h2, h3, h4, h5, fun j hj hn => h1 j hj (fun e => hn (.inl e)) (fun e => hn (.inr e)), h6⟩⟩
  ·match i with
   | 0 => simp at hx hv;subst hx hv;exact A9 _
   | 1 => simp at hx hv;subst hx hv;exact A9 _
   | i + 2 => simp at hx
  ·rw [Jv];exact hB'
theorem Q4 {T : TypeId} (l : List UInt8) : FnRead Tryz.prog T 5 72 (Lib.byteCells l) (.string (ofL l)) := by
 refine ⟨⟨_, Tryz.func72, rfl, rfl⟩, fun w k B hB hs => ?_⟩
 obtain ⟨h0, p, v, h1, h2, h3, h4⟩ := hB
 cases l with
 | nil => exact Wp hs h1 h3
 | cons x r => exact Wq (x :: r) (by simp) h1 (by rw [Hw] at h3;exact h3)
theorem Tt : E9 80 = #[.int .i64 0] := by kernel_rfl
theorem A17 : liesAt Tryz.prog Tryz.prog.depth 80 ((#[Value.nilIface, Value.nilIface] ++ #[Value.int .i64 0]).size / Tryz.prog.cellsOf 80) 0 78 1 = true := by kernel_rfl
instance instUAny : HasU Tryz.prog 20 (.interface (Tryz.prog.methodsAt 20)) := ⟨by kernel_rfl⟩
abbrev Fz (b2 : Nat) (l : List UInt8) : HB := .bld 80 5 b2 (Lib.byteCells l)
section
variable {N : Nat} {ops : Array Oper} {K : Tm -> AH -> Prop} {tm tm' : Tm} {H : AH} {rest : List Oper} {ty : TypeId} {pos : String} {af : Array Edge} {d : Nat} {x y : Operand} {ts : Array TypeId}
theorem S.papN {b : Nat} (hb : H.nextId = some b) (hN : Nat.ble (d + 1) N = true) (h : Reg none Tryz.prog N ops rest ((d, .ptr b 0) :: tm) ((H.put b (Fz (b + 1) [])).put (b + 1) .hid) K) : Reg none Tryz.prog N ops (⟨some d, .alloc 80, ty, pos, af, none⟩ :: rest) tm H K := by
 exact S.allocBT (zs := #[.pointer none, .slice none 0 0, .int .i64 0]) (by rw [Tt];rfl) 5 hb hN h
theorem S.papW {b b2 : Nat} {str : ByteArray} {l : List UInt8} (hx0 : evT tm x = some (.ptr b 0)) (hx1 : evT tm y = some (.val (.string str))) (hb : H.at b = Fz b2 l) (htm : tm.clearO b2 = some tm') (hH : AH.clear b2 0 H = true) (hN : Nat.ble (d + 1) N = true) (hl : l.length + str.size <= 140737488355328)
  (h : Reg none Tryz.prog N ops rest ((d, .tup [.i str.size, .val .nilIface]) :: tm') (H.put b (Fz b2 (l ++ str.data.toList))) K) : Reg none Tryz.prog N ops (⟨some d, .call ⟨.value (.func 67), #[x, y], ts⟩, ty, pos, af, none⟩ :: rest) tm H K := by
 have hev : evs (evT tm) [y] = some [.val (.string str)] := by simp [evs, hx1]
 exact S.callBld (xs := [y]) (Si Tt A17 str l hl) hx0 hev hb (.cons (.one (.lf _)) .nil) rfl htm hH hN h
end
theorem W6 (n : Int) (h0 : -9223372036854775808 <= n) (h1 : n <= 9223372036854775807) (hv : Fn0 Tryz.prog 85 [A6 [.i n, .i 1]] (.b true)) : Fn0 Tryz.prog 68 [A6 [.i n, .i 1]] (.tup [.val (.string (Af n)), .i 0]) := by
 have c1 := Dh n h0 h1
 have c2 : Fn0 Tryz.prog 118 [A6 [.i n, .i 1]] (.val (.string (Af n))) := by
  refine Fn0.of Tryz.func118 Tryz.ntmps118 rfl rfl rfl ?_
  simp only [A0]
  repeat' (first
   | refine W ?_
   | refine Y ?_
   | refine V ?_
   | (refine W2 ?_ ?_ <;> intro hc))
  all_goals exact A7 (by simp) Tryz.results118 rfl rfl
 refine Fn0.of Tryz.func68 Tryz.ntmps68 rfl rfl rfl ?_
 simp only [A0]
 repeat' (first
  | refine W ?_
  | refine Y ?_
  | refine V ?_
  | (refine W2 ?_ ?_ <;> intro hc))
 all_goals exact D2 rfl rfl rfl
set_option maxHeartbeats 2000000 in
theorem Tk (l : List UInt8) : FnRead Tryz.prog 80 5 29 (Lib.byteCells l) (.tuple #[.string (ofL l), .int .i64 0]) := by
 refine ⟨⟨_, Tryz.func29, rfl, rfl⟩, fun w k B hB hs => ?_⟩
 have hS := (Q4 (T := 80) l).run w k B hB hs
 obtain ⟨h0, p, v, h1, h2, h3, h4⟩ := hB
 rw [Tt] at h1
 have c2 : w.cell? ⟨k, 2, none⟩ = some (.int .i64 0) := by rw [Lib.cell_of_heap h1];rfl
 have u1 := run_underlying (P := Tryz.prog) Tryz.underlying80
 have u2 := run_underlying (P := Tryz.prog) Tryz.underlying28
 go_enter Tryz.func29, Tryz.ntmps29
 go_wp2_with (go_at_call 72;(with_reducible refine hS.mono ?_))
 rintro e w' ⟨rfl, hb⟩
 go_wp2
 go_ret2
 exact ⟨rfl, hb⟩
section
variable {N : Nat} {ops : Array Oper} {K : Tm -> AH -> Prop} {tm tm' : Tm} {H : AH} {rest : List Oper} {ty : TypeId} {pos : String} {af : Array Edge} {d : Nat} {x y : Operand} {ts : Array TypeId}
theorem S.papT {b b2 : Nat} {l : List UInt8} (hx : evT tm x = some (.ptr b 0)) (hb : H.at b = Fz b2 l) (hN : Nat.ble (d + 1) N = true) (h : Reg none Tryz.prog N ops rest [(d, .tup [.val (.string (ofL l)), .i 0])] [] K) : Reg none Tryz.prog N ops (⟨some d, .call ⟨.value (.func 29), #[x], ts⟩, ty, pos, af, none⟩ :: rest) tm H K := by
 refine S.endBld (Tk l) hx hb hN ⟨fun E a w ρ hE hR => h.out E a w ρ hE ⟨hR.size, hR.defers, fun t z hz => ?_, hR.H, hR.fr, hR.mine, hR.lim⟩⟩
 rw [Tm.get_cons] at hz
 split at hz
 ·rename_i e
  subst e
  injection hz with hz
  subst hz
  obtain ⟨q1, q2⟩ := hR.tm d (.val (.tuple #[.string (ofL l), .int .i64 0])) (by rw [Tm.get_cons, if_pos rfl])
  refine ⟨q1, ?_⟩
  rw [q2.val_eq]
  refine .tup _ [_, _] rfl fun i x v hx hv => ?_
  match i with
  | 0 => simp at hx hv;subst hx hv;exact A9 _
  | 1 => simp at hx hv;subst hx hv;exact A9 _
  | i + 2 => simp at hx
 ·cases hz
end
end Go.Proofs.YtcfjofhapbkmfaaGreatDoor
