/- Contracts: strings.Cut, strings.Split, strings.HasPrefix, strings.Count of one byte, strconv.Atoi. Conditions: those of each statement (bounds on lengths). -/
import Derived.Test.YtcfjofhapbkmfaaGreatDoorMd
import Derived.Test.YtcfjofhapbkmfaaGreatDoorMc
import Derived.Test.YtcfjofhapbkmfaaGreatDoorXa
import Derived.Test.YtcfjofhapbkmfaaGreatDoorMh
import Derived.Lib.UnsafeStr
import Derived.Test.YtcfjofhapbkmfaaGreatDoorMy
import Derived.Test.YtcfjofhapbkmfaaGreatDoorMn
import Derived.Test.YtcfjofhapbkmfaaGreatDoorPa
import Derived.Test.YtcfjofhapbkmfaaGreatDoorMk
set_option linter.unusedSimpArgs false
set_option linter.unusedVariables false
namespace Go.Proofs.YtcfjofhapbkmfaaGreatDoor
open Go Go.RowKit
theorem M9 : Tryz.prog.globalNamed "internal/bytealg.MaxLen" = some 0 := by kernel_rfl
theorem Ut (s sep : ByteArray) (hs : s.size < 4294967281) : Fn0 Tryz.prog 40 [.s s, .s sep] (.tup [.s ⟨(Lib.cut s.data.toList sep.data.toList).1.toArray⟩, .s ⟨(Lib.cut s.data.toList sep.data.toList).2.1.toArray⟩, .b (Lib.cut s.data.toList sep.data.toList).2.2]) := by
 refine ⟨⟨_, Tryz.func40, rfl, rfl⟩, fun L w vs hG hL hl hv => ?_⟩
 match vs, hl with
 | [u, v], _ =>
  obtain rfl := (hv 0 (.s s) u rfl rfl).val_eq
  obtain rfl := (hv 1 (.s sep) v rfl rfl).val_eq
  obtain ⟨m, hm⟩ := hG.len _ M9
  refine (Tryz.strings_Cut s sep m w hs hm).mono ?_
  rintro e w' ⟨rfl, n, rfl⟩
  refine ⟨_, rfl, .tup _ [_, _, _] rfl (fun i x v hx hv => ?_), ?_⟩
  ·match i with
   | 0 => simp at hx hv;subst hx hv;exact A4 _
   | 1 => simp at hx hv;subst hx hv;exact A4 _
   | 2 => simp at hx hv;subst hx hv;exact A4 _
   | i + 3 => simp at hx
  ·exact ⟨rfl, rfl, rfl, Nat.le_refl _, fun i hi => rfl⟩
def Cs (s sep : ByteArray) : List ByteArray := Lib.splitB sep 0 (Lib.countB s sep) s
theorem Ns (s sep : ByteArray) : (Cs s sep).map (·.data.toList) = Lib.split s.data.toList sep.data.toList := Lib.splitB_data _ _ _ _
theorem Ps (s sep : ByteArray) (h1 : 1 <= sep.size) : (Cs s sep).length = Lib.countB s sep + 1 := Lib.splitB_all sep h1 0 _ s rfl
theorem S5 (s sep : ByteArray) (hs : s.size < 4294967281) (h1 : 1 <= sep.size) : Fn0 Tryz.prog 41 [.s s, .s sep] (.sl ((Cs s sep).map fun x => [.s x])) := by
 refine ⟨⟨_, Tryz.func41, rfl, rfl⟩, fun L w vs hG hL hl hv => ?_⟩
 match vs, hl with
 | [u, v], _ =>
  obtain rfl := (hv 0 (.s s) u rfl rfl).val_eq
  obtain rfl := (hv 1 (.s sep) v rfl rfl).val_eq
  obtain ⟨m, hm⟩ := hG.len _ M9
  refine (Tryz.strings_Split s sep m w hs hm h1).mono ?_
  rintro e w' ⟨rfl, rfl⟩
  have hlen := Ps s sep h1
  have hcell : ∀ (i : Nat) (x : ByteArray), (Cs s sep)[i]? = some x -> (w.alloc (.cells ((Lib.splitB sep 0 (Lib.countB s sep) s).map Value.string).toArray 9)).cell? ⟨w.heap.size, 0 + (i * 1 + 0), none⟩ = some (.string x) := fun i x hx => by
   have h0 : (w.alloc (.cells ((Lib.splitB sep 0 (Lib.countB s sep) s).map Value.string).toArray 9)).heap[w.heap.size]? = some (.cells ((Lib.splitB sep 0 (Lib.countB s sep) s).map Value.string).toArray 9 (0, 0)) := Ap _ _
   refine Av h0 ?_
   rw [List.getElem?_toArray, List.getElem?_map, Nat.zero_add]
   have hx' : (Lib.splitB sep 0 (Lib.countB s sep) s)[i * 1 + 0]? = some x := by simpa [Cs] using hx
   rw [hx'];rfl
  have hb : Below w.heap.size w (w.alloc (.cells ((Lib.splitB sep 0 (Lib.countB s sep) s).map Value.string).toArray 9)) := (Below.refl _ _).alloc (Nat.le_refl _) _
  refine ⟨_, rfl, .lf _ _ ?_, hb⟩
  have hl2 : ((Cs s sep).map fun x => [Lf.s x]).length = Lib.countB s sep + 1 := by rw [List.length_map, hlen]
  rw [<- hl2]
  have hrow : ∀ (i : Nat) (row : List Lf) (j : Nat) (x : Lf), ((Cs s sep).map fun x => [Lf.s x])[i]? = some row -> row[j]? = some x -> ∃ y, (Cs s sep)[i]? = some y /\ j = 0 /\ x = Lf.s y /\ row.length = 1 := fun i row j x hi hj => by
   rw [List.getElem?_map] at hi
   cases hy : (Cs s sep)[i]? with
   | none => rw [hy] at hi;cases hi
   | some y =>
    rw [hy] at hi
    simp only [Option.map_some, Option.some.injEq] at hi
    subst hi
    cases j with
    | zero => simp at hj;exact ⟨y, rfl, rfl, hj.symm, rfl⟩
    | succ j => simp at hj
  refine .sl _ ⟨w.heap.size, 0, none⟩ _ (fun i _ => .string ((Cs s sep).getD i ⟨#[]⟩)) (.inl rfl) (Nat.le_refl _) (fun i row j x hi hj => ?_) (fun i row j x hi hj => ?_)
  ·obtain ⟨y, hy, rfl, rfl, hr⟩ := hrow i row j x hi hj
   refine ⟨fun hf => ?_, ?_⟩
   ·exact absurd (hL _ ((Cg L _).1 hf)) (Nat.lt_irrefl _)
   ·rw [hr]
    have := hcell i y hy
    rw [this, List.getD_eq_getElem?_getD, hy];rfl
  ·obtain ⟨y, hy, rfl, rfl, hr⟩ := hrow i row j x hi hj
   rw [List.getD_eq_getElem?_getD, hy]
   exact .val _
theorem I5 (a b : List UInt8) : Lib.byteCells (a ++ b) = Lib.byteCells a ++ Lib.byteCells b := by simp [Lib.byteCells]
theorem Ge (a : List UInt8) : (Lib.byteCells a).length = a.length := by simp [Lib.byteCells]
theorem CovH.bldE {n : Nat} {T e : TypeId} {b2 : Nat} {s s' : List UInt8} {H H' : AH} (h : s = s') (hb : Nat.blt b2 n = true) (c : CovH n H H') : CovH n (.bld T e b2 (Lib.byteCells s') :: H) (.bld T e b2 (Lib.byteCells s) :: H') := by
 subst h
 exact .bld hb c
theorem F0 {c : UInt8} (hc : c.toNat < 45) (n : Int) : c ∉ Lib.itoa n := by
 unfold Lib.itoa
 split
 ·intro h
  rcases List.mem_cons.1 h with h | h
  ·subst h;exact absurd hc (by decide)
  ·have := Kk _ _ h;omega
 ·intro h
  have := Kk _ _ h;omega
theorem Mp {s : ByteArray} (h : B7 s = true) {c : UInt8} (hc : ¬ Cy c.toNat) : c ∉ s.data.toList := by
 simp only [B7, Bool.and_eq_true, decide_eq_true_eq] at h
 obtain ⟨_, hw⟩ := h
 intro h10
 have hl : s.data.toList.takeWhile (fun c => decide (Cy c.toNat)) = s.data.toList := by
  refine (List.takeWhile_prefix _).eq_of_length ?_
  have : (Br s : Int) = s.size := hw
  unfold Br at this
  rw [Array.length_toList]
  exact Int.ofNat.inj this
 have ha := List.all_takeWhile (p := fun c : UInt8 => decide (Cy c.toNat)) (l := s.data.toList)
 rw [hl] at ha
 have := List.all_eq_true.1 ha c h10
 exact hc (of_decide_eq_true this)
/-! ### Numbers -/
/-! ### Where the reading stands -/
end Go.Proofs.YtcfjofhapbkmfaaGreatDoor
