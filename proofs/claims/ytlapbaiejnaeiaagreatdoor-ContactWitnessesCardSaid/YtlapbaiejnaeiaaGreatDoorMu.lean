/- Lemmas of the proof. -/
import Derived.Test.YtlapbaiejnaeiaaGreatDoorMm
import Derived.Test.YtlapbaiejnaeiaaGreatDoorMc
import Derived.Test.YtlapbaiejnaeiaaGreatDoorRows
import Derived.ProofKit
import Derived.OpenShut
import Derived.Deep.DeepHandedRow
import Derived.Lib.SmallJoins
import Derived.Carry
import Derived.ChangeOld
import Derived.Test.YtlapbaiejnaeiaaGreatDoorOa
import Derived.Test.YtlapbaiejnaeiaaGreatDoorNx
import Derived.Test.YtlapbaiejnaeiaaGreatDoorNq
set_option linter.all false
set_option maxHeartbeats 64000000
namespace Go.Proofs.YtlapbaiejnaeiaaGreatDoor
open Go.RowKit
def b0b := @List.drop_length_add_append
def b1f := @List.length_pos_of_mem
set_option maxRecDepth 100000 in
theorem Ca {n : Nat} {row : List Lf} (h : B0 Tryz.prog (n + 1) 9 row) : ∃ s : ByteArray, row = [.s s] := by
 unfold B0 at h
 rw [a5s] at h
 obtain ⟨s, rfl, _⟩ := h
 exact ⟨s, rfl⟩
set_option maxRecDepth 100000 in
theorem Ak {n : Nat} {row : List Lf} (h : B0 Tryz.prog (n + 1) 3 row) : ∃ i : Int, row = [.i i] /\ -9223372036854775808 <= i /\ i <= 9223372036854775807 := by
 unfold B0 at h
 rw [a2k] at h
 obtain ⟨i, rfl, h1, h2⟩ := h
 exact ⟨i, rfl, h1, h2⟩
set_option maxRecDepth 100000 in
theorem Ef {α : Type} {R : α -> List Lf} {p : α -> Prop} {n : Nat} {t e : TypeId} {row : List Lf} (hu : Tryz.prog.underlying t = some (.slice e)) (he : ∀ r, B0 Tryz.prog n e r -> ∃ x, r = R x /\ p x) (h : B0 Tryz.prog (n + 1) t row) :
  ∃ l : List α, row = [.sl (l.map R)] /\ l.length <= 9223372036854775807 /\ l.length * Tryz.prog.bytesOf e <= reachBytes /\ ∀ x ∈ l, p x := by
 unfold B0 at h
 rw [hu] at h
 obtain ⟨rows, rfl, h1, h2, h3⟩ := h
 have key : ∀ rows : List (List Lf), (∀ r ∈ rows, B0 Tryz.prog n e r) -> ∃ l : List α, rows = l.map R /\ ∀ x ∈ l, p x := by
  intro rows
  induction rows with
  | nil => intro _;exact ⟨[], rfl, by simp⟩
  | cons r rows ih =>
   intro h
   obtain ⟨l, rfl, hl⟩ := ih fun r hr => h r (by simp [hr])
   obtain ⟨x, rfl, hx⟩ := he r (h r (by simp))
   exact ⟨x :: l, rfl, by simpa using ⟨hx, hl⟩⟩
 obtain ⟨l, rfl, hl⟩ := key rows h3
 rw [a0a] at h1 h2
 exact ⟨l, rfl, h1, h2, hl⟩
set_option maxRecDepth 100000 in
theorem Uv {n : Nat} {row : List Lf} (h : B0 Tryz.prog (n + 2) 51 row) : ∃ l : List Int, row = [.sl (l.map A3)] /\ l.length <= 9223372036854775807 /\ l.length * Tryz.prog.bytesOf 3 <= reachBytes /\ ∀ x ∈ l, -9223372036854775808 <= x /\ x <= 9223372036854775807 :=
 Ef a9p (fun r hr => by obtain ⟨i, rfl, hi⟩ := Ak hr;exact ⟨i, rfl, hi⟩) h
set_option maxRecDepth 100000 in
theorem A4u {n : Nat} {row : List Lf} (h : B0 Tryz.prog (n + 2) 181 row) : ∃ x : ItemR, row = x.row /\ True := by
 unfold B0 at h
 rw [a3r] at h
 obtain ⟨_, _, rfl, h1, _, _, rfl, h2, _, _, rfl, h3, _, _, rfl, h4, _, _, rfl, h5, _, _, rfl, h6, _, _, rfl, h7, rfl⟩ := h
 obtain ⟨a1, rfl⟩ := Ca h1
 obtain ⟨a2, rfl, _⟩ := Ak h2
 obtain ⟨a3, rfl, _⟩ := Ak h3
 obtain ⟨a4, rfl, _⟩ := Ak h4
 obtain ⟨a5, rfl, _⟩ := Ak h5
 obtain ⟨a6, rfl, _⟩ := Ak h6
 obtain ⟨a7, rfl, _⟩ := Ak h7
 exact ⟨⟨a1, a2, a3, a4, a5, a6, a7⟩, rfl, trivial⟩
set_option maxRecDepth 100000 in
theorem A2j {n : Nat} {row : List Lf} (h : B0 Tryz.prog (n + 2) 183 row) : ∃ x : BrickR, row = x.row /\ True := by
 unfold B0 at h
 rw [a7o] at h
 obtain ⟨_, _, rfl, h1, _, _, rfl, h2, _, _, rfl, h3, rfl⟩ := h
 obtain ⟨a1, rfl⟩ := Ca h1
 obtain ⟨a2, rfl, _⟩ := Ak h2
 obtain ⟨a3, rfl, _⟩ := Ak h3
 exact ⟨⟨a1, a2, a3⟩, rfl, trivial⟩
set_option maxRecDepth 100000 in
theorem A4x {n : Nat} {row : List Lf} (h : B0 Tryz.prog (n + 2) 130 row) : ∃ x : RoofR, row = x.row /\ True := by
 unfold B0 at h
 rw [a6e] at h
 obtain ⟨_, _, rfl, h1, _, _, rfl, h2, _, _, rfl, h3, _, _, rfl, h4, rfl⟩ := h
 obtain ⟨a1, rfl⟩ := Ca h1
 obtain ⟨a2, rfl, _⟩ := Ak h2
 obtain ⟨a3, rfl, _⟩ := Ak h3
 obtain ⟨a4, rfl, _⟩ := Ak h4
 exact ⟨⟨a1, a2, a3, a4⟩, rfl, trivial⟩
set_option maxRecDepth 100000 in
theorem A4v {n : Nat} {row : List Lf} (h : B0 Tryz.prog (n + 2) 135 row) : ∃ x : MoveR, row = x.row /\ True := by
 unfold B0 at h
 rw [a4l] at h
 obtain ⟨_, _, rfl, h1, _, _, rfl, h2, _, _, rfl, h3, _, _, rfl, h4, _, _, rfl, h5, rfl⟩ := h
 obtain ⟨a1, rfl⟩ := Ca h1
 obtain ⟨a2, rfl, _⟩ := Ak h2
 obtain ⟨a3, rfl, _⟩ := Ak h3
 obtain ⟨a4, rfl, _⟩ := Ak h4
 obtain ⟨a5, rfl, _⟩ := Ak h5
 exact ⟨⟨a1, a2, a3, a4, a5⟩, rfl, trivial⟩
set_option maxRecDepth 100000 in
theorem A4w {n : Nat} {row : List Lf} (h : B0 Tryz.prog (n + 2) 99 row) : ∃ x : ByteArray × ByteArray, row = Ac x /\ True := by
 unfold B0 at h
 rw [Tryz.underlying99] at h
 obtain ⟨_, _, rfl, h1, _, _, rfl, h2, rfl⟩ := h
 obtain ⟨a1, rfl⟩ := Ca h1
 obtain ⟨a2, rfl⟩ := Ca h2
 exact ⟨(a1, a2), rfl, trivial⟩
set_option maxRecDepth 100000 in
theorem A88 {n : Nat} {row : List Lf} (h : B0 Tryz.prog (n + 4) 105 row) : ∃ x : SetR, row = x.row /\ x.fits := by
 unfold B0 at h
 rw [a2b] at h
 obtain ⟨_, _, rfl, h1, _, _, rfl, h2, _, _, rfl, h3, _, _, rfl, h4, _, _, rfl, h5, _, _, rfl, h6, _, _, rfl, h7, _, _, rfl, h8, _, _, rfl, h9, _, _, rfl, h10, _, _, rfl, h11, _, _, rfl, h12, _, _, rfl, h13, rfl⟩ := h
 obtain ⟨a1, rfl⟩ := Ca h1
 obtain ⟨a2, rfl, _⟩ := Ak h2
 obtain ⟨a3, rfl, _⟩ := Ak h3
 obtain ⟨a4, rfl, _⟩ := Ak h4
 obtain ⟨a5, rfl, _⟩ := Ak h5
 obtain ⟨a6, rfl, b6, _⟩ := Uv h6
 obtain ⟨a7, rfl, _⟩ := Ak h7
 obtain ⟨a8, rfl, _⟩ := Ak h8
 obtain ⟨a9, rfl, _⟩ := Ak h9
 obtain ⟨a10, rfl, _⟩ := Ak h10
 obtain ⟨a11, rfl, _⟩ := Ak h11
 obtain ⟨a12, rfl, b12, _⟩ := Ef b3p (fun r => A4u) h12
 obtain ⟨a13, rfl, b13, _⟩ := Ef b3q (fun r => A2j) h13
 exact ⟨⟨a1, a2, a3, a4, a5, a6, a7, a8, a9, a10, a11, a12, a13⟩, rfl, b6, b12, b13⟩
set_option maxRecDepth 100000 in
theorem A2k {n : Nat} {row : List Lf} (h : B0 Tryz.prog (n + 6) 46 row) : ∃ x : HouseR, row = x.row /\ x.fits := by
 unfold B0 at h
 rw [a4u] at h
 obtain ⟨_, _, rfl, h1, _, _, rfl, h2, _, _, rfl, h3, _, _, rfl, h4, rfl⟩ := h
 obtain ⟨a1, rfl⟩ := Ca h1
 obtain ⟨a2, rfl, _⟩ := Ak h2
 obtain ⟨a3, rfl, b3, _, c3⟩ := Ef Tryz.underlying43 (fun r => A88) h3
 obtain ⟨a4, rfl, b4, _⟩ := Ef Tryz.underlying44 (fun r => A4x) h4
 exact ⟨⟨a1, a2, a3, a4⟩, rfl, b3, b4, c3⟩
theorem A4k : Tryz.prog.bytesOf 135 = 48 := by kernel_rfl
set_option maxRecDepth 100000 in
theorem A87 {n : Nat} {row : List Lf} (h : B0 Tryz.prog (n + 4) 133 row) : ∃ x : CueR, row = x.row /\ x.moves.length <= 140737488355328 := by
 unfold B0 at h
 rw [a3q] at h
 obtain ⟨_, _, rfl, h1, _, _, rfl, h2, _, _, rfl, h3, _, _, rfl, h4, _, _, rfl, h5, _, _, rfl, h6, _, _, rfl, h7, rfl⟩ := h
 obtain ⟨a1, rfl⟩ := Ca h1
 obtain ⟨a2, rfl⟩ := Ca h2
 obtain ⟨a3, rfl, _⟩ := Ak h3
 obtain ⟨a4, rfl, _⟩ := Ak h4
 obtain ⟨a5, rfl, b5, c5, _⟩ := Ef b3r (fun r => A4v) h5
 obtain ⟨a6, rfl, _⟩ := Ak h6
 obtain ⟨a7, rfl, _⟩ := Ak h7
 rw [A4k] at c5
 exact ⟨⟨a1, a2, a3, a4, a5, a6, a7⟩, rfl, by show a5.length <= _;simp only [reachBytes] at c5;omega⟩
set_option maxRecDepth 100000 in
theorem A2l {n : Nat} {row : List Lf} (h : B0 Tryz.prog (n + 6) 50 row) : ∃ x : SheetR, row = x.row /\ x.fits := by
 unfold B0 at h
 rw [a6m] at h
 obtain ⟨_, _, rfl, h1, _, _, rfl, h2, rfl⟩ := h
 obtain ⟨a1, rfl, b1, _, c1⟩ := Ef Tryz.underlying47 (fun r => A87) h1
 obtain ⟨a2, rfl, b2, _⟩ := Ef Tryz.underlying48 (fun r => A4w) h2
 exact ⟨⟨a1, a2⟩, rfl, b1, b2, c1⟩
end Go.Proofs.YtlapbaiejnaeiaaGreatDoor
namespace Go.Proofs.YtlapbaiejnaeiaaGreatDoor
open Go.ChangeShapes Go.WideShapes Go.ChangeAt Go.RowKit Go.Joins
theorem own : ownKnob Tryz.prog.godebug = none := by kernel_rfl
theorem J6 : laidOutB Tryz.prog = true := by kernel_rfl
abbrev noL : Nat -> Prop := fun _ => False
section
variable {H : Type} {enc : TypeId × Value -> H}
theorem Ga {W : World} {t : TypeId} {v : Value} {d : DataW H} {p : List MemPlace} (h : DataW.Trod enc Tryz.prog W 0 (fun _ => true) true t v d p) : ∀ x ∈ p, x.block < W.heap.size := by
 obtain ⟨m, hm⟩ := h;exact DataW.trod_lt m _ _ _ hm
theorem A1n {W : World} {row : List Lf} {cs : Array Value} (hl : row.length = cs.toList.length) (h : RowRel W row cs.toList 0) : RelV W noL Ap (A1 row) (.agg cs) := by
 have key := RelV.agg (w := W) (L := noL) (ρ := Ap) (row.map .lf) cs.toList (by simpa using hl) fun i x v hx hv => by
  rw [a0e] at hx
  cases e : row[i]? with
  | none => rw [e] at hx;cases hx
  | some y =>
   rw [e] at hx
   simp only [a1c, a0f] at hx
   subst hx
   exact .lf _ _ ((h i y v e (by rw [a1r];exact hv)).iff fun k => ⟨False.elim, fun hf => (Dk noL k).1 hf⟩)
 simpa using key
set_option maxRecDepth 100000 in
theorem Abt : okT Tryz.prog 8 46 = true := by kernel_rfl
theorem Abu : okT Tryz.prog 8 50 = true := by kernel_rfl
theorem Adh : okT Tryz.prog 8 51 = true := by kernel_rfl
set_option maxRecDepth 100000 in
theorem A35 {W : World} {base : Nat} {v : Value} {d : DataW H} {p : List MemPlace} (hv : Value.okWide Tryz.prog W .any base 46 v) (h : DataW.Trod enc Tryz.prog W 0 (fun _ => true) true 46 v d p) (hw : ((d.weights Tryz.prog 46).all (· <= reachBytes)) = true) : ∃ x : HouseR, x.fits /\ RelV W noL Ap (A1 x.row) v := by
 obtain ⟨fuel, hf⟩ := h
 unfold Value.okWide at hv
 rw [a4u] at hv
 obtain ⟨cs, rfl, _, _⟩ := hv
 obtain ⟨row, c1, c2, c3⟩ := H4 8 fuel _ _ _ Abt hf hw
 obtain ⟨x, rfl, hx⟩ := A2k (n := 2) c1
 exact ⟨x, hx, A1n c2 c3⟩
set_option maxRecDepth 100000 in
theorem A37 {W : World} {base : Nat} {v : Value} {d : DataW H} {p : List MemPlace} (hv : Value.okWide Tryz.prog W .any base 50 v) (h : DataW.Trod enc Tryz.prog W 0 (fun _ => true) true 50 v d p) (hw : ((d.weights Tryz.prog 50).all (· <= reachBytes)) = true) : ∃ x : SheetR, x.fits /\ RelV W noL Ap (A1 x.row) v := by
 obtain ⟨fuel, hf⟩ := h
 unfold Value.okWide at hv
 rw [a6m] at hv
 obtain ⟨cs, rfl, _, _⟩ := hv
 obtain ⟨row, c1, c2, c3⟩ := H4 8 fuel _ _ _ Abu hf hw
 obtain ⟨x, rfl, hx⟩ := A2l (n := 2) c1
 exact ⟨x, hx, A1n c2 c3⟩
end
section
variable {H : Type} {enc : TypeId × Value -> H}
end
theorem A80 : Tryz.prog.bytesOf 3 = 8 := by kernel_rfl
section
variable {H : Type} {enc : TypeId × Value -> H}
set_option maxRecDepth 100000 in
theorem A36 {W : World} {base : Nat} {v : Value} {d : DataW H} {p : List MemPlace} (hv : Value.okWide Tryz.prog W .any base 51 v) (h : DataW.Trod enc Tryz.prog W 0 (fun _ => true) true 51 v d p) (hw : ((d.weights Tryz.prog 51).all (· <= reachBytes)) = true) : ∃ l : List Int, l.length <= 1000000000000000 /\ (∀ x ∈ l, -9223372036854775808 <= x /\ x <= 9223372036854775807) /\ RelV W noL Ap (.sl (l.map A3)) v := by
 obtain ⟨a, len, cap, rfl⟩ := okWide_slice a9p hv
 obtain ⟨fuel, hf⟩ := h
 obtain ⟨row, c1, c2, c3⟩ := H4 8 fuel _ _ _ Adh hf hw
 obtain ⟨l, rfl, h1, hb, h2⟩ := Uv (n := 6) c1
 rw [A80] at hb
 have hr : reachBytes = 140737488351232 := rfl
 refine ⟨l, by omega, h2, .lf _ _ ((c3 0 _ _ rfl (by simp [Value.cells])).iff fun k => ⟨False.elim, fun hf => (Dk noL k).1 hf⟩)⟩
end
end Go.Proofs.YtlapbaiejnaeiaaGreatDoor
namespace Go.Proofs.YtlapbaiejnaeiaaGreatDoor
open Go Go.RowKit
theorem A14 (l : List Rat) (i : Nat) (q : Rat) (h : l[i]? = some q) : fa (l.take (i + 1)) = fa (l.take i) ++ [.i q.num, .i q.den] := by
 rw [a0x, h]
 simp [fa, W7, C6]
theorem Db (a b : List PcQ) : ((a ++ b).map (·.f)).length = (a ++ b).length := a0a _
theorem A3d (g : FuncId) (op : Rat -> Rat -> Rat) (hj : ∀ (p q : Rat) (e : Int), Fits p -> Fits q -> FnW Tryz.prog g [.i e] [A1 (frR p), A1 (frR q)] [.i (kE (op p q) e)] (A1 (frR (kQ (op p q))))) (a b : List PcQ) (ha : okC a) (hb : okC b) (ha0 : a ≠ []) (hb0 : b ≠ []) (han : a.length <= 200) (hbn : b.length <= 200)
  (hu : Fn0 Tryz.prog 124 [.sl (a.map PcQ.row)] (.b true)) (hv : Fn0 Tryz.prog 124 [.sl (b.map PcQ.row)] (.b true)) : Fn0 Tryz.prog 233 [.sl (a.map PcQ.row), .sl (b.map PcQ.row), .fn (.func g) [] []] (Wn op a b) := by
 have hla : 0 < a.length := a1n.2 ha0
 have hlb : 0 < b.length := a1n.2 hb0
 have hlen : (a ++ b).length = a.length + b.length := a0q
 have hcat := N0 [a, b] (by simp;omega) (by simp;omega) (by simp)
 simp only [a1q, a4h, a3d, List.flatten_nil, a2g] at hcat
 have hfit := Kt a b ha hb
 have hts : ∀ q ∈ (a ++ b).map (·.f), Fits q := fun q hq => hfit q (by rw [Ao, Ei];exact hq)
 have hsort := Ta ((a ++ b).map (·.f)) hts (by rw [Db];omega)
 have hmut := fun l' hp hs => L1 ((a ++ b).map (·.f)) l' hp hs (by rw [Db];omega)
 have hT0 : 0 < (Ao a b).length := by
  obtain ⟨x, hx⟩ : ∃ x, x ∈ a := ⟨_, a3t hla⟩
  have : x.f ∈ Ao a b := by rw [Ao, Ei];exact a1b.2 ⟨x, a0u.2 (.inl hx), rfl⟩
  exact b1f this
 unfold Wn
 change ∀ l' hp hs, FnMut _ _ 2 _ _ (Ao a b).length (C6 (Ao a b)) at hmut
 generalize Ao a b = tms at hmut hT0 hfit ⊢
 have hle : ((a ++ b).map PcQ.row).length = (a ++ b).length := a0a _
 have hT : (tms.map frR).length = tms.length := a0a _
 skip
 refine Fn0.of Tryz.func233 Tryz.ntmps233 rfl rfl rfl ?_
 simp only [A2]
 repeat' (first|refine W ?_|refine Zc hu ?_|refine Zc hv ?_|refine Zc hcat ?_|(apply p1e;(iterate 8 exact rfl))|(apply p0f 8 A0 (by decide +kernel);simp only [td])|(apply p0e 8 A0 (by decide +kernel);simp only [td])|(apply p1i A0)|(apply Ords.nil;decide +kernel)|(apply Ords.one (i := 0);decide +kernel;exact rfl)|(apply Ords.one (i := 1);decide +kernel;exact rfl)|(apply Ords.one (i := 2);decide +kernel;exact rfl)|(apply Ords.one (i := 3);decide +kernel;exact rfl)|(apply Ords.one (i := 4);decide +kernel;exact rfl)|(apply Ords.one (i := 5);decide +kernel;exact rfl)|(apply Ords.one (i := 6);decide +kernel;exact rfl)|(apply Ords.one (i := 7);decide +kernel;exact rfl)|(apply Ords.one (i := 8);decide +kernel;exact rfl)|(apply Ords.one (i := 9);decide +kernel;exact rfl)|(apply Ords.two (i := 0) (j := 1);decide +kernel;exact rfl;exact rfl)|(apply Ords.two (i := 0) (j := 2);decide +kernel;exact rfl;exact rfl)|(apply Ords.two (i := 0) (j := 3);decide +kernel;exact rfl;exact rfl)|(apply Ords.two (i := 0) (j := 4);decide +kernel;exact rfl;exact rfl)|(apply Ords.two (i := 1) (j := 5);decide +kernel;exact rfl;exact rfl)|(apply Ords.two (i := 2) (j := 5);decide +kernel;exact rfl;exact rfl)|(apply Ords.two (i := 3) (j := 5);decide +kernel;exact rfl;exact rfl)|(apply Ords.two (i := 4) (j := 5);decide +kernel;exact rfl;exact rfl)|(apply Ords.two (i := 5) (j := 6);decide +kernel;exact rfl;exact rfl)|(apply Ords.two (i := 4) (j := 6);decide +kernel;exact rfl;exact rfl)|(apply Ords.two (i := 6) (j := 7);decide +kernel;exact rfl;exact rfl)|(apply Ords.two (i := 5) (j := 7);decide +kernel;exact rfl;exact rfl)|refine V ?_|(refine W2 ?_ ?_<;>intro hc))
 refine T.kill 0 ?_
 refine p0d (fun i => i <= (a ++ b).length) (fun i => (a ++ b).length - i) (fun i => [(30, .i i), (8, rT 0 2 i), (29, .i ((a ++ b).map PcQ.row).length), (28, .sl ((a ++ b).map PcQ.row)), (0, .sl (a.map PcQ.row)), (1, .sl (b.map PcQ.row)), (2, .fn (.func g) [] [])]) (fun i => [rB (fa (((a ++ b).map (·.f)).take i)) i]) 0 (a0o _) CV (.dead .nil) ?_
 intro i hi
 by_cases hlt : (i : Int) < (((a ++ b).map PcQ.row).length : Nat)
 ·obtain ⟨x, hx⟩ : ∃ x, (a ++ b)[i]? = some x := ⟨(a ++ b)[i]'(by omega), a0b _⟩
  have hb : ((a ++ b).map PcQ.row)[((i : Nat) : Int).toNat]? = some x.row := by rw [a0v, a0e, hx];rfl
  have hxf : ((a ++ b).map (·.f))[i]? = some x.f := by rw [a0e, hx];rfl
  have hsn := A14 _ i x.f hxf
  cases i with
  | zero =>
   repeat' (first|refine W ?_|refine Za ?_|(apply S.indexR;(iterate 3 exact rfl);exact hb;omega;exact rfl)|(apply p0c;(iterate 7 exact rfl))|(apply p0u 0 (rows := []);(iterate 8 exact rfl);exact Af rfl;exact rfl;exact a0d rfl;exact a0d rfl)|refine V ?_|(refine W2 ?_ ?_<;>intro hc))
   change Next _ _ _ _ _ _
   exact Next.go 1 (by omega) (by omega) CV (by rw [show (1 : Nat) = 0 + 1 from rfl, hsn];exact .live rfl .nil)
  | succ i =>
   repeat' (first|refine W ?_|refine Za ?_|(apply S.indexR;(iterate 3 exact rfl);exact hb;omega;exact rfl)|(apply p0c;(iterate 7 exact rfl))|(apply p0p;(iterate 8 exact rfl);(rw [Sc, a0t, Db];omega);exact Af rfl;exact rfl;exact B6 _ _;simp only [a0i, a0n];omega;simp only [a0i, a0n];omega)|refine V ?_|(refine W2 ?_ ?_<;>intro hc))
   change Next _ _ _ _ _ _
   exact Next.go (i + 1 + 1) (by omega) (by omega) (.cons (by rw [show (((i + 1 + 1 : Nat) : Int)) = ((i + 1 : Nat) : Int) + 1 by omega];rfl) rfl CV) (by rw [hsn];exact .live (by rw [a2r, Gs];rfl) .nil)
 ·obtain rfl : i = (a ++ b).length := by omega
  have hlt' : ¬ ((((a ++ b).map (·.f)).length : Nat) : Int) < (((a ++ b).map PcQ.row).length : Nat) := by rw [Db];omega
  rw [Jw (by omega), Jv (by omega), <- Db, a1w]
  by_cases h2 : (200 : Int) < (tms.length : Nat)
  ·rw [if_pos (by omega)]
   repeat' (first|refine W ?_|(apply S.lenO;(iterate 3 exact rfl))|(apply p2j;exact rfl;exact rfl;exact hsort;exact rfl;rintro xs' ⟨l', rfl, hp, hs⟩)|(apply p2r (hmut _ hp hs);(iterate 5 exact rfl))|(refine p0z 6 rfl ?_;apply T.ret;change Bj _ _ _ _ _)|refine V ?_|(refine W2 ?_ ?_<;>intro hc))
   exact D2 rfl rfl rfl
  ·rw [if_neg (by omega)]
   have h2' : ¬ (200 : Int) < ((tms.map frR).length : Nat) := by omega
   repeat' (first|refine W ?_|(refine T.freeze 8 rfl rfl (A66 tms) ?_)|(refine T.heat 1 [.i 0] rfl rfl ?_;intro k o)|(apply S.lenO;(iterate 3 exact rfl))|(apply p2j;exact rfl;exact rfl;exact hsort;exact rfl;rintro xs' ⟨l', rfl, hp, hs⟩)|(apply p2r (hmut _ hp hs);(iterate 5 exact rfl))|refine V ?_|(refine W2 ?_ ?_<;>intro hc))
   refine T.kill 2 ?_
   refine p0d (fun i => i <= tms.length) (fun i => tms.length - i) (fun i => [(51, .i i), (12, rT 2 8 i), (50, .i (tms.map frR).length), (49, .sl (tms.map frR)), (11, .ptr 1 0), (0, .sl (a.map PcQ.row)), (1, .sl (b.map PcQ.row)), (2, .fn (.func g) [] [])]) (fun i => [.dead, .hot k o [.i (jEs op a b (tms.take i))], rB (Bl ((tms.take i).map (jP op a b))) i]) 0 (a0o _) CV (.dead (.hot (.dead .nil))) ?_
   intro i hi
   by_cases hlt : (i : Int) < ((tms.map frR).length : Nat)
   ·obtain ⟨t, ht⟩ : ∃ t, tms[i]? = some t := ⟨tms[i]'(by omega), a0b _⟩
    have hft := hfit t (a0c ht)
    have hb2 : (tms.map frR)[((i : Nat) : Int).toNat]? = some (frR t) := by rw [a0v, a0e, ht];rfl
    have hts1 : tms.take (i + 1) = tms.take i ++ [t] := by rw [a0x, ht];rfl
    have hE : jEs op a b (tms.take (i + 1)) = jE op a b t (jEs op a b (tms.take i)) := by rw [hts1, jEs, a4s];rfl
    have hP : Bl ((tms.take (i + 1)).map (jP op a b)) = Bl ((tms.take i).map (jP op a b)) ++ [.i t.num, .i t.den, .i (kQ (op (atP a t).a (atP b t).a)).num, .i (kQ (op (atP a t).a (atP b t).a)).den, .i (kQ (op (atP a t).b (atP b t).b)).num, .i (kQ (op (atP a t).b (atP b t).b)).den, .i (kQ (op (atP a t).c (atP b t).c)).num, .i (kQ (op (atP a t).c (atP b t).c)).den] := by rw [hts1, a1u, Eo];rfl
    have hPl : ((tms.take i).map (jP op a b)).length = i := by rw [a0a, a0t];omega
    unfold jE at hE
    have ox := Ol a t ha ha0 hft
    have oy := Ol b t hb hb0 hft
    generalize jEs op a b (tms.take i) = e0 at hE ⊢
    have c1 := Tc a t e0 ha ha0 (by omega) hft
    generalize F2 a t e0 = e1 at hE c1
    have c2 := Tc b t e1 hb hb0 (by omega) hft
    generalize F2 b t e1 = e2 at hE c2
    generalize atP a t = x at hE hP c1 ox
    generalize atP b t = y at hE hP c2 oy
    have c3 := hj x.a y.a e2 ox.a oy.a
    have f3 := Cj (op x.a y.a)
    generalize kE (op x.a y.a) e2 = e3 at hE c3
    generalize kQ (op x.a y.a) = p3 at hP c3 f3
    have c4 := hj x.b y.b e3 ox.b oy.b
    generalize kE (op x.b y.b) e3 = e4 at hE c4
    generalize kQ (op x.b y.b) = p4 at hP c4
    have c5 := hj x.c y.c e4 ox.c oy.c
    generalize kE (op x.c y.c) e4 = e5 at hE c5
    generalize kQ (op x.c y.c) = p5 at hP c5
    cases i with
    | zero =>
     repeat' (first|refine W ?_|refine Za ?_|(apply p0r;(iterate 3 exact rfl))|(apply p0l;(iterate 3 exact rfl))|(apply p1b;(iterate 5 exact rfl))|(apply p0s;(iterate 5 exact rfl))|(apply p0m;(iterate 5 exact rfl);exact c1;exact rfl)|(apply p0i;(iterate 6 exact rfl);exact c1;exact rfl)|(apply p0m;(iterate 5 exact rfl);exact c2;exact rfl)|(apply p0i;(iterate 6 exact rfl);exact c2;exact rfl)|(apply p0m;(iterate 5 exact rfl);exact c3;exact rfl)|(apply p0i;(iterate 6 exact rfl);exact c3;exact rfl)|(apply p0m;(iterate 5 exact rfl);exact c4;exact rfl)|(apply p0i;(iterate 6 exact rfl);exact c4;exact rfl)|(apply p0m;(iterate 5 exact rfl);exact c5;exact rfl)|(apply p0i;(iterate 6 exact rfl);exact c5;exact rfl)|(apply S.indexR;(iterate 3 exact rfl);exact hb2;omega;exact rfl)|(apply p0c;(iterate 7 exact rfl))|(apply p0u 2 (rows := []);(iterate 8 exact rfl);exact Af rfl;exact rfl;exact a0d rfl;exact a0d rfl)|(apply p0f 25 A0 (by decide +kernel);simp only [td])|(apply p0e 25 A0 (by decide +kernel);simp only [td])|(apply p0b A0 (by decide +kernel))|refine V ?_|(refine W2 ?_ ?_<;>intro hc))
     change Next _ _ _ _ _ _
     exact Next.go 1 (by omega) (by omega) CV (by rw [show (1 : Nat) = 0 + 1 from rfl, hP, hE];exact .dead (.hot (.live rfl .nil)))
    | succ i =>
     repeat' (first|refine W ?_|refine Za ?_|(apply p0r;(iterate 3 exact rfl))|(apply p0l;(iterate 3 exact rfl))|(apply p1b;(iterate 5 exact rfl))|(apply p0s;(iterate 5 exact rfl))|(apply p0m;(iterate 5 exact rfl);exact c1;exact rfl)|(apply p0i;(iterate 6 exact rfl);exact c1;exact rfl)|(apply p0m;(iterate 5 exact rfl);exact c2;exact rfl)|(apply p0i;(iterate 6 exact rfl);exact c2;exact rfl)|(apply p0m;(iterate 5 exact rfl);exact c3;exact rfl)|(apply p0i;(iterate 6 exact rfl);exact c3;exact rfl)|(apply p0m;(iterate 5 exact rfl);exact c4;exact rfl)|(apply p0i;(iterate 6 exact rfl);exact c4;exact rfl)|(apply p0m;(iterate 5 exact rfl);exact c5;exact rfl)|(apply p0i;(iterate 6 exact rfl);exact c5;exact rfl)|(apply S.indexR;(iterate 3 exact rfl);exact hb2;omega;exact rfl)|(apply p0c;(iterate 7 exact rfl))|(apply p0p;(iterate 8 exact rfl);(rw [Cc, hPl]);exact Af rfl;exact rfl;exact B6 _ _;simp only [a0i, a0n];omega;simp only [a0i, a0n];omega)|(apply p0f 25 A0 (by decide +kernel);simp only [td])|(apply p0e 25 A0 (by decide +kernel);simp only [td])|(apply p0b A0 (by decide +kernel))|refine V ?_|(refine W2 ?_ ?_<;>intro hc))
     change Next _ _ _ _ _ _
     exact Next.go (i + 1 + 1) (by omega) (by omega) (.cons (by rw [show (((i + 1 + 1 : Nat) : Int)) = ((i + 1 : Nat) : Int) + 1 by omega];rfl) rfl CV) (by rw [hP, hE];exact .dead (.hot (.live (by rw [a2r, Cw];rfl) .nil)))
   ·obtain rfl : i = tms.length := by omega
    rw [Jw hT0, Jv hT0, a1w]
    have hPl : (tms.map (jP op a b)).length = tms.length := a0a _
    have hown := P7 (tms.map (jP op a b))
    rw [hPl] at hown
    generalize jEs op a b tms = e
    by_cases he : e = 0
    ·rw [if_pos he]
     repeat' (first|refine W ?_|(refine T.freeze 12 rfl rfl hown ?_)|(apply p0r;(iterate 3 exact rfl))|(apply p0l;(iterate 3 exact rfl))|(apply p1b;(iterate 5 exact rfl))|(apply p0s;(iterate 5 exact rfl))|refine Za ?_|refine V ?_|(refine W2 ?_ ?_<;>intro hc))
     exact D2 rfl rfl rfl
    ·rw [if_neg he]
     repeat' (first|refine W ?_|(refine T.cool 1 rfl ?_)|(apply p0r;(iterate 3 exact rfl))|(apply p0l;(iterate 3 exact rfl))|(apply p1b;(iterate 5 exact rfl))|(apply p0s;(iterate 5 exact rfl))|refine Za ?_|(apply p0f 6 A0 (by decide +kernel);simp only [td])|(apply p0e 6 A0 (by decide +kernel);simp only [td])|(apply p0f 4 A0 (by decide +kernel);simp only [td])|(apply p0e 4 A0 (by decide +kernel);simp only [td])|(apply p1i A0)|(apply Ords.nil;decide +kernel)|(apply Ords.one (i := 0);decide +kernel;exact rfl)|(apply Ords.one (i := 1);decide +kernel;exact rfl)|(apply Ords.one (i := 2);decide +kernel;exact rfl)|(apply Ords.one (i := 3);decide +kernel;exact rfl)|(apply Ords.one (i := 4);decide +kernel;exact rfl)|(apply Ords.one (i := 5);decide +kernel;exact rfl)|(apply Ords.one (i := 6);decide +kernel;exact rfl)|(apply Ords.one (i := 7);decide +kernel;exact rfl)|(apply Ords.one (i := 8);decide +kernel;exact rfl)|(apply Ords.one (i := 9);decide +kernel;exact rfl)|(apply Ords.two (i := 0) (j := 1);decide +kernel;exact rfl;exact rfl)|(apply Ords.two (i := 0) (j := 2);decide +kernel;exact rfl;exact rfl)|(apply Ords.two (i := 0) (j := 3);decide +kernel;exact rfl;exact rfl)|(apply Ords.two (i := 0) (j := 4);decide +kernel;exact rfl;exact rfl)|(apply Ords.two (i := 1) (j := 5);decide +kernel;exact rfl;exact rfl)|(apply Ords.two (i := 2) (j := 5);decide +kernel;exact rfl;exact rfl)|(apply Ords.two (i := 3) (j := 5);decide +kernel;exact rfl;exact rfl)|(apply Ords.two (i := 4) (j := 5);decide +kernel;exact rfl;exact rfl)|(apply Ords.two (i := 5) (j := 6);decide +kernel;exact rfl;exact rfl)|(apply Ords.two (i := 4) (j := 6);decide +kernel;exact rfl;exact rfl)|(apply Ords.two (i := 6) (j := 7);decide +kernel;exact rfl;exact rfl)|(apply Ords.two (i := 5) (j := 7);decide +kernel;exact rfl;exact rfl)|(refine p0z 6 rfl ?_;apply T.ret;change Bj _ _ _ _ _)|refine V ?_|(refine W2 ?_ ?_<;>intro hc))
     all_goals exact D2 rfl rfl rfl
def Wo (op : Rat -> Rat -> Rat) (a b : List PcQ) : List PcQ := if 200 < (Ao a b).length then [] else if jEs op a b (Ao a b) = 0 then (Ao a b).map (jP op a b) else []
def Hd (op : Rat -> Rat -> Rat) (a b : List PcQ) : Int := if 200 < (Ao a b).length then 4 else jEs op a b (Ao a b)
theorem A90 (op : Rat -> Rat -> Rat) (a b : List PcQ) : Wn op a b = .tup [.sl ((Wo op a b).map PcQ.row), .i (Hd op a b)] := by
 unfold Wn Wo Hd
 split
 ·rfl
 ·split
  ·rename_i h;rw [h]
  ·rfl
theorem Ac4 (a b : List PcQ) (ha : okC a) (hb : okC b) (ha0 : a ≠ []) (hb0 : b ≠ []) (han : a.length <= 200) (hbn : b.length <= 200)
  (hu : Fn0 Tryz.prog 124 [.sl (a.map PcQ.row)] (.b true)) (hv : Fn0 Tryz.prog 124 [.sl (b.map PcQ.row)] (.b true)) : Fn0 Tryz.prog 197 [.sl (a.map PcQ.row), .sl (b.map PcQ.row)] (.tup [.sl ((Wo (· - ·) a b).map PcQ.row), .i (Hd (· - ·) a b)]) := by
 have c := A3d 128 (· - ·) (fun p q e hp hq => Pi p q e hp hq) a b ha hb ha0 hb0 han hbn hu hv
 rw [A90] at c
 refine Fn0.of Tryz.func197 Tryz.ntmps197 rfl rfl rfl ?_
 simp only [A2]
 repeat' (first|refine W ?_|refine Zc c ?_|refine V ?_|(refine W2 ?_ ?_<;>intro hc))
 exact D2 rfl rfl rfl
theorem p2g {n : Nat} {cs cs' : List AV} {H H' : AH} (h : cs = cs') (hb : cs'.all (AV.under n) = true) (c : CovH n H H') : CovH n (.live cs :: H) (.live cs' :: H') := by subst h;exact .live hb c
theorem Ps : ∀ (l : List PcQ) (i : Nat) (x : PcQ), l[i]? = some x -> ((Bl l).drop (i * 8)).take 2 = [.i x.f.num, .i x.f.den]
 | [], i, x, h => by simp at h
 | y :: l, 0, x, h => by
  simp only [a2h, a0f] at h
  subst h
  rfl
 | y :: l, i + 1, x, h => by
  rw [C9, show (i + 1) * 8 = (y.row.map AV.lf).length + i * 8 by simp [PcQ.row];omega, b0b]
  exact Ps l i x (by simpa using h)
section
variable {P : Program} {N : Nat} {ops : Array Oper} {m : Option Nat} {K : Tm -> AH -> Prop} {tm : Tm} {H : AH} {rest : List Oper} {ty : TypeId} {pos : String} {af : Array Edge} {d : Nat} {t : TypeId} {x y : Operand}
end
theorem Ge (r : Rat) {e : Int} (h : e = 0 \/ e = 5) : kE r e = 0 \/ kE r e = 5 := by
 rcases h with rfl | rfl
 ·by_cases hf : Fits r
  ·exact .inl (Dt hf)
  ·exact .inr (E6 hf)
 ·exact .inr (Az r)
theorem Aco (p : PcQ) (u : Rat) {e : Int} (h : e = 0 \/ e = 5) : Ho p u e = 0 \/ Ho p u e = 5 := Ge _ (Ge _ (Ge _ (Ge _ h)))
theorem Ac8 (p : PcQ) (u : Rat) {e : Int} (h : e = 0 \/ e = 5) : Jy p u e = 0 \/ Jy p u e = 5 := Ge _ (Ge _ (Ge _ h))
theorem Aau (l : List PcQ) (t : Rat) : Nb l t 0 = 0 \/ Nb l t 0 = 5 := by
 unfold Nb
 split
 ·exact .inl rfl
 ·exact Ac8 _ _ (Ge _ (.inl rfl))
theorem Na (l : List PcQ) (t : Rat) : F2 l t 5 = 5 := by
 unfold F2
 split
 ·rfl
 ·rw [Az, Oi, Kh]
theorem A0p (l : List PcQ) (t : Rat) : F2 l t 0 = if atE l t 0 = 0 then Nb l t 0 else 5 := by
 unfold F2 atE Nb
 by_cases h : pcI l t < 0
 ·rw [if_pos h, if_pos h, if_pos h, if_pos rfl]
 ·rw [if_neg h, if_neg h, if_neg h]
  generalize A8 l (pcI l t).toNat = p
  rcases Ge (t - p.f) (.inl rfl) with e0 | e0 <;> rw [e0]
  ·rcases Aco p (kQ (t - p.f)) (.inl rfl) with e1 | e1 <;> rw [e1]
   ·rw [if_pos rfl]
   ·rw [if_neg (by decide), Kh]
  ·rw [Oi, Kh, if_neg (by decide)]
theorem Ok (l : List PcQ) (t : Rat) : F2 l t 0 = 0 \/ F2 l t 0 = 5 := by
 rw [A0p]
 split
 ·exact Aau l t
 ·exact .inr rfl
def atC (l : List PcQ) (t : Rat) : Rat := if pcI l t < 0 then 0 else (A8 l (pcI l t).toNat).c
theorem Acz (l : List PcQ) (t : Rat) : atP l t = ⟨t, atQ l t, atS l t, atC l t⟩ := by
 unfold atP atC
 by_cases h : pcI l t < 0
 ·rw [if_pos h, if_pos h]
  unfold atQ atS
  rw [if_pos h, if_pos h]
 ·rw [if_neg h, if_neg h]
theorem Aba (op : Rat -> Rat -> Rat) (a b : List PcQ) (t : Rat) : jE op a b t 5 = 5 := by simp only [jE, Na, Az]
theorem A8z (op : Rat -> Rat -> Rat) (a b : List PcQ) (l : List Rat) : l.foldl (fun e t => jE op a b t e) 5 = 5 := by
 induction l with
 | nil => rfl
 | cons t l ih => rw [a4t, Aba];exact ih
end Go.Proofs.YtlapbaiejnaeiaaGreatDoor
