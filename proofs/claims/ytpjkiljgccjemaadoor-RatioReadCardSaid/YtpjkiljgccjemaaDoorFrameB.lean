/- What the rows of this seat with lists and strings share: the laid variables, a world that holds them, the reading of arguments. -/
import Derived.Test.YtpjkiljgccjemaaDoorFrame
import Derived.Test.YtpjkiljgccjemaaDoorListA
import Derived.Test.YtpjkiljgccjemaaDoorTextD
import Derived.Deep.Slices
import Derived.SizedLaws
import Derived.Stop.LaidErr
import Derived.Stop.Texts
import Derived.Stop.ErrReads
import Derived.ChangeMaps5
set_option linter.unusedSimpArgs false
namespace Go.Proofs.YtpjkiljgccjemaaDoor
set_option linter.unusedVariables false
open Go.ChangeShapes Go.WideShapes Go.ChangeAt Go.RowKit Go.Joins Go.Deep

theorem gRan : Tryd.prog.globalNamed "strconv.ErrRange" = some 4 := by kernel_rfl
theorem gSyn : Tryd.prog.globalNamed "strconv.ErrSyntax" = some 3 := by kernel_rfl
theorem gRanT : (Tryd.prog.globals[4]?).map (·.type) = some 81 := by kernel_rfl
theorem gSynT : (Tryd.prog.globals[3]?).map (·.type) = some 81 := by kernel_rfl
theorem cellsES : Tryd.prog.cellsOf 126 = 1 := by kernel_rfl
theorem cellsStr : Tryd.prog.cellsOf 9 = 1 := by kernel_rfl
theorem star : "*" ++ "errors.errorString" = "*errors.errorString" := by decide
theorem errRow (u : TypeId) (h : Tryd.prog.typeName? 3 u = some "*errors.errorString") : u = 124 :=
  typeName_ptr_named (nm := "errors.errorString") (by rw [star]; kernel_rfl) (by kernel_rfl) (by decide) u (by rw [star]; exact h)
theorem maxLen_cell {w : World} (h : w.ShapedOpen Tryd.prog) : ∃ m : Int, w.cell? ⟨2, 0, none⟩ = some (.int .i64 m) :=
  cell_of_shapedOpen_int (zero := #[.int .i64 0]) (t := 3) h (of_decide_eq_true (by kernel_rfl)) (by kernel_rfl) rfl (by kernel_rfl) (by kernel_rfl) Tryd.underlying3
theorem env_of {W : World} (h : laidMetH Tryd.prog [("math/bits.deBruijn32tab", Rows.laid_math_bits_deBruijn32tab), ("math/bits.deBruijn64tab", Rows.laid_math_bits_deBruijn64tab), ("internal/strconv.uint64pow10", Rows.laid_internal_strconv_uint64pow10), ("strconv.ErrRange", Rows.laid_strconv_ErrRange), ("strconv.ErrSyntax", Rows.laid_strconv_ErrSyntax)] W) (hSh : W.ShapedOpen Tryd.prog) : Env W := by
  have h0 : laidMet Tryd.prog _ W := h
  obtain ⟨ps, hp, _⟩ := h0.tail.tail
  obtain ⟨a1, s1, hv1, _⟩ := laid_sentinel h0.tail.tail.tail gRan gRanT Tryd.underlying81 errRow Tryd.underlying124 Tryd.underlying126 rfl rfl Tryd.underlying9 cellsES cellsStr
  obtain ⟨a2, s2, hv2, _⟩ := laid_sentinel h0.tail.tail.tail.tail gSyn gSynT Tryd.underlying81 errRow Tryd.underlying124 Tryd.underlying126 rfl rfl Tryd.underlying9 cellsES cellsStr
  exact ⟨tab_head hp, maxLen_cell hSh, ⟨_, by simpa using World.var?_cell gSyn hv2 0, .inr ⟨_, _, rfl⟩⟩, ⟨_, by simpa using World.var?_cell gRan hv1 0, .inr ⟨_, _, rfl⟩⟩⟩

theorem addr_at (b o k : Nat) : (⟨b, o, none⟩ : Addr).add k = ⟨b, o + k, none⟩ := by
  unfold Addr.add
  split
  · rename_i h; simp_all
  · rfl
section
variable {H : Type} {enc : TypeId × Value → H}
set_option maxRecDepth 100000 in
theorem cells_frac {W : World} {n : Nat} {cs : List Value} {x : DataW H × List MemPlace} (h : DataW.trod enc Tryd.prog W 0 (fun _ => true) true n 23 cs = some x) : ∃ p : Int × Int, cs = [.int .i64 p.1, .int .i64 p.2] := by
  obtain ⟨xs, m, _, _, hcl, hxl, hf⟩ := DataW.trod_struct Tryd.underlying23 h
  rw [cellsFrac] at hcl
  match cs, hcl with
  | [c0, c1], _ =>
    have h0 := hf 0 _ rfl
    have h1 := hf 1 _ rfl
    have e0 : ∃ y, xs[0]? = some y := ⟨_, List.getElem?_eq_getElem (by rw [hxl]; decide)⟩
    have e1 : ∃ y, xs[1]? = some y := ⟨_, List.getElem?_eq_getElem (by rw [hxl]; decide)⟩
    obtain ⟨y0, e0⟩ := e0
    obtain ⟨y1, e1⟩ := e1
    rw [e0] at h0
    rw [e1] at h1
    obtain ⟨a, q0, _⟩ := DataW.trod_int Tryd.underlying3 h0
    obtain ⟨b, q1, _⟩ := DataW.trod_int Tryd.underlying3 h1
    simp [cellsInt] at q0 q1
    exact ⟨(a, b), by rw [q0, q1]⟩
set_option maxRecDepth 100000 in
/-- A list of fractions that came in. -/
theorem open_fracs {W : World} {base : Nat} {v : Value} {d : DataW H} {p : List MemPlace} (hv : Value.okWide Tryd.prog W .any base 42 v) (h : DataW.Trod enc Tryd.prog W 0 (fun _ => true) true 42 v d p) :
    ∃ (l : List (Int × Int)) (a : Option Addr) (cap b o : Nat), v = .slice a l.length cap ∧ (l ≠ [] → a = some ⟨b, o, none⟩) ∧ FrAt W b o l ∧ l.length ≤ cap ∧ ((d = .nil ∧ l = []) ∨ ∃ el sp, d = .slice el sp ∧ el.length = l.length) := by
  obtain ⟨a, len, cap, rfl⟩ := okWide_slice Tryd.underlying42 hv
  obtain ⟨fuel, hf⟩ := h
  rcases open_slice Tryd.underlying42 hf with ⟨h0, h1⟩ | ⟨ad, len', cap', m, n, D, Pl, hcs, hb, hl, hm, hmm, hx, hi⟩
  · simp [Value.cells] at h0
    obtain ⟨rfl, rfl, rfl⟩ := h0
    refine ⟨[], none, 0, 0, 0, rfl, fun h => absurd rfl h, fun i p hp => by simp at hp, by simp, .inl ⟨?_, rfl⟩⟩
    simpa using congrArg Prod.fst h1
  · simp [Value.cells] at hcs
    obtain ⟨rfl, rfl, rfl⟩ := hcs
    have hlm : len ≤ m := by rw [hmm]; simpa using hl
    have key : ∀ i, i < len → ∃ p : Int × Int, W.cell? (ad.add (i * 2)) = some (.int .i64 p.1) ∧ W.cell? (ad.add (i * 2 + 1)) = some (.int .i64 p.2) := fun i hi' => by
      obtain ⟨cs', hc, ht⟩ := hi i (by omega)
      rw [cellsFrac] at hc
      obtain ⟨p, rfl⟩ := cells_frac ht
      obtain ⟨_, _, hat⟩ := World.cells?_some hc
      have h0 := hat 0 (by omega)
      have h1 := hat 1 (by omega)
      rw [add_add] at h0 h1
      exact ⟨p, h0, h1⟩
    obtain ⟨F, hF⟩ : ∃ F : Nat → Int × Int, ∀ i, i < len → W.cell? (ad.add (i * 2)) = some (.int .i64 (F i).1) ∧ W.cell? (ad.add (i * 2 + 1)) = some (.int .i64 (F i).2) :=
      ⟨fun i => if h : i < len then (key i h).choose else (0, 0), fun i hi' => by simp only [dif_pos hi']; exact (key i hi').choose_spec⟩
    refine ⟨(List.range len).map F, some ad, cap, ad.block, ad.off, by simp, ?_, ?_, by simpa using hl, .inr ⟨_, _, congrArg Prod.fst hx, by simp⟩⟩
    · intro hne
      have hpos : 0 < len := by
        rcases Nat.eq_zero_or_pos len with h | h
        · subst h; simp at hne
        · exact h
      have := World.cell?_spot (hF 0 hpos).1
      obtain ⟨bb, oo, ss⟩ := ad
      simp [Addr.add] at this
      rw [this]
    · intro i p hp
      rw [List.getElem?_map] at hp
      by_cases hi' : i < len
      · have hs := World.cell?_spot (hF i hi').1
        rw [List.getElem?_range hi'] at hp
        simp at hp
        subst hp
        obtain ⟨bb, oo, ss⟩ := ad
        have hss : ss = none := by
          have h0 := World.cell?_spot (hF 0 (by omega)).1
          simpa [Addr.add] using h0
        subst hss
        have := hF i hi'
        rw [addr_at, addr_at] at this
        exact this
      · rw [List.getElem?_eq_none (by simp; omega)] at hp
        simp at hp
end
/-- A world for the witnesses: the listed tables and errors hold what their initialisers lay. -/
noncomputable def low : Nat := (World.holding Tryd.prog default ⟨#[], #[], []⟩).heap.size
noncomputable def laidWorld2 (os : Os) : World :=
  let w0 := World.holding Tryd.prog os ⟨#[.cells #[.string ⟨#[118, 97, 108, 117, 101, 32, 111, 117, 116, 32, 111, 102, 32, 114, 97, 110, 103, 101]⟩] 126, .cells #[.string ⟨#[105, 110, 118, 97, 108, 105, 100, 32, 115, 121, 110, 116, 97, 120]⟩] 126], #[], []⟩
  { w0 with heap := ((((w0.heap.modify 6 (lay (vals Rows.laid_math_bits_deBruijn32tab))).modify 7 (lay (vals Rows.laid_math_bits_deBruijn64tab))).modify 5 (lay (vals Rows.laid_internal_strconv_uint64pow10))).modify 4 (lay #[.iface 124 (.pointer (some ⟨low, 0, none⟩))])).modify 3 (lay #[.iface 124 (.pointer (some ⟨low + 1, 0, none⟩))]) }
end Go.Proofs.YtpjkiljgccjemaaDoor
