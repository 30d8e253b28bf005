/- Lemmas of the proof. -/
import Derived.Test.YtlapbaiejnaeiaaGreatDoorCards
import Derived.Test.YtlapbaiejnaeiaaGreatDoorTie
import Derived.Test.YtlapbaiejnaeiaaGreatDoorMu
import Derived.Test.YtlapbaiejnaeiaaGreatDoorMa
import Derived.Shelf.Vars
import Derived.Stop.LaidErr
import Derived.Stop.Texts
import Derived.Stop.ErrReads
import Derived.Test.YtlapbaiejnaeiaaGreatDoorPf
import Derived.Test.YtlapbaiejnaeiaaGreatDoorNn
import Derived.Test.YtlapbaiejnaeiaaGreatDoorMj
import Derived.Test.YtlapbaiejnaeiaaGreatDoorMk
import Derived.Test.YtlapbaiejnaeiaaGreatDoorPh
import Derived.Test.YtlapbaiejnaeiaaGreatDoorPc
import Derived.Test.YtlapbaiejnaeiaaGreatDoorPe
import Derived.Test.YtlapbaiejnaeiaaGreatDoorNz
import Derived.Test.YtlapbaiejnaeiaaGreatDoorXd
set_option linter.all false
set_option maxHeartbeats 64000000
namespace Go.Proofs.YtlapbaiejnaeiaaGreatDoor
open Go.ChangeShapes Go.WideShapes Go.ChangeAt Go.RowKit Go.Joins
def a5j := @Option.some.inj
def b0p := @Tryz.results12
def b3t := @Tryz.underlying281
def b3u := @Tryz.underlying283
theorem gTab : Tryz.prog.globalNamed "internal/strconv.uint64pow10" = some 3 := by kernel_rfl
theorem gTabType : (Tryz.prog.globals[3]?).map (·.type) = some 305 := by kernel_rfl
theorem A82 : Tryz.prog.cellsOf 155 = 1 := by kernel_rfl
theorem A81 : Tryz.prog.cellsOf 305 = 20 := by kernel_rfl
theorem gLen : Tryz.prog.globalNamed "internal/bytealg.MaxLen" = some 0 := by kernel_rfl
theorem gRan : Tryz.prog.globalNamed "strconv.ErrRange" = some 2 := by kernel_rfl
theorem gSyn : Tryz.prog.globalNamed "strconv.ErrSyntax" = some 1 := by kernel_rfl
theorem Ady : (Tryz.prog.globals[2]?).map (·.type) = some 72 := by kernel_rfl
theorem Adz : (Tryz.prog.globals[1]?).map (·.type) = some 72 := by kernel_rfl
theorem A0u : Tryz.prog.cellsOf 283 = 1 := by kernel_rfl
theorem X2 : Tryz.prog.cellsOf 9 = 1 := by kernel_rfl
theorem Adq : "*" ++ "errors.errorString" = "*errors.errorString" := by decide
theorem A59 (u : TypeId) (h : Tryz.prog.typeName? 3 u = some "*errors.errorString") : u = 281 :=
 typeName_ptr_named (nm := "errors.errorString") (by rw [Adq];kernel_rfl) (by kernel_rfl) (by decide) u (by rw [Adq];exact h)
theorem A05 {w : World} (h : w.ShapedOpen Tryz.prog) : ∃ m : Int, w.cell? ⟨0, 0, none⟩ = some (.int .i64 m) :=
 cell_of_shapedOpen_int (zero := #[.int .i64 0]) (t := 3) h (of_decide_eq_true (by kernel_rfl)) (by kernel_rfl) rfl (by kernel_rfl) (by kernel_rfl) a2k
theorem Aaa {W : World} {rest : List (String × DataW Unit)} {ps : List MemPlace} (h : DataW.LaidVars Tryz.prog W (("internal/strconv.uint64pow10", Lib.tabData .u64 Lib.pow10Tab) :: rest) ps) : Lib.TabIs Tryz.prog W "internal/strconv.uint64pow10" .u64 Lib.pow10Tab := by
 obtain ⟨g', t', cs, fuel, p, q, hg', ht', hvar, hd, _, _⟩ := h
 obtain rfl := a5j (gTab.symm.trans hg')
 obtain rfl := a5j (gTabType.symm.trans ht')
 unfold Lib.TabIs
 rw [hvar, <- Lib.cells_of_tab Tryz.underlying305 a9j A82 A81 hd]
theorem Ab9 {W : World} (h : laidMetH Tryz.prog [("math/bits.deBruijn32tab", Rows.laid_math_bits_deBruijn32tab), ("math/bits.deBruijn64tab", Rows.laid_math_bits_deBruijn64tab), ("internal/strconv.uint64pow10", Rows.laid_internal_strconv_uint64pow10), ("unicode/utf8.acceptRanges", Rows.laid_unicode_utf8_acceptRanges), ("strconv.ErrRange", Rows.laid_strconv_ErrRange), ("strconv.ErrSyntax", Rows.laid_strconv_ErrSyntax), ("unicode/utf8.first", Rows.laid_unicode_utf8_first)] W) (hSh : W.ShapedOpen Tryz.prog) : Glob W := by
 have h0 : laidMet Tryz.prog _ W := h
 obtain ⟨ps, hp, _⟩ := h0.tail.tail
 obtain ⟨a1, s1, hv1, _⟩ := laid_sentinel h0.tail.tail.tail.tail gRan Ady Tryz.underlying72 A59 b3t b3u rfl rfl a5s A0u X2
 obtain ⟨a2, s2, hv2, _⟩ := laid_sentinel h0.tail.tail.tail.tail.tail gSyn Adz Tryz.underlying72 A59 b3t b3u rfl rfl a5s A0u X2
 exact ⟨fun _ => Aaa hp, fun g hg => by obtain rfl := a5j (gLen.symm.trans hg);exact A05 hSh,
  fun g hg => by obtain rfl := a5j (gSyn.symm.trans hg);exact ⟨_, by simpa using World.var?_cell gSyn hv2 0, .inr ⟨_, _, rfl⟩⟩,
  fun g hg => by obtain rfl := a5j (gRan.symm.trans hg);exact ⟨_, by simpa using World.var?_cell gRan hv1 0, .inr ⟨_, _, rfl⟩⟩⟩
def Aec : DataW Unit -> Value
 | .lit (.int k n) => .int k n
 | _ => .int .i64 0
def Aeb : DataW Unit -> List Value
 | .lit (.int k n) => [.int k n]
 | .agg r => r.map Aec
 | _ => [.int .i64 0]
def Zh : DataW Unit -> Array Value
 | .agg l => (l.flatMap Aeb).toArray
 | _ => #[]
def lay (cs : Array Value) : Obj -> Obj
 | .cells _ t frozen => .cells cs t frozen
 | o => o
noncomputable def low : Nat := (World.holding Tryz.prog default ⟨#[], #[], []⟩).heap.size
noncomputable def Nq (os : Os) : World :=
 let w0 := World.holding Tryz.prog os ⟨#[.cells #[.string ⟨#[118, 97, 108, 117, 101, 32, 111, 117, 116, 32, 111, 102, 32, 114, 97, 110, 103, 101]⟩] 283, .cells #[.string ⟨#[105, 110, 118, 97, 108, 105, 100, 32, 115, 121, 110, 116, 97, 120]⟩] 283], #[], []⟩
 { w0 with heap := ((((((w0.heap.modify 8 (lay (Zh Rows.laid_math_bits_deBruijn32tab))).modify 9 (lay (Zh Rows.laid_math_bits_deBruijn64tab))).modify 3 (lay (Zh Rows.laid_internal_strconv_uint64pow10))).modify 5 (lay (Zh Rows.laid_unicode_utf8_acceptRanges))).modify 4 (lay (Zh Rows.laid_unicode_utf8_first))).modify 2 (lay #[.iface 281 (.pointer (some ⟨low, 0, none⟩))])).modify 1 (lay #[.iface 281 (.pointer (some ⟨low + 1, 0, none⟩))]) }
section
variable {H : Type} {enc : TypeId × Value -> H}
end
set_option maxRecDepth 100000 in
theorem Abv {W : World} {base : Nat} {v : Value} (hv : Value.okWide Tryz.prog W .any base 5 v) : ∃ p : Int, (0 <= p /\ p <= 255) /\ v = .int .u8 p := by
 unfold Value.okWide at hv
 rw [a8e] at hv
 unfold Cell.okWide at hv
 rw [a8e] at hv
 unfold Cell.ok at hv
 rw [a8e] at hv
 cases v with
 | int k n =>
  obtain ⟨rfl, h⟩ := hv
  have h1 : IntKind.u8.min = 0 := rfl
  have h2 : IntKind.u8.max = 255 := rfl
  unfold IntKind.has at h
  exact ⟨n, by rw [h1, h2] at h;simpa using h, rfl⟩
 | _ => exact hv.elim
set_option maxRecDepth 100000 in
theorem A9n {W : World} {base : Nat} {v : Value} (hv : Value.okWide Tryz.prog W .any base 59 v) : ∃ p : Int, (0 <= p /\ p <= 65535) /\ v = .int .u16 p := by
 unfold Value.okWide at hv
 rw [a7v] at hv
 unfold Cell.okWide at hv
 rw [a7v] at hv
 unfold Cell.ok at hv
 rw [a7v] at hv
 cases v with
 | int k n =>
  obtain ⟨rfl, h⟩ := hv
  have h1 : IntKind.u16.min = 0 := rfl
  have h2 : IntKind.u16.max = 65535 := rfl
  unfold IntKind.has at h
  exact ⟨n, by rw [h1, h2] at h;simpa using h, rfl⟩
 | _ => exact hv.elim
end Go.Proofs.YtlapbaiejnaeiaaGreatDoor
namespace Go.Proofs.YtlapbaiejnaeiaaGreatDoor
open Go.RowKit
end Go.Proofs.YtlapbaiejnaeiaaGreatDoor
namespace Go.Proofs.YtlapbaiejnaeiaaGreatDoor
open Go Go.RowKit
theorem A3t {α : Type} {a b : List α} {k : Nat} {x y : α} (h : a.take k = b.take k) (hx : a[k]? = some x) (hy : b[k]? = some y) (e : x = y) : a.take (k + 1) = b.take (k + 1) := by rw [B8 hx, B8 hy, h, e]
theorem Tw (x y : ConR) : eqC x.a x.b x.lo x.hi y.a y.b y.lo y.hi ↔ x = y := by
 obtain ⟨a, b, u, v⟩ := x
 obtain ⟨a', b', u', v'⟩ := y
 simp [eqC]
instance : DecidableEq ConR := fun x y => decidable_of_iff _ (Tw x y)
theorem Sb (a b : List ConR) (ha : a.length <= 1000000) (hb : b.length <= 1000000) : Fn0 Tryz.prog 12 [.sl (a.map ConR.row), .sl (b.map ConR.row)] (.b (decide (a = b))) := by
 have hla : (a.map ConR.row).length = a.length := a0a _
 have hlb : (b.map ConR.row).length = b.length := a0a _
 by_cases hl : a.length = b.length
 ·have hl1 : ((a.map ConR.row).length : Int) = ((b.map ConR.row).length : Nat) := by omega
  refine Fn0.of Tryz.func12 Tryz.ntmps12 rfl rfl rfl ?_
  simp only [A2]
  repeat' (first
   | refine W ?_

   | refine V ?_
   | (refine W2 ?_ ?_<;>intro hc))
  refine p0d (fun k => k <= a.length /\ a.take k = b.take k) (fun k => a.length - k) (fun k => [(13, .i k), (12, .i (a.map ConR.row).length), (0, .sl (a.map ConR.row)), (1, .sl (b.map ConR.row))]) (fun _ => []) 0 ⟨a0o _, rfl⟩ CW .nil ?_
  rintro k ⟨hk, heq⟩
  by_cases hlt : k < a.length
  ·have h1 : (k : Int) < ((a.map ConR.row).length : Nat) := by omega
   obtain ⟨x, hx⟩ := Aa hlt
   obtain ⟨y, hy⟩ := Aa (l := b) (k := k) (by omega)
   have hbx := Ab (R := ConR.row) hx
   have hby := Ab (R := ConR.row) hy
   by_cases e : eqC x.a x.b x.lo x.hi y.a y.b y.lo y.hi
   ·repeat' (first|refine W ?_|(apply p0b A0 (by decide +kernel))|refine Y ?_|(apply p3x rfl;(iterate 3 exact rfl))|(apply p4a rfl;(iterate 3 exact rfl))|refine V ?_|(refine W2 ?_ ?_<;>intro hc))
    all_goals (try change Next _ _ _ _ _ _)
    all_goals exact Next.go (k + 1) ⟨by omega, A3t heq hx hy ((Tw x y).1 e)⟩ (by omega) CW .nil
   ·repeat' (first|refine W ?_|(apply p0b A0 (by decide +kernel))|refine Y ?_|(apply p3x rfl;(iterate 3 exact rfl))|(apply p4a rfl;(iterate 3 exact rfl))|refine V ?_|(refine W2 ?_ ?_<;>intro hc))
    all_goals exact A4 (by simp) b0p rfl (congrArg Value.bool (decide_eq_false fun k => by subst k;rw [hx] at hy;injection hy with hy;exact e ((Tw x y).2 hy)).symm)
  ·have h1 : ¬ (k : Int) < ((a.map ConR.row).length : Nat) := by omega
   rw [a0h (by omega), a0h (by omega)] at heq
   repeat' (first
    | refine W ?_

    | refine V ?_
    | (refine W2 ?_ ?_<;>intro hc))
   exact A4 (by simp) b0p rfl (congrArg Value.bool (decide_eq_true heq).symm)
 ·have hl1 : ¬ ((a.map ConR.row).length : Int) = ((b.map ConR.row).length : Nat) := by omega
  refine Fn0.of Tryz.func12 Tryz.ntmps12 rfl rfl rfl ?_
  simp only [A2]
  repeat' (first
   | refine W ?_

   | refine V ?_
   | (refine W2 ?_ ?_<;>intro hc))
  all_goals exact A4 (by simp) b0p rfl (congrArg Value.bool (decide_eq_false fun e => hl (by rw [e])).symm)
/-! ### The example -/
def houseN : HouseR := ⟨⟨#[104]⟩, 7000, [], []⟩
def sheetN : SheetR := ⟨[], []⟩
theorem Xu : Cn houseN := by
 refine ⟨by decide, by decide, by decide, by decide, ?_, (fun s hs => by cases hs), ?_⟩
 ·simp [houseN, T5]
 ·simp [houseN]
theorem Qa : houseN.fits := ⟨by decide, by decide, fun s hs => by cases hs⟩
theorem A0g : sheetN.fits := ⟨by decide, by decide, fun s hs => by cases hs⟩
theorem Ads : validP houseN sheetN := by
 refine ⟨Xu, by decide, ?_, ?_⟩
 ·simp [sheetN, A2p]
 ·simp [sheetN, Nx]
theorem alN : alE houseN sheetN [] = 0 := by
 have hb : ¬ Qo houseN sheetN := fun ⟨k, hk, _⟩ => absurd hk (Nat.not_lt_zero k)
 unfold alE
 rw [if_pos Ads]
 unfold mdE
 rw [if_neg hb]
 have h0 : Fs houseN { cues := [], apart := [] } 0 = [] := rfl
 simp [stE, sheetN, Cv, Bk, F1, h0]
theorem Aed : endI houseN sheetN [] = 0 := by
 unfold endI F3
 rfl
theorem A38 (h : HouseR) (hf : h.fits) (hp : Cn h) (h0 : h.sets = []) : Fn0 Tryz.prog 50 [A1 h.row] (.tup [.sl [], .i 0]) := by
 have hv := G6 h hf
 rw [decide_eq_true hp] at hv
 have h1 : ¬ (0 : Int) < ((h.sets.map SetR.row).length : Nat) := by rw [h0];decide
 skip
 refine Fn0.of Tryz.func50 Tryz.ntmps50 rfl rfl rfl ?_
 simp only [A2]
 repeat' (first|refine W ?_|refine Y ?_|refine V ?_|(refine W2 ?_ ?_<;>intro hc))
 refine p0d (fun (_ : Unit) => True) (fun _ => 0) (fun _ => [(17, .i 0), (4, .val (.slice none 0 0)), (16, .i (h.sets.map SetR.row).length)]) (fun _ => []) () trivial CW .nil ?_
 intro _ _
 repeat' (first|refine W ?_|refine Y ?_|(refine p0z 2 rfl ?_;apply T.ret;change Bj _ _ _ _ _)|refine V ?_|(refine W2 ?_ ?_<;>intro hc))
 all_goals exact D2 rfl rfl rfl
theorem A2c : Fn0 Tryz.prog 49 [A1 houseN.row, A1 sheetN.row, .sl (([] : List Int).map A3)] (.tup [.sl [], .i 0]) := by
 have ce := Rg houseN sheetN Qa A0g [] (by decide) alN
 rw [Aed] at ce
 have cm := Fw 0 1000 (by decide) (by omega) (by omega) (by decide) (by decide) (by decide)
 have cp := A38 houseN Qa Xu rfl
 change Fn0 _ _ _ (.tup [_, .i 0]) at cm
 have h1 : ¬ (0 : Int) < (([] : List (List Lf)).length : Nat) := by decide
 refine Fn0.of b2u b1v rfl rfl rfl ?_
 simp only [A2]
 repeat' (first|refine W ?_|refine Y ?_|(refine p1y [(8, .ptr 2 0)] b2w b1x rfl rfl rfl rfl rfl rfl rfl CW rfl ?_;intro vs;simp only [A2, a2j, a3m])|refine V ?_|(refine W2 ?_ ?_<;>intro hc))
 refine p0d (fun (_ : Unit) => True) (fun _ => 0) (fun _ => [(49, .i 0), (48, .i ([] : List (List Lf)).length), (47, .sl []), (3, .fn (.func 75) [] [.ptr 2 0])]) (fun _ => [.live (houseN.row.map .lf), .live (sheetN.row.map .lf), .live [.val (.slice none 0 0)], .gho [.ptr 2 0] vs]) () trivial CW (.live rfl (.live rfl (.live rfl (.gho rfl .nil)))) ?_
 intro _ _
 repeat' (first|refine W ?_|refine Y ?_|(apply T.ret;(first|change Co Tryz.prog Tryz.f74 _ _ _ _ _ _|(dsimp only [C1, Cy];change Co Tryz.prog Tryz.f74 _ _ _ _ _ _));refine ⟨.inr rfl, [_], .cons (.tmp rfl) .nil, rfl, ?_⟩;show Reg none _ _ _ _ _ _ _)|(refine p0z 6 rfl ?_;apply T.ret;change Bj _ _ _ _ _)|refine V ?_|(refine W2 ?_ ?_<;>intro hc))
 all_goals exact D2 rfl rfl rfl
theorem A2d : Fn0 Tryz.prog 20 [A1 houseN.row, A1 sheetN.row, .sl (([] : List Int).map A3)] (.tup [.sl [], .i 0]) := by
 have cc := A2c
 refine Fn0.of Tryz.func20 Tryz.ntmps20 rfl rfl rfl ?_
 simp only [A2]
 repeat' (first|refine W ?_|refine Y ?_|refine V ?_|(refine W2 ?_ ?_<;>intro hc))
 all_goals exact D2 rfl rfl rfl
def Ku : ConR := ⟨⟨#[97]⟩, ⟨#[98]⟩, 2285, 2286⟩
theorem Mu : Av Ku := ⟨by decide +kernel, by decide +kernel, by decide⟩
theorem A7l : ofL (Bf [Ku]) = ⟨#[97, 32, 98, 32, 50, 50, 56, 53, 32, 50, 50, 56, 54, 10]⟩ := by
 apply Kz
 rw [Fd]
 decide +kernel
theorem tryC_par : R7 (Bf [Ku]) = [Ku] /\ R6 (Bf [Ku]) = 0 := A69 ⟨rfl, fun x hx => by obtain rfl := a2n.1 hx;exact Mu, by decide⟩
theorem A5p : Fn0 Tryz.prog 7 [] (.b true) := by
 have ct := A86 [Ku] (by decide) (fun x hx => by obtain rfl := a2n.1 hx;exact Mu)
 have cp := A4r (Bf [Ku]) (by have := A1y (l := [Ku]) (fun x hx => by obtain rfl := a2n.1 hx;exact Mu);simp only [a0i, a0n] at this;omega)
 rw [tryC_par.1, tryC_par.2] at cp
 rw [A7l] at ct cp
 have ce := Sb [Ku] [Ku] (by decide) (by decide)
 rw [decide_eq_true rfl] at ce
 have cc := (A2d).nils (args := [A1 houseN.row, A1 sheetN.row, .val (.slice none 0 0)]) rfl
 refine Fn0.of Tryz.func7 Tryz.ntmps7 rfl rfl rfl ?_
 simp only [A2]
 repeat' (first|refine W ?_|refine Y ?_|(apply p0c;(iterate 7 exact rfl))|refine V ?_|(refine W2 ?_ ?_<;>intro hc))
 all_goals exact A4 (by simp) Tryz.results7 rfl rfl
end Go.Proofs.YtlapbaiejnaeiaaGreatDoor
