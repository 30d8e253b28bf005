/- Lemmas of the proof. -/
import Derived.Test.YtlapbaiejnaeiaaGreatDoorCards
import Derived.Test.YtlapbaiejnaeiaaGreatDoorTie
import Derived.Test.YtlapbaiejnaeiaaGreatDoorMu
import Derived.Test.YtlapbaiejnaeiaaGreatDoorMa
import Derived.Shelf.Vars
import Derived.Stop.LaidErr
import Derived.Stop.Texts
import Derived.Stop.ErrReads
import Derived.Test.YtlapbaiejnaeiaaGreatDoorPf
import Derived.Test.YtlapbaiejnaeiaaGreatDoorMk
import Derived.Test.YtlapbaiejnaeiaaGreatDoorPc
import Derived.Test.YtlapbaiejnaeiaaGreatDoorXb
set_option linter.all false
set_option maxHeartbeats 64000000
namespace Go.Proofs.YtlapbaiejnaeiaaGreatDoor
open Go.ChangeShapes Go.WideShapes Go.ChangeAt Go.RowKit Go.Joins
def a5g := @Option.some.inj
def b0o := @Tryz.results12
def b3u := @Tryz.underlying281
def b3v := @Tryz.underlying283
theorem gTab : Tryz.prog.globalNamed "internal/strconv.uint64pow10" = some 3 := by kernel_rfl
theorem gTabType : (Tryz.prog.globals[3]?).map (·.type) = some 305 := by kernel_rfl
theorem A94 : Tryz.prog.cellsOf 155 = 1 := by kernel_rfl
theorem A93 : Tryz.prog.cellsOf 305 = 20 := by kernel_rfl
theorem gLen : Tryz.prog.globalNamed "internal/bytealg.MaxLen" = some 0 := by kernel_rfl
theorem gRan : Tryz.prog.globalNamed "strconv.ErrRange" = some 2 := by kernel_rfl
theorem gSyn : Tryz.prog.globalNamed "strconv.ErrSyntax" = some 1 := by kernel_rfl
theorem Afb : (Tryz.prog.globals[2]?).map (·.type) = some 72 := by kernel_rfl
theorem Afc : (Tryz.prog.globals[1]?).map (·.type) = some 72 := by kernel_rfl
theorem A15 : Tryz.prog.cellsOf 283 = 1 := by kernel_rfl
theorem X6 : Tryz.prog.cellsOf 9 = 1 := by kernel_rfl
theorem Af0 : "*" ++ "errors.errorString" = "*errors.errorString" := by decide
theorem A5y (u : TypeId) (h : Tryz.prog.typeName? 3 u = some "*errors.errorString") : u = 281 :=
 typeName_ptr_named (nm := "errors.errorString") (by rw [Af0];kernel_rfl) (by kernel_rfl) (by decide) u (by rw [Af0];exact h)
theorem A0b {w : World} (h : w.ShapedOpen Tryz.prog) : ∃ m : Int, w.cell? ⟨0, 0, none⟩ = some (.int .i64 m) :=
 cell_of_shapedOpen_int (zero := #[.int .i64 0]) (t := 3) h (of_decide_eq_true (by kernel_rfl)) (by kernel_rfl) rfl (by kernel_rfl) (by kernel_rfl) a2f
theorem Abj {W : World} {rest : List (String × DataW Unit)} {ps : List MemPlace} (h : DataW.LaidVars Tryz.prog W (("internal/strconv.uint64pow10", Lib.tabData .u64 Lib.pow10Tab) :: rest) ps) : Lib.TabIs Tryz.prog W "internal/strconv.uint64pow10" .u64 Lib.pow10Tab := by
 obtain ⟨g', t', cs, fuel, p, q, hg', ht', hvar, hd, _, _⟩ := h
 obtain rfl := a5g (gTab.symm.trans hg')
 obtain rfl := a5g (gTabType.symm.trans ht')
 unfold Lib.TabIs
 rw [hvar, <- Lib.cells_of_tab Tryz.underlying305 a9g A94 A93 hd]
theorem Acf {W : World} (h : laidMetH Tryz.prog [("math/bits.deBruijn32tab", Rows.laid_math_bits_deBruijn32tab), ("math/bits.deBruijn64tab", Rows.laid_math_bits_deBruijn64tab), ("internal/strconv.uint64pow10", Rows.laid_internal_strconv_uint64pow10), ("unicode/utf8.acceptRanges", Rows.laid_unicode_utf8_acceptRanges), ("strconv.ErrRange", Rows.laid_strconv_ErrRange), ("strconv.ErrSyntax", Rows.laid_strconv_ErrSyntax), ("unicode/utf8.first", Rows.laid_unicode_utf8_first)] W) (hSh : W.ShapedOpen Tryz.prog) : Glob W := by
 have h0 : laidMet Tryz.prog _ W := h
 obtain ⟨ps, hp, _⟩ := h0.tail.tail
 obtain ⟨a1, s1, hv1, _⟩ := laid_sentinel h0.tail.tail.tail.tail gRan Afb Tryz.underlying72 A5y b3u b3v rfl rfl a5o A15 X6
 obtain ⟨a2, s2, hv2, _⟩ := laid_sentinel h0.tail.tail.tail.tail.tail gSyn Afc Tryz.underlying72 A5y b3u b3v rfl rfl a5o A15 X6
 exact ⟨fun _ => Abj hp, fun g hg => by obtain rfl := a5g (gLen.symm.trans hg);exact A0b hSh,
  fun g hg => by obtain rfl := a5g (gSyn.symm.trans hg);exact ⟨_, by simpa using World.var?_cell gSyn hv2 0, .inr ⟨_, _, rfl⟩⟩,
  fun g hg => by obtain rfl := a5g (gRan.symm.trans hg);exact ⟨_, by simpa using World.var?_cell gRan hv1 0, .inr ⟨_, _, rfl⟩⟩⟩
def Afm : DataW Unit -> Value
 | .lit (.int k n) => .int k n
 | _ => .int .i64 0
def Afl : DataW Unit -> List Value
 | .lit (.int k n) => [.int k n]
 | .agg r => r.map Afm
 | _ => [.int .i64 0]
def Zo : DataW Unit -> Array Value
 | .agg l => (l.flatMap Afl).toArray
 | _ => #[]
def lay (cs : Array Value) : Obj -> Obj
 | .cells _ t frozen => .cells cs t frozen
 | o => o
noncomputable def low : Nat := (World.holding Tryz.prog default ⟨#[], #[], []⟩).heap.size
noncomputable def O8 (os : Os) : World :=
 let w0 := World.holding Tryz.prog os ⟨#[.cells #[.string ⟨#[118, 97, 108, 117, 101, 32, 111, 117, 116, 32, 111, 102, 32, 114, 97, 110, 103, 101]⟩] 283, .cells #[.string ⟨#[105, 110, 118, 97, 108, 105, 100, 32, 115, 121, 110, 116, 97, 120]⟩] 283], #[], []⟩
 { w0 with heap := ((((((w0.heap.modify 8 (lay (Zo Rows.laid_math_bits_deBruijn32tab))).modify 9 (lay (Zo Rows.laid_math_bits_deBruijn64tab))).modify 3 (lay (Zo Rows.laid_internal_strconv_uint64pow10))).modify 5 (lay (Zo Rows.laid_unicode_utf8_acceptRanges))).modify 4 (lay (Zo Rows.laid_unicode_utf8_first))).modify 2 (lay #[.iface 281 (.pointer (some ⟨low, 0, none⟩))])).modify 1 (lay #[.iface 281 (.pointer (some ⟨low + 1, 0, none⟩))]) }
section
variable {H : Type} {enc : TypeId × Value -> H}
end
set_option maxRecDepth 100000 in
theorem Aar {W : World} {base : Nat} {v : Value} (hv : Value.okWide Tryz.prog W .any base 3 v) : ∃ p : Int, (-9223372036854775808 <= p /\ p <= 9223372036854775807) /\ v = .int .i64 p := by
 unfold Value.okWide at hv
 rw [a2f] at hv
 unfold Cell.okWide at hv
 rw [a2f] at hv
 unfold Cell.ok at hv
 rw [a2f] at hv
 cases v with
 | int k n =>
  obtain ⟨rfl, h⟩ := hv
  have h1 : IntKind.i64.min = -9223372036854775808 := rfl
  have h2 : IntKind.i64.max = 9223372036854775807 := rfl
  unfold IntKind.has at h
  exact ⟨n, by rw [h1, h2] at h;simpa using h, rfl⟩
 | _ => exact hv.elim
end Go.Proofs.YtlapbaiejnaeiaaGreatDoor
namespace Go.Proofs.YtlapbaiejnaeiaaGreatDoor
open Go Go.RowKit
theorem Rl {α : Type} (l : List α) (R : α -> List Lf) (p : α -> Prop) [DecidablePred p] (g : FuncId) (caps : List AV) (hR : ∀ x, (R x).length = 4) (hl : l.length <= 9223372036854775807) (hcaps : caps.all p1n = true) (hg : ∀ x ∈ l, Fn0 Tryz.prog g (.agg ((R x).map .lf) :: caps) (.b (decide (p x)))) :
  Fn0 Tryz.prog 22 [.sl (l.map R), .fn (.func g) [] caps] (.i (idx p l)) := by
 refine Fn0.of Tryz.func22 Tryz.ntmps22 rfl rfl rfl ?_
 simp only [A1]
 repeat' (first
  | refine W ?_

  | refine V ?_
  | (refine W2 ?_ ?_<;>intro hc))
 refine p0d (fun k => k <= l.length /\ ∀ x ∈ l.take k, ¬ p x) (fun k => l.length - k) (fun k => [(8, .i k), (7, .i (l.map R).length), (0, .sl (l.map R)), (1, .fn (.func g) [] caps)]) (fun _ => []) 0 ⟨a0n _, by simp⟩ (.cons rfl rfl (.cons rfl rfl (.cons rfl rfl (.cons rfl (B6 hcaps) .nil)))) .nil ?_
 rintro k ⟨hk, hno⟩
 have hle : (l.map R).length = l.length := a0a _
 by_cases hlt : k < l.length
 ·have h1 : (k : Int) < ((l.map R).length : Nat) := by omega
  obtain ⟨x, hx⟩ : ∃ x, l[k]? = some x := ⟨l[k], a0c hlt⟩
  have hb : (l.map R)[((k : Nat) : Int).toNat]? = some (R x) := by rw [a0s, a0e, hx];rfl
  have hx2 := hg x (a0b hx)
  repeat' (first|refine W ?_|(apply S.indexR;(iterate 3 exact rfl);exact hb;omega;exact hR x)|(apply p0k;(iterate 3 exact rfl);exact hR x)|(apply S.callF;exact rfl;exact rfl;exact hx2;exact Ep hcaps;exact rfl)|refine Za ?_|refine V ?_|(refine W2 ?_ ?_<;>intro hc))
  all_goals first
   | exact Next.go (k + 1) ⟨by omega, by rw [a0w, hx];intro y hy;rcases a0t.1 hy with hy | hy;exact hno y hy;obtain rfl : y = x := (by simpa using hy);assumption⟩ (by omega) (.cons rfl rfl (.cons rfl rfl (.cons rfl rfl (.cons rfl (B6 hcaps) .nil)))) .nil
   | exact A4 (by simp) Tryz.results22 rfl (by rw [Gp hx hno (by assumption)])
 ·have h1 : ¬ (k : Int) < ((l.map R).length : Nat) := by omega
  repeat' (first
   | refine W ?_

   | refine V ?_
   | (refine W2 ?_ ?_<;>intro hc))
  exact A4 (by simp) Tryz.results22 rfl (by rw [E8 (by rw [a0h (by omega)] at hno;exact hno)])
theorem A4c {α : Type} {a b : List α} {k : Nat} {x y : α} (h : a.take k = b.take k) (hx : a[k]? = some x) (hy : b[k]? = some y) (e : x = y) : a.take (k + 1) = b.take (k + 1) := by rw [Be hx, Be hy, h, e]
theorem U9 (x y : ConR) : eqC x.a x.b x.lo x.hi y.a y.b y.lo y.hi ↔ x = y := by
 obtain ⟨a, b, u, v⟩ := x
 obtain ⟨a', b', u', v'⟩ := y
 simp [eqC]
instance : DecidableEq ConR := fun x y => decidable_of_iff _ (U9 x y)
theorem A3h (a b : List ConR) (ha : a.length <= 1000000) (hb : b.length <= 1000000) : Fn0 Tryz.prog 12 [.sl (a.map ConR.row), .sl (b.map ConR.row)] (.b (decide (a = b))) := by
 have hla : (a.map ConR.row).length = a.length := a0a _
 have hlb : (b.map ConR.row).length = b.length := a0a _
 by_cases hl : a.length = b.length
 ·have hl1 : ((a.map ConR.row).length : Int) = ((b.map ConR.row).length : Nat) := by omega
  refine Fn0.of Tryz.func12 Tryz.ntmps12 rfl rfl rfl ?_
  simp only [A1]
  repeat' (first
   | refine W ?_

   | refine V ?_
   | (refine W2 ?_ ?_<;>intro hc))
  refine p0d (fun k => k <= a.length /\ a.take k = b.take k) (fun k => a.length - k) (fun k => [(13, .i k), (12, .i (a.map ConR.row).length), (0, .sl (a.map ConR.row)), (1, .sl (b.map ConR.row))]) (fun _ => []) 0 ⟨a0n _, rfl⟩ CW .nil ?_
  rintro k ⟨hk, heq⟩
  by_cases hlt : k < a.length
  ·have h1 : (k : Int) < ((a.map ConR.row).length : Nat) := by omega
   obtain ⟨x, hx⟩ := Ac hlt
   obtain ⟨y, hy⟩ := Ac (l := b) (k := k) (by omega)
   have hbx := Af (R := ConR.row) hx
   have hby := Af (R := ConR.row) hy
   by_cases e : eqC x.a x.b x.lo x.hi y.a y.b y.lo y.hi
   ·repeat' (first|refine W ?_|(apply p0a A0 (by decide +kernel))|refine Y ?_|(apply p3v rfl;(iterate 3 exact rfl))|(apply p3z rfl;(iterate 3 exact rfl))|refine V ?_|(refine W2 ?_ ?_<;>intro hc))
    all_goals (try change Next _ _ _ _ _ _)
    all_goals exact Next.go (k + 1) ⟨by omega, A4c heq hx hy ((U9 x y).1 e)⟩ (by omega) CW .nil
   ·repeat' (first|refine W ?_|(apply p0a A0 (by decide +kernel))|refine Y ?_|(apply p3v rfl;(iterate 3 exact rfl))|(apply p3z rfl;(iterate 3 exact rfl))|refine V ?_|(refine W2 ?_ ?_<;>intro hc))
    all_goals exact A4 (by simp) b0o rfl (congrArg Value.bool (decide_eq_false fun k => by subst k;rw [hx] at hy;injection hy with hy;exact e ((U9 x y).2 hy)).symm)
  ·have h1 : ¬ (k : Int) < ((a.map ConR.row).length : Nat) := by omega
   rw [a0h (by omega), a0h (by omega)] at heq
   repeat' (first
    | refine W ?_

    | refine V ?_
    | (refine W2 ?_ ?_<;>intro hc))
   exact A4 (by simp) b0o rfl (congrArg Value.bool (decide_eq_true heq).symm)
 ·have hl1 : ¬ ((a.map ConR.row).length : Int) = ((b.map ConR.row).length : Nat) := by omega
  refine Fn0.of Tryz.func12 Tryz.ntmps12 rfl rfl rfl ?_
  simp only [A1]
  repeat' (first
   | refine W ?_

   | refine V ?_
   | (refine W2 ?_ ?_<;>intro hc))
  all_goals exact A4 (by simp) b0o rfl (congrArg Value.bool (decide_eq_false fun e => hl (by rw [e])).symm)
/-! ### The example -/
theorem A4d {l : List ConR} {k : Nat} {x : ConR} (h : l[k]? = some x) : Bg (l.take (k + 1)) = Bg (l.take k) ++ Cr (An x) := by rw [Be h, P4, W7]
theorem Wn {l : List ConR} {k : Nat} (hl : l.length <= 1000) (h : ∀ i x, i < k -> l[i]? = some x -> B0 x) : (Bg (l.take k)).length <= 428000 := by
 have h1 := A2g (l := l.take k) fun x hx => by
  obtain ⟨i, hi⟩ := b1l.1 hx
  have hik : i < k := by
   have := (a0g.1 hi).1
   rw [a0z] at this;omega
  rw [a6b, if_pos hik] at hi
  exact h i x hik hi
 have h2 : (l.take k).length <= 1000 := by rw [a0z];omega
 have h3 := a3d 428 h2
 omega
theorem A99 (l : List ConR) (hl : l.length <= 1000) (hr : ∀ x ∈ l, B0 x) : Fn0 Tryz.prog 9 [.sl (l.map ConR.row)] (.tup [.s (ofL (Bg l)), .i 0]) := by
 have hle : (l.map ConR.row).length = l.length := a0a _
 have h0 : ¬ ((l.map ConR.row).length : Int) > 1000 := by omega
 refine Fn0.of Tryz.func9 Tryz.ntmps9 rfl rfl rfl ?_
 simp only [A1]
 repeat' (first|refine W ?_|refine Y ?_|(apply p4c 5;exact rfl;exact rfl)|refine V ?_|(refine W2 ?_ ?_<;>intro hc))
 refine p0d (fun k => k <= l.length) (fun k => l.length - k) (fun k => [(12, .i k), (11, .i (l.map ConR.row).length), (10, .sl (l.map ConR.row)), (4, .ptr 0 0)]) (fun k => [Afk 1 (Bg (l.take k)), .hid]) 0 (a0n _) CW (.bld rfl (.hid .nil)) ?_
 intro k hk
 by_cases hlt : k < l.length
 ·have h1 : (k : Int) < ((l.map ConR.row).length : Nat) := by omega
  obtain ⟨x, hx⟩ := Ac hlt
  have hb := Af (R := ConR.row) hx
  have hxr := hr x (a0b hx)
  have cw := Qk x
  rw [decide_eq_true hxr] at cw
  have cl := Xd x hxr
  have hz := Wn (k := k) hl fun i y _ hy => hr y (a0b hy)
  have hz2 := A1t (Qj hxr)
  have cb := A51 (ofL (Cr (An x))) (Bg (l.take k)) (by rw [K6];omega)
  rw [Ft, <- A4d hx] at cb
  repeat' (first|refine W ?_|refine Y ?_|(apply S.indexR;(iterate 3 exact rfl);exact hb;omega;exact rfl)|(apply p3u cb;(iterate 3 exact rfl);exact .cons (.one (.lf _)) .nil;(iterate 4 exact rfl))|refine V ?_|(refine W2 ?_ ?_<;>intro hc))
  change Next _ _ _ _ _ _
  exact Next.go (k + 1) (by omega) (by omega) CW (.bld rfl (.hid .nil))
 ·have h1 : ¬ (k : Int) < ((l.map ConR.row).length : Nat) := by omega
  have hkt : l.take k = l := a0h (by omega)
  rw [hkt]
  repeat' (first|refine W ?_|refine Y ?_|(apply p4e (A0l (Bg l));(iterate 3 exact rfl))|refine V ?_|(refine W2 ?_ ?_<;>intro hc))
  all_goals exact D2 rfl rfl rfl
theorem Aei (t : List UInt8) (h : t.length < 4294967281) : Fn0 Tryz.prog 34 [.s (ofL t), .s ⟨#[10]⟩] (.tup [.s (ofL (Lib.cut t [10]).1), .s (ofL (Lib.cut t [10]).2.1), .b (Lib.cut t [10]).2.2]) := by
 have := Adl (ofL t) ⟨#[10]⟩ (by rw [K6];exact h)
 rw [Ft] at this
 exact this
def Lb (t : List UInt8) : List ByteArray := F4 (ofL (Lib.cut t [10]).1) ⟨#[32]⟩
theorem Af5 (t : List UInt8) (h : t.length < 4294967281) : Fn0 Tryz.prog 35 [.s (ofL (Lib.cut t [10]).1), .s ⟨#[32]⟩] (.sl ((Lb t).map fun x => [.s x])) :=
 A85 _ _ (by rw [K6];have := (A5s t [10]).1;omega) (by decide)
theorem Abp (t : List UInt8) : (Lb t).map (·.data.toList) = Lib.split (Lib.cut t [10]).1 [32] := by
 unfold Lb
 rw [R4, Ft]
theorem Ae2 {t : List UInt8} {w : ByteArray} (h : w ∈ Lb t) : w.size <= t.length := by
 have h1 := A8s h
 rw [K6] at h1
 have := (A5s t [10]).1
 omega
theorem Aet (t : List UInt8) (x : ConR) : Fn0 Tryz.prog 37 [.s (ofL t), .s (ofL (Cr (An x)))] (.b (Lib.hasPrefix t (Cr (An x)))) := by
 have := Wm (ofL t) (ofL (Cr (An x)))
 rwa [Ft, Ft] at this
theorem Afg {α : Type} {l : List α} (h : l.length = 4) : ∃ a b c d, l = [a, b, c, d] := by
 match l, h with
 | [a, b, c, d], _ => exact ⟨a, b, c, d, rfl⟩
theorem Aa5 {s t : List UInt8} {o : List ConR} (ho : ∀ x ∈ o, B0 x) (hs : s = Bg o ++ t) (ht : t ≠ [])
  (hb : ∀ x, B0 x -> (Lb t).map (·.data.toList) = C5 x -> o.length < 1000 -> Lib.atoiAll (Lib.itoa x.lo) = .ok x.lo -> Lib.atoiAll (Lib.itoa x.hi) = .ok x.hi -> Lib.hasPrefix t (Cr (An x)) = true -> False) : Rp s = [] /\ Ro s = 7 :=
 Ad3 fun ⟨l, hg⟩ => by
  obtain ⟨x, h1, h2, h3, h4, h5, h6⟩ := A6w hg ho hs ht
  exact hb x h1 (by rw [Abp, h2]) h3 h4 h5 h6
theorem Kx {x : ConR} {a b c d : ByteArray} (h : [a, b, c, d].map (·.data.toList) = C5 x) : a = x.a /\ b = x.b /\ c.data.toList = Lib.itoa x.lo /\ d.data.toList = Lib.itoa x.hi := by
 simp only [C5, An, a1l, a3v, a1o, and_true] at h
 exact ⟨Lg h.1, Lg h.2.1, h.2.2.1, h.2.2.2⟩
theorem Acx {a b : List UInt8} (h : ofL a = ofL b) : a = b := by
 have := congrArg (fun x : ByteArray => x.data.toList) h
 simpa [Ft] using this
theorem Ad1 (l : List ConR) : OwnRows (Gk l) 0 l.length 4 (l.map ConR.row) := by
 have := OwnRows.of (l.map ConR.row).flatten (Pj l) rfl
 rwa [a0a] at this
structure ParS where
 o : List ConR
 t : List UInt8
theorem R8 (s : ByteArray) (h : s.size <= 262144) : (∃ v : Int, Lib.atoiAll s.data.toList = .ok v /\ (-9223372036854775808 <= v /\ v <= 9223372036854775807) /\ Fn0 Tryz.prog 36 [.s s] (.tup [.i v, .val .nilIface])) \/ ((∀ v, Lib.atoiAll s.data.toList ≠ .ok v) /\ ∃ n : Int, Fn0 Tryz.prog 36 [.s s] (.tup [.i n, .err])) := by
 by_cases hv : ∃ v, Lib.atoiAll s.data.toList = .ok v
 ·obtain ⟨v, hv⟩ := hv
  exact .inl ⟨v, hv, Zw hv, A0q s (by omega) hv⟩
 ·have hn : ∀ v, Lib.atoiAll s.data.toList ≠ .ok v := fun v e => hv ⟨v, e⟩
  obtain ⟨n, _, hc⟩ := Z5 s (by omega) hn
  exact .inr ⟨hn, n, hc⟩
theorem A5e (s : List UInt8) (hsz : s.length <= 262144) : Fn0 Tryz.prog 10 [.s (ofL s)] (.tup [.sl ((Rp s).map ConR.row), .i (Ro s)]) := by
 have h0 : ¬ ((ofL s).size : Int) > 262144 := by rw [K6];omega
 refine Fn0.of Tryz.func10 Tryz.ntmps10 rfl rfl rfl ?_
 simp only [A1]
 repeat' (first|refine W ?_|refine Y ?_|refine V ?_|(refine W2 ?_ ?_<;>intro hc))
 refine T.kill 0 ?_
 refine p0d (fun a : ParS => s = Bg a.o ++ a.t /\ (∀ x ∈ a.o, B0 x) /\ a.o.length <= 1000) (fun a => a.t.length) (fun a => [(0, .s (ofL a.t)), (4, rT 0 4 a.o.length)]) (fun a => [rB (Gk a.o) a.o.length]) ⟨[], s⟩ ⟨rfl, by simp, by simp⟩ CW (.dead .nil) ?_
 rintro ⟨o, t⟩ ⟨hs, ho, hlen⟩
 dsimp only at hs ho hlen ⊢
 have htl : t.length <= 262144 := by rw [hs, a0q] at hsz;omega
 by_cases ht : t = []
 ·subst ht
  obtain ⟨p1, p2⟩ := A75 (s := s) (l := o) ⟨by rw [hs, a2b], ho, hlen⟩
  rw [p1, p2]
  have h1 : ¬ ¬ ofL ([] : List UInt8) = (⟨#[]⟩ : ByteArray) := fun k => k rfl
  cases o with
  | nil =>
   repeat' (first|refine W ?_|refine Y ?_|(refine p0u 2 rfl ?_;apply T.ret;change Ba _ _ _ _ _)|refine V ?_|(refine W2 ?_ ?_<;>intro hc))
   all_goals exact D2 rfl rfl rfl
  | cons y o =>
   repeat' (first|refine W ?_|refine Y ?_|refine V ?_|(refine W2 ?_ ?_<;>intro hc))
   all_goals exact ⟨.inr rfl, [.own 0 0 (o.length + 1) 4, .i 0], .cons (.tmp rfl) (.cons (.tmp rfl) .nil), .tup (.cons (.one (.own rfl (Ad1 (y :: o)))) (.cons (.one (.lf _)) .nil))⟩
 have h1 : ¬ ofL t = (⟨#[]⟩ : ByteArray) := fun e => ht (Acx e)
 have cc := Aei t (by omega)
 have cs := Af5 t (by omega)
 have hwl : ((Lb t).map fun x => ([.s x] : List Lf)).length = (Lb t).length := a0a _
 have hwle : ∀ w ∈ Lb t, w.size <= 262144 := fun w hw => a2c (Ae2 hw) htl
 have hbad := fun hb => Aa5 ho hs ht hb
 have hlt := Aeh (c := 10) ht
 by_cases hw4 : (Lb t).length = 4
 ·obtain ⟨w0, w1, w2, w3, hw⟩ := Afg hw4
  rw [hw] at cs hwle hbad hwl
  have b0 : ([w0, w1, w2, w3].map fun x => ([.s x] : List Lf))[(0 : Int).toNat]? = some [.s w0] := rfl
  have b1 : ([w0, w1, w2, w3].map fun x => ([.s x] : List Lf))[(1 : Int).toNat]? = some [.s w1] := rfl
  have b2 : ([w0, w1, w2, w3].map fun x => ([.s x] : List Lf))[(2 : Int).toNat]? = some [.s w2] := rfl
  have b3 : ([w0, w1, w2, w3].map fun x => ([.s x] : List Lf))[(3 : Int).toNat]? = some [.s w3] := rfl
  by_cases h1000 : o.length = 1000
  ·obtain ⟨p1, p2⟩ := hbad fun _ _ _ h _ _ _ => by omega
   rw [p1, p2]
   have f1 : ¬ ¬ ((([w0, w1, w2, w3].map fun x => ([.s x] : List Lf)).length : Nat) : Int) = 4 := fun k => k rfl
   have f2 : ((o.length : Nat) : Int) = 1000 := by omega
   repeat' (first|refine W ?_|refine Y ?_|(apply p2d;(iterate 3 exact rfl))|(refine p0u 2 rfl ?_;apply T.ret;change Ba _ _ _ _ _)|refine V ?_|(refine W2 ?_ ?_<;>intro hc))
   all_goals exact D2 rfl rfl rfl
  have f1 : ¬ ¬ ((([w0, w1, w2, w3].map fun x => ([.s x] : List Lf)).length : Nat) : Int) = 4 := fun k => k rfl
  have f2 : ¬ ((o.length : Nat) : Int) = 1000 := by omega
  rcases R8 w2 (hwle w2 (by simp)) with ⟨lo, l1, l2, c2⟩ | ⟨n2, m2, c2⟩
  ·rcases R8 w3 (hwle w3 (by simp)) with ⟨hi, k1, k2, c3⟩ | ⟨n3, m3, c3⟩
   ·have cw := Qk ⟨w0, w1, lo, hi⟩
    by_cases hr : B0 ⟨w0, w1, lo, hi⟩
    ·rw [decide_eq_true hr] at cw
     have cl := Xd ⟨w0, w1, lo, hi⟩ hr
     have cp := Aet t ⟨w0, w1, lo, hi⟩
     by_cases hp : Lib.hasPrefix t (Cr (An ⟨w0, w1, lo, hi⟩)) = true
     ·rw [hp] at cp
      have hnx := Acw hr hp
      have hI : s = Bg (o ++ [⟨w0, w1, lo, hi⟩]) ++ (Lib.cut t [10]).2.1 := by rw [P4, W7, a2t, <- hnx];exact hs
      have hok : ∀ x ∈ o ++ [(⟨w0, w1, lo, hi⟩ : ConR)], B0 x := fun x hx => by
       rcases a0t.1 hx with h | h
       ·exact ho x h
       ·obtain rfl := a2n.1 h;exact hr
      have hl : (o ++ [(⟨w0, w1, lo, hi⟩ : ConR)]).length = o.length + 1 := by simp
      cases o with
      | nil =>
       repeat' (first|refine W ?_|refine Y ?_|(apply p2d (cells := []);(iterate 3 exact rfl))|(apply S.indexR;(iterate 3 exact rfl);exact b0;omega;exact rfl)|(apply S.indexR;(iterate 3 exact rfl);exact b1;omega;exact rfl)|(apply S.indexR;(iterate 3 exact rfl);exact b2;omega;exact rfl)|(apply S.indexR;(iterate 3 exact rfl);exact b3;omega;exact rfl)|(apply p0a A0 (by decide +kernel))|(apply p0e 11 A0 (by decide +kernel);simp only [td])|(apply p2s;exact rfl;exact rfl)|(apply p0c;(iterate 7 exact rfl))|(apply p0r 0 (rows := []);(iterate 8 exact rfl);exact Ag rfl;exact rfl;exact a0d rfl;exact a0d rfl)|refine V ?_|(refine W2 ?_ ?_<;>intro hc))
       all_goals (change Next _ _ _ _ _ _)
       all_goals exact Next.go ⟨[] ++ [⟨w0, w1, lo, hi⟩], (Lib.cut t [10]).2.1⟩ ⟨hI, hok, by rw [hl];omega⟩ hlt CW (.live rfl .nil)
      | cons y o =>
       have hcl : (Gk (y :: o)).length = (o.length + 1) * 4 := M8 (y :: o)
       have hz0 : o.length + 1 <= 1000 := hlen
       have hC := L0 (y :: o) ⟨w0, w1, lo, hi⟩
       repeat' (first|refine W ?_|refine Y ?_|(apply p2d;(iterate 3 exact rfl))|(apply S.indexR;(iterate 3 exact rfl);exact b0;omega;exact rfl)|(apply S.indexR;(iterate 3 exact rfl);exact b1;omega;exact rfl)|(apply S.indexR;(iterate 3 exact rfl);exact b2;omega;exact rfl)|(apply S.indexR;(iterate 3 exact rfl);exact b3;omega;exact rfl)|(apply p0a A0 (by decide +kernel))|(apply p0e 11 A0 (by decide +kernel);simp only [td])|(apply p2s;exact rfl;exact rfl)|(apply p0c;(iterate 7 exact rfl))|(apply p0n;(iterate 8 exact rfl);exact hcl;exact Ag rfl;exact rfl;exact Av _ _;simp only [a0i, a0o];omega;simp only [a0i, a0o];omega)|refine V ?_|(refine W2 ?_ ?_<;>intro hc))
       all_goals (change Next _ _ _ _ _ _)
       all_goals exact Next.go ⟨(y :: o) ++ [⟨w0, w1, lo, hi⟩], (Lib.cut t [10]).2.1⟩ ⟨hI, hok, by rw [hl];omega⟩ hlt (by dsimp only;rw [hl];exact CW) (by dsimp only;rw [hl, hC];exact .live (by rw [<- List.map_append];exact Ah _ _) .nil)
     ·have hpf : Lib.hasPrefix t (Cr (An ⟨w0, w1, lo, hi⟩)) = false := by simpa using hp
      rw [hpf] at cp
      obtain ⟨p1, p2⟩ := hbad fun x g1 g2 _ g4 g5 g6 => by
       obtain ⟨e1, e2, e3, e4⟩ := Kx g2
       rw [e3] at l1
       rw [e4] at k1
       rw [g4] at l1
       rw [g5] at k1
       injection l1 with l1
       injection k1 with k1
       subst e1 e2 l1 k1
       exact hp g6
      rw [p1, p2]
      repeat' (first|refine W ?_|refine Y ?_|(apply p2d;(iterate 3 exact rfl))|(apply S.indexR;(iterate 3 exact rfl);exact b0;omega;exact rfl)|(apply S.indexR;(iterate 3 exact rfl);exact b1;omega;exact rfl)|(apply S.indexR;(iterate 3 exact rfl);exact b2;omega;exact rfl)|(apply S.indexR;(iterate 3 exact rfl);exact b3;omega;exact rfl)|(apply p0a A0 (by decide +kernel))|(apply p0e 11 A0 (by decide +kernel);simp only [td])|(apply p2s;exact rfl;exact rfl)|(refine p0u 2 rfl ?_;apply T.ret;change Ba _ _ _ _ _)|refine V ?_|(refine W2 ?_ ?_<;>intro hc))
      all_goals exact D2 rfl rfl rfl
    ·rw [decide_eq_false hr] at cw
     obtain ⟨p1, p2⟩ := hbad fun x g1 g2 _ g4 g5 g6 => by
      obtain ⟨e1, e2, e3, e4⟩ := Kx g2
      rw [e3] at l1
      rw [e4] at k1
      rw [g4] at l1
      rw [g5] at k1
      injection l1 with l1
      injection k1 with k1
      subst e1 e2 l1 k1
      exact hr g1
     rw [p1, p2]
     repeat' (first|refine W ?_|refine Y ?_|(apply p2d;(iterate 3 exact rfl))|(apply S.indexR;(iterate 3 exact rfl);exact b0;omega;exact rfl)|(apply S.indexR;(iterate 3 exact rfl);exact b1;omega;exact rfl)|(apply S.indexR;(iterate 3 exact rfl);exact b2;omega;exact rfl)|(apply S.indexR;(iterate 3 exact rfl);exact b3;omega;exact rfl)|(apply p0a A0 (by decide +kernel))|(apply p0e 11 A0 (by decide +kernel);simp only [td])|(apply p2s;exact rfl;exact rfl)|(refine p0u 2 rfl ?_;apply T.ret;change Ba _ _ _ _ _)|refine V ?_|(refine W2 ?_ ?_<;>intro hc))
     all_goals exact D2 rfl rfl rfl
   ·obtain ⟨p1, p2⟩ := hbad fun x _ g2 _ _ g5 _ => by
     obtain ⟨_, _, _, e4⟩ := Kx g2
     exact n3 _ (by rw [e4];exact g5)
    rw [p1, p2]
    repeat' (first|refine W ?_|refine Y ?_|(apply p2d;(iterate 3 exact rfl))|(apply S.indexR;(iterate 3 exact rfl);exact b0;omega;exact rfl)|(apply S.indexR;(iterate 3 exact rfl);exact b1;omega;exact rfl)|(apply S.indexR;(iterate 3 exact rfl);exact b2;omega;exact rfl)|(apply S.indexR;(iterate 3 exact rfl);exact b3;omega;exact rfl)|(apply p0a A0 (by decide +kernel))|(apply p0e 11 A0 (by decide +kernel);simp only [td])|(apply p2s;exact rfl;exact rfl)|(apply p3y;exact rfl;exact rfl)|(refine p0u 2 rfl ?_;apply T.ret;change Ba _ _ _ _ _)|refine V ?_|(refine W2 ?_ ?_<;>intro hc))
    all_goals exact D2 rfl rfl rfl
  ·obtain ⟨m3, e3, c3⟩ : ∃ (m3 : Int) (e3 : AV), Fn0 Tryz.prog 36 [.s w3] (.tup [.i m3, e3]) := by
    rcases R8 w3 (hwle w3 (by simp)) with ⟨hi, _, _, c3⟩ | ⟨_, m3, c3⟩
    ·exact ⟨_, _, c3⟩
    ·exact ⟨_, _, c3⟩
   obtain ⟨p1, p2⟩ := hbad fun x _ g2 _ g4 _ _ => by
    obtain ⟨_, _, e3, _⟩ := Kx g2
    exact n2 _ (by rw [e3];exact g4)
   rw [p1, p2]
   repeat' (first|refine W ?_|refine Y ?_|(apply p2d;(iterate 3 exact rfl))|(apply S.indexR;(iterate 3 exact rfl);exact b0;omega;exact rfl)|(apply S.indexR;(iterate 3 exact rfl);exact b1;omega;exact rfl)|(apply S.indexR;(iterate 3 exact rfl);exact b2;omega;exact rfl)|(apply S.indexR;(iterate 3 exact rfl);exact b3;omega;exact rfl)|(apply p0a A0 (by decide +kernel))|(apply p0e 11 A0 (by decide +kernel);simp only [td])|(apply p3y;exact rfl;exact rfl)|(refine p0u 2 rfl ?_;apply T.ret;change Ba _ _ _ _ _)|refine V ?_|(refine W2 ?_ ?_<;>intro hc))
   all_goals exact D2 rfl rfl rfl
 ·have f1 : ¬ ((((Lb t).map fun x => ([.s x] : List Lf)).length : Nat) : Int) = 4 := by omega
  obtain ⟨p1, p2⟩ := hbad fun x _ g2 _ _ _ _ => hw4 (by have := congrArg List.length g2;simpa [C5, An] using this)
  rw [p1, p2]
  repeat' (first|refine W ?_|refine Y ?_|(refine p0u 2 rfl ?_;apply T.ret;change Ba _ _ _ _ _)|refine V ?_|(refine W2 ?_ ?_<;>intro hc))
  all_goals exact D2 rfl rfl rfl
end Go.Proofs.YtlapbaiejnaeiaaGreatDoor
