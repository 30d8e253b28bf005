/- What the rows of this seat share: the laid variables, a world that holds them. No conditions but those of each statement. -/
import Derived.Test.YtkboebgkcjcpfaaGreatDoorCards
import Derived.Test.YtkboebgkcjcpfaaGreatDoorTie
import Derived.Test.YtkboebgkcjcpfaaGreatDoorMu
import Derived.Test.YtkboebgkcjcpfaaGreatDoorMa
import Derived.Shelf.Vars
import Derived.Stop.LaidErr
import Derived.Test.YtkboebgkcjcpfaaGreatDoorMr
import Derived.Test.YtkboebgkcjcpfaaGreatDoorXb
import Derived.Test.YtkboebgkcjcpfaaGreatDoorPa
set_option linter.unusedSimpArgs false
set_option linter.unusedVariables false
namespace Go.Proofs.YtkboebgkcjcpfaaGreatDoor
open Go.ChangeShapes Go.WideShapes Go.ChangeAt Go.RowKit Go.Joins
theorem gTab : Tryz.prog.globalNamed "internal/strconv.uint64pow10" = some 1 := by kernel_rfl
theorem gTabType : (Tryz.prog.globals[1]?).map (·.type) = some 239 := by kernel_rfl
theorem A26 : Tryz.prog.cellsOf 179 = 1 := by kernel_rfl
theorem A25 : Tryz.prog.cellsOf 239 = 20 := by kernel_rfl
theorem gLen : Tryz.prog.globalNamed "internal/bytealg.MaxLen" = some 0 := by kernel_rfl
theorem V3 {w : World} (h : w.ShapedOpen Tryz.prog) : ∃ m : Int, w.cell? ⟨0, 0, none⟩ = some (.int .i64 m) :=
 cell_of_shapedOpen_int (zero := #[.int .i64 0]) (t := 3) h (of_decide_eq_true (by kernel_rfl)) (by kernel_rfl) rfl (by kernel_rfl) (by kernel_rfl) Tryz.underlying3
theorem A3q {W : World} {rest : List (String × DataW Unit)} {ps : List MemPlace} (h : DataW.LaidVars Tryz.prog W (("internal/strconv.uint64pow10", Lib.tabData .u64 Lib.pow10Tab) :: rest) ps) : Lib.TabIs Tryz.prog W "internal/strconv.uint64pow10" .u64 Lib.pow10Tab := by
 obtain ⟨g', t', cs, fuel, p, q, hg', ht', hvar, hd, _, _⟩ := h
 obtain rfl := Option.some.inj (gTab.symm.trans hg')
 obtain rfl := Option.some.inj (gTabType.symm.trans ht')
 unfold Lib.TabIs
 rw [hvar, <- Lib.cells_of_tab Tryz.underlying239 Tryz.underlying179 A26 A25 hd]
theorem A6b : Tryz.prog.globalNamed "strconv.ErrSyntax" = none := by kernel_rfl
theorem A6a : Tryz.prog.globalNamed "strconv.ErrRange" = none := by kernel_rfl
theorem Su {W : World} {rest : List (String × DataW Unit)} {ps : List MemPlace} (hp : DataW.LaidVars Tryz.prog W (("internal/strconv.uint64pow10", Lib.tabData .u64 Lib.pow10Tab) :: rest) ps) (hSh : W.ShapedOpen Tryz.prog) : Glob W :=
 ⟨fun _ => A3q hp, fun g hg => by obtain rfl := Option.some.inj (gLen.symm.trans hg);exact V3 hSh,
  fun g hg => (by rw [A6b] at hg;cases hg), fun g hg => (by rw [A6a] at hg;cases hg)⟩
theorem Sr {W : World} (h : laidMetH Tryz.prog [("math/bits.deBruijn32tab", Rows.laid_math_bits_deBruijn32tab), ("math/bits.deBruijn64tab", Rows.laid_math_bits_deBruijn64tab), ("internal/strconv.uint64pow10", Rows.laid_internal_strconv_uint64pow10), ("unicode/utf8.acceptRanges", Rows.laid_unicode_utf8_acceptRanges), ("unicode/utf8.first", Rows.laid_unicode_utf8_first)] W) (hSh : W.ShapedOpen Tryz.prog) : Glob W := by
 have h0 : laidMet Tryz.prog _ W := h
 obtain ⟨ps, hp, _⟩ := h0.tail.tail
 exact Su hp hSh
theorem Ss {W : World} (h : laidMetH Tryz.prog [("math/bits.deBruijn32tab", Rows.laid_math_bits_deBruijn32tab), ("math/bits.deBruijn64tab", Rows.laid_math_bits_deBruijn64tab), ("internal/strconv.uint64pow10", Rows.laid_internal_strconv_uint64pow10)] W) (hSh : W.ShapedOpen Tryz.prog) : Glob W := by
 have h0 : laidMet Tryz.prog _ W := h
 obtain ⟨ps, hp, _⟩ := h0.tail.tail
 exact Su hp hSh
def A6k : DataW Unit -> Value
 | .lit (.int k n) => .int k n
 | _ => .int .i64 0
def A6j : DataW Unit -> List Value
 | .lit (.int k n) => [.int k n]
 | .agg r => r.map A6k
 | _ => [.int .i64 0]
def Ud : DataW Unit -> Array Value
 | .agg l => (l.flatMap A6j).toArray
 | _ => #[]
def lay (cs : Array Value) : Obj -> Obj
 | .cells _ t frozen => .cells cs t frozen
 | o => o
noncomputable def F8 (os : Os) : World :=
 let w0 := World.holding Tryz.prog os ⟨#[], #[], []⟩
 { w0 with heap := ((((w0.heap.modify 4 (lay (Ud Rows.laid_math_bits_deBruijn32tab))).modify 5 (lay (Ud Rows.laid_math_bits_deBruijn64tab))).modify 1 (lay (Ud Rows.laid_internal_strconv_uint64pow10))).modify 3 (lay (Ud Rows.laid_unicode_utf8_acceptRanges))).modify 2 (lay (Ud Rows.laid_unicode_utf8_first)) }
end Go.Proofs.YtkboebgkcjcpfaaGreatDoor
namespace Go.Proofs.YtkboebgkcjcpfaaGreatDoor
open Go.RowKit
def D0 (h : HouseR) : List Int := h.sets.map SetR.high
def Bs (h : HouseR) (c : SheetR) (k : Nat) : List Int := (c.cues.take k).foldl (fun l q => As h l q.moves) (D0 h)
theorem Kz {h : HouseR} {c : SheetR} {k : Nat} {q : CueR} (hq : c.cues[k]? = some q) : Bs h c (k + 1) = As h (Bs h c k) q.moves := by
 unfold Bs
 rw [List.take_add_one, hq]
 simp
def C6 (h : HouseR) (c : SheetR) (n : Nat) : List (List Int) := (List.range n).map (Bs h c)
def Hm (l : List Int) : List Lf := [.sl (l.map A1)]
theorem Vb {h : HouseR} {l : List Int} {i : Nat} {n : Int} (ht : Cp h l) (hn : ∀ s, h.sets[i]? = some s -> s.low <= n /\ n <= s.high) : Cp h (l.set i n) := fun j x s hj hs => by
 rw [List.getElem?_set] at hj
 by_cases e : i = j
 ·rw [if_pos e] at hj
  subst e
  split at hj
  ·injection hj with hj
   subst hj
   exact hn s hs
  ·cases hj
 ·rw [if_neg e] at hj
  exact ht j x s hj hs
theorem Kj {h : HouseR} {q : CueR} (hr : Cj h q) : ∀ (ms : List MoveR) (l : List Int), (∀ m ∈ ms, m ∈ q.moves) -> Cp h l -> Cp h (As h l ms)
 | [], l, _, ht => ht
 | m :: ms, l, hm, ht => by
  have ih := Kj hr ms (l.set (Am h m.set).toNat m.to) (fun x hx => hm x (by simp [hx])) (Vb ht fun s hs => by
   obtain ⟨_, t, _, h3, h4, h5⟩ := hr.2.2.2.2.2.1 m (hm m (by simp))
   rw [hs] at h3
   injection h3 with h3
   subst h3
   exact ⟨h4, h5⟩)
  exact ih
theorem validP.cue {h : HouseR} {c : SheetR} (v : validP h c) {q : CueR} {k : Nat} (hq : c.cues[k]? = some q) : Cj h q := (v.2.2.1 k q hq).2.1
theorem A2k {h : HouseR} (hh : D7 h) : Cp h (D0 h) := fun i n s h1 h2 => by
 unfold D0 at h1
 rw [List.getElem?_map, h2] at h1
 simp only [Option.map_some, Option.some.injEq] at h1
 subst h1
 obtain ⟨_, _, _, _, _, hs, _⟩ := hh
 obtain ⟨⟨_, _, _, s2, _⟩, _⟩ := hs s (List.mem_of_getElem? h2)
 exact ⟨s2, Int.le_refl _⟩
theorem Vv {h : HouseR} {c : SheetR} (v : validP h c) : ∀ k, k <= c.cues.length -> (Bs h c k).length = h.sets.length /\ Cp h (Bs h c k)
 | 0, _ => ⟨by simp [Bs, D0], by show Cp h (D0 h);exact A2k v.1⟩
 | k + 1, hk => by
  obtain ⟨i1, i2⟩ := Vv v k (by omega)
  obtain ⟨q, hq⟩ := Ac (l := c.cues) (k := k) (by omega)
  rw [Kz hq]
  exact ⟨by rw [Ff];exact i1, Kj (v.cue hq) q.moves _ (fun m hm => hm) i2⟩
theorem Gk {h : HouseR} {c : SheetR} (v : validP h c) {k : Nat} {q : CueR} (hq : c.cues[k]? = some q) : GivenOk h (Bs h c k) q := by
 have hk : k < c.cues.length := (List.getElem?_eq_some_iff.1 hq).1
 obtain ⟨i1, i2⟩ := Vv v k (by omega)
 exact ⟨v.1, v.cue hq, i1, i2⟩
theorem S.nilT {P : Program} {N : Nat} {c : Code} {Q : Exit -> St -> Prop} {tm : Tm} {H : AH} (q : Nat) (ht : tm.get q = some (.val (.slice none 0 0))) (h : T P N c ⟨(q, .sl []) :: tm, H⟩ Q) : T P N c ⟨tm, H⟩ Q :=
 ⟨fun E a w ρ hE hR => h.out E a w ρ hE ⟨hR.size, hR.defers, fun t x hx => by
  rw [Tm.get_cons] at hx
  obtain ⟨h1, h2⟩ := hR.tm q _ ht
  by_cases e : q = t
  ·rw [if_pos e] at hx
   injection hx with hx
   subst hx e
   refine ⟨h1, ?_⟩
   have := h2.val_eq
   rw [this]
   exact .lf _ _ .slnil
  ·rw [if_neg e] at hx
   exact hR.tm t x hx, hR.H, hR.fr, hR.mine, hR.lim⟩⟩
def A3y : Nat -> AV
 | 0 => .val (.slice none 0 0)
 | k + 1 => .own 2 0 (k + 1) 1
def Ry (l : List SetR) : Nat -> HB
 | 0 => .dead
 | k + 1 => .live (Aa ((l.take (k + 1)).map SetR.high))
theorem G6 {l : List SetR} {k : Nat} {x : SetR} (h : l.take (k + 1) = l.take k ++ [x]) : Aa ((l.take (k + 1)).map SetR.high) = Aa ((l.take k).map SetR.high) ++ ([A1 x.high].flatten).map AV.lf := by
 rw [h];simp [Aa]
theorem Qz {h : HouseR} {k : Nat} (hk : k = h.sets.length) : OwnRows (Aa ((h.sets.take k).map SetR.high)) 0 k 1 ((D0 h).map A1) := by
 have ht : h.sets.take k = h.sets := List.take_of_length_le (by omega)
 rw [ht]
 have := OwnRows.of ((D0 h).map A1).flatten (Bx (D0 h)) rfl
 rw [List.length_map, D0, List.length_map, <- hk] at this
 exact this
theorem Xq {P : Program} {N : Nat} {c : Code} {Q : Exit -> St -> Prop} {tm : Tm} {H : AH} {h : HouseR} {k : Nat} (hk : k = h.sets.length) (ht : tm.get 6 = some (A3y k)) (hb : H.at 2 = Ry h.sets k) (hT : T P N c ⟨(6, .sl ((D0 h).map A1)) :: tm, H.put 2 .dead⟩ Q) : T P N c ⟨tm, H⟩ Q := by
 cases k with
 | zero =>
  have h0 : (D0 h).map A1 = [] := by rw [D0, List.eq_nil_of_length_eq_zero hk.symm];rfl
  rw [h0] at hT
  exact S.nilT 6 ht (T.kill 2 hT (by rw [hb];rfl))
 | succ k => exact T.freeze 6 ht hb (Qz hk) hT
theorem Np (l : List (List Int)) : ∀ r ∈ l.map Hm, r.length = 1 := by
 intro r hr
 obtain ⟨n, _, rfl⟩ := List.mem_map.1 hr
 rfl
abbrev D1 (h : HouseR) (c : SheetR) (n : Nat) : List AV := ((C6 h c n).map Hm).flatten.map .lf
theorem Nw (h : HouseR) (c : SheetR) (n : Nat) : (D1 h c n).length = n * 1 := by
 rw [List.length_map, Bd _ (Np _), List.length_map];simp [C6]
theorem Mb (h : HouseR) (c : SheetR) (n : Nat) : D1 h c (n + 1) = D1 h c n ++ ([Hm (Bs h c n)].flatten).map AV.lf := by
 simp [D1, C6, List.range_succ]
set_option maxHeartbeats 16000000 in
theorem Sd (h : HouseR) (c : SheetR) (hf : h.fits) (hc : c.fits) (v : validP h c) : Fn0 Tryz.prog 48 [A4 h.row, A4 c.row] (.tup [.sl ((C6 h c (c.cues.length + 1)).map Hm), .i 0]) := by
 have cv := Qg h c hf hc
 rw [decide_eq_true v] at cv
 obtain ⟨_, _, _, hs60, _⟩ := v.1
 have hc60 := v.2.1
 have hle : (h.sets.map SetR.row).length = h.sets.length := List.length_map _
 have hle2 : (c.cues.map CueR.row).length = c.cues.length := List.length_map _
 refine Fn0.of Tryz.func48 Tryz.ntmps48 rfl rfl rfl ?_
 simp only [A0]
 repeat' (first | refine W ?_|refine Zc cv ?_ | refine V ?_|(refine W2 ?_ ?_ <;> intro hc))
 refine T.kill 2 ?_
 refine T.loopS (fun k => k <= h.sets.length) (fun k => h.sets.length - k) (fun k => [(19, .i k), (18, .i (h.sets.map SetR.row).length), (17, .sl (h.sets.map SetR.row)), (6, A3y k), (2, .ptr 0 0), (3, .ptr 1 0)]) (fun k => [.live (h.row.map .lf), .live (c.row.map .lf), Ry h.sets k]) 0 (Nat.zero_le _) CV CH ?_
 intro k hk
 by_cases hlt : k < h.sets.length
 ·have h1 : (k : Int) < ((h.sets.map SetR.row).length : Nat) := by omega
  obtain ⟨x, hx⟩ := Ac hlt
  have hb := Ad (R := SetR.row) hx
  have hsn := Af hx
  cases k with
  | zero =>
   repeat' (first | refine W ?_|(apply S.indexR;(iterate 3 exact rfl);exact hb;omega;exact rfl)|(apply S.buildSlice1;(iterate 7 exact rfl))|(apply S.appendN 2 (rows := []);(iterate 8 exact rfl);exact Ae rfl;exact rfl;exact Nat.le_of_ble_eq_true rfl;exact Nat.le_of_ble_eq_true rfl)|refine Za ?_ | refine V ?_|(refine W2 ?_ ?_ <;> intro hc))
   change Next _ _ _ _ _ _
   exact Next.go 1 (by omega) (by omega) CV (by
    show CovH _ _ [_, _, .live (Aa ((h.sets.take (0 + 1)).map SetR.high))]
    rw [G6 hsn]
    exact .live rfl CH)
  | succ k =>
   have hcl : (Aa ((h.sets.take (k + 1)).map SetR.high)).length = (k + 1) * 1 := by rw [Bn, List.length_map, List.length_take];omega
   repeat' (first | refine W ?_|(apply S.indexR;(iterate 3 exact rfl);exact hb;omega;exact rfl)|(apply S.buildSlice1;(iterate 7 exact rfl))|(apply S.appendO;(iterate 8 exact rfl);exact hcl;exact Ae rfl;exact rfl;exact Bf _ _;simp only [List.length_cons, List.length_nil];omega;simp only [List.length_cons, List.length_nil];omega)|refine Za ?_ | refine V ?_|(refine W2 ?_ ?_ <;> intro hc))
   change Next _ _ _ _ _ _
   exact Next.go (k + 2) (by omega) (by omega) CV (by
    show CovH _ _ [_, _, .live (Aa ((h.sets.take (k + 1 + 1)).map SetR.high))]
    rw [G6 hsn]
    exact .live rfl (.live rfl (.live (by rw [<- List.map_append];exact Ar _ _) .nil)))
 ·have h1 : ¬ (k : Int) < ((h.sets.map SetR.row).length : Nat) := by omega
  refine Xq (h := h) (k := k) (by omega) rfl rfl ?_
  repeat' (first | refine W ?_|(apply S.buildSliceO;(iterate 6 exact rfl)) | refine V ?_|(refine W2 ?_ ?_ <;> intro hc))
  refine T.loopS (fun k => k <= c.cues.length) (fun k => c.cues.length - k) (fun k => [(34, .i k), (33, .i (c.cues.map CueR.row).length), (32, .sl (c.cues.map CueR.row)), (6, .sl ((Bs h c k).map A1)), (9, .own 3 0 (k + 1) 1), (2, .ptr 0 0), (3, .ptr 1 0)]) (fun k => [.live (h.row.map .lf), .live (c.row.map .lf), .dead, .live (D1 h c (k + 1))]) 0 (Nat.zero_le _) CV CH ?_
  intro j hj
  by_cases hlt2 : j < c.cues.length
  ·have h2 : (j : Int) < ((c.cues.map CueR.row).length : Nat) := by omega
   obtain ⟨y, hy⟩ := Ac hlt2
   have hb2 := Ad (R := CueR.row) hy
   have cm := Yw h (Bs h c j) y hf (by have := hc.2.2 y (List.mem_of_getElem? hy);omega) (Gk v hy)
   rw [<- Kz hy] at cm
   have hct := Nw h c (j + 1)
   repeat' (first | refine W ?_|(apply S.indexR;(iterate 3 exact rfl);exact hb2;omega;exact rfl)|(apply S.buildSlice1;(iterate 7 exact rfl))|(apply S.appendO;(iterate 8 exact rfl);exact hct;exact Ae rfl;exact rfl;exact Bf _ _;simp only [List.length_cons, List.length_nil];omega;simp only [List.length_cons, List.length_nil];omega)|refine Zc cm ?_|refine Za ?_ | refine V ?_|(refine W2 ?_ ?_ <;> intro hc))
   change Next _ _ _ _ _ _
   exact Next.go (j + 1) (by omega) (by omega) CV (by
    show CovH _ _ [_, _, _, .live (D1 h c (j + 1 + 1))]
    rw [Mb]
    exact .live rfl (.live rfl (.dead (.live (by rw [<- List.map_append];exact Ar _ _) .nil))))
  ·have h2 : ¬ (j : Int) < ((c.cues.map CueR.row).length : Nat) := by omega
   have hj2 : j = c.cues.length := by omega
   repeat' (first | refine W ?_ | refine V ?_|(refine W2 ?_ ?_ <;> intro hc))
   refine ⟨.inr rfl, [_, _], .cons (.tmp rfl) (.cons (.tmp rfl) .nil), .tup (.cons (.one (.own (cells := D1 h c (j + 1)) (rows := (C6 h c (c.cues.length + 1)).map Hm) rfl ?_)) (.cons (.one (.lf _)) .nil))⟩
   have := OwnRows.of ((C6 h c (j + 1)).map Hm).flatten (Np _) rfl
   rw [List.length_map, C6, List.length_map, List.length_range] at this
   rw [<- hj2]
   exact this
end Go.Proofs.YtkboebgkcjcpfaaGreatDoor
namespace Go.Proofs.YtkboebgkcjcpfaaGreatDoor
open Go Go.RowKit
theorem A5c (t : List UInt8) (h : t.length < 4294967281) : Fn0 Tryz.prog 28 [.s (ofL t), .s ⟨#[10]⟩] (.tup [.s (ofL (Lib.cut t [10]).1), .s (ofL (Lib.cut t [10]).2.1), .b (Lib.cut t [10]).2.2]) := by
 have := A51 (ofL t) ⟨#[10]⟩ (by rw [Jg];exact h)
 rw [Jf] at this
 exact this
theorem A4m {a b : List UInt8} (h : ofL a = ofL b) : a = b := by
 have := congrArg (fun x : ByteArray => x.data.toList) h
 simpa [Jf] using this
end Go.Proofs.YtkboebgkcjcpfaaGreatDoor
