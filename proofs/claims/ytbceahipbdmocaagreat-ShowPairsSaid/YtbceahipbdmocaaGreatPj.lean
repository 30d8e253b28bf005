/- Arguments that came in: lists of integers, with their bound. No conditions but those of each statement. -/
import Derived.Test.YtbceahipbdmocaaGreatMu
import Derived.Test.YtbceahipbdmocaaGreatPa
import Derived.Test.YtbceahipbdmocaaGreatPi
set_option linter.unusedSimpArgs false
set_option linter.unusedVariables false
namespace Go.Proofs.YtbceahipbdmocaaGreat
open Go.ChangeShapes Go.WideShapes Go.ChangeAt Go.RowKit Go.Joins
theorem A7o : Tryz.prog.bytesOf 3 = 8 := by kernel_rfl
section
variable {H : Type} {enc : TypeId × Value -> H}
set_option maxRecDepth 100000 in
theorem A34 {W : World} {base : Nat} {v : Value} {d : DataW H} {p : List MemPlace} (hv : Value.okWide Tryz.prog W .any base 30 v) (h : DataW.Trod enc Tryz.prog W 0 (fun _ => true) true 30 v d p) (hw : ((d.weights Tryz.prog 30).all (· <= reachBytes)) = true) : ∃ l : List Int, l.length <= 1000000000000000 /\ (∀ x ∈ l, -9223372036854775808 <= x /\ x <= 9223372036854775807) /\ RelV W noL Ao (.sl (l.map A3)) v := by
 obtain ⟨a, len, cap, rfl⟩ := okWide_slice Tryz.underlying30 hv
 obtain ⟨fuel, hf⟩ := h
 obtain ⟨row, c1, c2, c3⟩ := Gr 8 fuel _ _ _ Ac1 hf hw
 obtain ⟨l, rfl, h1, hb, h2⟩ := Vd (n := 6) c1
 rw [A7o] at hb
 have hr : reachBytes = 140737488351232 := rfl
 refine ⟨l, by omega, h2, .lf _ _ ((c3 0 _ _ rfl (by simp [Value.cells])).iff fun k => ⟨False.elim, fun hf => (Di noL k).1 hf⟩)⟩
end
end Go.Proofs.YtbceahipbdmocaaGreat
namespace Go.Proofs.YtbceahipbdmocaaGreat
open Go Go.RowKit
theorem A00 {α : Type} {R : α -> α -> Prop} {l : List α} (h : l.Pairwise R) {i j : Nat} {x y : α} (hij : i < j) (hx : l[i]? = some x) (hy : l[j]? = some y) : R x y := by
 obtain ⟨h1, h2⟩ := List.getElem?_eq_some_iff.1 hx
 obtain ⟨h3, h4⟩ := List.getElem?_eq_some_iff.1 hy
 have := List.pairwise_iff_getElem.1 h i j h1 h3 hij
 rwa [h2, h4] at this
def Pa (prs : List (ByteArray × ByteArray)) (l : List ConR) (k : Nat) : Int := if k = 0 then -1 else match l[k - 1]? with | some y => Hd prs (y.a, y.b) | none => -1
set_option maxHeartbeats 16000000 in
theorem W6 (h : HouseR) (c : SheetR) (hf : h.fits) (hc : c.fits) (G : List Int) (hG : G.length <= 4611686018427387904) : Fn0 Tryz.prog 6 [A2 h.row, A2 c.row, .sl (G.map A3)] (.b true) := by
 have aw := A5u
 have lg := A5b h c hf hc G
 by_cases hl : Js h c G
 ·rw [decide_eq_true hl] at lg
  refine Fn0.of Tryz.func6 Tryz.ntmps6 rfl rfl rfl ?_
  simp only [A1]
  repeat' (first
   | refine W ?_
   | refine Y ?_
   | refine V ?_
   | (refine W2 ?_ ?_ <;> intro hc))
  all_goals exact A8 (by simp) Tryz.results6 rfl rfl
 rw [decide_eq_false hl] at lg
 have ck := I3 h c hf hc G hG
 have fi := A2k h c hf hc G hG
 have hlen := A13 (h := h) (c := c) (G := G)
 have hz : eqC ⟨#[]⟩ ⟨#[]⟩ 0 0 ⟨#[]⟩ ⟨#[]⟩ 0 0 := ⟨rfl, rfl, rfl, rfl⟩
 by_cases e : ckE h c G = 0
 ·obtain ⟨e0, el⟩ := To e
  have p := (Iu e0).1
  have hp := p.v.1
  have ce := Xq h c hf hc G hG e0
  have cp := Uy h hf hp
  have hlp := Yh hp
  have hnd : (Ca h).Nodup := Tb hp.2.2.2.2.2.2 _
  have hpw : (ckL h c G).Pairwise fun x y => Hd (Ca h) (x.a, x.b) < Hd (Ca h) (y.a, y.b) := by rw [el];exact Y7 hnd
  have hsp : ∀ x ∈ ckL h c G, 0 <= x.lo /\ x.lo <= x.hi /\ x.hi <= x.lo + 1 /\ x.hi <= endI h c G := fun x hx => by rw [el] at hx;exact A6v p hx
  have hmp : ∀ x ∈ ckL h c G, 0 <= Hd (Ca h) (x.a, x.b) := fun x hx => by
   rw [el] at hx
   have hm := (A11 hx).1
   have : decide (0 <= Hd (Ca h) (x.a, x.b)) = decide (∃ q ∈ Ca h, q = (x.a, x.b)) := Ig _ _
   exact (decide_eq_decide.1 this).2 ⟨_, hm, rfl⟩
  have hmn : ∀ y ∈ ckL h c G, ¬ ltC y (mnL (ckL h c G)) := fun y hy => Abt hy
  have hei := p.endI
  have ci := fun q => A4u (Ca h) q (by omega)
  have cc := Wh (ckL h c G) (mnL (ckL h c G)) (by omega)
  unfold fiC fiE at fi
  rw [e] at ck fi
  change Fn0 _ _ _ (.tup [.sl ((Ca h).map Ah), .i 0]) at cp
  generalize Ca h = prs at *
  clear el
  generalize ckL h c G = LL at *
  generalize endI h c G = z at *
  have hle : (LL.map ConR.row).length = LL.length := List.length_map _
  by_cases hz0 : LL.length = 0
  ·obtain rfl : LL = [] := List.eq_nil_of_length_eq_zero hz0
   change Fn0 _ _ _ (.tup [A2 zCon.row, .i 12]) at fi
   have z1 : (((([] : List ConR).map ConR.row).length : Nat) : Int) = 0 := rfl
   have z2 : ¬ (0 : Int) < (((([] : List ConR).map ConR.row).length : Nat) : Int) := by decide
   refine Fn0.of Tryz.func6 Tryz.ntmps6 rfl rfl rfl ?_
   simp only [A1]
   repeat' (first
    | refine W ?_
    | refine Y ?_|(apply S.eqCon rfl;exact rfl;exact rfl;exact rfl)|(apply S.neCon rfl;exact rfl;exact rfl;exact rfl)
    | refine V ?_
    | (refine W2 ?_ ?_ <;> intro hc))
   refine T.loopS (fun k : Nat => k = 0) (fun _ => 0) (fun _ => [(74, .i 0), (73, .i (([] : List ConR).map ConR.row).length), (72, .sl (([] : List ConR).map ConR.row)), (7, .sl (([] : List ConR).map ConR.row)), (9, .ptr 2 0), (10, .i 12)]) (fun _ => [.live (h.row.map .lf), .live (c.row.map .lf), .live (zCon.row.map .lf)]) 0 rfl CW CG ?_
   intro k hk
   subst hk
   repeat' (first
    | refine W ?_
    | refine Y ?_|(apply S.eqCon rfl;exact rfl;exact rfl;exact rfl)|(apply S.neCon rfl;exact rfl;exact rfl;exact rfl)
    | refine V ?_
    | (refine W2 ?_ ?_ <;> intro hc))
   all_goals exact A8 (by simp) Tryz.results6 rfl (congrArg Value.bool (decide_eq_true hz))
  ·rw [if_pos ⟨rfl, hz0⟩, if_pos rfl, if_neg hz0] at fi
   have z1 : ¬ ((LL.map ConR.row).length : Int) = 0 := by omega
   have hme : ∃ x ∈ LL, x = mnL LL := ⟨_, Aa8 (fun k => hz0 (by rw [k];rfl)), rfl⟩
   rw [decide_eq_true hme] at cc
   generalize mnL LL = m at *
   refine Fn0.of Tryz.func6 Tryz.ntmps6 rfl rfl rfl ?_
   simp only [A1]
   repeat' (first
    | refine W ?_
    | refine Y ?_|(apply S.eqCon rfl;exact rfl;exact rfl;exact rfl)|(apply S.neCon rfl;exact rfl;exact rfl;exact rfl)
    | refine V ?_
    | (refine W2 ?_ ?_ <;> intro hc))
   refine T.loopS (fun k => k <= LL.length) (fun k => LL.length - k) (fun k => [(74, .i k), (73, .i (LL.map ConR.row).length), (72, .sl (LL.map ConR.row)), (7, .sl (LL.map ConR.row)), (9, .ptr 2 0), (10, .i 0), (11, .i z), (13, .sl (prs.map Ah)), (15, .i (Pa prs LL k))]) (fun _ => [.live (h.row.map .lf), .live (c.row.map .lf), .live (m.row.map .lf)]) 0 (Nat.zero_le _) CW CG ?_
   intro k hk
   by_cases hlt : k < LL.length
   ·have h1 : (k : Int) < ((LL.map ConR.row).length : Nat) := by omega
    obtain ⟨y, hy⟩ := Ab hlt
    have hb := Ac (R := ConR.row) hy
    have hym := List.mem_of_getElem? hy
    obtain ⟨s1, s2, s3, s4⟩ := hsp y hym
    have ci1 := ci (y.a, y.b)
    have hnx : Pa prs LL (k + 1) = Hd prs (y.a, y.b) := by unfold Pa;rw [if_neg (by omega), Nat.add_sub_cancel, hy]
    have hls : Pa prs LL k < Hd prs (y.a, y.b) := by
     unfold Pa
     have := hmp y hym
     split
     ·omega
     ·rename_i hk0
      obtain ⟨x, hx⟩ := Ab (l := LL) (k := k - 1) (by omega)
      rw [hx]
      exact A00 hpw (by omega) hx hy
    have hno := hmn y hym
    unfold ltC at hno
    change Fn0 _ _ _ (.i (Hd prs (y.a, y.b))) at ci1
    generalize Hd prs (y.a, y.b) = u at *
    generalize Pa prs LL k = w at *
    have t1 : ¬ u <= w := by omega
    have t2 : ¬ y.lo < 0 := by omega
    have t3 : ¬ y.hi > z := by omega
    have t4 : ¬ y.hi < y.lo := by omega
    have t5 : ¬ y.hi - y.lo > 1 := by omega
    have t6 : ¬ m.lo > y.lo := by omega
    by_cases t7 : m.lo = y.lo
    ·have t8 : ¬ m.hi > y.hi := by omega
     repeat' (first
      | refine W ?_
      | refine Y ?_|(apply S.buildA;exact rfl;exact rfl;exact rfl)
      | refine V ?_
      | (refine W2 ?_ ?_ <;> intro hc))
     all_goals (first|(change Next _ _ _ _ _ _)|(trace_state;fail))
     all_goals exact Next.go (k + 1) (by omega) (by omega) (by rw [hnx, show (((k + 1 : Nat) : Int)) = (k : Int) + 1 by omega];exact CW) CG
    ·repeat' (first
     | refine W ?_
     | refine Y ?_|(apply S.buildA;exact rfl;exact rfl;exact rfl)
     | refine V ?_
     | (refine W2 ?_ ?_ <;> intro hc))
     all_goals (first|(change Next _ _ _ _ _ _)|(trace_state;fail))
     all_goals exact Next.go (k + 1) (by omega) (by omega) (by rw [hnx, show (((k + 1 : Nat) : Int)) = (k : Int) + 1 by omega];exact CW) CG
   ·have h1 : ¬ (k : Int) < ((LL.map ConR.row).length : Nat) := by omega
    repeat' (first
     | refine W ?_
     | refine Y ?_|(apply S.eqCon rfl;exact rfl;exact rfl;exact rfl)|(apply S.neCon rfl;exact rfl;exact rfl;exact rfl)
     | refine V ?_
     | (refine W2 ?_ ?_ <;> intro hc))
    all_goals exact A8 (by simp) Tryz.results6 rfl rfl
 ·rw [U5 e] at ck
  unfold fiC fiE at fi
  rw [if_neg (fun k => e k.1), if_neg e] at fi
  generalize ckE h c G = x at *
  have z1 : (((([] : List ConR).map ConR.row).length : Nat) : Int) = 0 := rfl
  have z2 : x = x := rfl
  refine Fn0.of Tryz.func6 Tryz.ntmps6 rfl rfl rfl ?_
  simp only [A1]
  repeat' (first
   | refine W ?_
   | refine Y ?_|(apply S.eqCon rfl;exact rfl;exact rfl;exact rfl)|(apply S.neCon rfl;exact rfl;exact rfl;exact rfl)
   | refine V ?_
   | (refine W2 ?_ ?_ <;> intro hc))
  all_goals exact A8 (by simp) Tryz.results6 rfl (congrArg Value.bool (decide_eq_true hz))
end Go.Proofs.YtbceahipbdmocaaGreat
