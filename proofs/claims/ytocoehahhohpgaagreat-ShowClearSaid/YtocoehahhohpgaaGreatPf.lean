/- Plain: the contacts of a show, and their spans. No conditions but those of each statement. -/
import Derived.Test.YtocoehahhohpgaaGreatPa
import Derived.Test.YtocoehahhohpgaaGreatPc
import Derived.Test.YtocoehahhohpgaaGreatOr
import Derived.Test.YtocoehahhohpgaaGreatOg
import Derived.Test.YtocoehahhohpgaaGreatPe
import Derived.Test.YtocoehahhohpgaaGreatOq
import Derived.Test.YtocoehahhohpgaaGreatNn
import Derived.Test.YtocoehahhohpgaaGreatOl
set_option linter.unusedSimpArgs false
set_option linter.unusedVariables false
namespace Go.Proofs.YtocoehahhohpgaaGreat
open Go Go.RowKit
def pr3 : AV -> Int × Int × Int
 | .tup [.agg [.lf (.val (.int .i64 u)), .lf (.val (.int .i64 v))], .lf (.val (.int .i64 e))] => (u, v, e)
 | _ => (0, 0, 1)
theorem A0s (a b : SetR) (x y : List PcQ) (te : Rat) : K0 a b x y te = .tup [A1 [.i (pr3 (K0 a b x y te)).1, .i (pr3 (K0 a b x y te)).2.1], .i (pr3 (K0 a b x y te)).2.2] := by
 have key : ∃ u v e : Int, K0 a b x y te = .tup [A1 [.i u, .i v], .i e] := by
  unfold K0
  split
  ·split
   ·exact Um _ _ _
   ·exact ⟨0, 0, _, rfl⟩
  ·exact ⟨0, 0, 12, rfl⟩
 obtain ⟨u, v, e, h⟩ := key
 rw [h]
 rfl
/-! ### Contacts -/
structure ConR where
 a : ByteArray
 b : ByteArray
 lo : Int
 hi : Int
def ConR.row (x : ConR) : List Lf := [.s x.a, .s x.b, .i x.lo, .i x.hi]
def Fo (h : HouseR) (n : ByteArray) : Option SetR := h.sets[(Af h n).toNat]?
def O1 (h : HouseR) (n : ByteArray) : Nat := (Af h n).toNat
noncomputable def Bk (h : HouseR) (c : SheetR) (G : List Int) (n : ByteArray) : Int := match Fo h n with
 | some s => if Ok c (stL h c G) (Av h c) then Hx h c (stL h c G) (O1 h n) s else 13
 | none => 9
def Bl (h : HouseR) (c : SheetR) (G : List Int) (n : ByteArray) : List PcQ := match Fo h n with
 | some s => Md h c (stL h c G) (O1 h n) s
 | none => []
noncomputable instance (l : List PcQ) : Decidable (As l) := Classical.propDecidable _
def Di (h : HouseR) (c : SheetR) (G : List Int) : Rat := Aa (endI h c G) 1000
noncomputable def frT (a b : SetR) (x y : List PcQ) (te : Rat) : Int × Int × Int := if As x /\ As y then pr3 (K0 a b x y te) else (0, 0, 1)
noncomputable def ctR (h : HouseR) (c : SheetR) (G : List Int) (p : ByteArray × ByteArray) : Int × Int × Int := match Fo h p.1, Fo h p.2 with
 | some a, some b => if Bk h c G p.1 = 0 then (if Bk h c G p.2 = 0 then frT a b (Bl h c G p.1) (Bl h c G p.2) (Di h c G) else (0, 0, Bk h c G p.2)) else (0, 0, Bk h c G p.1)
 | _, _ => (0, 0, 9)
noncomputable def Nz (h : HouseR) (c : SheetR) (G : List Int) (p : ByteArray × ByteArray) : Option ConR := if (ctR h c G p).2.2 = 0 then some ⟨p.1, p.2, (ctR h c G p).1, (ctR h c G p).2.1⟩ else none
noncomputable def Cy (h : HouseR) (c : SheetR) (G : List Int) (l : List (ByteArray × ByteArray)) : List ConR := l.filterMap (Nz h c G)
def Dn (h : HouseR) (c : SheetR) (G : List Int) (p : ByteArray × ByteArray) : Prop := (ctR h c G p).2.2 = 0 \/ (ctR h c G p).2.2 = 12
theorem A7z {h : HouseR} {c : SheetR} {G : List Int} {l : List (ByteArray × ByteArray)} {p : ByteArray × ByteArray} (e : (ctR h c G p).2.2 = 0) : Cy h c G (l ++ [p]) = Cy h c G l ++ [⟨p.1, p.2, (ctR h c G p).1, (ctR h c G p).2.1⟩] := by
 unfold Cy
 rw [List.filterMap_append]
 congr 1
 simp [Nz, e]
theorem Aac {h : HouseR} {c : SheetR} {G : List Int} {l : List (ByteArray × ByteArray)} {p : ByteArray × ByteArray} (e : ¬ (ctR h c G p).2.2 = 0) : Cy h c G (l ++ [p]) = Cy h c G l := by
 unfold Cy
 rw [List.filterMap_append]
 have : List.filterMap (Nz h c G) [p] = [] := by simp [Nz, e]
 rw [this, List.append_nil]
theorem A7a (h : HouseR) (c : SheetR) (G : List Int) (l : List (ByteArray × ByteArray)) : (Cy h c G l).length <= l.length := List.length_filterMap_le _ _
theorem A5z (s : SetR) (n : ByteArray) : Fn0 Tryz.prog 132 [A1 s.row, .rop [.s n]] (.b (decide (s.name = n))) := by
 refine Fn0.of Tryz.func132 Tryz.ntmps132 rfl rfl rfl ?_
 simp only [A2]
 repeat' (first
  | refine W ?_

  | refine V ?_
  | (refine W2 ?_ ?_ <;> intro hc))
 all_goals exact A6 (by simp) Tryz.results132 rfl (by rfl)
noncomputable def Kl (h : HouseR) (c : SheetR) (G : List Int) (n : ByteArray) : List PcQ := if Bk h c G n = 0 then Bl h c G n else []
set_option maxHeartbeats 16000000 in
theorem Lw (h : HouseR) (c : SheetR) (hf : h.fits) (hc : c.fits) (G : List Int) (hG : G.length <= 4611686018427387904) (e0 : alE h c G = 0) (n : ByteArray) (hn : ¬ Af h n < 0) : Fn0 Tryz.prog 75 [A1 h.row, A1 c.row, .sl (G.map A3), .s n] (.tup [.sl ((Kl h c G n).map PcQ.row), .i (Bk h c G n)]) := by
 have cm := Jb h c hf hc G hG
 obtain ⟨p, er⟩ := He e0
 rw [e0, er] at cm
 have hs : Fn0 Tryz.prog 15 [.sl (h.sets.map SetR.row), .fn (.func 132) [] [.rop [.s n]]] (.i (Af h n)) :=
  Jp h.sets SetR.row (fun s => s.name = n) _ _ (fun _ => rfl) hf.1 rfl fun s _ => A5z s n
 obtain ⟨s, hsi⟩ := Gy hn
 have hz : Af h n = ((O1 h n : Nat) : Int) := by unfold O1;omega
 have hset : Fo h n = some s := hsi
 have hsk : h.sets[O1 h n]? = some s := hsi
 have co := Zk c (trL h c) (stL h c G) (Av h c) (C0 h c G) (Dz h c _) (by have := p.v.2.1;omega) hc.2.2 p.st p.ln
 have cp := A89 h c G p hc hsk
 unfold plA at co cp
 rw [hz] at hs
 unfold Kl Bl Bk
 rw [hset]
 dsimp only
 generalize O1 h n = k at *
 have hk0 : ¬ (k : Int) < 0 := by omega
 by_cases ho : Ok c (stL h c G) (Av h c)
 ·rw [decide_eq_true ho] at co
  simp only [ho, if_true]
  change Fn0 _ _ _ (.tup [.sl ((if Hx h c (stL h c G) k s = 0 then Md h c (stL h c G) k s else []).map PcQ.row), _]) at cp
  generalize (if Hx h c (stL h c G) k s = 0 then Md h c (stL h c G) k s else []) = O at *
  generalize Hx h c (stL h c G) k s = e at *
  generalize stL h c G = u1 at *
  generalize Av h c = u2 at *
  generalize trL h c = u3 at *
  refine Fn0.of Tryz.func75 Tryz.ntmps75 rfl rfl rfl ?_
  simp only [A2]
  repeat' (first
   | refine W ?_
   | (apply S.callV;exact rfl;exact hs;exact .cons (.one (.lf _)) (.cons (.fn (.cons (.ptr0 (cs := [.s n]) rfl) .nil)) .nil);exact rfl;exact rfl) | refine Y ?_|(apply T.drawAll A0 (by decide +kernel))
   | refine V ?_
   | (refine W2 ?_ ?_ <;> intro hc))
  all_goals exact D2 rfl rfl rfl
 ·rw [decide_eq_false ho] at co
  simp only [ho, if_false]
  rw [if_neg (show ¬ (13 : Int) = 0 by decide)]
  generalize stL h c G = u1 at *
  generalize Av h c = u2 at *
  generalize trL h c = u3 at *
  refine Fn0.of Tryz.func75 Tryz.ntmps75 rfl rfl rfl ?_
  simp only [A2]
  repeat' (first
   | refine W ?_
   | (apply S.callV;exact rfl;exact hs;exact .cons (.one (.lf _)) (.cons (.fn (.cons (.ptr0 (cs := [.s n]) rfl) .nil)) .nil);exact rfl;exact rfl) | refine Y ?_|(apply T.drawAll A0 (by decide +kernel))|(refine T.nilU 8 rfl ?_;apply T.ret;change C6 _ _ _ _ _)
   | refine V ?_
   | (refine W2 ?_ ?_ <;> intro hc))
  all_goals exact D2 rfl rfl rfl
theorem Iw (h : HouseR) (hf : h.fits) (hp : Bu h) (n : ByteArray) (hn : ¬ Af h n < 0) : Fn0 Tryz.prog 74 [A1 h.row, .s n] (.tup [.i (Af h n), .i 0]) := by
 have hv := Ia h hf
 rw [decide_eq_true hp] at hv
 have cf := T7 h n hf.1
 generalize Af h n = i at *
 refine Fn0.of Tryz.func74 Tryz.ntmps74 rfl rfl rfl ?_
 simp only [A2]
 repeat' (first
  | refine W ?_
  | refine Y ?_
  | refine V ?_
  | (refine W2 ?_ ?_ <;> intro hc))
 all_goals exact D2 rfl rfl rfl
def unQ (p : PcQ) : PieceR := ⟨p.f.num, p.f.den, p.a.num, p.a.den, p.b.num, p.b.den, p.c.num, p.c.den⟩
theorem A9p (x : List PcQ) : (x.map unQ).map PieceR.row = x.map PcQ.row := by rw [List.map_map];rfl
theorem Aap (p : PcQ) : toQ (unQ p) = p := by
 unfold toQ unQ Aa
 simp only [Rat.num_divInt_den]
theorem Uv {x : List PcQ} (h : ¬ As x) (hn : x.length <= 1000000) : Fn0 Tryz.prog 95 [.sl (x.map PcQ.row)] (.b false) := by
 have := Vm (x.map unQ) (by rw [List.length_map];exact hn)
 rw [A9p, decide_eq_false (fun k => h (by have := (A5m k).2.2.2;rwa [List.map_map, show toQ ∘ unQ = id from funext Aap, List.map_id] at this))] at this
 exact this
structure TwoP (a b : SetR) (x y : List PcQ) : Prop where
 pa : D9 a
 pb : D9 b
 fa : a.fits
 fb : b.fits
 ox : okC x
 oy : okC y
 x0 : x ≠ []
 y0 : y ≠ []
 nx : x.length <= 200
 ny : y.length <= 200
theorem Nf (a b : SetR) (x y : List PcQ) (h : TwoP a b x y) (t : List Lf) (ht : t.length = 2) (hs : ¬ (As x /\ As y)) : Fn0 Tryz.prog 76 [A1 a.row, A1 b.row, .sl (x.map PcQ.row), .sl (y.map PcQ.row), A1 t] (.i 1) := by
 have va := Ff a h.fa
 have vb := Ff b h.fb
 rw [decide_eq_true h.pa] at va
 rw [decide_eq_true h.pb] at vb
 match t, ht with
 | [u, v], _ =>
 by_cases sx : As x
 ·have vx := Ha x h.ox sx (List.length_pos_iff.2 h.x0) h.nx
  have vy := Uv (fun k => hs ⟨sx, k⟩) (by have := h.ny;omega)
  refine Fn0.of Tryz.func76 Tryz.ntmps76 rfl rfl rfl ?_
  simp only [A2]
  repeat' (first
   | refine W ?_
   | refine Y ?_
   | refine V ?_
   | (refine W2 ?_ ?_ <;> intro hc))
  all_goals exact A6 (by simp) Tryz.results76 rfl rfl
 ·have vx := Uv sx (by have := h.nx;omega)
  refine Fn0.of Tryz.func76 Tryz.ntmps76 rfl rfl rfl ?_
  simp only [A2]
  repeat' (first
   | refine W ?_
   | refine Y ?_
   | refine V ?_
   | (refine W2 ?_ ?_ <;> intro hc))
  all_goals exact A6 (by simp) Tryz.results76 rfl rfl
theorem A1p (a b : SetR) (x y : List PcQ) (h : TwoP a b x y) (te : Rat) (ht : Fits te) (h0 : 0 <= te) (h1 : te <= 1099511627776) :
  Fn0 Tryz.prog 38 [A1 a.row, A1 b.row, .sl (x.map PcQ.row), .sl (y.map PcQ.row), A1 (frR te)] (.tup [A1 [.i (frT a b x y te).1, .i (frT a b x y te).2.1], .i (frT a b x y te).2.2]) := by
 by_cases hs : As x /\ As y
 ·have := A5c a b x y ⟨h.pa, h.pb, h.fa, h.fb, h.ox, h.oy, h.x0, h.y0, hs.1, hs.2, h.nx, h.ny⟩ te ht h0 h1
  rw [A0s] at this
  unfold frT
  rw [if_pos hs]
  exact this
 ·have cg := Nf a b x y h (frR te) rfl hs
  unfold frT
  rw [if_neg hs]
  refine Fn0.of Tryz.func38 Tryz.ntmps38 rfl rfl rfl ?_
  simp only [A2]
  repeat' (first
   | refine W ?_
   | refine Y ?_
   | refine V ?_
   | (refine W2 ?_ ?_ <;> intro hc))
  all_goals exact ⟨.inr rfl, [A1 [.i 0, .i 0], .i 1], .cons (Res.row [.i 0, .i 0] rfl rfl rfl rfl rfl) (.cons (.tmp rfl) .nil), .tup (.cons (.agg (A7 [.i 0, .i 0])) (.cons (.one (.lf _)) .nil))⟩
/-! ### The end of a show -/
theorem A7u {l : List Int} (x : Int) (h : l ≠ []) : mxL (l ++ [x]) = max (mxL l) x := by
 cases l with
 | nil => exact absurd rfl h
 | cons y l =>
  show List.foldl max y (l ++ [x]) = _
  rw [List.foldl_append];rfl
theorem Wl (l : List Int) (h0 : l ≠ []) (hl : l.length <= 1000000) : Fn0 Tryz.prog 39 [.sl (l.map A3)] (.i (mxL l)) := by
 have hle : (l.map A3).length = l.length := List.length_map _
 have hp := List.length_pos_iff.2 h0
 have h1 : ¬ ((l.map A3).length : Int) < 1 := by omega
 obtain ⟨x, hx⟩ := A9 hp
 have hb0 : (l.map A3)[(0 : Int).toNat]? = some (A3 x) := Ac (k := 0) hx
 have hx1 : mxL (l.take 1) = x := by
  cases l with
  | nil => exact absurd rfl h0
  | cons y l => simp at hx;subst hx;rfl
 refine Fn0.of Tryz.func39 Tryz.ntmps39 rfl rfl rfl ?_
 simp only [A2]
 repeat' (first
  | refine W ?_
  | refine Y ?_
  | refine V ?_
  | (refine W2 ?_ ?_ <;> intro hc))
 refine T.loopS (fun k => 1 <= k /\ k <= l.length) (fun k => l.length - k) (fun k => [(4, .i k), (3, .i (mxL (l.take k))), (0, .sl (l.map A3))]) (fun _ => []) 1 ⟨Nat.le_refl _, hp⟩ (.cons rfl rfl (.cons (by rw [hx1];rfl) rfl (.cons rfl rfl .nil))) .nil ?_
 rintro k ⟨hk1, hk⟩
 by_cases hlt : k < l.length
 ·have h2 : (k : Int) < ((l.map A3).length : Nat) := by omega
  obtain ⟨y, hy⟩ := A9 hlt
  have hb := Ac (R := A3) hy
  have hne : l.take k ≠ [] := fun e => by have := congrArg List.length e;rw [List.length_take, List.length_nil] at this;omega
  have hm : mxL (l.take (k + 1)) = max (mxL (l.take k)) y := by rw [List.take_add_one, hy];exact A7u y hne
  repeat' (first
   | refine W ?_
   | refine Y ?_
   | refine V ?_
   | (refine W2 ?_ ?_ <;> intro hc))
  change Next _ _ _ _ _ _
  exact Next.go (k + 1) ⟨by omega, by omega⟩ (by omega) (by rw [hm, show (((k + 1 : Nat) : Int)) = (k : Int) + 1 by omega];exact CW) .nil
 ·have h2 : ¬ (k : Int) < ((l.map A3).length : Nat) := by omega
  rw [List.take_of_length_le (by omega)]
  repeat' (first
   | refine W ?_
   | refine Y ?_
   | refine V ?_
   | (refine W2 ?_ ?_ <;> intro hc))
  exact A6 (by simp) Tryz.results39 rfl rfl
set_option maxHeartbeats 16000000 in
theorem X4 (h : HouseR) (c : SheetR) (hf : h.fits) (hc : c.fits) (G : List Int) (hG : G.length <= 4611686018427387904) (e0 : alE h c G = 0) (hn : c.cues.length = 0) : Fn0 Tryz.prog 31 [A1 h.row, A1 c.row, .sl (G.map A3)] (.tup [.val (.slice none 0 0), .i 0]) := by
 have cm := Jb h c hf hc G hG
 obtain ⟨p, er⟩ := He e0
 rw [e0, er] at cm
 have h60 : c.cues.length <= 60 := by have := p.v.2.1;omega
 have hle : ((stL h c G).map A3).length = c.cues.length := by rw [List.length_map, C0]
 refine Fn0.of Tryz.func31 Tryz.ntmps31 rfl rfl rfl ?_
 simp only [A2]
 repeat' (first
  | refine W ?_
  | refine Zc cm ?_|(apply T.drawAll A0 (by decide +kernel))
  | refine V ?_
  | (refine W2 ?_ ?_ <;> intro hc))
 refine T.kill 3 ?_
 refine T.loopS (fun k => k <= c.cues.length) (fun k => c.cues.length - k) (fun k => [(26, .i k), (25, .i ((stL h c G).map A3).length), (24, .sl ((stL h c G).map A3)), (10, rT 3 1 k), (8, .ptr 2 0)]) (fun k => [.live (h.row.map .lf), .live (c.row.map .lf), .live [.sl (trL h c), .sl ((stL h c G).map A3), .sl ((Av h c).map A3)], rB (A8 (Dj h c G k)) k]) 0 (Nat.zero_le _) CW CG ?_
 intro k hk
 by_cases hlt : k < c.cues.length
 ·have h1 : (k : Int) < (((stL h c G).map A3).length : Nat) := by omega
  obtain ⟨x, hx⟩ := A9 (l := stL h c G) (k := k) (by rw [C0];exact hlt)
  have hb := Ac (R := A3) hx
  obtain ⟨y, hy⟩ := A9 (l := Av h c) (k := k) (by rw [Dz];exact hlt)
  have hb2 := Ac (R := A3) hy
  have r1 := p.st k
  have r2 := p.ln k
  have hV : G3 h c G k = x + y := by unfold G3;rw [List.getD_eq_getElem?_getD, List.getD_eq_getElem?_getD, hx, hy];rfl
  rw [List.getD_eq_getElem?_getD, hx] at r1
  rw [List.getD_eq_getElem?_getD, hy] at r2
  simp only [Option.getD_some] at r1 r2
  have hS := Dk (Dj h c G k) (G3 h c G k)
  rw [<- Nw, hV] at hS
  cases k with
  | zero =>
   repeat' (first
    | refine W ?_
    | refine Zi hb ?_|refine Zi hb2 ?_|(apply S.buildSlice1;(iterate 7 exact rfl))|(apply S.appendN 3 (rows := []);(iterate 8 exact rfl);exact Ae rfl;exact rfl;exact Nat.le_of_ble_eq_true rfl;exact Nat.le_of_ble_eq_true rfl)|refine Za ?_
    | refine V ?_
    | (refine W2 ?_ ?_ <;> intro hc))
   all_goals (try change Next _ _ _ _ _ _)
   all_goals exact Next.go 1 (by omega) (by omega) CW (by
    show CovH _ _ [_, _, _, .live (A8 (Dj h c G (0 + 1)))]
    rw [hS];exact .live rfl CG)
  | succ k =>
   have hcl : (A8 (Dj h c G (k + 1))).length = (k + 1) * 1 := by rw [C2, Fk, Nat.mul_one]
   repeat' (first
    | refine W ?_
    | refine Zi hb ?_|refine Zi hb2 ?_|(apply S.buildSlice1;(iterate 7 exact rfl))|(apply S.appendO;(iterate 8 exact rfl);exact hcl;exact Ae rfl;exact rfl;exact Ah _ _;simp only [List.length_cons, List.length_nil];omega;simp only [List.length_cons, List.length_nil];omega)|refine Za ?_
    | refine V ?_
    | (refine W2 ?_ ?_ <;> intro hc))
   all_goals (try change Next _ _ _ _ _ _)
   all_goals exact Next.go (k + 1 + 1) (by omega) (by omega) CW (by
    show CovH _ _ [_, _, _, .live (A8 (Dj h c G (k + 1 + 1)))]
    rw [hS];exact .live rfl (.live rfl (.live rfl (.live (by rw [<- List.map_append];exact Ag _ _) .nil))))
 ·have h1 : ¬ (k : Int) < (((stL h c G).map A3).length : Nat) := by omega
  obtain rfl : k = c.cues.length := by omega
  rw [show rT 3 1 c.cues.length = .val (.slice none 0 0) by rw [hn];rfl]
  repeat' (first
   | refine W ?_

   | refine V ?_
   | (refine W2 ?_ ?_ <;> intro hc))
  exact D2 rfl rfl rfl
theorem Ot (h : HouseR) (c : SheetR) (hf : h.fits) (hc : c.fits) (G : List Int) (hG : G.length <= 4611686018427387904) (e0 : ¬ alE h c G = 0) : Fn0 Tryz.prog 11 [A1 h.row, A1 c.row, .sl (G.map A3)] (.tup [.i 0, .i (alE h c G)]) := by
 have ce := Xm h c hf hc G hG e0
 generalize alE h c G = e at *
 refine Fn0.of Tryz.func11 Tryz.ntmps11 rfl rfl rfl ?_
 simp only [A2]
 repeat' (first
  | refine W ?_
  | refine Y ?_
  | refine V ?_
  | (refine W2 ?_ ?_ <;> intro hc))
 all_goals exact D2 rfl rfl rfl
theorem X8 (h : HouseR) (c : SheetR) (hf : h.fits) (hc : c.fits) (G : List Int) (hG : G.length <= 4611686018427387904) (e0 : alE h c G = 0) : Fn0 Tryz.prog 11 [A1 h.row, A1 c.row, .sl (G.map A3)] (.tup [.i (endI h c G), .i 0]) := by
 have h60 := (He e0).1.v.2.1
 by_cases hn : c.cues.length = 0
 ·have ce := X4 h c hf hc G hG e0 hn
  have hE : endI h c G = mxL [0] := by unfold endI Cc;rw [hn];rfl
  rw [hE]
  have cm := Wl [0] (by simp) (by simp)
  refine Fn0.of Tryz.func11 Tryz.ntmps11 rfl rfl rfl ?_
  simp only [A2]
  repeat' (first
   | refine W ?_
   | refine Y ?_|(apply S.buildSlice1;(iterate 7 exact rfl))|(apply S.appendN 2 (rows := []);(iterate 8 exact rfl);exact Ae rfl;exact rfl;exact Nat.le_of_ble_eq_true rfl;exact Nat.le_of_ble_eq_true rfl)|(apply S.callV;exact rfl;exact cm;exact .cons (.one (.own (cells := [.i 0]) (rows := [[.i 0]]) rfl (OwnRows.of [.i 0] (Ae rfl) rfl))) .nil;exact rfl;exact rfl)
   | refine V ?_
   | (refine W2 ?_ ?_ <;> intro hc))
  all_goals exact D2 rfl rfl rfl
 ·have ce := Yb h c hf hc G hG e0 hn
  have hEl : ((Cc h c G).map A3).length = c.cues.length := by rw [List.length_map, Fk]
  have cm := Wl (Cc h c G ++ [0]) (by simp) (by rw [List.length_append, Fk];show c.cues.length + 1 <= 1000000;omega)
  have hE : endI h c G = mxL (Cc h c G ++ [0]) := rfl
  rw [hE]
  have hown : OwnRows ((((Cc h c G).map A3).flatten.map AV.lf) ++ ([A3 0].flatten).map AV.lf) 0 (((Cc h c G).map A3).length + 1) 1 ((Cc h c G ++ [0]).map A3) := by
   have := OwnRows.of ((Cc h c G ++ [0]).map A3).flatten (Bw _) rfl
   simpa using this
  generalize mxL (Cc h c G ++ [0]) = z at *
  have hcl : ((((Cc h c G).map A3).flatten.map AV.lf)).length = ((Cc h c G).map A3).length * 1 := by rw [List.length_map, B8 _ (Bw _)]
  generalize (Cc h c G ++ [0]).map A3 = r2 at *
  have hrow := Bw (Cc h c G)
  generalize (Cc h c G).map A3 = r1 at *
  refine Fn0.of Tryz.func11 Tryz.ntmps11 rfl rfl rfl ?_
  simp only [A2]
  repeat' (first
   | refine W ?_
   | refine Y ?_|(apply S.buildSlice1;(iterate 7 exact rfl))|(apply S.callOwnT 2 ce;(iterate 6 exact rfl);exact hrow)|(apply S.appendO;(iterate 8 exact rfl);exact hcl;exact Ae rfl;exact rfl;exact Ah _ _;simp only [List.length_cons, List.length_nil];omega;simp only [List.length_cons, List.length_nil];omega)|(apply S.callV;exact rfl;exact cm;exact .cons (.one (.own rfl hown)) .nil;exact rfl;exact rfl)
   | refine V ?_
   | (refine W2 ?_ ?_ <;> intro hc))
  all_goals exact D2 rfl rfl rfl
theorem Aa1 {h : HouseR} {c : SheetR} {G : List Int} {l : List (ByteArray × ByteArray)} {x : ConR} (hx : x ∈ Cy h c G l) : (x.a, x.b) ∈ l /\ ctR h c G (x.a, x.b) = (x.lo, x.hi, 0) := by
 obtain ⟨p, hp, hx⟩ := List.mem_filterMap.1 hx
 unfold Nz at hx
 split at hx
 ·rename_i e
  injection hx with hx
  subst hx
  exact ⟨hp, by rw [<- e]⟩
 ·cases hx
set_option maxRecDepth 100000 in
theorem A61 : ∃ n1 n2 n3 : Nat, Tryz.prog.fieldsOf 44 = #[⟨"First", 9, 0, false, "", "", n1⟩, ⟨"Second", 9, 1, false, "", "", n2⟩, ⟨"At", 42, 2, false, "", "", n3⟩] := by
 unfold Program.fieldsOf
 rw [Tryz.underlying44]
 exact ⟨_, _, _, rfl⟩
theorem A82 : Tryz.prog.stoodInHeld 44 = false := by kernel_rfl
theorem Wq : Tryz.prog.eqGuardType Tryz.prog.depth 44 = false := by kernel_rfl
theorem Abo : Tryz.prog.underlying 44 = some (.struct (Tryz.prog.fieldsOf 44)) := by
 unfold Program.fieldsOf
 rw [Tryz.underlying44]
def Mj (a b : ByteArray) (u v : Int) : Value := .agg #[.string a, .string b, .int .i64 u, .int .i64 v]
def eqC (a b : ByteArray) (u v : Int) (a' b' : ByteArray) (u' v' : Int) : Prop := a = a' /\ b = b' /\ u = u' /\ v = v'
instance (a b : ByteArray) (u v : Int) (a' b' : ByteArray) (u' v' : Int) : Decidable (eqC a b u v a' b' u' v') := by unfold eqC;exact inferInstance
set_option maxRecDepth 100000 in
theorem Uy (w : World) (d : Nat) (a b : ByteArray) (u v : Int) (a' b' : ByteArray) (u' v' : Int) : (Op.equalIn (d + 3) 44 (Mj a b u v) (Mj a' b' u' v')).run Tryz.prog w = .ok (decide (eqC a b u v a' b' u' v')) w := by
 obtain ⟨n1, n2, n3, hcf⟩ := A61
 have h1 := fun d' (k : IntKind) (a b : Int) => run_equalIn_int (P := Tryz.prog) w d' 3 k .i64 a b Tryz.underlying3
 have h2 := run_equalIn_struct (P := Tryz.prog) w (d + 2) 44 #[.string a, .string b, .int .i64 u, .int .i64 v] #[.string a', .string b', .int .i64 u', .int .i64 v'] Abo A82
 have h5 := fun d' (x y : ByteArray) => run_equalIn_string (P := Tryz.prog) w d' 9 x y Tryz.underlying9
 have h6 := fun d' => run_equalIn_struct (P := Tryz.prog) w d' 42 #[.int .i64 u, .int .i64 v] #[.int .i64 u', .int .i64 v'] A50 A6i
 rw [hcf] at h2
 rw [S7] at h6
 unfold Mj
 rw [h2]
 simp [Op.eqFields, go_sem, h1, h5, h6, Lj, A50]
 unfold eqC
 by_cases e1 : a = a' <;> by_cases e2 : b = b' <;> by_cases e3 : u = u' <;> by_cases e4 : v = v' <;> simp [*]
section
variable {N : Nat} {ops : Array Oper} {m : Option Nat} {K : Tm -> AH -> Prop} {tm : Tm} {H : AH} {rest : List Oper} {ty : TypeId} {pos : String} {af : Array Edge} {d : Nat} {x y : Operand}
theorem S.eqCon {t u' : TypeId} {a b a' b' : ByteArray} {u v w z : Int} (ht : t = 44) (hx : evT tm x = some (.agg [.val (.string a), .val (.string b), .val (.int .i64 u), .val (.int .i64 v)])) (hy : evT tm y = some (.agg [.val (.string a'), .val (.string b'), .val (.int .i64 w), .val (.int .i64 z)])) (hN : Nat.ble (d + 1) N = true) (h : Reg m Tryz.prog N ops rest ((d, .val (.bool (decide (eqC a b u v a' b' w z)))) :: tm) H K) : Reg m Tryz.prog N ops (⟨some d, .binOp .eql t x y u', ty, pos, af, none⟩ :: rest) tm H K := by
 subst ht
 refine S.val (OpV.mk fun L w' ρ η hη hH => ?_) hN h
 have h1 := (hη x (by simp [Op.operands]) _ hx).flat (u := Mj a b u v) rfl
 have h2 := (hη y (by simp [Op.operands]) _ hy).flat (u := Mj a' b' w z) rfl
 refine ⟨_, ?_, Ad _⟩
 have h3 := run_eqGuard_agg (P := Tryz.prog) w' .eql 44 x y #[.string a, .string b, .int .i64 u, .int .i64 v] #[.string a', .string b', .int .i64 w, .int .i64 z] Wq
 have h4 := run_eql_struct (P := Tryz.prog) w' 44 #[.string a, .string b, .int .i64 u, .int .i64 v] #[.string a', .string b', .int .i64 w, .int .i64 z]
 have h5 := Uy w' 9997 a b u v a' b' w z
 unfold Mj at h1 h2 h5
 simp only [execOp, h1, h2, Sem.run_bind, h3, Result.andThen_ok, h4]
 rw [h5]
 rfl
theorem S.neCon {t u' : TypeId} {a b a' b' : ByteArray} {u v w z : Int} (ht : t = 44) (hx : evT tm x = some (.agg [.val (.string a), .val (.string b), .val (.int .i64 u), .val (.int .i64 v)])) (hy : evT tm y = some (.agg [.val (.string a'), .val (.string b'), .val (.int .i64 w), .val (.int .i64 z)])) (hN : Nat.ble (d + 1) N = true) (h : Reg m Tryz.prog N ops rest ((d, .val (.bool (decide (¬ eqC a b u v a' b' w z)))) :: tm) H K) : Reg m Tryz.prog N ops (⟨some d, .binOp .neq t x y u', ty, pos, af, none⟩ :: rest) tm H K := by
 subst ht
 refine S.val (OpV.mk fun L w' ρ η hη hH => ?_) hN h
 have h1 := (hη x (by simp [Op.operands]) _ hx).flat (u := Mj a b u v) rfl
 have h2 := (hη y (by simp [Op.operands]) _ hy).flat (u := Mj a' b' w z) rfl
 refine ⟨_, ?_, Ad _⟩
 have h3 := run_eqGuard_agg (P := Tryz.prog) w' .neq 44 x y #[.string a, .string b, .int .i64 u, .int .i64 v] #[.string a', .string b', .int .i64 w, .int .i64 z] Wq
 have h4 := run_neq_struct (P := Tryz.prog) w' 44 #[.string a, .string b, .int .i64 u, .int .i64 v] #[.string a', .string b', .int .i64 w, .int .i64 z]
 have h5 := Uy w' 9997 a b u v a' b' w z
 unfold Mj at h1 h2 h5
 simp only [execOp, h1, h2, Sem.run_bind, h3, Result.andThen_ok, h4]
 rw [h5]
 simp [go_sem]
end
end Go.Proofs.YtocoehahhohpgaaGreat
