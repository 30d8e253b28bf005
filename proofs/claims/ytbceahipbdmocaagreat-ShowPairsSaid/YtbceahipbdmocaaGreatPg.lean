/- Contracts: timeline's Path, of a sheet with a plan;house.Find. No conditions but those of each statement. -/
import Derived.Test.YtbceahipbdmocaaGreatPe
import Derived.Test.YtbceahipbdmocaaGreatPf
import Derived.Test.YtbceahipbdmocaaGreatPa
import Derived.Test.YtbceahipbdmocaaGreatOq
import Derived.Test.YtbceahipbdmocaaGreatOv
import Derived.Test.YtbceahipbdmocaaGreatNn
import Derived.Test.YtbceahipbdmocaaGreatOl
set_option linter.unusedSimpArgs false
set_option linter.unusedVariables false
namespace Go.Proofs.YtbceahipbdmocaaGreat
open Go Go.RowKit
theorem A5o (s : SetR) (n : ByteArray) : Fn0 Tryz.prog 136 [A2 s.row, .rop [.s n]] (.b (decide (s.name = n))) := by
 refine Fn0.of Tryz.func136 Tryz.ntmps136 rfl rfl rfl ?_
 simp only [A1]
 repeat' (first
  | refine W ?_

  | refine V ?_
  | (refine W2 ?_ ?_ <;> intro hc))
 all_goals exact A8 (by simp) Tryz.results136 rfl (by rfl)
noncomputable def U8 (h : HouseR) (c : SheetR) (G : List Int) (n : ByteArray) : List PcQ := if D9 h c G n = 0 then Cw h c G n else []
set_option maxHeartbeats 16000000 in
theorem Zb (h : HouseR) (c : SheetR) (hf : h.fits) (hc : c.fits) (G : List Int) (hG : G.length <= 4611686018427387904) (e0 : alE h c G = 0) (n : ByteArray) (hn : ¬ Aj h n < 0) : Fn0 Tryz.prog 79 [A2 h.row, A2 c.row, .sl (G.map A3), .s n] (.tup [.sl ((U8 h c G n).map PcQ.row), .i (D9 h c G n)]) := by
 have cm := Jd h c hf hc G hG
 obtain ⟨p, er⟩ := Iu e0
 rw [e0, er] at cm
 have hs : Fn0 Tryz.prog 16 [.sl (h.sets.map SetR.row), .fn (.func 136) [] [.rop [.s n]]] (.i (Aj h n)) :=
  Ke h.sets SetR.row (fun s => s.name = n) _ _ (fun _ => rfl) hf.1 rfl fun s _ => A5o s n
 obtain ⟨s, hsi⟩ := Pw hn
 have hz : Aj h n = ((Nr h n : Nat) : Int) := by unfold Nr;omega
 have hset : Jx h n = some s := hsi
 have hsk : h.sets[Nr h n]? = some s := hsi
 have co := Zm c (trL h c) (stL h c G) (C3 h c) (En h c G) (E7 h c _) (by have := p.v.2.1;omega) hc.2.2 p.st p.ln
 have cp := A8e h c G p hc hsk
 unfold plA at co cp
 rw [hz] at hs
 unfold U8 Cw D9
 rw [hset]
 dsimp only
 generalize Nr h n = k at *
 have hk0 : ¬ (k : Int) < 0 := by omega
 by_cases ho : O7 c (stL h c G) (C3 h c)
 ·rw [decide_eq_true ho] at co
  simp only [ho, if_true]
  change Fn0 _ _ _ (.tup [.sl ((if Hl h c (stL h c G) k s = 0 then Na h c (stL h c G) k s else []).map PcQ.row), _]) at cp
  generalize (if Hl h c (stL h c G) k s = 0 then Na h c (stL h c G) k s else []) = O at *
  generalize Hl h c (stL h c G) k s = e at *
  generalize stL h c G = u1 at *
  generalize C3 h c = u2 at *
  generalize trL h c = u3 at *
  refine Fn0.of Tryz.func79 Tryz.ntmps79 rfl rfl rfl ?_
  simp only [A1]
  repeat' (first
   | refine W ?_
   | (apply S.callV;exact rfl;exact hs;exact .cons (.one (.lf _)) (.cons (.fn (.cons (.ptr0 (cs := [.s n]) rfl) .nil)) .nil);exact rfl;exact rfl) | refine Y ?_|(apply T.drawAll A0 (by decide +kernel))
   | refine V ?_
   | (refine W2 ?_ ?_ <;> intro hc))
  all_goals exact D2 rfl rfl rfl
 ·rw [decide_eq_false ho] at co
  simp only [ho, if_false]
  rw [if_neg (show ¬ (13 : Int) = 0 by decide)]
  generalize stL h c G = u1 at *
  generalize C3 h c = u2 at *
  generalize trL h c = u3 at *
  refine Fn0.of Tryz.func79 Tryz.ntmps79 rfl rfl rfl ?_
  simp only [A1]
  repeat' (first
   | refine W ?_
   | (apply S.callV;exact rfl;exact hs;exact .cons (.one (.lf _)) (.cons (.fn (.cons (.ptr0 (cs := [.s n]) rfl) .nil)) .nil);exact rfl;exact rfl) | refine Y ?_|(apply T.drawAll A0 (by decide +kernel))|(refine T.nilU 8 rfl ?_;apply T.ret;change C2 _ _ _ _ _)
   | refine V ?_
   | (refine W2 ?_ ?_ <;> intro hc))
  all_goals exact D2 rfl rfl rfl
theorem Sh (h : HouseR) (hf : h.fits) (hp : C0 h) (n : ByteArray) (hn : ¬ Aj h n < 0) : Fn0 Tryz.prog 78 [A2 h.row, .s n] (.tup [.i (Aj h n), .i 0]) := by
 have hv := I7 h hf
 rw [decide_eq_true hp] at hv
 have cf := T9 h n hf.1
 generalize Aj h n = i at *
 refine Fn0.of Tryz.func78 Tryz.ntmps78 rfl rfl rfl ?_
 simp only [A1]
 repeat' (first
  | refine W ?_
  | refine Y ?_
  | refine V ?_
  | (refine W2 ?_ ?_ <;> intro hc))
 all_goals exact D2 rfl rfl rfl
def unQ (p : PcQ) : PieceR := ⟨p.f.num, p.f.den, p.a.num, p.a.den, p.b.num, p.b.den, p.c.num, p.c.den⟩
theorem A9o (x : List PcQ) : (x.map unQ).map PieceR.row = x.map PcQ.row := by rw [List.map_map];rfl
theorem Aar (p : PcQ) : toQ (unQ p) = p := by
 unfold toQ unQ Aa
 simp only [Rat.num_divInt_den]
theorem Vx {x : List PcQ} (h : ¬ Ba x) (hn : x.length <= 1000000) : Fn0 Tryz.prog 99 [.sl (x.map PcQ.row)] (.b false) := by
 have := V4 (x.map unQ) (by rw [List.length_map];exact hn)
 rw [A9o, decide_eq_false (fun k => h (by have := (A3q k).2.2.2;rwa [List.map_map, show toQ ∘ unQ = id from funext Aar, List.map_id] at this))] at this
 exact this
structure TwoP (a b : SetR) (x y : List PcQ) : Prop where
 pa : Cy a
 pb : Cy b
 fa : a.fits
 fb : b.fits
 ox : okC x
 oy : okC y
 x0 : x ≠ []
 y0 : y ≠ []
 nx : x.length <= 200
 ny : y.length <= 200
theorem W8 (a b : SetR) (x y : List PcQ) (h : TwoP a b x y) (t : List Lf) (ht : t.length = 2) (hs : ¬ (Ba x /\ Ba y)) : Fn0 Tryz.prog 80 [A2 a.row, A2 b.row, .sl (x.map PcQ.row), .sl (y.map PcQ.row), A2 t] (.i 1) := by
 have va := Fc a h.fa
 have vb := Fc b h.fb
 rw [decide_eq_true h.pa] at va
 rw [decide_eq_true h.pb] at vb
 match t, ht with
 | [u, v], _ =>
 by_cases sx : Ba x
 ·have vx := Iv x h.ox sx (List.length_pos_iff.2 h.x0) h.nx
  have vy := Vx (fun k => hs ⟨sx, k⟩) (by have := h.ny;omega)
  refine Fn0.of Tryz.func80 Tryz.ntmps80 rfl rfl rfl ?_
  simp only [A1]
  repeat' (first
   | refine W ?_
   | refine Y ?_
   | refine V ?_
   | (refine W2 ?_ ?_ <;> intro hc))
  all_goals exact A8 (by simp) Tryz.results80 rfl rfl
 ·have vx := Vx sx (by have := h.nx;omega)
  refine Fn0.of Tryz.func80 Tryz.ntmps80 rfl rfl rfl ?_
  simp only [A1]
  repeat' (first
   | refine W ?_
   | refine Y ?_
   | refine V ?_
   | (refine W2 ?_ ?_ <;> intro hc))
  all_goals exact A8 (by simp) Tryz.results80 rfl rfl
theorem A3b (a b : SetR) (x y : List PcQ) (h : TwoP a b x y) (te : Rat) (ht : Fits te) (h0 : 0 <= te) (h1 : te <= 1099511627776) :
  Fn0 Tryz.prog 41 [A2 a.row, A2 b.row, .sl (x.map PcQ.row), .sl (y.map PcQ.row), A2 (frR te)] (.tup [A2 [.i (frT a b x y te).1, .i (frT a b x y te).2.1], .i (frT a b x y te).2.2]) := by
 by_cases hs : Ba x /\ Ba y
 ·have := A63 a b x y ⟨h.pa, h.pb, h.fa, h.fb, h.ox, h.oy, h.x0, h.y0, hs.1, hs.2, h.nx, h.ny⟩ te ht h0 h1
  rw [A0f] at this
  unfold frT
  rw [if_pos hs]
  exact this
 ·have cg := W8 a b x y h (frR te) rfl hs
  unfold frT
  rw [if_neg hs]
  refine Fn0.of Tryz.func41 Tryz.ntmps41 rfl rfl rfl ?_
  simp only [A1]
  repeat' (first
   | refine W ?_
   | refine Y ?_
   | refine V ?_
   | (refine W2 ?_ ?_ <;> intro hc))
  all_goals exact ⟨.inr rfl, [A2 [.i 0, .i 0], .i 1], .cons (Res.row [.i 0, .i 0] rfl rfl rfl rfl rfl) (.cons (.tmp rfl) .nil), .tup (.cons (.agg (A9 [.i 0, .i 0])) (.cons (.one (.lf _)) .nil))⟩
/-! ### The end of a show -/
theorem A7x {l : List Int} (x : Int) (h : l ≠ []) : mxL (l ++ [x]) = max (mxL l) x := by
 cases l with
 | nil => exact absurd rfl h
 | cons y l =>
  show List.foldl max y (l ++ [x]) = _
  rw [List.foldl_append];rfl
theorem Xp (l : List Int) (h0 : l ≠ []) (hl : l.length <= 1000000) : Fn0 Tryz.prog 42 [.sl (l.map A3)] (.i (mxL l)) := by
 have hle : (l.map A3).length = l.length := List.length_map _
 have hp := List.length_pos_iff.2 h0
 have h1 : ¬ ((l.map A3).length : Int) < 1 := by omega
 obtain ⟨x, hx⟩ := Ab hp
 have hb0 : (l.map A3)[(0 : Int).toNat]? = some (A3 x) := Ac (k := 0) hx
 have hx1 : mxL (l.take 1) = x := by
  cases l with
  | nil => exact absurd rfl h0
  | cons y l => simp at hx;subst hx;rfl
 refine Fn0.of Tryz.func42 Tryz.ntmps42 rfl rfl rfl ?_
 simp only [A1]
 repeat' (first
  | refine W ?_
  | refine Y ?_
  | refine V ?_
  | (refine W2 ?_ ?_ <;> intro hc))
 refine T.loopS (fun k => 1 <= k /\ k <= l.length) (fun k => l.length - k) (fun k => [(4, .i k), (3, .i (mxL (l.take k))), (0, .sl (l.map A3))]) (fun _ => []) 1 ⟨Nat.le_refl _, hp⟩ (.cons rfl rfl (.cons (by rw [hx1];rfl) rfl (.cons rfl rfl .nil))) .nil ?_
 rintro k ⟨hk1, hk⟩
 by_cases hlt : k < l.length
 ·have h2 : (k : Int) < ((l.map A3).length : Nat) := by omega
  obtain ⟨y, hy⟩ := Ab hlt
  have hb := Ac (R := A3) hy
  have hne : l.take k ≠ [] := fun e => by have := congrArg List.length e;rw [List.length_take, List.length_nil] at this;omega
  have hm : mxL (l.take (k + 1)) = max (mxL (l.take k)) y := by rw [List.take_add_one, hy];exact A7x y hne
  repeat' (first
   | refine W ?_
   | refine Y ?_
   | refine V ?_
   | (refine W2 ?_ ?_ <;> intro hc))
  change Next _ _ _ _ _ _
  exact Next.go (k + 1) ⟨by omega, by omega⟩ (by omega) (by rw [hm, show (((k + 1 : Nat) : Int)) = (k : Int) + 1 by omega];exact CW) .nil
 ·have h2 : ¬ (k : Int) < ((l.map A3).length : Nat) := by omega
  rw [List.take_of_length_le (by omega)]
  repeat' (first
   | refine W ?_
   | refine Y ?_
   | refine V ?_
   | (refine W2 ?_ ?_ <;> intro hc))
  exact A8 (by simp) Tryz.results42 rfl rfl
set_option maxHeartbeats 16000000 in
theorem Wu (h : HouseR) (c : SheetR) (hf : h.fits) (hc : c.fits) (G : List Int) (hG : G.length <= 4611686018427387904) (e0 : alE h c G = 0) (hn : c.cues.length = 0) : Fn0 Tryz.prog 34 [A2 h.row, A2 c.row, .sl (G.map A3)] (.tup [.val (.slice none 0 0), .i 0]) := by
 have cm := Jd h c hf hc G hG
 obtain ⟨p, er⟩ := Iu e0
 rw [e0, er] at cm
 have h60 : c.cues.length <= 60 := by have := p.v.2.1;omega
 have hle : ((stL h c G).map A3).length = c.cues.length := by rw [List.length_map, En]
 refine Fn0.of Tryz.func34 Tryz.ntmps34 rfl rfl rfl ?_
 simp only [A1]
 repeat' (first
  | refine W ?_
  | refine Zc cm ?_|(apply T.drawAll A0 (by decide +kernel))
  | refine V ?_
  | (refine W2 ?_ ?_ <;> intro hc))
 refine T.kill 3 ?_
 refine T.loopS (fun k => k <= c.cues.length) (fun k => c.cues.length - k) (fun k => [(26, .i k), (25, .i ((stL h c G).map A3).length), (24, .sl ((stL h c G).map A3)), (10, rT 3 1 k), (8, .ptr 2 0)]) (fun k => [.live (h.row.map .lf), .live (c.row.map .lf), .live [.sl (trL h c), .sl ((stL h c G).map A3), .sl ((C3 h c).map A3)], rB (Ae (Ds h c G k)) k]) 0 (Nat.zero_le _) CW CG ?_
 intro k hk
 by_cases hlt : k < c.cues.length
 ·have h1 : (k : Int) < (((stL h c G).map A3).length : Nat) := by omega
  obtain ⟨x, hx⟩ := Ab (l := stL h c G) (k := k) (by rw [En];exact hlt)
  have hb := Ac (R := A3) hx
  obtain ⟨y, hy⟩ := Ab (l := C3 h c) (k := k) (by rw [E7];exact hlt)
  have hb2 := Ac (R := A3) hy
  have r1 := p.st k
  have r2 := p.ln k
  have hV : Hg h c G k = x + y := by unfold Hg;rw [List.getD_eq_getElem?_getD, List.getD_eq_getElem?_getD, hx, hy];rfl
  rw [List.getD_eq_getElem?_getD, hx] at r1
  rw [List.getD_eq_getElem?_getD, hy] at r2
  simp only [Option.getD_some] at r1 r2
  have hS := Jl (Ds h c G k) (Hg h c G k)
  rw [<- Om, hV] at hS
  cases k with
  | zero =>
   repeat' (first
    | refine W ?_
    | refine Zi hb ?_|refine Zi hb2 ?_|(apply S.buildSlice1;(iterate 7 exact rfl))|(apply S.appendN 3 (rows := []);(iterate 8 exact rfl);exact Ai rfl;exact rfl;exact Nat.le_of_ble_eq_true rfl;exact Nat.le_of_ble_eq_true rfl)|refine Za ?_
    | refine V ?_
    | (refine W2 ?_ ?_ <;> intro hc))
   all_goals (try change Next _ _ _ _ _ _)
   all_goals exact Next.go 1 (by omega) (by omega) CW (by
    show CovH _ _ [_, _, _, .live (Ae (Ds h c G (0 + 1)))]
    rw [hS];exact .live rfl CG)
  | succ k =>
   have hcl : (Ae (Ds h c G (k + 1))).length = (k + 1) * 1 := by rw [Cu, G6, Nat.mul_one]
   repeat' (first
    | refine W ?_
    | refine Zi hb ?_|refine Zi hb2 ?_|(apply S.buildSlice1;(iterate 7 exact rfl))|(apply S.appendO;(iterate 8 exact rfl);exact hcl;exact Ai rfl;exact rfl;exact Aw _ _;simp only [List.length_cons, List.length_nil];omega;simp only [List.length_cons, List.length_nil];omega)|refine Za ?_
    | refine V ?_
    | (refine W2 ?_ ?_ <;> intro hc))
   all_goals (try change Next _ _ _ _ _ _)
   all_goals exact Next.go (k + 1 + 1) (by omega) (by omega) CW (by
    show CovH _ _ [_, _, _, .live (Ae (Ds h c G (k + 1 + 1)))]
    rw [hS];exact .live rfl (.live rfl (.live rfl (.live (by rw [<- List.map_append];exact Ak _ _) .nil))))
 ·have h1 : ¬ (k : Int) < (((stL h c G).map A3).length : Nat) := by omega
  obtain rfl : k = c.cues.length := by omega
  rw [show rT 3 1 c.cues.length = .val (.slice none 0 0) by rw [hn];rfl]
  repeat' (first
   | refine W ?_

   | refine V ?_
   | (refine W2 ?_ ?_ <;> intro hc))
  exact D2 rfl rfl rfl
theorem Z7 (h : HouseR) (c : SheetR) (hf : h.fits) (hc : c.fits) (G : List Int) (hG : G.length <= 4611686018427387904) (e0 : ¬ alE h c G = 0) : Fn0 Tryz.prog 12 [A2 h.row, A2 c.row, .sl (G.map A3)] (.tup [.i 0, .i (alE h c G)]) := by
 have ce := X6 h c hf hc G hG e0
 generalize alE h c G = e at *
 refine Fn0.of Tryz.func12 Tryz.ntmps12 rfl rfl rfl ?_
 simp only [A1]
 repeat' (first
  | refine W ?_
  | refine Y ?_
  | refine V ?_
  | (refine W2 ?_ ?_ <;> intro hc))
 all_goals exact D2 rfl rfl rfl
theorem Xq (h : HouseR) (c : SheetR) (hf : h.fits) (hc : c.fits) (G : List Int) (hG : G.length <= 4611686018427387904) (e0 : alE h c G = 0) : Fn0 Tryz.prog 12 [A2 h.row, A2 c.row, .sl (G.map A3)] (.tup [.i (endI h c G), .i 0]) := by
 have h60 := (Iu e0).1.v.2.1
 by_cases hn : c.cues.length = 0
 ·have ce := Wu h c hf hc G hG e0 hn
  have hE : endI h c G = mxL [0] := by unfold endI Ea;rw [hn];rfl
  rw [hE]
  have cm := Xp [0] (by simp) (by simp)
  refine Fn0.of Tryz.func12 Tryz.ntmps12 rfl rfl rfl ?_
  simp only [A1]
  repeat' (first
   | refine W ?_
   | refine Y ?_|(apply S.buildSlice1;(iterate 7 exact rfl))|(apply S.appendN 2 (rows := []);(iterate 8 exact rfl);exact Ai rfl;exact rfl;exact Nat.le_of_ble_eq_true rfl;exact Nat.le_of_ble_eq_true rfl)|(apply S.callV;exact rfl;exact cm;exact .cons (.one (.own (cells := [.i 0]) (rows := [[.i 0]]) rfl (OwnRows.of [.i 0] (Ai rfl) rfl))) .nil;exact rfl;exact rfl)
   | refine V ?_
   | (refine W2 ?_ ?_ <;> intro hc))
  all_goals exact D2 rfl rfl rfl
 ·have ce := Xy h c hf hc G hG e0 hn
  have hEl : ((Ea h c G).map A3).length = c.cues.length := by rw [List.length_map, G6]
  have cm := Xp (Ea h c G ++ [0]) (by simp) (by rw [List.length_append, G6];show c.cues.length + 1 <= 1000000;omega)
  have hE : endI h c G = mxL (Ea h c G ++ [0]) := rfl
  rw [hE]
  have hown : OwnRows ((((Ea h c G).map A3).flatten.map AV.lf) ++ ([A3 0].flatten).map AV.lf) 0 (((Ea h c G).map A3).length + 1) 1 ((Ea h c G ++ [0]).map A3) := by
   have := OwnRows.of ((Ea h c G ++ [0]).map A3).flatten (Ck _) rfl
   simpa using this
  generalize mxL (Ea h c G ++ [0]) = z at *
  have hcl : ((((Ea h c G).map A3).flatten.map AV.lf)).length = ((Ea h c G).map A3).length * 1 := by rw [List.length_map, B5 _ (Ck _)]
  generalize (Ea h c G ++ [0]).map A3 = r2 at *
  have hrow := Ck (Ea h c G)
  generalize (Ea h c G).map A3 = r1 at *
  refine Fn0.of Tryz.func12 Tryz.ntmps12 rfl rfl rfl ?_
  simp only [A1]
  repeat' (first
   | refine W ?_
   | refine Y ?_|(apply S.buildSlice1;(iterate 7 exact rfl))|(apply S.callOwnT 2 ce;(iterate 6 exact rfl);exact hrow)|(apply S.appendO;(iterate 8 exact rfl);exact hcl;exact Ai rfl;exact rfl;exact Aw _ _;simp only [List.length_cons, List.length_nil];omega;simp only [List.length_cons, List.length_nil];omega)|(apply S.callV;exact rfl;exact cm;exact .cons (.one (.own rfl hown)) .nil;exact rfl;exact rfl)
   | refine V ?_
   | (refine W2 ?_ ?_ <;> intro hc))
  all_goals exact D2 rfl rfl rfl
set_option maxRecDepth 100000 in
theorem A5i : ∃ n1 n2 n3 : Nat, Tryz.prog.fieldsOf 44 = #[⟨"First", 9, 0, false, "", "", n1⟩, ⟨"Second", 9, 1, false, "", "", n2⟩, ⟨"At", 42, 2, false, "", "", n3⟩] := by
 unfold Program.fieldsOf
 rw [Tryz.underlying44]
 exact ⟨_, _, _, rfl⟩
theorem A7r : Tryz.prog.stoodInHeld 44 = false := by kernel_rfl
theorem Yy : Tryz.prog.eqGuardType Tryz.prog.depth 44 = false := by kernel_rfl
theorem Ac6 : Tryz.prog.underlying 44 = some (.struct (Tryz.prog.fieldsOf 44)) := by
 unfold Program.fieldsOf
 rw [Tryz.underlying44]
def Mh (a b : ByteArray) (u v : Int) : Value := .agg #[.string a, .string b, .int .i64 u, .int .i64 v]
def eqC (a b : ByteArray) (u v : Int) (a' b' : ByteArray) (u' v' : Int) : Prop := a = a' /\ b = b' /\ u = u' /\ v = v'
instance (a b : ByteArray) (u v : Int) (a' b' : ByteArray) (u' v' : Int) : Decidable (eqC a b u v a' b' u' v') := by unfold eqC;exact inferInstance
set_option maxRecDepth 100000 in
theorem Vl (w : World) (d : Nat) (a b : ByteArray) (u v : Int) (a' b' : ByteArray) (u' v' : Int) : (Op.equalIn (d + 3) 44 (Mh a b u v) (Mh a' b' u' v')).run Tryz.prog w = .ok (decide (eqC a b u v a' b' u' v')) w := by
 obtain ⟨n1, n2, n3, hcf⟩ := A5i
 have h1 := fun d' (k : IntKind) (a b : Int) => run_equalIn_int (P := Tryz.prog) w d' 3 k .i64 a b Tryz.underlying3
 have h2 := run_equalIn_struct (P := Tryz.prog) w (d + 2) 44 #[.string a, .string b, .int .i64 u, .int .i64 v] #[.string a', .string b', .int .i64 u', .int .i64 v'] Ac6 A7r
 have h5 := fun d' (x y : ByteArray) => run_equalIn_string (P := Tryz.prog) w d' 9 x y Tryz.underlying9
 have h6 := fun d' => run_equalIn_struct (P := Tryz.prog) w d' 42 #[.int .i64 u, .int .i64 v] #[.int .i64 u', .int .i64 v'] A3p A3t
 rw [hcf] at h2
 rw [Tc] at h6
 unfold Mh
 rw [h2]
 simp [Op.eqFields, go_sem, h1, h5, h6, Ly, A3p]
 unfold eqC
 by_cases e1 : a = a' <;> by_cases e2 : b = b' <;> by_cases e3 : u = u' <;> by_cases e4 : v = v' <;> simp [*]
section
variable {N : Nat} {ops : Array Oper} {m : Option Nat} {K : Tm -> AH -> Prop} {tm : Tm} {H : AH} {rest : List Oper} {ty : TypeId} {pos : String} {af : Array Edge} {d : Nat} {x y : Operand}
theorem S.eqCon {t u' : TypeId} {a b a' b' : ByteArray} {u v w z : Int} (ht : t = 44) (hx : evT tm x = some (.agg [.val (.string a), .val (.string b), .val (.int .i64 u), .val (.int .i64 v)])) (hy : evT tm y = some (.agg [.val (.string a'), .val (.string b'), .val (.int .i64 w), .val (.int .i64 z)])) (hN : Nat.ble (d + 1) N = true) (h : Reg m Tryz.prog N ops rest ((d, .val (.bool (decide (eqC a b u v a' b' w z)))) :: tm) H K) : Reg m Tryz.prog N ops (⟨some d, .binOp .eql t x y u', ty, pos, af, none⟩ :: rest) tm H K := by
 subst ht
 refine S.val (OpV.mk fun L w' ρ η hη hH => ?_) hN h
 have h1 := (hη x (by simp [Op.operands]) _ hx).flat (u := Mh a b u v) rfl
 have h2 := (hη y (by simp [Op.operands]) _ hy).flat (u := Mh a' b' w z) rfl
 refine ⟨_, ?_, Ag _⟩
 have h3 := run_eqGuard_agg (P := Tryz.prog) w' .eql 44 x y #[.string a, .string b, .int .i64 u, .int .i64 v] #[.string a', .string b', .int .i64 w, .int .i64 z] Yy
 have h4 := run_eql_struct (P := Tryz.prog) w' 44 #[.string a, .string b, .int .i64 u, .int .i64 v] #[.string a', .string b', .int .i64 w, .int .i64 z]
 have h5 := Vl w' 9997 a b u v a' b' w z
 unfold Mh at h1 h2 h5
 simp only [execOp, h1, h2, Sem.run_bind, h3, Result.andThen_ok, h4]
 rw [h5]
 rfl
theorem S.neCon {t u' : TypeId} {a b a' b' : ByteArray} {u v w z : Int} (ht : t = 44) (hx : evT tm x = some (.agg [.val (.string a), .val (.string b), .val (.int .i64 u), .val (.int .i64 v)])) (hy : evT tm y = some (.agg [.val (.string a'), .val (.string b'), .val (.int .i64 w), .val (.int .i64 z)])) (hN : Nat.ble (d + 1) N = true) (h : Reg m Tryz.prog N ops rest ((d, .val (.bool (decide (¬ eqC a b u v a' b' w z)))) :: tm) H K) : Reg m Tryz.prog N ops (⟨some d, .binOp .neq t x y u', ty, pos, af, none⟩ :: rest) tm H K := by
 subst ht
 refine S.val (OpV.mk fun L w' ρ η hη hH => ?_) hN h
 have h1 := (hη x (by simp [Op.operands]) _ hx).flat (u := Mh a b u v) rfl
 have h2 := (hη y (by simp [Op.operands]) _ hy).flat (u := Mh a' b' w z) rfl
 refine ⟨_, ?_, Ag _⟩
 have h3 := run_eqGuard_agg (P := Tryz.prog) w' .neq 44 x y #[.string a, .string b, .int .i64 u, .int .i64 v] #[.string a', .string b', .int .i64 w, .int .i64 z] Yy
 have h4 := run_neq_struct (P := Tryz.prog) w' 44 #[.string a, .string b, .int .i64 u, .int .i64 v] #[.string a', .string b', .int .i64 w, .int .i64 z]
 have h5 := Vl w' 9997 a b u v a' b' w z
 unfold Mh at h1 h2 h5
 simp only [execOp, h1, h2, Sem.run_bind, h3, Result.andThen_ok, h4]
 rw [h5]
 simp [go_sem]
end
end Go.Proofs.YtbceahipbdmocaaGreat
