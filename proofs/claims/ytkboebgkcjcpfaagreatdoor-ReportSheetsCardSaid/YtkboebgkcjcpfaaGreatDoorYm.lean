/- Contracts: the reference's lengths and starts of a sheet. No conditions but those of each statement. -/
import Derived.Test.YtkboebgkcjcpfaaGreatDoorYl
import Derived.Test.YtkboebgkcjcpfaaGreatDoorPe
import Derived.Test.YtkboebgkcjcpfaaGreatDoorXd
import Derived.Test.YtkboebgkcjcpfaaGreatDoorMn
import Derived.Test.YtkboebgkcjcpfaaGreatDoorYk
import Derived.Test.YtkboebgkcjcpfaaGreatDoorYg
set_option linter.unusedSimpArgs false
set_option linter.unusedVariables false
namespace Go.Proofs.YtkboebgkcjcpfaaGreatDoor
open Go Go.RowKit
/-! ### The lengths in milliseconds always fit -/
theorem A1n (n d : Int) : (1000 : Rat) * Ab n d = Ab (1000 * n) d := by
 unfold Ab
 rw [show (1000 : Rat) = Rat.divInt 1000 1 from rfl, Rat.divInt_mul_divInt, Int.one_mul]
theorem A1m {d : Int} {m : MoveR} (hm : C4 m) (hd : 0 <= d /\ d <= 1048576) : Fits (1000 * Ge d m) := by
 unfold Ge
 by_cases h : d = 0
 ·rw [if_pos h, Rat.mul_zero];exact Dz (n := 0) (by omega) (by omega)
 ·have ok := Iw hm (d := d) (by omega)
  rw [if_neg h, ok.time, A1n]
  have hw : 1 <= (Av d m : Int) /\ (Av d m : Int) <= 8192 := by have := ok.w;omega
  obtain ⟨_, _, h3, h4, h5⟩ := hm
  generalize (Av d m : Int) = w at *
  generalize m.rise = R at *
  generalize m.fall = F at *
  have rf := Dw (a := 2 * R) (b := F) (A := 32768) (B := 16384) (by omega) (by omega)
  have rf1 := Nf (a := 2 * R) (b := F) (by omega) (by omega)
  have rfd := Dw (a := 2 * R * F) (b := d) (A := 536870912) (B := 1048576) (by omega) (by omega)
  have ww := Dw (a := w) (b := w) (A := 8192) (B := 8192) (by omega) (by omega)
  have wr := Dw (a := w * w) (b := R + F) (A := 67108864) (B := 32768) (by omega) (by omega)
  have rfw := Dw (a := 2 * R * F) (b := w) (A := 536870912) (B := 8192) (by omega) (by omega)
  have rfw1 := Nf (a := 2 * R * F) (b := w) (by omega) (by omega)
  exact Bq (by omega) (by omega) (by omega) (by omega)
theorem Zy {h : HouseR} {c : SheetR} (v : validP h c) : ¬ Mx h c := by
 rintro ⟨k, hk, hn⟩
 obtain ⟨q, hq⟩ := Ac hk
 have g := Gk v hq
 apply hn
 unfold msQ
 rw [Pq hq]
 unfold Bb
 rcases Pp h (Bs h c k) q.moves 0 with e | ⟨m, hm, e⟩
 ·rw [e, Rat.mul_zero];exact Dz (n := 0) (by omega) (by omega)
 ·rw [e];exact A1m (g.move hm).1 (G8 g hm)
theorem X9 (p q : Rat) (hp : Fits p) (hq : Fits q) (hf : Fits (p * q)) : Fn0 Tryz.prog 79 [A4 (frR p), A4 (frR q)] (frE (p * q) 0) := by
 refine Fn0.of_calls (us := [.agg #[.int .i64 p.num, .int .i64 p.den], .agg #[.int .i64 q.num, .int .i64 q.den]]) ⟨_, Tryz.func79, rfl, rfl⟩ rfl (fun w L => Oz w L B0 _ _ _) fun w => ?_
 have := Xp p.num p.den q.num q.den w hp.valid hq.valid
 rw [show I4 p.num p.den q.num q.den = ((p * q).num, ((p * q).den : Int), 0) by unfold I4;rw [if_pos ⟨hp.valid, hq.valid⟩, Gp, Gp, hf.out]] at this
 exact this
theorem A3a (q : Rat) (hq : Fits q) : Fn0 Tryz.prog 80 [A4 (frR q)] (.i (upI q)) := by
 obtain ⟨b1, b2, b3, b4, _⟩ := validB_spec.1 hq.valid
 refine Fn0.of_calls (us := [.agg #[.int .i64 q.num, .int .i64 q.den]]) ⟨_, Tryz.func80, rfl, rfl⟩ rfl (fun w L => A9 _) fun w => ?_
 exact A0q q.num q.den w (by omega) (by omega) (by omega) (by omega)
set_option maxHeartbeats 32000000 in
theorem Mo (h : HouseR) (c : SheetR) (hf : h.fits) (hc : c.fits) (v : validP h c) : Fn0 Tryz.prog 45 [A4 h.row, A4 c.row] (.sl ((B6 h c).map A1)) := by
 have ct := A0j h c hf hc v
 have h60 : c.cues.length <= 60 := by have := v.2.1;omega
 have hs60 : h.sets.length <= 60 := v.1.2.2.2.1
 have hle : (c.cues.map CueR.row).length = c.cues.length := List.length_map _
 have hlt0 : (trL h c).length = c.cues.length + 1 := by unfold trL C6;rw [List.length_map, List.length_map, List.length_range]
 refine Fn0.of Tryz.func45 Tryz.ntmps45 rfl rfl rfl ?_
 simp only [A0]
 repeat' (first
  | refine W ?_
  | refine Zc ct ?_
  | refine V ?_
  | (refine W2 ?_ ?_ <;> intro hc))
 refine T.kill 2 ?_
 refine T.loopS (fun k => k <= c.cues.length) (fun k => c.cues.length - k) (fun k => [(7, .i k), (2, .ptr 0 0), (3, .ptr 1 0), (5, .sl (trL h c)), (6, rT 2 1 k)]) (fun k => [.live (h.row.map .lf), .live (c.row.map .lf), rB (Aa (Cm h c k)) k]) 0 (Nat.zero_le _) CW CH ?_
 intro k hk
 by_cases hlt : k < c.cues.length
 ·have h1 : (k : Int) < ((c.cues.map CueR.row).length : Nat) := by omega
  obtain ⟨q, hq⟩ := Ac hlt
  have hb := Ad (R := CueR.row) hq
  have hbt := A1q (h := h) hk
  have g := Gk v hq
  have g0 : Cq h (Bs h c k) q = 0 := N8 ⟨g.house, g.right⟩ g.len g.trims
  have hqm := hc.2.2 q (List.mem_of_getElem? hq)
  have cl := Xc h (Bs h c k) q hf (by omega) g0
  have hfl : Fits (Bb h (Bs h c k) q.moves) := J8 g fun m hm => hm
  have hms : Bb h (Bs h c k) q.moves * 1000 = msQ h c k := by unfold msQ;rw [Pq hq, Rat.mul_comm]
  have hff : Fits (msQ h c k) := Classical.not_not.1 fun hn => Zy v ⟨k, hlt, hn⟩
  have co := Ot 1000
  have cm := X9 (Bb h (Bs h c k) q.moves) 1000 hfl (Dz (n := 1000) (by omega) (by omega)) (by rw [hms];exact hff)
  change Fn0 _ _ [_, A4 [.i 1000, .i 1]] _ at cm
  rw [hms] at cm
  have ce := A3a _ hff
  have hsn : Aa (Cm h c (k + 1)) = Aa (Cm h c k) ++ ([A1 (upI (msQ h c k))].flatten).map AV.lf := by rw [Oa];simp [Aa];rfl
  generalize Bb h (Bs h c k) q.moves = x at *
  generalize msQ h c k = y at *
  generalize upI y = z at *
  rcases Nat.eq_zero_or_pos k with h0 | hpos
  ·subst h0
   repeat' (first
    | refine W ?_
    | (apply S.indexR;(iterate 3 exact rfl);exact hb;omega;exact rfl)|(apply S.indexR;(iterate 3 exact rfl);exact hbt;omega;exact rfl)|refine Zc cl ?_|refine Zc co ?_|refine Zc cm ?_|refine Zc ce ?_|(apply T.drawR 13 A3 (by decide +kernel);simp only [td])|(apply T.draw 13 A3 (by decide +kernel);simp only [td])|(apply T.drawR 9 A3 (by decide +kernel);simp only [td])|(apply T.draw 9 A3 (by decide +kernel);simp only [td])|(refine T.ordersR (id := 7) A3 ?_)|(apply Ords.nil;decide +kernel)|(refine T.orders (id := 7) A3 ?_)|(apply Ords.nil;decide +kernel)|(apply Ords.takeMove 3;exact rfl;decide +kernel;decide +kernel;decide +kernel;exact rfl;exact rfl)|(apply Ords.takeExtract 4;exact rfl;decide +kernel;decide +kernel;decide +kernel;(iterate 3 exact rfl))|(apply Ords.takeExtract 5;exact rfl;decide +kernel;decide +kernel;decide +kernel;(iterate 3 exact rfl))|(apply Ords.takeAssign 8;exact rfl;decide +kernel;decide +kernel;decide +kernel;exact rfl;exact rfl)|(apply Ords.three (i := 0) (j := 1) (k := 6);decide +kernel;(iterate 3 exact rfl))|(apply Ords.two (i := 0) (j := 1);decide +kernel;exact rfl;exact rfl)|(apply Ords.two (i := 1) (j := 6);decide +kernel;exact rfl;exact rfl)|(apply Ords.two (i := 0) (j := 6);decide +kernel;exact rfl;exact rfl)|(apply Ords.two (i := 2) (j := 6);decide +kernel;exact rfl;exact rfl)|(apply Ords.one (i := 0);decide +kernel;exact rfl)|(apply Ords.one (i := 1);decide +kernel;exact rfl)|(apply Ords.one (i := 2);decide +kernel;exact rfl)|(apply Ords.one (i := 6);decide +kernel;exact rfl)|(apply Ords.one (i := 7);decide +kernel;exact rfl)|(apply S.buildSlice1;(iterate 7 exact rfl))|(apply S.appendN 2 (rows := []);(iterate 8 exact rfl);exact Ae rfl;exact rfl;exact Nat.le_of_ble_eq_true rfl;exact Nat.le_of_ble_eq_true rfl)|refine Za ?_
    | refine V ?_
    | (refine W2 ?_ ?_ <;> intro hc))
   all_goals (try change Next _ _ _ _ _ _)
   all_goals exact Next.go 1 (by omega) (by omega) CW (by
    show CovH _ _ [_, _, .live (Aa (Cm h c (0 + 1)))]
    rw [hsn]
    exact .live rfl CH)
  ·rw [Gn hpos, Gm hpos]
   have hcl : (Aa (Cm h c k)).length = k * 1 := by rw [Bn, Cb, Nat.mul_one]
   repeat' (first
    | refine W ?_
    | (apply S.indexR;(iterate 3 exact rfl);exact hb;omega;exact rfl)|(apply S.indexR;(iterate 3 exact rfl);exact hbt;omega;exact rfl)|refine Zc cl ?_|refine Zc co ?_|refine Zc cm ?_|refine Zc ce ?_|(apply T.drawR 13 A3 (by decide +kernel);simp only [td])|(apply T.draw 13 A3 (by decide +kernel);simp only [td])|(apply T.drawR 9 A3 (by decide +kernel);simp only [td])|(apply T.draw 9 A3 (by decide +kernel);simp only [td])|(refine T.ordersR (id := 7) A3 ?_)|(apply Ords.nil;decide +kernel)|(refine T.orders (id := 7) A3 ?_)|(apply Ords.nil;decide +kernel)|(apply Ords.takeMove 3;exact rfl;decide +kernel;decide +kernel;decide +kernel;exact rfl;exact rfl)|(apply Ords.takeExtract 4;exact rfl;decide +kernel;decide +kernel;decide +kernel;(iterate 3 exact rfl))|(apply Ords.takeExtract 5;exact rfl;decide +kernel;decide +kernel;decide +kernel;(iterate 3 exact rfl))|(apply Ords.takeAssign 8;exact rfl;decide +kernel;decide +kernel;decide +kernel;exact rfl;exact rfl)|(apply Ords.three (i := 0) (j := 1) (k := 6);decide +kernel;(iterate 3 exact rfl))|(apply Ords.two (i := 0) (j := 1);decide +kernel;exact rfl;exact rfl)|(apply Ords.two (i := 1) (j := 6);decide +kernel;exact rfl;exact rfl)|(apply Ords.two (i := 0) (j := 6);decide +kernel;exact rfl;exact rfl)|(apply Ords.two (i := 2) (j := 6);decide +kernel;exact rfl;exact rfl)|(apply Ords.one (i := 0);decide +kernel;exact rfl)|(apply Ords.one (i := 1);decide +kernel;exact rfl)|(apply Ords.one (i := 2);decide +kernel;exact rfl)|(apply Ords.one (i := 6);decide +kernel;exact rfl)|(apply Ords.one (i := 7);decide +kernel;exact rfl)|(apply S.buildSlice1;(iterate 7 exact rfl))|(apply S.appendO;(iterate 8 exact rfl);exact hcl;exact Ae rfl;exact rfl;exact Bf _ _;simp only [List.length_cons, List.length_nil];omega;simp only [List.length_cons, List.length_nil];omega)|refine Za ?_
    | refine V ?_
    | (refine W2 ?_ ?_ <;> intro hc))
   all_goals (try change Next _ _ _ _ _ _)
   all_goals exact Next.go (k + 1) (by omega) (by omega) CW (by
    show CovH _ _ [_, _, .live (Aa (Cm h c (k + 1)))]
    rw [hsn]
    exact .live rfl (.live rfl (.live (by rw [<- List.map_append];exact Ar _ _) .nil)))
 ·have h1 : ¬ (k : Int) < ((c.cues.map CueR.row).length : Nat) := by omega
  obtain rfl : k = c.cues.length := by omega
  refine T.sealR 6 2 (rows := (B6 h c).map A1) (Bx _) (by rw [List.length_map, Cb]) rfl rfl ?_
  generalize B6 h c = L at *
  repeat' (first
   | refine W ?_

   | refine V ?_
   | (refine W2 ?_ ?_ <;> intro hc))
  exact Fh (by simp) Tryz.results45 rfl (.one (.one (.lf _)))
/-! ### One contract for all sheets -/
theorem A3v {h : HouseR} {c : SheetR} (v : validP h c) (G : List Int) : alE h c G = stE c.cues (B6 h c) G := by
 unfold alE mdE
 rw [if_pos v, if_neg (Zy v)]
theorem Pv (h : HouseR) (c : SheetR) (hf : h.fits) (hc : c.fits) (G : List Int) (hG : G.length <= 4611686018427387904) (e0 : ¬ alE h c G = 0) : Fn0 Tryz.prog 25 [A4 h.row, A4 c.row, .sl (G.map A1)] (.tup [.sl [], .sl [], .i (alE h c G)]) := by
 have cv := R7 h c hf hc
 by_cases v : validP h c
 ·rw [decide_eq_true v] at cv
  have h60 : c.cues.length <= 60 := by have := v.2.1;omega
  have cl := Mo h c hf hc v
  have cs := Ov c v.lk h60 (B6 h c) G (by rw [Cb];omega) hG
  rw [A3v v] at e0 ⊢
  rw [show srL c.cues (B6 h c) G = [] from if_neg e0] at cs
  generalize stE c.cues (B6 h c) G = e at *
  generalize B6 h c = L at *
  refine Fn0.of Tryz.func25 Tryz.ntmps25 rfl rfl rfl ?_
  simp only [A0]
  repeat' (first
   | refine W ?_
   | refine Zc cv ?_|refine Zc cl ?_|refine Zc cs ?_|(refine T.nilU 6 rfl (T.nilU 7 rfl ?_);apply T.ret;change Cw _ _ _ _ _)
   | refine V ?_
   | (refine W2 ?_ ?_ <;> intro hc))
  all_goals exact ⟨.inr rfl, [.sl [], .sl [], .i e], .cons (.tmp rfl) (.cons (.tmp rfl) (.cons (.tmp rfl) .nil)), .tup (.cons (.one (.lf _)) (.cons (.one (.lf _)) (.cons (.one (.lf _)) .nil)))⟩
 ·rw [decide_eq_false v] at cv
  rw [show alE h c G = 1 from if_neg v]
  refine Fn0.of Tryz.func25 Tryz.ntmps25 rfl rfl rfl ?_
  simp only [A0]
  repeat' (first
   | refine W ?_
   | refine Zc cv ?_|(refine T.nilU 6 rfl (T.nilU 7 rfl ?_);apply T.ret;change Cw _ _ _ _ _)
   | refine V ?_
   | (refine W2 ?_ ?_ <;> intro hc))
  all_goals exact ⟨.inr rfl, [.sl [], .sl [], .i 1], .cons (.tmp rfl) (.cons (.tmp rfl) (.cons (.tmp rfl) .nil)), .tup (.cons (.one (.lf _)) (.cons (.one (.lf _)) (.cons (.one (.lf _)) .nil)))⟩
theorem Xd (h : HouseR) (c : SheetR) (hf : h.fits) (hc : c.fits) (G : List Int) (hG : G.length <= 4611686018427387904) (e0 : alE h c G = 0) : Fn0 Tryz.prog 25 [A4 h.row, A4 c.row, .sl (G.map A1)] (.tup [.sl ((stL h c G).map A1), .sl ((B6 h c).map A1), .i 0]) := by
 have cv := R7 h c hf hc
 have v := (Lk e0).1.v
 rw [decide_eq_true v] at cv
 have h60 : c.cues.length <= 60 := by have := v.2.1;omega
 have cl := Mo h c hf hc v
 have cs := Ov c v.lk h60 (B6 h c) G (by rw [Cb];omega) hG
 rw [A3v v] at e0
 rw [show srL c.cues (B6 h c) G = stL h c G from if_pos e0, e0] at cs
 generalize stL h c G = Z at *
 generalize B6 h c = L at *
 refine Fn0.of Tryz.func25 Tryz.ntmps25 rfl rfl rfl ?_
 simp only [A0]
 repeat' (first
  | refine W ?_
  | refine Zc cv ?_|refine Zc cl ?_|refine Zc cs ?_
  | refine V ?_
  | (refine W2 ?_ ?_ <;> intro hc))
 all_goals exact ⟨.inr rfl, [.sl (Z.map A1), .sl (L.map A1), .i 0], .cons (.tmp rfl) (.cons (.tmp rfl) (.cons (.tmp rfl) .nil)), .tup (.cons (.one (.lf _)) (.cons (.one (.lf _)) (.cons (.one (.lf _)) .nil)))⟩
theorem A50 (L : List UInt8) (a b d : ByteArray) : ofL L ++ ⟨#[99, 117, 101, 32]⟩ ++ a ++ ⟨#[32, 102, 114, 111, 109, 32]⟩ ++ b ++ ⟨#[32, 116, 111, 32]⟩ ++ d ++ ⟨#[10]⟩ = ofL (L ++ Dm [⟨#[99, 117, 101]⟩, a, ⟨#[102, 114, 111, 109]⟩, b, ⟨#[116, 111]⟩, d]) := by
 apply I5
 simp only [Hq, Jf]
 simp [Dm, Lib.join, List.intercalate]
/-! ### The choice of the next cue -/
def Hg (n : Nat) (o : List Nat) : List Bool := (List.range n).map fun i => decide (i ∈ o)
theorem Jb (n : Nat) (o : List Nat) : (Hg n o).length = n := by simp [Hg]
theorem A4d (n : Nat) : List.replicate n (AV.val (.bool false)) = bA (Hg n []) := by
 have h : ∀ l : List Nat, l.map (fun _ => AV.val (.bool false)) = List.replicate l.length (AV.val (.bool false)) := fun l => List.map_const' ..
 unfold Hg bA
 rw [List.map_map]
 refine (by rw [List.length_range] : List.replicate n (AV.val (.bool false)) = List.replicate (List.range n).length (AV.val (.bool false))).trans ((h _).symm.trans (List.map_congr_left fun i _ => ?_))
 simp
theorem Pk {n i : Nat} (o : List Nat) (h : i < n) : (Hg n o)[i]? = some (decide (i ∈ o)) := by
 unfold Hg
 rw [List.getElem?_map, List.getElem?_range h];rfl
theorem A2j {n z : Nat} (o : List Nat) : (Hg n o).set z true = Hg n (o ++ [z]) := by
 apply List.ext_getElem?
 intro i
 by_cases hi : i < n
 ·rw [Pk _ hi, List.getElem?_set, Pk _ hi, Jb]
  by_cases e : z = i
  ·subst e
   rw [if_pos rfl, if_pos hi, decide_eq_true (by simp)]
  ·rw [if_neg e]
   congr 2
   simp
   omega
 ·rw [List.getElem?_eq_none (by rw [List.length_set, Jb];omega), List.getElem?_eq_none (by rw [Jb];omega)]
def It (key : Nat -> Int) (o : List Nat) (i : Nat) (x : Int) : Prop :=
 (x = -1 /\ ∀ y, y < i -> y ∈ o) \/ ∃ z : Nat, x = (z : Int) /\ z < i /\ z ∉ o /\ ∀ y, y < i -> y ∉ o -> y = z \/ Fm key z y
theorem Ye {key : Nat -> Int} {o : List Nat} {i : Nat} {x : Int} (h : It key o i x) (hi : i ∈ o) : It key o (i + 1) x := by
 rcases h with ⟨h1, h2⟩ | ⟨z, h1, h2, h3, h4⟩
 ·refine .inl ⟨h1, fun y hy => ?_⟩
  by_cases e : y = i
  ·subst e;exact hi
  ·exact h2 y (by omega)
 ·refine .inr ⟨z, h1, by omega, h3, fun y hy hn => ?_⟩
  by_cases e : y = i
  ·subst e;exact absurd hi hn
  ·exact h4 y (by omega) hn
theorem Wh {key : Nat -> Int} {o : List Nat} {i : Nat} (h2 : ∀ y, y < i -> y ∈ o) (hi : i ∉ o) : It key o (i + 1) i := by
 refine .inr ⟨i, rfl, by omega, hi, fun y hy hn => ?_⟩
 by_cases e : y = i
 ·exact .inl e
 ·exact absurd (h2 y (by omega)) hn
theorem Yc {key : Nat -> Int} {o : List Nat} {i z : Nat} (h4 : ∀ y, y < i -> y ∉ o -> y = z \/ Fm key z y) (hi : i ∉ o) (hl : key i < key z) : It key o (i + 1) i := by
 refine .inr ⟨i, rfl, by omega, hi, fun y hy hn => ?_⟩
 by_cases e : y = i
 ·exact .inl e
 ·rcases h4 y (by omega) hn with e2 | e2
  ·subst e2;exact .inr (.inl hl)
  ·refine .inr (.inl ?_)
   unfold Fm at e2
   omega
theorem Yd {key : Nat -> Int} {o : List Nat} {i z : Nat} (h2 : z < i) (h3 : z ∉ o) (h4 : ∀ y, y < i -> y ∉ o -> y = z \/ Fm key z y) (hl : ¬ key i < key z) : It key o (i + 1) z := by
 refine .inr ⟨z, rfl, by omega, h3, fun y hy hn => ?_⟩
 by_cases e : y = i
 ·subst e
  right
  unfold Fm
  omega
 ·exact h4 y (by omega) hn
theorem Yb {key : Nat -> Int} {n k w : Nat} {x : Int} (h : It key ((Ay key n).take k) n x) (hw : (Ay key n)[k]? = some w) : x = (w : Int) := by
 obtain ⟨hk, hwk⟩ := List.getElem?_eq_some_iff.1 hw
 have hwn : w < n := ordP_mem.1 (List.mem_of_getElem? hw)
 have hnw : w ∉ (Ay key n).take k := fun hm => by
  obtain ⟨j, hj⟩ := List.getElem?_of_mem hm
  have hjk : j < k := by have := (List.getElem?_eq_some_iff.1 hj).1;rw [List.length_take] at this;omega
  rw [List.getElem?_take, if_pos hjk] at hj
  have := (List.getElem?_inj (i := j) (j := k) (by omega) (Ok key n)).1 (hj.trans hw.symm)
  omega
 rcases h with ⟨_, h2⟩ | ⟨z, h1, h2, h3, h4⟩
 ·exact absurd (h2 w hwn) hnw
 ·rcases h4 w hwn hnw with e | e
  ·rw [h1, e]
  ·exfalso
   obtain ⟨j, hj⟩ := List.getElem?_of_mem (ordP_mem (key := key).2 h2)
   obtain ⟨hj1, hj2⟩ := List.getElem?_eq_some_iff.1 hj
   have hkj : ¬ j < k := fun hlt => h3 (List.mem_of_getElem? (i := j) (by rw [List.getElem?_take, if_pos hlt];exact hj))
   by_cases ejk : j = k
   ·subst ejk
    rw [hj] at hw
    injection hw with hw
    subst hw
    unfold Fm at e
    omega
   ·have hs := List.pairwise_iff_getElem.1 (Gc key n) k j hk hj1 (by omega)
    rw [hwk, hj2] at hs
    unfold Fm at e hs
    omega
set_option maxHeartbeats 4000000 in
theorem Rs (h : HouseR) (c : SheetR) (hf : h.fits) (hc : c.fits) (G : List Int) (hG : G.length <= 4611686018427387904) (e0 : ¬ alE h c G = 0) : Fn0 Tryz.prog 8 [A4 h.row, A4 c.row, .sl (G.map A1)] (.tup [.s ⟨#[]⟩, .i (alE h c G)]) := by
 have cs := Pv h c hf hc G hG e0
 generalize alE h c G = e at *
 refine Fn0.of Tryz.func8 Tryz.ntmps8 rfl rfl rfl ?_
 simp only [A0]
 repeat' (first
  | refine W ?_
  | refine Y ?_
  | refine V ?_
  | (refine W2 ?_ ?_ <;> intro hc))
 all_goals exact D2 rfl rfl rfl
set_option maxHeartbeats 64000000 in
theorem A0m (h : HouseR) (c : SheetR) (hf : h.fits) (hc : c.fits) (G : List Int) (hG : G.length <= 4611686018427387904) (e0 : alE h c G = 0) (n : Nat) (hcn : c.cues.length = n) : Fn0 Tryz.prog 8 [A4 h.row, A4 c.row, .sl (G.map A1)] (.tup [.s (ofL (txI h c G (Ay (stI h c G) n))), .i 0]) := by
 have cs := Xd h c hf hc G hG e0
 obtain ⟨p, _⟩ := Lk e0
 have v := p.v
 have hn60 : n <= 60 := by have := v.2.1;omega
 have hsl : ((stL h c G).map A1).length = n := by rw [List.length_map, Gz, hcn]
 have hll : ((B6 h c).map A1).length = n := by rw [List.length_map, Cb, hcn]
 have hcl : (c.cues.map CueR.row).length = n := by rw [List.length_map, hcn]
 have hd0 : List.replicate ((stL h c G).map A1).length (AV.val (.bool false)) = bA (Hg n []) := by rw [hsl];exact A4d n
 obtain ⟨key, hkey⟩ : ∃ key, key = stI h c G := ⟨_, rfl⟩
 obtain ⟨o, ho⟩ : ∃ o, o = Ay key n := ⟨_, rfl⟩
 have hol : o.length = n := by rw [ho, E9]
 have hsat : ∀ i : Nat, i < n -> ((stL h c G).map A1)[((i : Nat) : Int).toNat]? = some (A1 (key i)) := fun i hi => by
  rw [Int.toNat_natCast, List.getElem?_map, hkey]
  unfold stI
  have : i < (stL h c G).length := by rw [Gz];omega
  rw [List.getElem?_eq_getElem this, List.getD_eq_getElem?_getD, List.getElem?_eq_getElem this];rfl
 have hlat : ∀ i : Nat, i < n -> ((B6 h c).map A1)[((i : Nat) : Int).toNat]? = some (A1 ((B6 h c).getD i 0)) := fun i hi => by
  rw [Int.toNat_natCast, List.getElem?_map]
  have : i < (B6 h c).length := by rw [Cb];omega
  rw [List.getElem?_eq_getElem this, List.getD_eq_getElem?_getD, List.getElem?_eq_getElem this];rfl
 rw [<- hkey, <- ho]
 refine Fn0.of Tryz.func8 Tryz.ntmps8 rfl rfl rfl ?_
 simp only [A0]
 repeat' (first
  | refine W ?_
  | refine Y ?_|(apply S.makeO (n := ((stL h c G).map A1).length);(iterate 3 exact rfl);omega;exact rfl;exact rfl)
  | refine V ?_
  | (refine W2 ?_ ?_ <;> intro hc))
 rw [hd0]
 refine T.loopS (fun k => k <= n) (fun k => n - k) (fun k => [(31, .i (k : Nat)), (30, .i ((stL h c G).map A1).length), (4, .ptr 1 0), (8, .sl ((stL h c G).map A1)), (9, .sl ((B6 h c).map A1)), (11, .s (ofL (txI h c G (o.take k)))), (12, .own 2 0 ((stL h c G).map A1).length 1)]) (fun k => [.live (h.row.map .lf), .live (c.row.map .lf), .live (bA (Hg n (o.take k)))]) 0 (Nat.zero_le _) CW (.live rfl (.live rfl (.live (Al _ _) .nil))) ?_
 intro k hk
 by_cases hlt : k < n
 ·have h1 : ((k : Nat) : Int) < (((stL h c G).map A1).length : Nat) := by omega
  obtain ⟨w, hw⟩ := Ac (l := o) (k := k) (by omega)
  have hwn : w < n := ordP_mem.1 (by rw [<- ho];exact List.mem_of_getElem? hw)
  have hgl := Jb n (o.take k)
  obtain ⟨t, ht⟩ : ∃ t, t = o.take k := ⟨_, rfl⟩
  rw [<- ht] at hgl ⊢
  repeat' (first
   | refine W ?_
   | refine Y ?_
   | refine V ?_
   | (refine W2 ?_ ?_ <;> intro hc))
  refine T.loopS (fun s : Nat × Int => s.1 <= n /\ It key t s.1 s.2) (fun s => n - s.1) (fun s => [(14, .i (s.1 : Nat)), (13, .i s.2), (31, .i (k : Nat)), (30, .i ((stL h c G).map A1).length), (4, .ptr 1 0), (8, .sl ((stL h c G).map A1)), (9, .sl ((B6 h c).map A1)), (11, .s (ofL (txI h c G t))), (12, .own 2 0 ((stL h c G).map A1).length 1)]) (fun _ => [.live (h.row.map .lf), .live (c.row.map .lf), .live (bA (Hg n t))]) (0, -1) ⟨Nat.zero_le _, .inl ⟨rfl, fun y hy => absurd hy (by dsimp only;omega)⟩⟩ CW (.live rfl (.live rfl (.live (Al _ _) .nil))) ?_
  rintro ⟨i, x⟩ ⟨hin, hbest⟩
  dsimp only at hin hbest
  by_cases hil : i < n
  ·have h2 : ((i : Nat) : Int) < (((stL h c G).map A1).length : Nat) := by omega
   have bi := hsat i hil
   have di := Ew (Pk t hil)
   by_cases hit : i ∈ t
   ·rw [decide_eq_true hit] at di
    repeat' (first
     | refine W ?_
     | (apply S.indexR;(iterate 3 exact rfl);exact bi;omega;exact rfl) | refine Y ?_|(apply S.indexO (o2 := i);(iterate 4 exact rfl);omega;omega)|(apply S.loadP;exact rfl;exact rfl;exact di;exact rfl)|refine Za ?_|(apply T.drawAll A3 (by decide +kernel))
     | refine V ?_
     | (refine W2 ?_ ?_ <;> intro hc))
    all_goals (change Next _ _ _ _ _ _)
    all_goals exact Next.go (i + 1, x) ⟨by dsimp only;omega, Ye hbest hit⟩ (by dsimp only;omega) CW (.live rfl (.live rfl (.live (Al _ _) .nil)))
   ·rw [decide_eq_false hit] at di
    rcases hbest with ⟨rfl, h3⟩ | ⟨z, rfl, h3, h4, h5⟩
    ·have hneg : (-1 : Int) < 0 := by decide
     repeat' (first
      | refine W ?_
      | (apply S.indexR;(iterate 3 exact rfl);exact bi;omega;exact rfl) | refine Y ?_|(apply S.indexO (o2 := i);(iterate 4 exact rfl);omega;omega)|(apply S.loadP;exact rfl;exact rfl;exact di;exact rfl)|refine Za ?_|(apply T.drawAll A3 (by decide +kernel))
      | refine V ?_
      | (refine W2 ?_ ?_ <;> intro hc))
     all_goals (change Next _ _ _ _ _ _)
     all_goals exact Next.go (i + 1, (i : Int)) ⟨by dsimp only;omega, Wh h3 hit⟩ (by dsimp only;omega) CW (.live rfl (.live rfl (.live (Al _ _) .nil)))
    ·have hneg : ¬ ((z : Nat) : Int) < 0 := by omega
     have bz := hsat z (by omega)
     by_cases hlz : key i < key z
     ·repeat' (first
      | refine W ?_
      | (apply S.indexR;(iterate 3 exact rfl);exact bz;omega;exact rfl)|(apply S.indexR;(iterate 3 exact rfl);exact bi;omega;exact rfl) | refine Y ?_|(apply S.indexO (o2 := i);(iterate 4 exact rfl);omega;omega)|(apply S.loadP;exact rfl;exact rfl;exact di;exact rfl)|refine Za ?_|(apply T.drawAll A3 (by decide +kernel))
      | refine V ?_
      | (refine W2 ?_ ?_ <;> intro hc))
      all_goals (change Next _ _ _ _ _ _)
      all_goals exact Next.go (i + 1, (i : Int)) ⟨by dsimp only;omega, Yc h5 hit hlz⟩ (by dsimp only;omega) CW (.live rfl (.live rfl (.live (Al _ _) .nil)))
     ·repeat' (first
      | refine W ?_
      | (apply S.indexR;(iterate 3 exact rfl);exact bz;omega;exact rfl)|(apply S.indexR;(iterate 3 exact rfl);exact bi;omega;exact rfl) | refine Y ?_|(apply S.indexO (o2 := i);(iterate 4 exact rfl);omega;omega)|(apply S.loadP;exact rfl;exact rfl;exact di;exact rfl)|refine Za ?_|(apply T.drawAll A3 (by decide +kernel))
      | refine V ?_
      | (refine W2 ?_ ?_ <;> intro hc))
      all_goals (change Next _ _ _ _ _ _)
      all_goals exact Next.go (i + 1, (z : Int)) ⟨by dsimp only;omega, Yd h3 h4 h5 hlz⟩ (by dsimp only;omega) CW (.live rfl (.live rfl (.live (Al _ _) .nil)))
  ·obtain rfl : i = n := by omega
   have h2 : ¬ ((i : Nat) : Int) < (((stL h c G).map A1).length : Nat) := by omega
   rw [ht, ho] at hbest
   obtain rfl := Yb hbest (by rw [<- ho];exact hw)
   clear hbest
   have bw := hsat w hwn
   have blw := hlat w hwn
   obtain ⟨q, hq⟩ := Ac (l := c.cues) (k := w) (by omega)
   have hb := Ad (R := CueR.row) hq
   have hnm : nmI c w = q.name := by unfold nmI;rw [hq];rfl
   have hsw := p.st w
   have hlw := p.ln w
   have hkw : key w = (stL h c G).getD w 0 := by rw [hkey];rfl
   have hend : D5 h c G w = key w + (B6 h c).getD w 0 := by rw [hkw];rfl
   have hle1 := Ub p v (o.take k) (fun x hx => by rw [hcn];exact ordP_mem.1 (by rw [<- ho];exact List.mem_of_mem_take hx))
   have htl : (o.take k).length <= 60 := by rw [List.length_take];omega
   have hsz := Jg (txI h c G (o.take k))
   have hsn := Uc (h := h) (c := c) (G := G) hw
   have hst := A50 (txI h c G (o.take k)) q.name (Ao (key w)) (Ao (key w + (B6 h c).getD w 0))
   rw [show [(⟨#[99, 117, 101]⟩ : ByteArray), q.name, ⟨#[102, 114, 111, 109]⟩, Ao (key w), ⟨#[116, 111]⟩, Ao (key w + (B6 h c).getD w 0)] = wdI h c G w by unfold wdI;rw [hnm, hend, hkey], <- hsn] at hst
   have hset := A2j (n := i) (z := w) (o.take k)
   rw [<- Af hw] at hset
   rw [<- ht] at hst hset hsz hle1 htl
   have hname := (v.2.2.1 w q hq).2.1.1
   have sn : q.name.size <= 20 := by
    simp only [B8, Bool.and_eq_true, decide_eq_true_eq] at hname
    have := hname.1.1.2
    omega
   have c1 := A1k (key w) (by omega) (by omega)
   have c2 := A1k (key w + (B6 h c).getD w 0) (by omega) (by omega)
   have s1 := Cr (n := key w) (by omega) (by omega)
   have s2 := Cr (n := key w + (B6 h c).getD w 0) (by omega) (by omega)
   have z1 : (⟨#[99, 117, 101, 32]⟩ : ByteArray).size = 4 := rfl
   have z2 : (⟨#[32, 102, 114, 111, 109, 32]⟩ : ByteArray).size = 6 := rfl
   have z3 : (⟨#[32, 116, 111, 32]⟩ : ByteArray).size = 4 := rfl
   have z4 : (⟨#[10]⟩ : ByteArray).size = 1 := rfl
   generalize (B6 h c).getD w 0 = lw at *
   generalize (stL h c G).getD w 0 = sw at *
   repeat' (first
    | refine W ?_
    | (apply S.indexR;(iterate 3 exact rfl);exact bw;omega;exact rfl)|(apply S.indexR;(iterate 3 exact rfl);exact blw;omega;exact rfl)|(apply S.indexR;(iterate 3 exact rfl);exact hb;omega;exact rfl) | refine Y ?_|(apply S.indexO (o2 := w);(iterate 4 exact rfl);omega;omega)|(apply S.storeB;(iterate 3 exact rfl);omega)|(apply S.strAdd;(iterate 3 exact rfl);first | omega|(simp only [ByteArray.size_append];omega))|refine Za ?_|(apply T.drawAll A3 (by decide +kernel))|(apply T.drawR 30 A3 (by decide +kernel);simp only [td])|(apply T.drawR 29 A3 (by decide +kernel);simp only [td])
    | refine V ?_
    | (refine W2 ?_ ?_ <;> intro hc))
   all_goals (change Next _ _ _ _ _ _)
   all_goals exact Next.go (k + 1) (by omega) (by omega) (by rw [<- hst];exact CW) (by rw [hset];exact .live rfl (.live rfl (.live (Al _ _) .nil)))
 ·obtain rfl : n = k := by omega
  have h1 : ¬ ((n : Nat) : Int) < (((stL h c G).map A1).length : Nat) := by omega
  rw [List.take_of_length_le (by omega)]
  generalize ofL (txI h c G o) = X at *
  repeat' (first
   | refine W ?_
   | refine Y ?_
   | refine V ?_
   | (refine W2 ?_ ?_ <;> intro hc))
  all_goals exact D2 rfl rfl rfl
set_option maxHeartbeats 16000000 in
theorem Nd (h : HouseR) (c : SheetR) (hf : h.fits) (hc : c.fits) (G : List Int) (hG : G.length <= 4611686018427387904) : Fn0 Tryz.prog 3 [A4 h.row, A4 c.row, .sl (G.map A1)] (.b true) := by
 have ca := Qq
 have cs := Qs h c hf hc G
 by_cases hs : Ik h c G
 ·rw [decide_eq_true hs] at cs
  by_cases e0 : alE h c G = 0
  ·obtain ⟨p, _⟩ := Lk e0
   have hn6 : c.cues.length <= 6 := by
    have := hs.2.1.1
    omega
   have cr := A0m h c hf hc G hG e0 c.cues.length rfl
   have ct : Fn0 Tryz.prog 7 [A4 h.row, A4 c.row, .sl (G.map A1)] (.tup [.s (ofL (txI h c G (Ay (stI h c G) c.cues.length))), .i 0]) := by
    by_cases hn : c.cues.length = 0
    ·have := Ki h c hf hc G hG e0 hn
     rw [hn]
     exact this
    ·exact Rd h c hf hc G hG e0 p p.v c.cues.length rfl (by omega) (by omega)
   generalize ofL (txI h c G (Ay (stI h c G) c.cues.length)) = X at *
   have hX : X = X := rfl
   refine Fn0.of Tryz.func3 Tryz.ntmps3 rfl rfl rfl ?_
   simp only [A0]
   repeat' (first
    | refine W ?_
    | refine Y ?_
    | refine V ?_
    | (refine W2 ?_ ?_ <;> intro hc))
   all_goals exact A5 (by simp) Tryz.results3 rfl (by simp)
  ·have cr := Rs h c hf hc G hG e0
   have ct := Kh h c hf hc G hG e0
   have h1 : alE h c G = alE h c G := rfl
   generalize alE h c G = e at *
   refine Fn0.of Tryz.func3 Tryz.ntmps3 rfl rfl rfl ?_
   simp only [A0]
   repeat' (first
    | refine W ?_
    | refine Y ?_
    | refine V ?_
    | (refine W2 ?_ ?_ <;> intro hc))
   all_goals exact A5 (by simp) Tryz.results3 rfl (by simp)
 ·rw [decide_eq_false hs] at cs
  refine Fn0.of Tryz.func3 Tryz.ntmps3 rfl rfl rfl ?_
  simp only [A0]
  repeat' (first
   | refine W ?_
   | refine Y ?_
   | refine V ?_
   | (refine W2 ?_ ?_ <;> intro hc))
  all_goals exact A5 (by simp) Tryz.results3 rfl rfl
end Go.Proofs.YtkboebgkcjcpfaaGreatDoor
