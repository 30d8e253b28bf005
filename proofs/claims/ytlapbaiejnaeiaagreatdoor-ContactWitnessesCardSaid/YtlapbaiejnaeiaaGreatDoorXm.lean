/- Lemmas of the proof. -/
import Derived.Test.YtlapbaiejnaeiaaGreatDoorMj
import Derived.Test.YtlapbaiejnaeiaaGreatDoorXh
import Derived.Test.YtlapbaiejnaeiaaGreatDoorPf
import Derived.Test.YtlapbaiejnaeiaaGreatDoorPh
import Derived.Test.YtlapbaiejnaeiaaGreatDoorPe
import Derived.Test.YtlapbaiejnaeiaaGreatDoorOm
import Derived.Test.YtlapbaiejnaeiaaGreatDoorPc
import Derived.Test.YtlapbaiejnaeiaaGreatDoorXg
import Derived.Test.YtlapbaiejnaeiaaGreatDoorNn
import Derived.Test.YtlapbaiejnaeiaaGreatDoorPr
import Derived.Test.YtlapbaiejnaeiaaGreatDoorMk
import Derived.Test.YtlapbaiejnaeiaaGreatDoorMm
set_option linter.all false
set_option maxHeartbeats 64000000
namespace Go.Proofs.YtlapbaiejnaeiaaGreatDoor
open Go Go.RowKit
def a8w := @Tryz.func6
def a9a := @Tryz.results19
def a9i := @Tryz.results6
def a9s := @Tryz.ntmps19
def b0g := @Tryz.func19
def b3a := @Tryz.ntmps6
theorem Us (h : HouseR) (c : SheetR) (hf : h.fits) (hc : c.fits) (G : List Int) (hG : G.length <= 4611686018427387904) (e : ckE h c G = 0) (l : List ConR) (hl : l.length <= 1000000) (hk : (ckL h c G).length <= 1000000) : Fn0 Tryz.prog 24 [A1 h.row, A1 c.row, .sl (G.map A3), .sl (l.map ConR.row)] (.tup [.b (decide (ckL h c G = l)), .i 0]) := by
 have cc := Qe h c hf hc G hG
 rw [e] at cc
 have ce := Sb (ckL h c G) l (by omega) (by omega)
 generalize ckL h c G = k at *
 refine Fn0.of Tryz.func24 Tryz.ntmps24 rfl rfl rfl ?_
 simp only [A2]
 repeat' (first|refine W ?_|refine Y ?_|refine V ?_|(refine W2 ?_ ?_<;>intro hc))
 all_goals exact D2 rfl rfl rfl
theorem Vg {n : Int} (h0 : 0 <= n) (h1 : n <= 259845521408) : 0 <= mil n /\ mil n <= 1099511627776 := by
 have hm := E8 n
 have h2 : (0 : Rat) <= (n : Rat) := a9g.2 h0
 have h3 : (n : Rat) <= ((259845521408 : Int) : Rat) := a3h.2 h1
 rw [show ((259845521408 : Int) : Rat) = 259845521408 from rfl] at h3
 exact ⟨by grind, by grind⟩
theorem Py (h : HouseR) (c : SheetR) (hf : h.fits) (hc : c.fits) (G : List Int) (hG : G.length <= 4611686018427387904) (e : ckE h c G = 0) (x : ConR) (hm : (x.a, x.b) ∈ Di h) (hb : Ie x.lo x.hi) {lo hi : Int} (ct : ctR h c G (x.a, x.b) = (lo, hi, 0)) (hge : hi <= x.hi) (hlo : 0 <= hi) :
  Fn0 Tryz.prog 25 [A1 h.row, A1 c.row, .sl (G.map A3), A1 x.row] (.tup [.b (decide (lo = x.lo /\ hi = x.hi)), .i 0]) := by
 obtain ⟨a0, el⟩ := Aam e
 obtain ⟨po, _⟩ := Lk a0
 have hp := po.v.1
 have hei := po.endI
 have ce := Rg h c hf hc G hG a0
 have cb := Ut x.lo x.hi
 rw [decide_eq_true hb] at cb
 have hfe : Ha h c G (Di h) = 0 := by have := e;unfold ckE at this;rwa [if_pos a0] at this
 obtain ⟨a, b, q⟩ := A68 hf po hm (V8 hfe _ hm)
 obtain ⟨i1, i2⟩ := R5 hm
 change ¬ Ae h x.a < 0 at i1
 change ¬ Ae h x.b < 0 at i2
 have f1 := Iu h hf hp x.a i1
 have f2 := Iu h hf hp x.b i2
 have p1 := Ms h c hf hc G hG a0 x.a i1
 have p2 := Ms h c hf hc G hG a0 x.b i2
 rw [show Nz h c G x.a = Bc h c G x.a from if_pos q.e1, q.e1] at p1
 rw [show Nz h c G x.b = Bc h c G x.b from if_pos q.e2, q.e2] at p2
 have hs1 : (h.sets.map SetR.row)[(Ae h x.a).toNat]? = some a.row := I3 q.ha
 have hs2 : (h.sets.map SetR.row)[(Ae h x.b).toNat]? = some b.row := I3 q.hb
 have j1 := L6 (fun s : SetR => s.name = x.a) h.sets
 have j2 := L6 (fun s : SetR => s.name = x.b) h.sets
 change Ae h x.a < _ at j1
 change Ae h x.b < _ at j2
 have hle2 : (h.sets.map SetR.row).length = h.sets.length := a0a _
 obtain ⟨b1, b2⟩ := hb
 obtain ⟨m, hmm⟩ : ∃ m, m = min (x.hi + 1) (endI h c G) := ⟨_, rfl⟩
 have hm0 : 0 <= m := by omega
 have hm1 : m <= endI h c G := by omega
 have ft : Fits (A9 m 1000) := Br (by omega) (by omega) (by omega) (by omega)
 have cm := Fw m 1000 (by decide) (by omega) (by omega) (by decide) (by decide) ft
 change Fn0 _ _ _ (.tup [_, .i 0]) at cm
 obtain ⟨t0, t1⟩ := Vg hm0 (by omega)
 have hu : En h c G = mil (endI h c G) := rfl
 obtain ⟨u0, u1⟩ := Vg hei.1 hei.2
 have hfull : F8 a b (Bc h c G x.a) (Bc h c G x.b) (En h c G) = .tup [A1 [.i lo, .i hi], .i 0] := by
  have h1 := Tx a b (Bc h c G x.a) (Bc h c G x.b) (En h c G)
  rw [<- q.ct, ct] at h1
  exact h1
 have hpart : F8 a b (Bc h c G x.a) (Bc h c G x.b) (mil m) = .tup [A1 [.i lo, .i hi], .i 0] := by
  refine A5b (by rw [hu];exact ⟨a0r (by decide) u0, u1⟩) (by rw [hu];exact Hz hm1) ?_ hfull
  by_cases hk : x.hi + 1 <= endI h c G
  ·exact .inr (Hz (by omega))
  ·exact .inl (by rw [hu, show m = endI h c G by omega])
 have cf := Uq a b (Bc h c G x.a) (Bc h c G x.b) q.two (mil m) ft t0 t1
 rw [hpart] at cf
 change Fn0 _ _ [_, _, _, _, A1 (frR (A9 m 1000))] _ at cf
 have cp := Ur h hf hp
 change Fn0 _ _ _ (.tup [.sl ((Di h).map Ac), .i 0]) at cp
 have hlp := A9u hp
 have cc := Xc (Di h) (x.a, x.b) (by omega)
 rw [decide_eq_true ⟨_, hm, rfl⟩] at cc
 have hrow : Ac (x.a, x.b) = [.s x.a, .s x.b] := rfl
 rw [hrow] at cc
 have n0 : ¬ ¬ (0 : Int) = 0 := fun k => k rfl
 generalize (Di h).map Ac = L at *
 generalize (Bc h c G x.a).map PcQ.row = P1 at *
 generalize (Bc h c G x.b).map PcQ.row = P2 at *
 generalize A9 m 1000 = tq at *
 rw [hmm] at cm
 refine Fn0.of Tryz.func25 Tryz.ntmps25 rfl rfl rfl ?_
 simp only [A2]
 repeat' (first|refine W ?_|refine Y ?_|(apply S.indexR;(iterate 3 exact rfl);exact hs1;omega;exact rfl)|(apply S.indexR;(iterate 3 exact rfl);exact hs2;omega;exact rfl)|(apply p3w;(iterate 3 exact rfl))|(apply p2f;(iterate 3 exact rfl))|(apply p0t;(iterate 3 exact rfl))|(apply p0e 20 A0 (by decide +kernel);simp only [td])|(apply p0e 19 A0 (by decide +kernel);simp only [td])|(apply p0b A0 (by decide +kernel))|refine V ?_|(refine W2 ?_ ?_<;>intro hc))
 all_goals first
  | (rw [decide_eq_true (by assumption)];exact D2 rfl rfl rfl)
  | (rw [decide_eq_false (by assumption)];exact D2 rfl rfl rfl)
theorem Rt : ∀ {l : List ConR} {i : Nat} {x : ConR}, l[i]? = some x -> (Cb l)[i * 4 + 2]? = some (.i x.lo) /\ (Cb l)[i * 4 + 3]? = some (.i x.hi)
 | y :: l, 0, x, h => by
  injection h with h
  subst h
  exact ⟨rfl, rfl⟩
 | y :: l, i + 1, x, h => by
  have := Rt (l := l) (i := i) h
  rw [show (i + 1) * 4 + 2 = i * 4 + 2 + 4 by omega, show (i + 1) * 4 + 3 = i * 4 + 3 + 4 by omega]
  exact this
theorem Ru : ∀ {l : List ConR} {i : Nat} {x : ConR} (u v : Int), l[i]? = some x -> As (i * 4 + 3) [.i v] (As (i * 4 + 2) [.i u] (Cb l)) = Cb (l.set i ⟨x.a, x.b, u, v⟩)
 | y :: l, 0, x, u, v, h => by
  injection h with h
  subst h
  show _ :: _ :: _ :: _ :: As 0 [] _ = _
  rw [E2]
  rfl
 | y :: l, i + 1, x, u, v, h => by
  have := Ru (l := l) (i := i) u v h
  rw [show (i + 1) * 4 + 2 = i * 4 + 2 + 4 by omega, show (i + 1) * 4 + 3 = i * 4 + 3 + 4 by omega]
  exact congrArg (fun t => AV.s y.a :: AV.s y.b :: AV.i y.lo :: AV.i y.hi :: t) this
theorem Yh {L : List ConR} {n : Nat} (h : n = L.length) : OwnRows ((Aq L).map AV.val) 0 n 4 (L.map ConR.row) := by
 rw [Mw, h]
 exact U8 L
theorem p5k {P : Program} {N : Nat} {ops : Array Oper} {m : Option Nat} {K : Tm -> AH -> Prop} {tm : Tm} {H : AH} {rest : List Oper} {ty t u : TypeId} {pos : String} {af : Array Edge} {d : Nat} {x y : Operand} {a b c : Int} (hx : evT tm x = some (.val (.int .i64 a))) (hy : evT tm y = some (.val (.int .i64 b))) (hN : Nat.ble (d + 1) N = true) (h0 : 0 <= a /\ 0 < b) (hc : a % b = c) (h : Reg m P N ops rest ((d, .val (.int .i64 c)) :: tm) H K) : Reg m P N ops (⟨some d, .binOp .rem t x y u, ty, pos, af, none⟩ :: rest) tm H K := by
 subst hc
 exact S.rem hx hy hN h0 h
theorem Ac2 {E : Env} {tm : Tm} {H : AH} {a : Act} {w : World} {ρ : Pl} (hR : RelSt E ⟨tm, H⟩ a w ρ) {b b2 k o i : Nat} {x : ConR} {y z : Operand} {cells : List AV} (hk : ρ b = some (some (k, o))) (hne : Nat.beq b2 b = false) (hy : evT tm y = some (.val (.int .i64 i))) (hz : evT tm z = some (.own b2 0 1 4)) (hb : H.at b2 = .live cells) (hc : cells = (Aq [x]).map AV.val) : Acw i x w k ([y, z].map a.eval) := by
 subst hc
 have hyv := (hR.ev (by rw [Ag];exact hy) : RelV w E.L ρ (AV.val (.int .i64 i)) (a.eval y)).val_eq
 have hzv : RelV w E.L ρ (.own b2 0 1 4) (a.eval z) := hR.ev (by rw [Ag];exact hz)
 obtain ⟨k2, o2, c2, el2, lo2, hi2, g1, g2, g3, g4, g5, g6⟩ := hR.H.live b2 _ hb
 obtain ⟨cap, e2, n2, hze, hcap, hsh, hfit⟩ := hzv.own_out k2 o2 g1
 refine ⟨k2, o2, cap, c2, el2, lo2, hi2, ?_, fun e => ?_, g2, g3, fun j u hj => ?_⟩
 ·show [a.eval y, a.eval z] = _
  rw [hyv, hze]
  rfl
 ·subst e
  have := hR.H.dist _ _ _ _ _ g1 hk
  subst this
  rw [a6t] at hne
  cases hne
 ·obtain ⟨v, q1, q2⟩ := g6 j (.val u) (by rw [a0e, hj];rfl)
  rw [q1, q2.val_eq]
def Qp (h : HouseR) (c : SheetR) (G : List Int) : Prop := ¬ (T8 h 6 /\ T7 c 6 /\ G.length <= 12)
noncomputable instance (h : HouseR) (c : SheetR) (G : List Int) : Decidable (Qp h c G) := Classical.propDecidable _
theorem A92 (h : HouseR) (c : SheetR) (hf : h.fits) (hc : c.fits) (G : List Int) : Fn0 Tryz.prog 19 [A1 h.row, A1 c.row, .sl (G.map A3)] (.b (decide (Qp h c G))) := by
 have c1 := A6n h 6 (by decide) hf
 have c2 := A6o c 6 (by decide) hc
 have hle : (G.map A3).length = G.length := a0a _
 by_cases h1 : T8 h 6
 ·rw [decide_eq_true h1] at c1
  by_cases h2 : T7 c 6
  ·rw [decide_eq_true h2] at c2
   by_cases h3 : ((G.map A3).length : Int) > 12
   ·rw [decide_eq_true (show Qp h c G from fun k => by have := k.2.2;omega)]
    refine Fn0.of b0g a9s rfl rfl rfl ?_
    simp only [A2]
    repeat' (first|refine W ?_|refine Y ?_|refine V ?_|(refine W2 ?_ ?_<;>intro hc))
    all_goals exact A4 (by simp) a9a rfl (congrArg Value.bool (decide_eq_true h3))
   ·rw [decide_eq_false (show ¬ Qp h c G from fun k => k ⟨h1, h2, by omega⟩)]
    refine Fn0.of b0g a9s rfl rfl rfl ?_
    simp only [A2]
    repeat' (first|refine W ?_|refine Y ?_|refine V ?_|(refine W2 ?_ ?_<;>intro hc))
    all_goals exact A4 (by simp) a9a rfl (congrArg Value.bool (decide_eq_false h3))
  ·rw [decide_eq_false h2] at c2
   rw [decide_eq_true (show Qp h c G from fun k => h2 k.2.1)]
   refine Fn0.of b0g a9s rfl rfl rfl ?_
   simp only [A2]
   repeat' (first|refine W ?_|refine Y ?_|refine V ?_|(refine W2 ?_ ?_<;>intro hc))
   all_goals exact A4 (by simp) a9a rfl rfl
 ·rw [decide_eq_false h1] at c1
  rw [decide_eq_true (show Qp h c G from fun k => h1 k.1)]
  refine Fn0.of b0g a9s rfl rfl rfl ?_
  simp only [A2]
  repeat' (first|refine W ?_|refine Y ?_|refine V ?_|(refine W2 ?_ ?_<;>intro hc))
  all_goals exact A4 (by simp) a9a rfl rfl
theorem A4p (h : HouseR) (c : SheetR) (hf : h.fits) (hc : c.fits) (G : List Int) (hG : G.length <= 4611686018427387904) : Fn0 Tryz.prog 20 [A1 h.row, A1 c.row, .sl (G.map A3)] (.tup [.sl ((ckL h c G).map ConR.row), .i (ckE h c G)]) := by
 have cc := Qe h c hf hc G hG
 generalize (ckL h c G).map ConR.row = l at *
 generalize ckE h c G = e at *
 refine Fn0.of Tryz.func20 Tryz.ntmps20 rfl rfl rfl ?_
 simp only [A2]
 repeat' (first|refine W ?_|refine Y ?_|refine V ?_|(refine W2 ?_ ?_<;>intro hc))
 all_goals exact D2 rfl rfl rfl
abbrev U3 (x : ConR) (d : Int) : ConR := ⟨x.a, x.b, x.lo + d, x.hi + d⟩
theorem M6 (h : HouseR) (c : SheetR) (hf : h.fits) (hc : c.fits) (G : List Int) (hG : G.length <= 4611686018427387904) (k : Int) (k0 : 0 <= k) (k1 : k <= 255) (w : Int) (w0 : 0 <= w) (w1 : w <= 65535) : Fn0 Tryz.prog 6 [A1 h.row, A1 c.row, .sl (G.map A3), .val (.int .u8 k), .val (.int .u16 w)] (.b true) := by
 have aw := A5p
 have lg := A92 h c hf hc G
 have ck := A4p h c hf hc G hG
 by_cases hl : Qp h c G
 ·rw [decide_eq_true hl] at lg
  refine Fn0.of a8w b3a rfl rfl rfl ?_
  simp only [A2]
  repeat' (first|refine W ?_|refine Y ?_|refine V ?_|(refine W2 ?_ ?_<;>intro hc))
  all_goals exact A4 (by simp) a9i rfl rfl
 rw [decide_eq_false hl] at lg
 by_cases e : ckE h c G = 0
 ·have h6 : h.sets.length <= 6 := by have := (a2l.1 hl).1.1;omega
  obtain ⟨a0, el⟩ := Aam e
  obtain ⟨po, _⟩ := Lk a0
  have hei := po.endI
  have hp36 : (Di h).length <= 36 := a1z (Jr h.sets h.sets.length) (a1z (a6p h6 h6) (by decide))
  have hlen : (ckL h c G).length <= 36 := by rw [el];exact a1z (X9 _ _ _ _) hp36
  have hsp : ∀ x ∈ ckL h c G, 0 <= x.lo /\ x.lo <= x.hi /\ x.hi <= x.lo + 1 /\ x.hi <= endI h c G := fun x hx => by rw [el] at hx;exact A85 po hx
  have cw : ∀ x ∈ ckL h c G, Fn0 Tryz.prog 25 [A1 h.row, A1 c.row, .sl (G.map A3), A1 x.row] (.tup [.b true, .i 0]) := fun x hx => by
   obtain ⟨s1, s2, s3, s4⟩ := hsp x hx
   rw [el] at hx
   obtain ⟨m1, m2⟩ := To hx
   have := Py h c hf hc G hG e x m1 ⟨⟨s1, by omega⟩, by omega⟩ m2 (a4m _) (by omega)
   rwa [decide_eq_true ⟨rfl, rfl⟩] at this
  have cx : ∀ x ∈ ckL h c G, Fn0 Tryz.prog 25 [A1 h.row, A1 c.row, .sl (G.map A3), A1 (U3 x (1 + w)).row] (.tup [.b false, .i 0]) := fun x hx => by
   obtain ⟨s1, s2, s3, s4⟩ := hsp x hx
   rw [el] at hx
   obtain ⟨m1, m2⟩ := To hx
   have := Py h c hf hc G hG e (U3 x (1 + w)) m1 ⟨⟨by show 0 <= x.lo + (1 + w);omega, by show x.lo + (1 + w) <= _;omega⟩, by show x.hi + (1 + w) = x.lo + (1 + w) \/ x.hi + (1 + w) = x.lo + (1 + w) + 1;omega⟩ m2 (by show x.hi <= x.hi + (1 + w);omega) (by omega)
   rwa [decide_eq_false (fun q => by have q1 : x.lo = x.lo + (1 + w) := q.1;omega)] at this
  have cc := Us h c hf hc G hG e (ckL h c G) (by omega) (by omega)
  rw [decide_eq_true rfl] at cc
  have cn : ∀ m : List ConR, m ≠ ckL h c G -> m.length <= 1000 -> Fn0 Tryz.prog 24 [A1 h.row, A1 c.row, .sl (G.map A3), .sl (m.map ConR.row)] (.tup [.b false, .i 0]) := fun m hm hl => by
   have := Us h c hf hc G hG e m (by omega) (by omega)
   rwa [decide_eq_false (fun q => hm q.symm)] at this
  rw [e] at ck
  clear el
  generalize ckL h c G = l at *
  have hle : (l.map ConR.row).length = l.length := a0a _
  have n0 : ¬ ¬ (0 : Int) = 0 := fun k => k rfl
  refine Fn0.of a8w b3a rfl rfl rfl ?_
  simp only [A2]
  repeat' (first|refine W ?_|refine Y ?_|refine V ?_|(refine W2 ?_ ?_<;>intro hc))
  refine p0d (fun j => j <= l.length) (fun j => l.length - j) (fun j => [(63, .i j), (62, .i (l.map ConR.row).length), (61, .sl (l.map ConR.row)), (11, .sl (l.map ConR.row)), (2, .sl (G.map A3)), (3, .val (.int .u8 k)), (4, .val (.int .u16 w)), (5, .ptr 0 0), (6, .ptr 1 0)]) (fun j => [.live (h.row.map .lf), .live (c.row.map .lf)]) 0 (a0o _) CW CH ?_
  intro j hj
  by_cases hlt : j < l.length
  ·have h1 : (j : Int) < ((l.map ConR.row).length : Nat) := by omega
   obtain ⟨x, hx⟩ := Aa hlt
   have hb := Ab (R := ConR.row) hx
   have cy := cw x (a0c hx)
   clear cc ck lg aw
   repeat' (first|refine W ?_|refine Y ?_|(apply S.indexR;(iterate 3 exact rfl);exact hb;omega;exact rfl)|refine V ?_|(refine W2 ?_ ?_<;>intro hc))
   all_goals (change Next _ _ _ _ _ _)
   all_goals exact Next.go (j + 1) (by omega) (by omega) CW CH
  ·obtain rfl : j = l.length := by omega
   have h1 : ¬ ((l.length : Nat) : Int) < ((l.map ConR.row).length : Nat) := by omega
   by_cases hz : l.length = 0
   ·have h2 : (((l.map ConR.row).length : Nat) : Int) = 0 := by omega
    repeat' (first|refine W ?_|refine Y ?_|refine V ?_|(refine W2 ?_ ?_<;>intro hc))
    all_goals exact A4 (by simp) a9i rfl rfl
   have h2 : ¬ (((l.map ConR.row).length : Nat) : Int) = 0 := by omega
   obtain ⟨i, hi⟩ : ∃ i : Nat, k % (((l.map ConR.row).length : Nat) : Int) = i := ⟨(k % (((l.map ConR.row).length : Nat) : Int)).toNat, by have := a5g k h2;omega⟩
   have hil : i < l.length := by have := a5c k (show (0 : Int) < (((l.map ConR.row).length : Nat) : Int) by omega);omega
   obtain ⟨x, hx⟩ := Aa hil
   have hxm := a0c hx
   obtain ⟨s1, s2, s3, s4⟩ := hsp x hxm
   have hb := Ab (R := ConR.row) hx
   have hb2 := Ab (R := ConR.row) (show (l.set i (U3 x (1 + w)))[i]? = some _ from a4e hil)
   have hwk : IntKind.i64.wrap k = k := wrap_i64 _ (by omega)
   have hww : IntKind.i64.wrap w = w := wrap_i64 _ (by omega)
   have hmn : ¬ l.map ConR.row = [] := fun q => by rw [q] at hle;exact hz hle.symm
   obtain ⟨g1, g2⟩ := Rt hx
   have gs := Ru (x.lo + (1 + w)) (x.hi + (1 + w)) hx
   have hcl := Lq l
   have hcl2 : (As (i * 4 + 2) [.i (x.lo + (1 + w))] (Cb l)).length = l.length * 4 := by rw [Ew _ _ _ (by rw [hcl];simp only [a0i, a0n];omega), hcl]
   have g3 : (As (i * 4 + 2) [.i (x.lo + (1 + w))] (Cb l))[i * 4 + 3]? = some (.i x.hi) := by rw [Pf _ _ _ _ (by rw [hcl];simp only [a0i, a0n];omega), if_neg (by simp only [a0i, a0n];omega)];exact g2
   have e2 : 0 + ((i : Nat) : Int).toNat * 4 + 2 + 0 = i * 4 + 2 := by rw [a0v];omega
   have e3 : 0 + ((i : Nat) : Int).toNat * 4 + 2 + 1 = i * 4 + 3 := by rw [a0v];omega
   have f1 : 0 + ((i : Nat) : Int).toNat * 4 + 2 + 0 + 1 <= (Cb l).length := by rw [e2, hcl];omega
   have f2 : 0 + ((i : Nat) : Int).toNat * 4 + 2 + 1 + 1 <= (As (0 + ((i : Nat) : Int).toNat * 4 + 2 + 0) [.i (x.lo + (1 + w))] (Cb l)).length := by rw [e2, hcl2];omega
   have ho : OwnRows (As (0 + ((i : Nat) : Int).toNat * 4 + 2 + 1) [.i (x.hi + (1 + w))] (As (0 + ((i : Nat) : Int).toNat * 4 + 2 + 0) [.i (x.lo + (1 + w))] (Cb l))) 0 (l.map ConR.row).length 4 ((l.set i (U3 x (1 + w))).map ConR.row) := by
    rw [e3, e2, gs, hle]
    have := U8 (l.set i (U3 x (1 + w)))
    rwa [a6a] at this
   rw [<- e2] at g1
   rw [<- e2, <- e3] at g3
   have l1 : (l.take i ++ l.drop (i + 1)).length = l.length - 1 := by rw [a0q, a0t, a1v];omega
   have l2 : (l.take i ++ x :: l.drop i).length = l.length + 1 := by rw [a0q, a0i, a0t, a1v];omega
   have c1 := cn (l.set i (U3 x (1 + w))) (fun q => by
    have := congrArg (·[i]?) q
    simp only [a4e hil, hx, a0f] at this
    have := congrArg ConR.lo this
    have : x.lo + (1 + w) = x.lo := this
    omega) (by rw [a6a];omega)
   have c2 := cn (l.take i ++ l.drop (i + 1)) (fun q => by have := congrArg List.length q;omega) (by omega)
   have c3 := cn (l.take i ++ x :: l.drop i) (fun q => by have := congrArg List.length q;omega) (by omega)
   have c4 := cx x hxm
   have cd := A2h l i hil (by omega)
   have ci := A2i l i x hil (by omega)
   have o1 : OwnRows ((Aq (l.take i ++ l.drop (i + 1))).map AV.val) 0 ((l.map ConR.row).length - 1) 4 ((l.take i ++ l.drop (i + 1)).map ConR.row) := Yh (by omega)
   have o2 : OwnRows ((Aq (l.take i ++ x :: l.drop i)).map AV.val) 0 ((l.map ConR.row).length + 1) 4 ((l.take i ++ x :: l.drop i).map ConR.row) := Yh (by omega)
   rw [<- hle] at cd ci
   clear cw cx cn cc ck lg aw
   repeat' (first|(refine T.freeze 20 rfl rfl ho ?_)|(refine T.freeze 23 rfl rfl o1 ?_)|(refine T.freeze 24 rfl rfl o2 ?_)|(refine p1i (id := 29) A0 ?_)|refine W ?_|refine Y ?_|(apply S.indexR;(iterate 3 exact rfl);exact hb;omega;exact rfl)|(apply S.indexR;(iterate 3 exact rfl);exact hb2;omega;exact rfl)|(apply p4v;exact rfl;(first|exact hwk|exact hww);exact rfl)|(apply p5k;(iterate 3 exact rfl);omega;exact hi)|(apply p2b 2;exact Ry l (by omega);(iterate 6 exact rfl);exact J3 l;exact fun hnil => absurd hnil hmn)|(apply p2b 5;exact Ry l (by omega);(iterate 6 exact rfl);exact J3 l;exact fun hnil => absurd hnil hmn)|(apply S.indexO;(iterate 4 exact rfl);omega;exact rfl)|(apply S.loadP;exact rfl;exact rfl;(first|exact g1|exact g3);exact rfl)|(apply p2a;(iterate 6 exact rfl);(first|exact f1|exact f2))|(apply p2y cd;exact rfl;exact congrArg HB.live (Mw l).symm;exact (fun E a w' ρ hR k' o' hk' => Yk hR (us := [.int .i64 (i : Int), .int .i64 ((i : Int) + 1)]) rfl);(iterate 3 exact rfl))|(apply p0b A0 (by decide +kernel))|(apply Ords.nil;decide +kernel)|(apply p0o 0;exact rfl;decide +kernel;decide +kernel;decide +kernel;exact rfl;exact rfl)|(apply p0o 2;exact rfl;decide +kernel;decide +kernel;decide +kernel;exact rfl;exact rfl)|(apply p0o 3;exact rfl;decide +kernel;decide +kernel;decide +kernel;exact rfl;exact rfl)|(apply p0o 4;exact rfl;decide +kernel;decide +kernel;decide +kernel;exact rfl;exact rfl)|(apply p2v 5;exact rfl;decide +kernel;decide +kernel;decide +kernel;exact rfl;exact inferInstance;exact inferInstance;exact rfl;exact rfl;assumption;omega;exact rfl)|(apply Ords.two (i := 1) (j := 6);decide +kernel;exact rfl;exact rfl)|(apply Ords.two (i := 1) (j := 7);decide +kernel;exact rfl;exact rfl)|(apply Ords.one (i := 1);decide +kernel;exact rfl)|(apply Ords.one (i := 6);decide +kernel;exact rfl)|(apply Ords.one (i := 7);decide +kernel;exact rfl)|(apply Ords.one (i := 8);decide +kernel;exact rfl)|(apply Ords.one (i := 9);decide +kernel;exact rfl)|(apply p1c;(iterate 6 exact rfl))|(apply p2y ci;exact rfl;exact congrArg HB.live (Mw l).symm;exact (fun E a w' ρ hR k' o' hk' => Ac2 hR hk' rfl rfl rfl rfl rfl);(iterate 3 exact rfl))|refine V ?_|(refine W2 ?_ ?_<;>intro hc))
   all_goals exact A4 (by simp) a9i rfl rfl
 ·rw [Aaz e] at ck
  generalize ckE h c G = x at *
  refine Fn0.of a8w b3a rfl rfl rfl ?_
  simp only [A2]
  repeat' (first|refine W ?_|refine Y ?_|refine V ?_|(refine W2 ?_ ?_<;>intro hc))
  all_goals exact A4 (by simp) a9i rfl rfl
end Go.Proofs.YtlapbaiejnaeiaaGreatDoor
