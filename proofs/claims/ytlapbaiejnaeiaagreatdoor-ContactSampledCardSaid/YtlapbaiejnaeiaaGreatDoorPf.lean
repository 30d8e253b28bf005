/- Lemmas of the proof. -/
import Derived.Test.YtlapbaiejnaeiaaGreatDoorMi
import Derived.Test.YtlapbaiejnaeiaaGreatDoorMc
import Derived.Test.YtlapbaiejnaeiaaGreatDoorMk
import Derived.Test.YtlapbaiejnaeiaaGreatDoorPc
import Derived.Test.YtlapbaiejnaeiaaGreatDoorOq
import Derived.Test.YtlapbaiejnaeiaaGreatDoorOg
import Derived.Test.YtlapbaiejnaeiaaGreatDoorPe
import Derived.Test.YtlapbaiejnaeiaaGreatDoorMq
import Derived.Test.YtlapbaiejnaeiaaGreatDoorMh
set_option linter.all false
set_option maxHeartbeats 64000000
namespace Go.Proofs.YtlapbaiejnaeiaaGreatDoor
open Go Go.RowKit
def a5v := @List.length_filterMap_le
def a6r := @List.filterMap_append
def a9s := @Tryz.ntmps75
def b0g := @Tryz.func75
def b1f := @Rat.intCast_lt_intCast
def b1u := @Tryz.ntmps49
def b1w := @Tryz.ntmps74
def b2v := @Tryz.func49
def b2x := @Tryz.func74
def b3m := @Rat.intCast_nonneg
structure ConR where
 a : ByteArray
 b : ByteArray
 lo : Int
 hi : Int
def ConR.row (x : ConR) : List Lf := [.s x.a, .s x.b, .i x.lo, .i x.hi]
abbrev Gk (l : List ConR) : List AV := (l.map ConR.row).flatten.map .lf
theorem Pj (l : List ConR) : ∀ r ∈ l.map ConR.row, r.length = 4 := by
 intro r hr
 obtain ⟨n, _, rfl⟩ := a1a.1 hr
 rfl
theorem M8 (l : List ConR) : (Gk l).length = l.length * 4 := by
 rw [a0a, Bc _ (Pj l), a0a]
theorem L0 (l : List ConR) (x : ConR) : Gk (l ++ [x]) = Gk l ++ ([x.row].flatten).map AV.lf := by simp [Gk]
theorem Aco {q : Rat} (h : mil (Aq q) = q) : L3 q := by
 unfold L3
 have h1 := Cg (Aq q)
 rw [h] at h1
 have h2 := U7 q
 have h3 : ((1000 * q.num : Int) : Rat) = ((Aq q * q.den : Int) : Rat) := by
  rw [a2i, a2i, show ((1000 : Int) : Rat) = 1000 from rfl]
  grind
 have h4 : 1000 * q.num = Aq q * q.den := b0d.1 h3
 rw [h4]
 exact a9l _ _
theorem A9i {l : List PcQ} {fr te : Rat} {lo hi : Int} (h : Ay l fr te = .tup [A2 [.i lo, .i hi], .i 0]) (hr1 : Cc fr) (hr2 : Cc te) : hi = lo \/ hi = lo + 1 /\ mil lo < te := by
 obtain ⟨j, hst⟩ := V6 h
 unfold Bo at hst
 split at hst
 ·cases hst
 ·rename_i ho
  obtain ⟨g1, g2, g3⟩ := K7 ho
  split at hst
  ·injection hst with hst
   unfold enQ at hst
   split at hst
   ·simp only [a1o, Lf.val.injEq, a2j, true_and, and_true] at hst
    obtain ⟨rfl, rfl⟩ := hst
    exact .inl rfl
   ·rename_i hx
    simp only [a1o, Lf.val.injEq, a2j, true_and, and_true] at hst
    obtain ⟨rfl, rfl⟩ := hst
    refine .inr ⟨rfl, ?_⟩
    have h1 : mil (Aq (ptA (A5 l fr) fr j)) <= ptA (A5 l fr) fr j := mil_le.2 (a5p _)
    have h2 : ¬ mil (Aq (ptA (A5 l fr) fr j)) = ptA (A5 l fr) fr j := fun e => hx (Aco e)
    have h3 : mil (Aq (ptA (A5 l fr) fr j)) < ptA (A5 l fr) fr j := by grind
    have h4 : ptA (A5 l fr) fr j <= te := a0v g2 g3
    grind
  ·split at hst
   ·rename_i hb
    injection hst with hst
    obtain ⟨q1, q2⟩ := Mi hr1 hr2 ⟨g1, g2, g3⟩ hb
    unfold H1 at hst
    split at hst
    ·simp only [a1o, Lf.val.injEq, a2j, true_and, and_true] at hst
     obtain ⟨rfl, rfl⟩ := hst
     exact .inl rfl
    ·simp only [a1o, Lf.val.injEq, a2j, true_and, and_true] at hst
     obtain ⟨rfl, rfl⟩ := hst
     exact .inr ⟨rfl, by grind⟩
   ·cases hst
def pr3 : AV -> Int × Int × Int
 | .tup [.agg [.lf (.val (.int .i64 u)), .lf (.val (.int .i64 v))], .lf (.val (.int .i64 e))] => (u, v, e)
 | _ => (0, 0, 1)
theorem Ua (a b : SetR) (x y : List PcQ) (te : Rat) : Gi a b x y te = .tup [A2 [.i (pr3 (Gi a b x y te)).1, .i (pr3 (Gi a b x y te)).2.1], .i (pr3 (Gi a b x y te)).2.2] := by
 have key : ∃ u v e : Int, Gi a b x y te = .tup [A2 [.i u, .i v], .i e] := by
  unfold Gi
  split
  ·split
   ·exact V5 _ _ _
   ·exact ⟨0, 0, _, rfl⟩
  ·exact ⟨0, 0, 12, rfl⟩
 obtain ⟨u, v, e, h⟩ := key
 rw [h]
 rfl
theorem A60 {a b : SetR} {x y : List PcQ} {te : Rat} {n u v : Int} (hte : te = mil n) (h0 : 0 <= n) (h1 : n <= 1099511627776000) (he : Gi a b x y te = .tup [A2 [.i u, .i v], .i 0]) : 0 <= u /\ u <= v /\ v <= u + 1 /\ v <= n := by
 have r1 : Cc 0 := ⟨by decide, by decide⟩
 have hm := Cg n
 have hn0 : (0 : Rat) <= (n : Rat) := b3m.2 h0
 have hn1 : (n : Rat) <= ((1099511627776000 : Int) : Rat) := a2u.2 h1
 rw [show ((1099511627776000 : Int) : Rat) = 1099511627776000 from rfl] at hn1
 have r2 : Cc te := by
  subst hte
  exact ⟨by grind, by grind⟩
 have hm0 : Aq 0 = 0 := by decide +kernel
 have hmn : ∀ m : Int, mil m <= te -> m <= n := fun m hle => by
  have k := Cg m
  subst hte
  have : (m : Rat) <= (n : Rat) := by grind
  exact a2u.1 this
 have hml : ∀ m : Int, mil m < te -> m < n := fun m hlt => by
  have k := Cg m
  subst hte
  have : (m : Rat) < (n : Rat) := by grind
  exact b1f.1 this
 unfold Gi at he
 split at he
 ·split at he
  ·obtain ⟨g1, g2⟩ := Qr he r1 r2
   rw [hm0] at g1
   have g3 := hmn u g2
   rcases A9i he r1 r2 with rfl | ⟨rfl, g4⟩
   ·exact ⟨g1, a5p _, by omega, g3⟩
   ·have := hml u g4
    exact ⟨g1, by omega, by omega, by omega⟩
  ·rename_i hz
   exfalso
   simp only [spE, AV.tup.injEq, a1o, and_true] at he
   have h2 := he.2
   simp only [AV.lf.injEq, Lf.val.injEq, a2j, true_and] at h2
   exact hz h2
 ·exfalso
  simp [spE] at he
/-! ### Contacts -/
def Fh (h : HouseR) (n : ByteArray) : Option SetR := h.sets[(Ae h n).toNat]?
def Dl (h : HouseR) (n : ByteArray) : Nat := (Ae h n).toNat
noncomputable def Ce (h : HouseR) (c : SheetR) (G : List Int) (n : ByteArray) : Int := match Fh h n with
 | some s => if J5 c (stL h c G) (Bn h c) then Dr h c (stL h c G) (Dl h n) s else 13
 | none => 9
def Az (h : HouseR) (c : SheetR) (G : List Int) (n : ByteArray) : List PcQ := match Fh h n with
 | some s => Ds h c (stL h c G) (Dl h n) s
 | none => []
noncomputable instance (l : List PcQ) : Decidable (Aj l) := Classical.propDecidable _
def Ez (h : HouseR) (c : SheetR) (G : List Int) : Rat := A9 (endI h c G) 1000
noncomputable def frT (a b : SetR) (x y : List PcQ) (te : Rat) : Int × Int × Int := if Aj x /\ Aj y then pr3 (Gi a b x y te) else (0, 0, 1)
noncomputable def ctR (h : HouseR) (c : SheetR) (G : List Int) (p : ByteArray × ByteArray) : Int × Int × Int := match Fh h p.1, Fh h p.2 with
 | some a, some b => if Ce h c G p.1 = 0 then (if Ce h c G p.2 = 0 then frT a b (Az h c G p.1) (Az h c G p.2) (Ez h c G) else (0, 0, Ce h c G p.2)) else (0, 0, Ce h c G p.1)
 | _, _ => (0, 0, 9)
noncomputable def Rf (h : HouseR) (c : SheetR) (G : List Int) (p : ByteArray × ByteArray) : Option ConR := if (ctR h c G p).2.2 = 0 then some ⟨p.1, p.2, (ctR h c G p).1, (ctR h c G p).2.1⟩ else none
noncomputable def Bi (h : HouseR) (c : SheetR) (G : List Int) (l : List (ByteArray × ByteArray)) : List ConR := l.filterMap (Rf h c G)
def Cq (h : HouseR) (c : SheetR) (G : List Int) (p : ByteArray × ByteArray) : Prop := (ctR h c G p).2.2 = 0 \/ (ctR h c G p).2.2 = 12
theorem A96 {h : HouseR} {c : SheetR} {G : List Int} {l : List (ByteArray × ByteArray)} {p : ByteArray × ByteArray} (e : (ctR h c G p).2.2 = 0) : Bi h c G (l ++ [p]) = Bi h c G l ++ [⟨p.1, p.2, (ctR h c G p).1, (ctR h c G p).2.1⟩] := by
 unfold Bi
 rw [a6r]
 congr 1
 simp [Rf, e]
theorem Ac6 {h : HouseR} {c : SheetR} {G : List Int} {l : List (ByteArray × ByteArray)} {p : ByteArray × ByteArray} (e : ¬ (ctR h c G p).2.2 = 0) : Bi h c G (l ++ [p]) = Bi h c G l := by
 unfold Bi
 rw [a6r]
 have : List.filterMap (Rf h c G) [p] = [] := by simp [Rf, e]
 rw [this, a2b]
theorem A95 (h : HouseR) (c : SheetR) (G : List Int) (l : List (ByteArray × ByteArray)) : (Bi h c G l).length <= l.length := a5v _ _
theorem A8e (s : SetR) (n : ByteArray) : Fn0 Tryz.prog 89 [A2 s.row, .rop [.s n]] (.b (decide (s.name = n))) := by
 refine Fn0.of Tryz.func89 Tryz.ntmps89 rfl rfl rfl ?_
 simp only [A1]
 repeat' (first
  | refine W ?_

  | refine V ?_
  | (refine W2 ?_ ?_<;>intro hc))
 all_goals exact A4 (by simp) Tryz.results89 rfl (by rfl)
noncomputable def Uh (h : HouseR) (c : SheetR) (G : List Int) (n : ByteArray) : List PcQ := if Ce h c G n = 0 then Az h c G n else []
theorem Ze (h : HouseR) (c : SheetR) (hf : h.fits) (hc : c.fits) (G : List Int) (hG : G.length <= 4611686018427387904) (e0 : alE h c G = 0) (n : ByteArray) (hn : ¬ Ae h n < 0) : Fn0 Tryz.prog 55 [A2 h.row, A2 c.row, .sl (G.map A3), .s n] (.tup [.sl ((Uh h c G n).map PcQ.row), .i (Ce h c G n)]) := by
 have cm := Jp h c hf hc G hG
 obtain ⟨p, er⟩ := J8 e0
 rw [e0, er] at cm
 have hs : Fn0 Tryz.prog 88 [.sl (h.sets.map SetR.row), .fn (.func 89) [] [.rop [.s n]]] (.i (Ae h n)) :=
  K3 h.sets SetR.row (fun s => s.name = n) _ _ (fun _ => rfl) hf.1 rfl fun s _ => A8e s n
 obtain ⟨s, hsi⟩ := Ee hn
 have hz : Ae h n = ((Dl h n : Nat) : Int) := by unfold Dl;omega
 have hset : Fh h n = some s := hsi
 have hsk : h.sets[Dl h n]? = some s := hsi
 have co := L7 c (trL h c) (stL h c G) (Bn h c) (Gf h c G) (E1 h c _) (by have := p.v.2.1;omega) hc.2.2 p.st p.ln
 have cp := Zk h c G p hc hsk
 unfold plA at co cp
 rw [hz] at hs
 unfold Uh Az Ce
 rw [hset]
 dsimp only
 generalize Dl h n = k at *
 have hk0 : ¬ (k : Int) < 0 := by omega
 by_cases ho : J5 c (stL h c G) (Bn h c)
 ·rw [decide_eq_true ho] at co
  simp only [ho, if_true]
  change Fn0 _ _ _ (.tup [.sl ((if Dr h c (stL h c G) k s = 0 then Ds h c (stL h c G) k s else []).map PcQ.row), _]) at cp
  generalize (if Dr h c (stL h c G) k s = 0 then Ds h c (stL h c G) k s else []) = O at *
  generalize Dr h c (stL h c G) k s = e at *
  generalize stL h c G = u1 at *
  generalize Bn h c = u2 at *
  generalize trL h c = u3 at *
  refine Fn0.of Tryz.func55 Tryz.ntmps55 rfl rfl rfl ?_
  simp only [A1]
  repeat' (first|refine W ?_|(apply S.callV;exact rfl;exact hs;exact .cons (.one (.lf _)) (.cons (.fn (.cons (.ptr0 (cs := [.s n]) rfl) .nil)) .nil);exact rfl;exact rfl)|refine Y ?_|(apply p0a A0 (by decide +kernel))|refine V ?_|(refine W2 ?_ ?_<;>intro hc))
  all_goals exact D2 rfl rfl rfl
 ·rw [decide_eq_false ho] at co
  simp only [ho, if_false]
  rw [if_neg (show ¬ (13 : Int) = 0 by decide)]
  generalize stL h c G = u1 at *
  generalize Bn h c = u2 at *
  generalize trL h c = u3 at *
  refine Fn0.of Tryz.func55 Tryz.ntmps55 rfl rfl rfl ?_
  simp only [A1]
  repeat' (first|refine W ?_|(apply S.callV;exact rfl;exact hs;exact .cons (.one (.lf _)) (.cons (.fn (.cons (.ptr0 (cs := [.s n]) rfl) .nil)) .nil);exact rfl;exact rfl)|refine Y ?_|(apply p0a A0 (by decide +kernel))|(refine p0u 8 rfl ?_;apply T.ret;change Ba _ _ _ _ _)|refine V ?_|(refine W2 ?_ ?_<;>intro hc))
  all_goals exact D2 rfl rfl rfl
theorem Jc (h : HouseR) (hf : h.fits) (hp : Cm h) (n : ByteArray) (hn : ¬ Ae h n < 0) : Fn0 Tryz.prog 52 [A2 h.row, .s n] (.tup [.i (Ae h n), .i 0]) := by
 have hv := Gn h hf
 rw [decide_eq_true hp] at hv
 have cf := Ss h n hf.1
 generalize Ae h n = i at *
 refine Fn0.of Tryz.func52 Tryz.ntmps52 rfl rfl rfl ?_
 simp only [A1]
 repeat' (first|refine W ?_|refine Y ?_|refine V ?_|(refine W2 ?_ ?_<;>intro hc))
 all_goals exact D2 rfl rfl rfl
def unQ (p : PcQ) : PieceR := ⟨p.f.num, p.f.den, p.a.num, p.a.den, p.b.num, p.b.den, p.c.num, p.c.den⟩
theorem Adx (x : List PcQ) : (x.map unQ).map PieceR.row = x.map PcQ.row := by rw [a8l];rfl
theorem Adq (p : PcQ) : toQ (unQ p) = p := by
 unfold toQ unQ A9
 simp only [b3o]
theorem Wa {x : List PcQ} (h : ¬ Aj x) (hn : x.length <= 1000000) : Fn0 Tryz.prog 124 [.sl (x.map PcQ.row)] (.b false) := by
 have := Vt (x.map unQ) (by rw [a0a];exact hn)
 rw [Adx, decide_eq_false (fun k => h (by have := (A5r k).2.2.2;rwa [a8l, show toQ ∘ unQ = id from funext Adq, List.map_id] at this))] at this
 exact this
structure TwoP (a b : SetR) (x y : List PcQ) : Prop where
 pa : Dt a
 pb : Dt b
 fa : a.fits
 fb : b.fits
 ox : okC x
 oy : okC y
 x0 : x ≠ []
 y0 : y ≠ []
 nx : x.length <= 200
 ny : y.length <= 200
theorem We (a b : SetR) (x y : List PcQ) (h : TwoP a b x y) (t : List Lf) (ht : t.length = 2) (hs : ¬ (Aj x /\ Aj y)) : Fn0 Tryz.prog 93 [A2 a.row, A2 b.row, .sl (x.map PcQ.row), .sl (y.map PcQ.row), A2 t] (.i 1) := by
 have va := Dx a h.fa
 have vb := Dx b h.fb
 rw [decide_eq_true h.pa] at va
 rw [decide_eq_true h.pb] at vb
 match t, ht with
 | [u, v], _ =>
 by_cases sx : Aj x
 ·have vx := Hz x h.ox sx (a1j.2 h.x0) h.nx
  have vy := Wa (fun k => hs ⟨sx, k⟩) (by have := h.ny;omega)
  refine Fn0.of b3a b1z rfl rfl rfl ?_
  simp only [A1]
  repeat' (first|refine W ?_|refine Y ?_|refine V ?_|(refine W2 ?_ ?_<;>intro hc))
  all_goals exact A4 (by simp) b0s rfl rfl
 ·have vx := Wa sx (by have := h.nx;omega)
  refine Fn0.of b3a b1z rfl rfl rfl ?_
  simp only [A1]
  repeat' (first|refine W ?_|refine Y ?_|refine V ?_|(refine W2 ?_ ?_<;>intro hc))
  all_goals exact A4 (by simp) b0s rfl rfl
theorem A31 (a b : SetR) (x y : List PcQ) (h : TwoP a b x y) (te : Rat) (ht : Fits te) (h0 : 0 <= te) (h1 : te <= 1099511627776) :
  Fn0 Tryz.prog 57 [A2 a.row, A2 b.row, .sl (x.map PcQ.row), .sl (y.map PcQ.row), A2 (frR te)] (.tup [A2 [.i (frT a b x y te).1, .i (frT a b x y te).2.1], .i (frT a b x y te).2.2]) := by
 by_cases hs : Aj x /\ Aj y
 ·have := A57 a b x y ⟨h.pa, h.pb, h.fa, h.fb, h.ox, h.oy, h.x0, h.y0, hs.1, hs.2, h.nx, h.ny⟩ te ht h0 h1
  rw [Ua] at this
  unfold frT
  rw [if_pos hs]
  exact this
 ·have cg := We a b x y h (frR te) rfl hs
  unfold frT
  rw [if_neg hs]
  refine Fn0.of a7d a6v rfl rfl rfl ?_
  simp only [A1]
  repeat' (first|refine W ?_|refine Y ?_|refine V ?_|(refine W2 ?_ ?_<;>intro hc))
  all_goals exact ⟨.inr rfl, [A2 [.i 0, .i 0], .i 1], .cons (Res.row [.i 0, .i 0] rfl rfl rfl rfl rfl) (.cons (.tmp rfl) .nil), .tup (.cons (.agg (A6 [.i 0, .i 0])) (.cons (.one (.lf _)) .nil))⟩
abbrev Aa (h : HouseR) : List (ByteArray × ByteArray) := D7 h.sets h.sets.length
open Classical in
noncomputable def Ht (h : HouseR) (c : SheetR) (G : List Int) : List (ByteArray × ByteArray) -> Int
 | [] => 0
 | p :: r => if Cq h c G p then Ht h c G r else (ctR h c G p).2.2
theorem A1j {h : HouseR} {c : SheetR} {G : List Int} : ∀ {l : List (ByteArray × ByteArray)}, (∀ p ∈ l, Cq h c G p) -> Ht h c G l = 0
 | [], _ => rfl
 | p :: r, hg => by rw [Ht, if_pos (hg p (by simp))];exact A1j fun q hq => hg q (by simp [hq])
theorem Xq {h : HouseR} {c : SheetR} {G : List Int} : ∀ {l : List (ByteArray × ByteArray)} {k : Nat} {p}, l[k]? = some p -> (∀ j, j < k -> ∀ q, l[j]? = some q -> Cq h c G q) -> ¬ Cq h c G p -> Ht h c G l = (ctR h c G p).2.2
 | [], k, p, hk, _, _ => by simp at hk
 | x :: r, 0, p, hk, _, hn => by
  obtain rfl : x = p := by simpa using hk
  rw [Ht, if_neg hn]
 | x :: r, k + 1, p, hk, hj, hn => by
  rw [Ht, if_pos (hj 0 (by omega) x rfl)]
  exact Xq (k := k) (by simpa using hk) (fun j hjk q hq => hj (j + 1) (by omega) q (by simpa using hq)) hn
theorem Vd {h : HouseR} {c : SheetR} {G : List Int} : ∀ {l : List (ByteArray × ByteArray)}, Ht h c G l = 0 -> ∀ p ∈ l, Cq h c G p
 | [], _, p, hp => by cases hp
 | x :: r, e, p, hp => by
  rw [Ht] at e
  split at e
  ·rcases a1i.1 hp with rfl | hp
   ·assumption
   ·exact Vd e p hp
  ·rename_i hn
   exact absurd (.inl e) hn
noncomputable def Ma (h : HouseR) (c : SheetR) (G : List Int) : List ConR := if Ht h c G (Aa h) = 0 then Bi h c G (Aa h) else []
theorem Vn {h : HouseR} {n : ByteArray} {s : SetR} (hs : s ∈ h.sets) (hn : s.name = n) : ¬ Ae h n < 0 := by
 have h1 : ¬ Ae h n = -1 := H5 ⟨s, hs, hn⟩
 have h2 : -1 <= Ae h n := Bw _ _
 omega
theorem Rn {h : HouseR} {p : ByteArray × ByteArray} (hm : p ∈ Aa h) : ¬ Ae h p.1 < 0 /\ ¬ Ae h p.2 < 0 := by
 obtain ⟨k, _, a, ha, hx⟩ := mem_prsK.1 hm
 obtain ⟨j, _, b, hb, _, rfl⟩ := mem_innN.1 hx
 exact ⟨Vn (a0b ha) rfl, Vn (a0b hb) rfl⟩
theorem T4 {h : HouseR} {c : SheetR} {G : List Int} (p : PlanOk h c G) {n : ByteArray} {s : SetR} (hs : Fh h n = some s) (he : Ce h c G n = 0) : okC (Az h c G n) /\ Az h c G n ≠ [] /\ (Az h c G n).length <= 200 := by
 have hmem : s ∈ h.sets := a0b hs
 obtain ⟨⟨_, _, s1, s2, s3, _⟩, _⟩ := p.v.1.2.2.2.2.2.1 s hmem
 unfold Ce at he
 unfold Az
 rw [hs] at he ⊢
 dsimp only at he ⊢
 split at he
 ·unfold Dr at he
  split at he
  ·cases he
  ·rename_i hb
   split at he
   ·cases he
   ·rename_i hl
    exact ⟨Q2 (Cd (by omega) (by omega)) hb _ (a0m _), Lu _ _ _ _ _ _, by omega⟩
 ·cases he
abbrev Abs : List AV := [.s ⟨#[]⟩, .i 0, .i 0, .i 0, .i 0, .sl [], .i 0, .i 0, .i 0, .i 0, .i 0, .sl [], .sl []]
noncomputable def pcC (p : ByteArray × ByteArray) (a b : SetR) (x y : List PcQ) : Nat -> List AV
 | 0 => [.s p.1, .s p.2] ++ Abs ++ Abs ++ [.sl [], .sl []]
 | 1 => [.s p.1, .s p.2] ++ a.row.map .lf ++ Abs ++ [.sl (x.map PcQ.row), .sl []]
 | _ => [.s p.1, .s p.2] ++ a.row.map .lf ++ b.row.map .lf ++ [.sl (x.map PcQ.row), .sl (y.map PcQ.row)]
theorem Abk (h : HouseR) (c : SheetR) (G : List Int) (p : PlanOk h c G) : Fits (Ez h c G) /\ 0 <= Ez h c G /\ Ez h c G <= 1099511627776 := by
 have he := p.endI
 have hm := Cg (endI h c G)
 have h0 : (0 : Rat) <= (endI h c G : Rat) := b3m.2 he.1
 have h1 : (endI h c G : Rat) <= ((259845521408 : Int) : Rat) := a2u.2 he.2
 rw [show ((259845521408 : Int) : Rat) = 259845521408 from rfl] at h1
 have hu : Ez h c G = mil (endI h c G) := rfl
 have hf : Fits (A9 (endI h c G) 1000) := Bu (by omega) (by omega) (by omega) (by omega)
 refine ⟨hf, ?_, ?_⟩
 ·rw [hu];grind
 ·rw [hu];grind
theorem Kp (b st n k : Nat) (h : b < n) : ([rT b st k] : List AV).all (AV.under n) = true := by rw [a8b, N0 _ _ _ _ h];rfl
theorem Px (h : HouseR) (c : SheetR) (G : List Int) (n : ByteArray) : ¬ Ce h c G n = 12 := by
 unfold Ce
 split
 ·split
  ·unfold Dr
   split
   ·decide
   ·split <;> decide
  ·decide
 ·decide
theorem A49 (h : HouseR) (c : SheetR) (hf : h.fits) (hc : c.fits) (G : List Int) (hG : G.length <= 4611686018427387904) (e0 : alE h c G = 0) : Fn0 Tryz.prog 49 [A2 h.row, A2 c.row, .sl (G.map A3)] (.tup [.sl ((Ma h c G).map ConR.row), .i (Ht h c G (Aa h))]) := by
 have p := (J8 e0).1
 have hp := p.v.1
 have ce := Na h c hf hc G hG e0
 obtain ⟨ft, t0, t1⟩ := Abk h c G p
 have he := p.endI
 have cm := Gb (endI h c G) 1000 (by decide) (by omega) (by omega) (by decide) (by decide) ft
 have cp := Uy h hf hp
 have hs60 := hp.2.2.2.1
 have hlen : (Aa h).length <= 3600 := a2c (Mu h.sets h.sets.length) (a2c (a7u hs60 hs60) (by decide))
 have hle : ((Aa h).map A8).length = (Aa h).length := a0a _
 have hbad : ∀ k q, (Aa h)[k]? = some q -> (∀ j, j < k -> ∀ q, (Aa h)[j]? = some q -> Cq h c G q) -> ¬ Cq h c G q -> Ma h c G = [] /\ Ht h c G (Aa h) = (ctR h c G q).2.2 := fun k q hk hj hn => by
  have e := Xq hk hj hn
  refine ⟨?_, e⟩
  unfold Ma
  rw [e]
  exact if_neg fun k => hn (.inl k)
 have hmemp : ∀ q ∈ Aa h, ¬ Ae h q.1 < 0 /\ ¬ Ae h q.2 < 0 := fun q hq => Rn hq
 change Fn0 _ _ _ (.tup [_, .i 0]) at cm
 change Fn0 _ _ _ (.tup [.sl ((Aa h).map A8), .i 0]) at cp
 generalize hprs : Aa h = prs at *
 have hT : Ez h c G = A9 (endI h c G) 1000 := rfl
 rw [<- hT] at cm
 refine Fn0.of b2v b1u rfl rfl rfl ?_
 simp only [A1]
 repeat' (first|refine W ?_|refine Y ?_|(refine p1z [(8, .ptr 2 0)] b2x b1w rfl rfl rfl rfl rfl rfl rfl CW rfl ?_;intro vs;simp only [A1, a1y, a3h])|refine V ?_|(refine W2 ?_ ?_<;>intro hc))
 refine T.kill 7 ?_
 refine T.kill 8 ?_
 refine p0d (fun j => j <= prs.length /\ ∀ i, i < j -> ∀ q, prs[i]? = some q -> Cq h c G q) (fun j => prs.length - j) (fun j => [(49, .i j), (48, .i (prs.map A8).length), (47, .sl (prs.map A8)), (3, .fn (.func 75) [] [.ptr 2 0]), (4, .ptr 4 0), (5, .ptr 5 0), (11, .ptr 6 0), (2, .sl (G.map A3))]) (fun j => [.live (h.row.map .lf), .live (c.row.map .lf), .live [rT 7 4 (Bi h c G (prs.take j)).length], .gho [.ptr 2 0] vs, .live (h.row.map .lf), .live (c.row.map .lf), .live [.i (Ez h c G).num, .i (Ez h c G).den], rB (Gk (Bi h c G (prs.take j))) (Bi h c G (prs.take j)).length, .dead]) 0 ⟨a0n _, by intro i hi;omega⟩ CW (.live rfl (.live rfl (.live rfl (.gho rfl CG)))) ?_
 rintro j ⟨hj, hgo⟩
 by_cases hlt : j < prs.length
 ·have h1 : (j : Int) < ((prs.map A8).length : Nat) := by omega
  obtain ⟨q, hq⟩ := Ac hlt
  have hb := Af (R := A8) hq
  obtain ⟨n1, n2⟩ := hmemp q (a0b hq)
  obtain ⟨a, ha⟩ : ∃ a, h.sets[(Ae h q.1).toNat]? = some a := Ee n1
  obtain ⟨b, hbb⟩ : ∃ b, h.sets[(Ae h q.2).toNat]? = some b := Ee n2
  have hsa : Fh h q.1 = some a := ha
  have hsb : Fh h q.2 = some b := hbb
  have rha : (h.sets.map SetR.row)[(Ae h q.1).toNat]? = some a.row := Hm ha
  have rhb : (h.sets.map SetR.row)[(Ae h q.2).toNat]? = some b.row := Hm hbb
  have f1 := Jc h hf hp q.1 n1
  have f2 := Jc h hf hp q.2 n2
  have p1 := Ze h c hf hc G hG e0 q.1 n1
  have p2 := Ze h c hf hc G hG e0 q.2 n2
  have hct : ctR h c G q = if Ce h c G q.1 = 0 then (if Ce h c G q.2 = 0 then frT a b (Az h c G q.1) (Az h c G q.2) (Ez h c G) else (0, 0, Ce h c G q.2)) else (0, 0, Ce h c G q.1) := by unfold ctR;rw [hsa, hsb]
  have hbd := hbad j q hq hgo
  have htk : prs.take (j + 1) = prs.take j ++ [q] := by rw [a0w, hq];rfl
  have hKy : (ctR h c G q).2.2 = 0 -> Bi h c G (prs.take (j + 1)) = Bi h c G (prs.take j) ++ [⟨q.1, q.2, (ctR h c G q).1, (ctR h c G q).2.1⟩] := fun e => by rw [htk];exact A96 e
  have hKn : ¬ (ctR h c G q).2.2 = 0 -> Bi h c G (prs.take (j + 1)) = Bi h c G (prs.take j) := fun e => by rw [htk];exact Ac6 e
  have hLl : (Bi h c G (prs.take j)).length <= 3600 := a2c (A95 _ _ _ _) (by rw [a0z];omega)
  have hgo2 : Cq h c G q -> ∀ i, i < j + 1 -> ∀ q, prs[i]? = some q -> Cq h c G q := fun g i hi q' hq' => by
   by_cases e : i = j
   ·subst e
    rw [hq] at hq'
    injection hq' with hq'
    subst hq'
    exact g
   ·exact hgo i (by omega) q' hq'
  generalize Ae h q.1 = i1 at *
  generalize Ae h q.2 = i2 at *
  generalize Bi h c G (prs.take j) = LL at *
  repeat' (first|refine W ?_|refine Y ?_|refine V ?_|(refine W2 ?_ ?_<;>intro hc))
  refine p0d (fun i => i <= 2 /\ (1 <= i -> Ce h c G q.1 = 0) /\ (2 <= i -> Ce h c G q.2 = 0)) (fun i => 2 - i) (fun i => [(56, .i i), (55, .agg [.s q.1, .s q.2]), (14, .ptr 9 0), (15, .ptr 10 0), (49, .i j), (48, .i (prs.map A8).length), (47, .sl (prs.map A8)), (3, .fn (.func 75) [] [.ptr 2 0]), (4, .ptr 4 0), (5, .ptr 5 0), (11, .ptr 6 0), (2, .sl (G.map A3))]) (fun i => [.live (h.row.map .lf), .live (c.row.map .lf), .live [rT 7 4 (LL).length], .gho [.ptr 2 0] vs, .live (h.row.map .lf), .live (c.row.map .lf), .live [.i (Ez h c G).num, .i (Ez h c G).den], rB (Gk (LL)) (LL).length, .dead, .live [.s q.1, .s q.2], .live (pcC q a b (Az h c G q.1) (Az h c G q.2) i)]) 0 ⟨by omega, fun k => absurd k (by omega), fun k => absurd k (by omega)⟩ CW (.live rfl (.live rfl (.live (Kp 7 4 _ _ (a0d rfl)) (.gho rfl (.live rfl (.live rfl (.live rfl (p2c (Ah _ _) CG _)))))))) ?_
  rintro i ⟨hi, hi1, hi2⟩
  obtain rfl | rfl | rfl : i = 0 \/ i = 1 \/ i = 2 := by omega
  ·have z0 : ((0 : Nat) : Int) < 2 := by decide
   by_cases pe : Ce h c G q.1 = 0
   ·rw [show Uh h c G q.1 = Az h c G q.1 from if_pos pe, pe] at p1
    repeat' (first|refine W ?_|refine Y ?_|(apply S.idxV;(iterate 3 exact rfl);exact ⟨by decide, by decide⟩;exact rfl;exact rfl)|(apply S.idxAP;(iterate 4 exact rfl);exact ⟨by decide, by decide⟩;exact rfl)|refine V ?_|(refine W2 ?_ ?_<;>intro hc))
    all_goals (first|(change Next _ _ _ _ _ _)|(trace_state;fail))
    all_goals exact Next.go 1 ⟨by omega, fun _ => pe, fun k => absurd k (by omega)⟩ (by omega) CW (.live rfl (.live rfl (.live (Kp 7 4 _ _ (a0d rfl)) (.gho rfl (.live rfl (.live rfl (.live rfl (p2c (Ah _ _) CG _))))))))
   ·rw [show Uh h c G q.1 = [] from if_neg pe] at p1
    rw [if_neg pe] at hct
    rw [hct] at hbd
    have hng : ¬ Cq h c G q := fun k => by
     unfold Cq at k
     rw [hct] at k
     exact k.elim pe (Px h c G q.1)
    obtain ⟨b1, b2⟩ := hbd hng
    rw [b1, b2]
    dsimp only
    generalize Ce h c G q.1 = e at *
    repeat' (first|refine W ?_|refine Y ?_|(apply S.idxV;(iterate 3 exact rfl);exact ⟨by decide, by decide⟩;exact rfl;exact rfl)|(apply S.idxAP;(iterate 4 exact rfl);exact ⟨by decide, by decide⟩;exact rfl)|(apply T.ret;(first|change Ct Tryz.prog Tryz.f74 _ _ _ _ _ _|(dsimp only [C6, D1];change Ct Tryz.prog Tryz.f74 _ _ _ _ _ _));refine ⟨.inr rfl, [_], .cons (.tmp rfl) .nil, rfl, ?_⟩;show Reg none _ _ _ _ _ _ _)|(refine p0u 6 rfl ?_;apply T.ret;change Ba _ _ _ _ _)|refine V ?_|(refine W2 ?_ ?_<;>intro hc))
    all_goals exact D2 rfl rfl rfl
  ·have z0 : ((1 : Nat) : Int) < 2 := by decide
   have pe1 := hi1 (a0m _)
   by_cases pe : Ce h c G q.2 = 0
   ·rw [show Uh h c G q.2 = Az h c G q.2 from if_pos pe, pe] at p2
    repeat' (first|refine W ?_|refine Y ?_|(apply S.idxV;(iterate 3 exact rfl);exact ⟨by decide, by decide⟩;exact rfl;exact rfl)|(apply S.idxAP;(iterate 4 exact rfl);exact ⟨by decide, by decide⟩;exact rfl)|refine V ?_|(refine W2 ?_ ?_<;>intro hc))
    all_goals (first|(change Next _ _ _ _ _ _)|(trace_state;fail))
    all_goals exact Next.go 2 ⟨by omega, fun _ => pe1, fun _ => pe⟩ (by omega) CW (.live rfl (.live rfl (.live (Kp 7 4 _ _ (a0d rfl)) (.gho rfl (.live rfl (.live rfl (.live rfl (p2c (Ah _ _) CG _))))))))
   ·rw [show Uh h c G q.2 = [] from if_neg pe] at p2
    rw [if_pos pe1, if_neg pe] at hct
    rw [hct] at hbd
    have hng : ¬ Cq h c G q := fun k => by
     unfold Cq at k
     rw [hct] at k
     exact k.elim pe (Px h c G q.2)
    obtain ⟨b1, b2⟩ := hbd hng
    rw [b1, b2]
    dsimp only
    generalize Ce h c G q.2 = e at *
    repeat' (first|refine W ?_|refine Y ?_|(apply S.idxV;(iterate 3 exact rfl);exact ⟨by decide, by decide⟩;exact rfl;exact rfl)|(apply S.idxAP;(iterate 4 exact rfl);exact ⟨by decide, by decide⟩;exact rfl)|(apply T.ret;(first|change Ct Tryz.prog Tryz.f74 _ _ _ _ _ _|(dsimp only [C6, D1];change Ct Tryz.prog Tryz.f74 _ _ _ _ _ _));refine ⟨.inr rfl, [_], .cons (.tmp rfl) .nil, rfl, ?_⟩;show Reg none _ _ _ _ _ _ _)|(refine p0u 6 rfl ?_;apply T.ret;change Ba _ _ _ _ _)|refine V ?_|(refine W2 ?_ ?_<;>intro hc))
    all_goals exact D2 rfl rfl rfl
  ·have z0 : ¬ ((2 : Nat) : Int) < 2 := by decide
   have pe1 := hi1 (by omega)
   have pe2 := hi2 (by omega)
   obtain ⟨ox, x0, nx⟩ := T4 p hsa pe1
   obtain ⟨oy, y0, ny⟩ := T4 p hsb pe2
   rw [if_pos pe1, if_pos pe2] at hct
   have ma := a0b ha
   have mb := a0b hbb
   have cf := A31 a b (Az h c G q.1) (Az h c G q.2) ⟨(hp.2.2.2.2.2.1 a ma).1, (hp.2.2.2.2.2.1 b mb).1, hf.2.2 a ma, hf.2.2 b mb, ox, oy, x0, y0, nx, ny⟩ (Ez h c G) ft t0 t1
   unfold Cq at hgo2
   have hng : ¬ ((ctR h c G q).2.2 = 0 \/ (ctR h c G q).2.2 = 12) -> Ma h c G = [] /\ Ht h c G prs = (ctR h c G q).2.2 := hbd
   rw [hct] at hKy hKn hng hgo2
   generalize frT a b (Az h c G q.1) (Az h c G q.2) (Ez h c G) = r at *
   obtain ⟨u, v, e⟩ := r
   dsimp only at *
   generalize Az h c G q.1 = xa at *
   generalize Az h c G q.2 = xb at *
   by_cases ez : e = 0
   ·subst ez
    have hK := hKy rfl
    have hcl := M8 LL
    have hsn := L0 LL ⟨q.1, q.2, u, v⟩
    have hln : (LL ++ [(⟨q.1, q.2, u, v⟩ : ConR)]).length = LL.length + 1 := by simp
    cases LL with
    | nil =>
     repeat' (first|refine W ?_|refine Y ?_|(apply S.idxAP;(iterate 4 exact rfl);exact ⟨by decide, by decide⟩;exact rfl)|(apply T.ret;(first|change Ct Tryz.prog Tryz.f74 _ _ _ _ _ _|(dsimp only [C6, D1];change Ct Tryz.prog Tryz.f74 _ _ _ _ _ _));refine ⟨.inr rfl, [_], .cons (.tmp rfl) .nil, rfl, ?_⟩;show Reg none _ _ _ _ _ _ _)|(apply T.ret;(first|change Ct Tryz.prog Tryz.f75 _ _ _ _ _ _|(dsimp only [C6, D1];change Ct Tryz.prog Tryz.f75 _ _ _ _ _ _));refine ⟨.inr rfl, [_], .cons (.tmp rfl) .nil, rfl, ?_⟩;show Reg none _ _ _ _ _ _ _)|(refine p1z [(49, .i j), (48, .i (prs.map A8).length), (47, .sl (prs.map A8)), (3, .fn (.func 75) [] [.ptr 2 0]), (4, .ptr 4 0), (5, .ptr 5 0), (11, .ptr 6 0), (2, .sl (G.map A3))] Tryz.func75 Tryz.ntmps75 rfl rfl rfl rfl rfl rfl rfl CW rfl ?_;intro vs2;simp only [A1, List.cons_append, List.nil_append])|(apply p0c;(iterate 7 exact rfl))|(apply p0r 7 (rows := []);(iterate 8 exact rfl);exact Ag rfl;exact rfl;exact Nat.le_of_ble_eq_true rfl;exact Nat.le_of_ble_eq_true rfl)|refine V ?_|(refine W2 ?_ ?_<;>intro hc))
     all_goals (first|(change Next _ _ _ _ _ _)|(trace_state;fail))
     all_goals exact Next.go (j + 1) ⟨by omega, hgo2 (.inl rfl)⟩ (by omega) (by rw [hK, show (((j + 1 : Nat) : Int)) = (j : Int) + 1 by omega];exact CW) (by rw [hK];exact .live rfl (.live rfl (.live rfl (.gho rfl CG))))
    | cons l0 LL =>
     have hLl2 : LL.length + 1 <= 3600 := hLl
     repeat' (first|refine W ?_|refine Y ?_|(apply S.idxAP;(iterate 4 exact rfl);exact ⟨by decide, by decide⟩;exact rfl)|(apply T.ret;(first|change Ct Tryz.prog Tryz.f74 _ _ _ _ _ _|(dsimp only [C6, D1];change Ct Tryz.prog Tryz.f74 _ _ _ _ _ _));refine ⟨.inr rfl, [_], .cons (.tmp rfl) .nil, rfl, ?_⟩;show Reg none _ _ _ _ _ _ _)|(apply T.ret;(first|change Ct Tryz.prog Tryz.f75 _ _ _ _ _ _|(dsimp only [C6, D1];change Ct Tryz.prog Tryz.f75 _ _ _ _ _ _));refine ⟨.inr rfl, [_], .cons (.tmp rfl) .nil, rfl, ?_⟩;show Reg none _ _ _ _ _ _ _)|(refine p1z [(49, .i j), (48, .i (prs.map A8).length), (47, .sl (prs.map A8)), (3, .fn (.func 75) [] [.ptr 2 0]), (4, .ptr 4 0), (5, .ptr 5 0), (11, .ptr 6 0), (2, .sl (G.map A3))] Tryz.func75 Tryz.ntmps75 rfl rfl rfl rfl rfl rfl rfl CW rfl ?_;intro vs2;simp only [A1, List.cons_append, List.nil_append])|(apply p0c;(iterate 7 exact rfl))|(refine Reg.blur 2 0 8 rfl rfl rfl ?_;apply p0n;(iterate 8 exact rfl);exact hcl;exact Ag rfl;exact rfl;exact Av _ _;simp only [List.length_cons, List.length_nil];omega;simp only [List.length_cons, List.length_nil];omega)|refine V ?_|(refine W2 ?_ ?_<;>intro hc))
     all_goals (first|(change Next _ _ _ _ _ _)|(trace_state;fail))
     all_goals exact Next.go (j + 1) ⟨by omega, hgo2 (.inl rfl)⟩ (by omega) (by rw [hK, show (((j + 1 : Nat) : Int)) = (j : Int) + 1 by omega];exact CW) (by rw [hK, hsn, hln];exact .live rfl (.live rfl (.live rfl (.gho rfl (.live rfl (.live rfl (.live rfl (.live (by rw [<- a1p];exact Ah _ _) (.dead .nil)))))))))
   ·by_cases e12 : e = 12
    ·subst e12
     repeat' (first|refine W ?_|refine Y ?_|(apply S.idxAP;(iterate 4 exact rfl);exact ⟨by decide, by decide⟩;exact rfl)|(apply T.ret;(first|change Ct Tryz.prog Tryz.f74 _ _ _ _ _ _|(dsimp only [C6, D1];change Ct Tryz.prog Tryz.f74 _ _ _ _ _ _));refine ⟨.inr rfl, [_], .cons (.tmp rfl) .nil, rfl, ?_⟩;show Reg none _ _ _ _ _ _ _)|(apply T.ret;(first|change Ct Tryz.prog Tryz.f75 _ _ _ _ _ _|(dsimp only [C6, D1];change Ct Tryz.prog Tryz.f75 _ _ _ _ _ _));refine ⟨.inr rfl, [_], .cons (.tmp rfl) .nil, rfl, ?_⟩;show Reg none _ _ _ _ _ _ _)|(refine p1z [(49, .i j), (48, .i (prs.map A8).length), (47, .sl (prs.map A8)), (3, .fn (.func 75) [] [.ptr 2 0]), (4, .ptr 4 0), (5, .ptr 5 0), (11, .ptr 6 0), (2, .sl (G.map A3))] Tryz.func75 Tryz.ntmps75 rfl rfl rfl rfl rfl rfl rfl CW rfl ?_;intro vs2;simp only [A1, List.cons_append, List.nil_append])|refine V ?_|(refine W2 ?_ ?_<;>intro hc))
     all_goals (first|(change Next _ _ _ _ _ _)|(trace_state;fail))
     all_goals exact Next.go (j + 1) ⟨by omega, hgo2 (.inr rfl)⟩ (by omega) (by rw [hKn ez, show (((j + 1 : Nat) : Int)) = (j : Int) + 1 by omega];exact CW) (by rw [hKn ez];exact .live rfl (.live rfl (.live (Kp 7 4 _ _ (a0d rfl)) (.gho rfl (.live rfl (.live rfl (.live rfl (p2c (Ah _ _) (.dead .nil) _))))))))
    ·obtain ⟨b1, b2⟩ := hng fun k => k.elim ez e12
     rw [b1, b2]
     repeat' (first|refine W ?_|refine Y ?_|(apply S.idxAP;(iterate 4 exact rfl);exact ⟨by decide, by decide⟩;exact rfl)|(apply T.ret;(first|change Ct Tryz.prog Tryz.f74 _ _ _ _ _ _|(dsimp only [C6, D1];change Ct Tryz.prog Tryz.f74 _ _ _ _ _ _));refine ⟨.inr rfl, [_], .cons (.tmp rfl) .nil, rfl, ?_⟩;show Reg none _ _ _ _ _ _ _)|(apply T.ret;(first|change Ct Tryz.prog Tryz.f75 _ _ _ _ _ _|(dsimp only [C6, D1];change Ct Tryz.prog Tryz.f75 _ _ _ _ _ _));refine ⟨.inr rfl, [_], .cons (.tmp rfl) .nil, rfl, ?_⟩;show Reg none _ _ _ _ _ _ _)|(refine p1z [(49, .i j), (48, .i (prs.map A8).length), (47, .sl (prs.map A8)), (3, .fn (.func 75) [] [.ptr 2 0]), (4, .ptr 4 0), (5, .ptr 5 0), (11, .ptr 6 0), (2, .sl (G.map A3))] Tryz.func75 Tryz.ntmps75 rfl rfl rfl rfl rfl rfl rfl CW rfl ?_;intro vs2;simp only [A1, List.cons_append, List.nil_append])|(refine p0u 6 rfl ?_;apply T.ret;change Ba _ _ _ _ _)|refine V ?_|(refine W2 ?_ ?_<;>intro hc))
     all_goals exact D2 rfl rfl rfl
 ·have h1 : ¬ (j : Int) < ((prs.map A8).length : Nat) := by omega
  rw [a0h (by omega)]
  have hall : ∀ q ∈ prs, Cq h c G q := fun q hq => by
   obtain ⟨i, hi⟩ := a3c hq
   exact hgo i (by have := (a0g.1 hi).1;omega) q hi
  have e1 := A1j hall
  have e2 : Ma h c G = Bi h c G prs := by unfold Ma;rw [hprs, e1];exact if_pos rfl
  rw [e1, e2]
  generalize Bi h c G prs = LL at *
  refine p4a 2 0 7 (rows := LL.map ConR.row) (Pj _) (a0a _) rfl rfl rfl rfl ?_
  repeat' (first|refine W ?_|refine Y ?_|(apply T.ret;(first|change Ct Tryz.prog Tryz.f74 _ _ _ _ _ _|(dsimp only [C6, D1];change Ct Tryz.prog Tryz.f74 _ _ _ _ _ _));refine ⟨.inr rfl, [_], .cons (.tmp rfl) .nil, rfl, ?_⟩;show Reg none _ _ _ _ _ _ _)|refine V ?_|(refine W2 ?_ ?_<;>intro hc))
  all_goals exact D2 rfl rfl rfl
theorem A1c {h : HouseR} {c : SheetR} {G : List Int} {l : List (ByteArray × ByteArray)} {x : ConR} (hx : x ∈ Bi h c G l) : (x.a, x.b) ∈ l /\ ctR h c G (x.a, x.b) = (x.lo, x.hi, 0) := by
 obtain ⟨p, hp, hx⟩ := a6d.1 hx
 unfold Rf at hx
 split at hx
 ·rename_i e
  injection hx with hx
  subst hx
  exact ⟨hp, by rw [<- e]⟩
 ·cases hx
theorem A98 {h : HouseR} {c : SheetR} {G : List Int} (p : PlanOk h c G) {l : List (ByteArray × ByteArray)} {x : ConR} (hx : x ∈ Bi h c G l) : 0 <= x.lo /\ x.lo <= x.hi /\ x.hi <= x.lo + 1 /\ x.hi <= endI h c G := by
 obtain ⟨_, hc⟩ := A1c hx
 unfold ctR at hc
 split at hc
 ·rename_i a b _ _
  split at hc
  ·split at hc
   ·unfold frT at hc
    split at hc
    ·have hf := Ua a b (Az h c G x.a) (Az h c G x.b) (Ez h c G)
     rw [hc] at hf
     have := p.endI
     exact A60 (n := endI h c G) rfl this.1 (by omega) hf
    ·simp at hc
   ·rename_i e
    simp only [a1c] at hc
    exact absurd hc.2.2 e
  ·rename_i e
   simp only [a1c] at hc
   exact absurd hc.2.2 e
 ·simp at hc
set_option maxRecDepth 100000 in
theorem A5a : ∃ n1 n2 n3 : Nat, Tryz.prog.fieldsOf 36 = #[⟨"First", 9, 0, false, "", "", n1⟩, ⟨"Second", 9, 1, false, "", "", n2⟩, ⟨"At", 34, 2, false, "", "", n3⟩] := by
 unfold Program.fieldsOf
 rw [a5j]
 exact ⟨_, _, _, rfl⟩
theorem A97 : Tryz.prog.stoodInHeld 36 = false := by kernel_rfl
theorem Xc : Tryz.prog.eqGuardType Tryz.prog.depth 36 = false := by kernel_rfl
theorem Af9 : Tryz.prog.underlying 36 = some (.struct (Tryz.prog.fieldsOf 36)) := by
 unfold Program.fieldsOf
 rw [a5j]
def Mc (a b : ByteArray) (u v : Int) : Value := .agg #[.string a, .string b, .int .i64 u, .int .i64 v]
def eqC (a b : ByteArray) (u v : Int) (a' b' : ByteArray) (u' v' : Int) : Prop := a = a' /\ b = b' /\ u = u' /\ v = v'
instance (a b : ByteArray) (u v : Int) (a' b' : ByteArray) (u' v' : Int) : Decidable (eqC a b u v a' b' u' v') := by unfold eqC;exact inferInstance
set_option maxRecDepth 100000 in
theorem Uz (w : World) (d : Nat) (a b : ByteArray) (u v : Int) (a' b' : ByteArray) (u' v' : Int) : (Op.equalIn (d + 3) 36 (Mc a b u v) (Mc a' b' u' v')).run Tryz.prog w = .ok (decide (eqC a b u v a' b' u' v')) w := by
 obtain ⟨n1, n2, n3, hcf⟩ := A5a
 have h1 := fun d' (k : IntKind) (a b : Int) => run_equalIn_int (P := Tryz.prog) w d' 3 k .i64 a b a2f
 have h2 := run_equalIn_struct (P := Tryz.prog) w (d + 2) 36 #[.string a, .string b, .int .i64 u, .int .i64 v] #[.string a', .string b', .int .i64 u', .int .i64 v'] Af9 A97
 have h5 := fun d' (x y : ByteArray) => run_equalIn_string (P := Tryz.prog) w d' 9 x y a5o
 have h6 := fun d' => run_equalIn_struct (P := Tryz.prog) w d' 34 #[.int .i64 u, .int .i64 v] #[.int .i64 u', .int .i64 v'] A7z A80
 rw [hcf] at h2
 rw [Tq] at h6
 unfold Mc
 rw [h2]
 simp [Op.eqFields, go_sem, h1, h5, h6, Lw, A7z]
 unfold eqC
 by_cases e1 : a = a' <;> by_cases e2 : b = b' <;> by_cases e3 : u = u' <;> by_cases e4 : v = v' <;> simp [*]
section
variable {N : Nat} {ops : Array Oper} {m : Option Nat} {K : Tm -> AH -> Prop} {tm : Tm} {H : AH} {rest : List Oper} {ty : TypeId} {pos : String} {af : Array Edge} {d : Nat} {x y : Operand}
theorem p3v {t u' : TypeId} {a b a' b' : ByteArray} {u v w z : Int} (ht : t = 36) (hx : evT tm x = some (.agg [.val (.string a), .val (.string b), .val (.int .i64 u), .val (.int .i64 v)])) (hy : evT tm y = some (.agg [.val (.string a'), .val (.string b'), .val (.int .i64 w), .val (.int .i64 z)])) (hN : Nat.ble (d + 1) N = true) (h : Reg m Tryz.prog N ops rest ((d, .val (.bool (decide (eqC a b u v a' b' w z)))) :: tm) H K) : Reg m Tryz.prog N ops (⟨some d, .binOp .eql t x y u', ty, pos, af, none⟩ :: rest) tm H K := by
 subst ht
 refine S.val (OpV.mk fun L w' ρ η hη hH => ?_) hN h
 have h1 := (hη x (by simp [Op.operands]) _ hx).flat (u := Mc a b u v) rfl
 have h2 := (hη y (by simp [Op.operands]) _ hy).flat (u := Mc a' b' w z) rfl
 refine ⟨_, ?_, A7 _⟩
 have h3 := run_eqGuard_agg (P := Tryz.prog) w' .eql 36 x y #[.string a, .string b, .int .i64 u, .int .i64 v] #[.string a', .string b', .int .i64 w, .int .i64 z] Xc
 have h4 := run_eql_struct (P := Tryz.prog) w' 36 #[.string a, .string b, .int .i64 u, .int .i64 v] #[.string a', .string b', .int .i64 w, .int .i64 z]
 have h5 := Uz w' 9997 a b u v a' b' w z
 unfold Mc at h1 h2 h5
 simp only [execOp, h1, h2, a0p, h3, a0l, h4]
 rw [h5]
 rfl
theorem p3z {t u' : TypeId} {a b a' b' : ByteArray} {u v w z : Int} (ht : t = 36) (hx : evT tm x = some (.agg [.val (.string a), .val (.string b), .val (.int .i64 u), .val (.int .i64 v)])) (hy : evT tm y = some (.agg [.val (.string a'), .val (.string b'), .val (.int .i64 w), .val (.int .i64 z)])) (hN : Nat.ble (d + 1) N = true) (h : Reg m Tryz.prog N ops rest ((d, .val (.bool (decide (¬ eqC a b u v a' b' w z)))) :: tm) H K) : Reg m Tryz.prog N ops (⟨some d, .binOp .neq t x y u', ty, pos, af, none⟩ :: rest) tm H K := by
 subst ht
 refine S.val (OpV.mk fun L w' ρ η hη hH => ?_) hN h
 have h1 := (hη x (by simp [Op.operands]) _ hx).flat (u := Mc a b u v) rfl
 have h2 := (hη y (by simp [Op.operands]) _ hy).flat (u := Mc a' b' w z) rfl
 refine ⟨_, ?_, A7 _⟩
 have h3 := run_eqGuard_agg (P := Tryz.prog) w' .neq 36 x y #[.string a, .string b, .int .i64 u, .int .i64 v] #[.string a', .string b', .int .i64 w, .int .i64 z] Xc
 have h4 := run_neq_struct (P := Tryz.prog) w' 36 #[.string a, .string b, .int .i64 u, .int .i64 v] #[.string a', .string b', .int .i64 w, .int .i64 z]
 have h5 := Uz w' 9997 a b u v a' b' w z
 unfold Mc at h1 h2 h5
 simp only [execOp, h1, h2, a0p, h3, a0l, h4]
 rw [h5]
 simp [go_sem]
end
theorem Uo (h : HouseR) (c : SheetR) (hf : h.fits) (hc : c.fits) (G : List Int) (hG : G.length <= 4611686018427387904) (e0 : ¬ alE h c G = 0) : Fn0 Tryz.prog 49 [A2 h.row, A2 c.row, .sl (G.map A3)] (.tup [.sl [], .i (alE h c G)]) := by
 have ce := Ow h c hf hc G hG e0
 generalize alE h c G = e at *
 refine Fn0.of b2v b1u rfl rfl rfl ?_
 simp only [A1]
 repeat' (first|refine W ?_|refine Y ?_|(refine p1z [(8, .ptr 2 0)] Tryz.func74 Tryz.ntmps74 rfl rfl rfl rfl rfl rfl rfl CW rfl ?_;intro vs;simp only [A1, List.cons_append, List.nil_append])|(apply T.ret;(first|change Ct Tryz.prog Tryz.f74 _ _ _ _ _ _|(dsimp only [C6, D1];change Ct Tryz.prog Tryz.f74 _ _ _ _ _ _));refine ⟨.inr rfl, [_], .cons (.tmp rfl) .nil, rfl, ?_⟩;show Reg none _ _ _ _ _ _ _)|(refine p0u 6 rfl ?_;apply T.ret;change Ba _ _ _ _ _)|refine V ?_|(refine W2 ?_ ?_<;>intro hc))
 all_goals exact D2 rfl rfl rfl
open Classical in
noncomputable def ckE (h : HouseR) (c : SheetR) (G : List Int) : Int := if alE h c G = 0 then Ht h c G (Aa h) else alE h c G
open Classical in
noncomputable def ckL (h : HouseR) (c : SheetR) (G : List Int) : List ConR := if alE h c G = 0 then Ma h c G else []
theorem A0o (h : HouseR) (c : SheetR) (hf : h.fits) (hc : c.fits) (G : List Int) (hG : G.length <= 4611686018427387904) : Fn0 Tryz.prog 49 [A2 h.row, A2 c.row, .sl (G.map A3)] (.tup [.sl ((ckL h c G).map ConR.row), .i (ckE h c G)]) := by
 unfold ckL ckE
 by_cases e0 : alE h c G = 0
 ·rw [if_pos e0, if_pos e0];exact A49 h c hf hc G hG e0
 ·rw [if_neg e0, if_neg e0];exact Uo h c hf hc G hG e0
theorem A16 {h : HouseR} {c : SheetR} {G : List Int} (e : ¬ ckE h c G = 0) : ckL h c G = [] := by
 unfold ckE at e
 unfold ckL
 split at e
 ·rename_i e0
  rw [if_pos e0]
  unfold Ma
  exact if_neg e
 ·rename_i e0
  exact if_neg e0
theorem Af8 {h : HouseR} {c : SheetR} {G : List Int} (e : ckE h c G = 0) : alE h c G = 0 /\ ckL h c G = Bi h c G (Aa h) := by
 unfold ckE at e
 split at e
 ·rename_i e0
  refine ⟨e0, ?_⟩
  unfold ckL Ma
  rw [if_pos e0, if_pos e]
 ·rename_i e0;exact absurd e e0
/-! ### Comparing -/
/-! ### The first contact -/
theorem Yo {h : HouseR} (hp : Cm h) : (Aa h).length <= 3600 := a2c (Mu h.sets h.sets.length) (a2c (a7u hp.2.2.2.1 hp.2.2.2.1) (by decide))
end Go.Proofs.YtlapbaiejnaeiaaGreatDoor
