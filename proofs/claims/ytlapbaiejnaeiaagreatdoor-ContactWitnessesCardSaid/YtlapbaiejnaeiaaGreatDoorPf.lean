/- Lemmas of the proof. -/
import Derived.Test.YtlapbaiejnaeiaaGreatDoorMi
import Derived.Test.YtlapbaiejnaeiaaGreatDoorMc
import Derived.Test.YtlapbaiejnaeiaaGreatDoorMj
import Derived.Test.YtlapbaiejnaeiaaGreatDoorPc
import Derived.Test.YtlapbaiejnaeiaaGreatDoorOm
import Derived.Test.YtlapbaiejnaeiaaGreatDoorOg
import Derived.Test.YtlapbaiejnaeiaaGreatDoorPe
import Derived.Test.YtlapbaiejnaeiaaGreatDoorMd
import Derived.Test.YtlapbaiejnaeiaaGreatDoorNz
import Derived.Test.YtlapbaiejnaeiaaGreatDoorMh
import Derived.Lib.UnsafeStr
import Derived.Test.YtlapbaiejnaeiaaGreatDoorMy
import Derived.Test.YtlapbaiejnaeiaaGreatDoorMk
import Derived.Test.YtlapbaiejnaeiaaGreatDoorNn
set_option linter.all false
set_option maxHeartbeats 64000000
namespace Go.Proofs.YtlapbaiejnaeiaaGreatDoor
open Go Go.RowKit
def a9g := @Rat.intCast_nonneg
def b0o := @List.isPrefixOf_iff_prefix
def b1l := @List.filterMap_append
def b2s := @Tryz.func36
structure ConR where
 a : ByteArray
 b : ByteArray
 lo : Int
 hi : Int
def ConR.row (x : ConR) : List Lf := [.s x.a, .s x.b, .i x.lo, .i x.hi]
abbrev Cb (l : List ConR) : List AV := (l.map ConR.row).flatten.map .lf
theorem J3 (l : List ConR) : ∀ r ∈ l.map ConR.row, r.length = 4 := by
 intro r hr
 obtain ⟨n, _, rfl⟩ := a1b.1 hr
 rfl
theorem Lq (l : List ConR) : (Cb l).length = l.length * 4 := by
 rw [a0a, Bi _ (J3 l), a0a]
theorem Pp (l : List ConR) (x : ConR) : Cb (l ++ [x]) = Cb l ++ ([x.row].flatten).map AV.lf := by simp [Cb]
theorem Abk {q : Rat} (h : mil (Ah q) = q) : Jo q := by
 unfold Jo
 have h1 := E8 (Ah q)
 rw [h] at h1
 have h2 := A0z q
 have h3 : ((1000 * q.num : Int) : Rat) = ((Ah q * q.den : Int) : Rat) := by
  rw [a3n, a3n, show ((1000 : Int) : Rat) = 1000 from rfl]
  grind
 have h4 : 1000 * q.num = Ah q * q.den := Rat.intCast_inj.1 h3
 rw [h4]
 exact Int.mul_emod_left _ _
theorem A8i {l : List PcQ} {fr te : Rat} {lo hi : Int} (h : B9 l fr te = .tup [A1 [.i lo, .i hi], .i 0]) (hr1 : Ba fr) (hr2 : Ba te) : hi = lo \/ hi = lo + 1 /\ mil lo < te := by
 obtain ⟨j, hst⟩ := V1 h
 unfold Ax at hst
 split at hst
 ·cases hst
 ·rename_i ho
  obtain ⟨g1, g2, g3⟩ := R9 ho
  split at hst
  ·injection hst with hst
   unfold enQ at hst
   split at hst
   ·simp only [a2a, Lf.val.injEq, a3a, true_and, and_true] at hst
    obtain ⟨rfl, rfl⟩ := hst
    exact .inl rfl
   ·rename_i hx
    simp only [a2a, Lf.val.injEq, a3a, true_and, and_true] at hst
    obtain ⟨rfl, rfl⟩ := hst
    refine .inr ⟨rfl, ?_⟩
    have h1 : mil (Ah (ptA (A5 l fr) fr j)) <= ptA (A5 l fr) fr j := mil_le.2 (a4m _)
    have h2 : ¬ mil (Ah (ptA (A5 l fr) fr j)) = ptA (A5 l fr) fr j := fun e => hx (Abk e)
    have h3 : mil (Ah (ptA (A5 l fr) fr j)) < ptA (A5 l fr) fr j := by grind
    have h4 : ptA (A5 l fr) fr j <= te := a0r g2 g3
    grind
  ·split at hst
   ·rename_i hb
    injection hst with hst
    obtain ⟨q1, q2⟩ := Xk hr1 hr2 ⟨g1, g2, g3⟩ hb
    unfold H9 at hst
    split at hst
    ·simp only [a2a, Lf.val.injEq, a3a, true_and, and_true] at hst
     obtain ⟨rfl, rfl⟩ := hst
     exact .inl rfl
    ·simp only [a2a, Lf.val.injEq, a3a, true_and, and_true] at hst
     obtain ⟨rfl, rfl⟩ := hst
     exact .inr ⟨rfl, by grind⟩
   ·cases hst
def pr3 : AV -> Int × Int × Int
 | .tup [.agg [.lf (.val (.int .i64 u)), .lf (.val (.int .i64 v))], .lf (.val (.int .i64 e))] => (u, v, e)
 | _ => (0, 0, 1)
theorem Tx (a b : SetR) (x y : List PcQ) (te : Rat) : F8 a b x y te = .tup [A1 [.i (pr3 (F8 a b x y te)).1, .i (pr3 (F8 a b x y te)).2.1], .i (pr3 (F8 a b x y te)).2.2] := by
 have key : ∃ u v e : Int, F8 a b x y te = .tup [A1 [.i u, .i v], .i e] := by
  unfold F8
  split
  ·split
   ·exact V0 _ _ _
   ·exact ⟨0, 0, _, rfl⟩
  ·exact ⟨0, 0, 12, rfl⟩
 obtain ⟨u, v, e, h⟩ := key
 rw [h]
 rfl
theorem A5c {a b : SetR} {x y : List PcQ} {te : Rat} {n u v : Int} (hte : te = mil n) (h0 : 0 <= n) (h1 : n <= 1099511627776000) (he : F8 a b x y te = .tup [A1 [.i u, .i v], .i 0]) : 0 <= u /\ u <= v /\ v <= u + 1 /\ v <= n := by
 have r1 : Ba 0 := ⟨by decide, by decide⟩
 have hm := E8 n
 have hn0 : (0 : Rat) <= (n : Rat) := a9g.2 h0
 have hn1 : (n : Rat) <= ((1099511627776000 : Int) : Rat) := a3h.2 h1
 rw [show ((1099511627776000 : Int) : Rat) = 1099511627776000 from rfl] at hn1
 have r2 : Ba te := by
  subst hte
  exact ⟨by grind, by grind⟩
 have hm0 : Ah 0 = 0 := by decide +kernel
 have hmn : ∀ m : Int, mil m <= te -> m <= n := fun m hle => by
  have k := E8 m
  subst hte
  have : (m : Rat) <= (n : Rat) := by grind
  exact a3h.1 this
 have hml : ∀ m : Int, mil m < te -> m < n := fun m hlt => by
  have k := E8 m
  subst hte
  have : (m : Rat) < (n : Rat) := by grind
  exact Rat.intCast_lt_intCast.1 this
 unfold F8 at he
 split at he
 ·split at he
  ·obtain ⟨g1, g2⟩ := Zv he r1 r2
   rw [hm0] at g1
   have g3 := hmn u g2
   rcases A8i he r1 r2 with rfl | ⟨rfl, g4⟩
   ·exact ⟨g1, a4m _, by omega, g3⟩
   ·have := hml u g4
    exact ⟨g1, by omega, by omega, by omega⟩
  ·rename_i hz
   exfalso
   simp only [spE, AV.tup.injEq, a2a, and_true] at he
   have h2 := he.2
   simp only [AV.lf.injEq, Lf.val.injEq, a3a, true_and] at h2
   exact hz h2
 ·exfalso
  simp [spE] at he
/-! ### Contacts -/
def Ip (h : HouseR) (n : ByteArray) : Option SetR := h.sets[(Ae h n).toNat]?
def U2 (h : HouseR) (n : ByteArray) : Nat := (Ae h n).toNat
noncomputable def Cf (h : HouseR) (c : SheetR) (G : List Int) (n : ByteArray) : Int := match Ip h n with
 | some s => if U7 c (stL h c G) (Cv h c) then Js h c (stL h c G) (U2 h n) s else 13
 | none => 9
def Bc (h : HouseR) (c : SheetR) (G : List Int) (n : ByteArray) : List PcQ := match Ip h n with
 | some s => Mf h c (stL h c G) (U2 h n) s
 | none => []
noncomputable instance (l : List PcQ) : Decidable (Be l) := Classical.propDecidable _
def En (h : HouseR) (c : SheetR) (G : List Int) : Rat := A9 (endI h c G) 1000
noncomputable def frT (a b : SetR) (x y : List PcQ) (te : Rat) : Int × Int × Int := if Be x /\ Be y then pr3 (F8 a b x y te) else (0, 0, 1)
noncomputable def ctR (h : HouseR) (c : SheetR) (G : List Int) (p : ByteArray × ByteArray) : Int × Int × Int := match Ip h p.1, Ip h p.2 with
 | some a, some b => if Cf h c G p.1 = 0 then (if Cf h c G p.2 = 0 then frT a b (Bc h c G p.1) (Bc h c G p.2) (En h c G) else (0, 0, Cf h c G p.2)) else (0, 0, Cf h c G p.1)
 | _, _ => (0, 0, 9)
noncomputable def Xa (h : HouseR) (c : SheetR) (G : List Int) (p : ByteArray × ByteArray) : Option ConR := if (ctR h c G p).2.2 = 0 then some ⟨p.1, p.2, (ctR h c G p).1, (ctR h c G p).2.1⟩ else none
noncomputable def Dm (h : HouseR) (c : SheetR) (G : List Int) (l : List (ByteArray × ByteArray)) : List ConR := l.filterMap (Xa h c G)
def Cx (h : HouseR) (c : SheetR) (G : List Int) (p : ByteArray × ByteArray) : Prop := (ctR h c G p).2.2 = 0 \/ (ctR h c G p).2.2 = 12
theorem A83 {h : HouseR} {c : SheetR} {G : List Int} {l : List (ByteArray × ByteArray)} {p : ByteArray × ByteArray} (e : (ctR h c G p).2.2 = 0) : Dm h c G (l ++ [p]) = Dm h c G l ++ [⟨p.1, p.2, (ctR h c G p).1, (ctR h c G p).2.1⟩] := by
 unfold Dm
 rw [b1l]
 congr 1
 simp [Xa, e]
theorem Ab0 {h : HouseR} {c : SheetR} {G : List Int} {l : List (ByteArray × ByteArray)} {p : ByteArray × ByteArray} (e : ¬ (ctR h c G p).2.2 = 0) : Dm h c G (l ++ [p]) = Dm h c G l := by
 unfold Dm
 rw [b1l]
 have : List.filterMap (Xa h c G) [p] = [] := by simp [Xa, e]
 rw [this, a2g]
theorem X9 (h : HouseR) (c : SheetR) (G : List Int) (l : List (ByteArray × ByteArray)) : (Dm h c G l).length <= l.length := List.length_filterMap_le _ _
theorem A7e (s : SetR) (n : ByteArray) : Fn0 Tryz.prog 89 [A1 s.row, .rop [.s n]] (.b (decide (s.name = n))) := by
 refine Fn0.of Tryz.func89 Tryz.ntmps89 rfl rfl rfl ?_
 simp only [A2]
 repeat' (first
  | refine W ?_

  | refine V ?_
  | (refine W2 ?_ ?_<;>intro hc))
 all_goals exact A4 (by simp) Tryz.results89 rfl (by rfl)
noncomputable def Nz (h : HouseR) (c : SheetR) (G : List Int) (n : ByteArray) : List PcQ := if Cf h c G n = 0 then Bc h c G n else []
theorem Ms (h : HouseR) (c : SheetR) (hf : h.fits) (hc : c.fits) (G : List Int) (hG : G.length <= 4611686018427387904) (e0 : alE h c G = 0) (n : ByteArray) (hn : ¬ Ae h n < 0) : Fn0 Tryz.prog 55 [A1 h.row, A1 c.row, .sl (G.map A3), .s n] (.tup [.sl ((Nz h c G n).map PcQ.row), .i (Cf h c G n)]) := by
 have cm := Pj h c hf hc G hG
 obtain ⟨p, er⟩ := Lk e0
 rw [e0, er] at cm
 have hs : Fn0 Tryz.prog 88 [.sl (h.sets.map SetR.row), .fn (.func 89) [] [.rop [.s n]]] (.i (Ae h n)) :=
  Jm h.sets SetR.row (fun s => s.name = n) _ _ (fun _ => rfl) hf.1 rfl fun s _ => A7e s n
 obtain ⟨s, hsi⟩ := J5 hn
 have hz : Ae h n = ((U2 h n : Nat) : Int) := by unfold U2;omega
 have hset : Ip h n = some s := hsi
 have hsk : h.sets[U2 h n]? = some s := hsi
 have co := A0k c (trL h c) (stL h c G) (Cv h c) (I5 h c G) (Fa h c _) (by have := p.v.2.1;omega) hc.2.2 p.st p.ln
 have cp := Aad h c G p hc hsk
 unfold plA at co cp
 rw [hz] at hs
 unfold Nz Bc Cf
 rw [hset]
 dsimp only
 generalize U2 h n = k at *
 have hk0 : ¬ (k : Int) < 0 := by omega
 by_cases ho : U7 c (stL h c G) (Cv h c)
 ·rw [decide_eq_true ho] at co
  simp only [ho, if_true]
  change Fn0 _ _ _ (.tup [.sl ((if Js h c (stL h c G) k s = 0 then Mf h c (stL h c G) k s else []).map PcQ.row), _]) at cp
  generalize (if Js h c (stL h c G) k s = 0 then Mf h c (stL h c G) k s else []) = O at *
  generalize Js h c (stL h c G) k s = e at *
  generalize stL h c G = u1 at *
  generalize Cv h c = u2 at *
  generalize trL h c = u3 at *
  refine Fn0.of Tryz.func55 Tryz.ntmps55 rfl rfl rfl ?_
  simp only [A2]
  repeat' (first|refine W ?_|(apply S.callV;exact rfl;exact hs;exact .cons (.one (.lf _)) (.cons (.fn (.cons (.ptr0 (cs := [.s n]) rfl) .nil)) .nil);exact rfl;exact rfl)|refine Y ?_|(apply p0b A0 (by decide +kernel))|refine V ?_|(refine W2 ?_ ?_<;>intro hc))
  all_goals exact D2 rfl rfl rfl
 ·rw [decide_eq_false ho] at co
  simp only [ho, if_false]
  rw [if_neg (show ¬ (13 : Int) = 0 by decide)]
  generalize stL h c G = u1 at *
  generalize Cv h c = u2 at *
  generalize trL h c = u3 at *
  refine Fn0.of Tryz.func55 Tryz.ntmps55 rfl rfl rfl ?_
  simp only [A2]
  repeat' (first|refine W ?_|(apply S.callV;exact rfl;exact hs;exact .cons (.one (.lf _)) (.cons (.fn (.cons (.ptr0 (cs := [.s n]) rfl) .nil)) .nil);exact rfl;exact rfl)|refine Y ?_|(apply p0b A0 (by decide +kernel))|(refine p0z 8 rfl ?_;apply T.ret;change Bj _ _ _ _ _)|refine V ?_|(refine W2 ?_ ?_<;>intro hc))
  all_goals exact D2 rfl rfl rfl
theorem Iu (h : HouseR) (hf : h.fits) (hp : Cn h) (n : ByteArray) (hn : ¬ Ae h n < 0) : Fn0 Tryz.prog 52 [A1 h.row, .s n] (.tup [.i (Ae h n), .i 0]) := by
 have hv := G6 h hf
 rw [decide_eq_true hp] at hv
 have cf := Sf h n hf.1
 generalize Ae h n = i at *
 refine Fn0.of Tryz.func52 Tryz.ntmps52 rfl rfl rfl ?_
 simp only [A2]
 repeat' (first|refine W ?_|refine Y ?_|refine V ?_|(refine W2 ?_ ?_<;>intro hc))
 all_goals exact D2 rfl rfl rfl
def unQ (p : PcQ) : PieceR := ⟨p.f.num, p.f.den, p.a.num, p.a.den, p.b.num, p.b.den, p.c.num, p.c.den⟩
theorem Acl (x : List PcQ) : (x.map unQ).map PieceR.row = x.map PcQ.row := by rw [a8j];rfl
theorem Acg (p : PcQ) : toQ (unQ p) = p := by
 unfold toQ unQ A9
 simp only [b3n]
theorem Vy {x : List PcQ} (h : ¬ Be x) (hn : x.length <= 1000000) : Fn0 Tryz.prog 124 [.sl (x.map PcQ.row)] (.b false) := by
 have := Vm (x.map unQ) (by rw [a0a];exact hn)
 rw [Acl, decide_eq_false (fun k => h (by have := (A53 k).2.2.2;rwa [a8j, show toQ ∘ unQ = id from funext Acg, List.map_id] at this))] at this
 exact this
structure TwoP (a b : SetR) (x y : List PcQ) : Prop where
 pa : Ec a
 pb : Ec b
 fa : a.fits
 fb : b.fits
 ox : okC x
 oy : okC y
 x0 : x ≠ []
 y0 : y ≠ []
 nx : x.length <= 200
 ny : y.length <= 200
theorem W8 (a b : SetR) (x y : List PcQ) (h : TwoP a b x y) (t : List Lf) (ht : t.length = 2) (hs : ¬ (Be x /\ Be y)) : Fn0 Tryz.prog 93 [A1 a.row, A1 b.row, .sl (x.map PcQ.row), .sl (y.map PcQ.row), A1 t] (.i 1) := by
 have va := F6 a h.fa
 have vb := F6 b h.fb
 rw [decide_eq_true h.pa] at va
 rw [decide_eq_true h.pb] at vb
 match t, ht with
 | [u, v], _ =>
 by_cases sx : Be x
 ·have vx := J0 x h.ox sx (a1n.2 h.x0) h.nx
  have vy := Vy (fun k => hs ⟨sx, k⟩) (by have := h.ny;omega)
  refine Fn0.of b2z b2a rfl rfl rfl ?_
  simp only [A2]
  repeat' (first|refine W ?_|refine Y ?_|refine V ?_|(refine W2 ?_ ?_<;>intro hc))
  all_goals exact A4 (by simp) b0t rfl rfl
 ·have vx := Vy sx (by have := h.nx;omega)
  refine Fn0.of b2z b2a rfl rfl rfl ?_
  simp only [A2]
  repeat' (first|refine W ?_|refine Y ?_|refine V ?_|(refine W2 ?_ ?_<;>intro hc))
  all_goals exact A4 (by simp) b0t rfl rfl
theorem A2g (a b : SetR) (x y : List PcQ) (h : TwoP a b x y) (te : Rat) (ht : Fits te) (h0 : 0 <= te) (h1 : te <= 1099511627776) :
  Fn0 Tryz.prog 57 [A1 a.row, A1 b.row, .sl (x.map PcQ.row), .sl (y.map PcQ.row), A1 (frR te)] (.tup [A1 [.i (frT a b x y te).1, .i (frT a b x y te).2.1], .i (frT a b x y te).2.2]) := by
 by_cases hs : Be x /\ Be y
 ·have := Uq a b x y ⟨h.pa, h.pb, h.fa, h.fb, h.ox, h.oy, h.x0, h.y0, hs.1, hs.2, h.nx, h.ny⟩ te ht h0 h1
  rw [Tx] at this
  unfold frT
  rw [if_pos hs]
  exact this
 ·have cg := W8 a b x y h (frR te) rfl hs
  unfold frT
  rw [if_neg hs]
  refine Fn0.of a7b a6v rfl rfl rfl ?_
  simp only [A2]
  repeat' (first|refine W ?_|refine Y ?_|refine V ?_|(refine W2 ?_ ?_<;>intro hc))
  all_goals exact ⟨.inr rfl, [A1 [.i 0, .i 0], .i 1], .cons (Res.row [.i 0, .i 0] rfl rfl rfl rfl rfl) (.cons (.tmp rfl) .nil), .tup (.cons (.agg (A6 [.i 0, .i 0])) (.cons (.one (.lf _)) .nil))⟩
instance : HasU Tryz.prog 72 (.interface (Tryz.prog.methodsAt 72)) := ⟨by kernel_rfl⟩
theorem Xs : Tryz.prog.globalNamed "internal/bytealg.MaxLen" = some 0 := by kernel_rfl
theorem A8q : Tryz.prog.globalNamed "strconv.ErrSyntax" = some 1 := by kernel_rfl
theorem A8p : Tryz.prog.globalNamed "strconv.ErrRange" = some 2 := by kernel_rfl
theorem Acc (s sep : ByteArray) (hs : s.size < 4294967281) : Fn0 Tryz.prog 34 [.s s, .s sep] (.tup [.s ⟨(Lib.cut s.data.toList sep.data.toList).1.toArray⟩, .s ⟨(Lib.cut s.data.toList sep.data.toList).2.1.toArray⟩, .b (Lib.cut s.data.toList sep.data.toList).2.2]) := by
 refine ⟨⟨_, Tryz.func34, rfl, rfl⟩, fun L w vs hG hL hl hv => ?_⟩
 match vs, hl with
 | [u, v], _ =>
  obtain rfl := (hv 0 (.s s) u rfl rfl).val_eq
  obtain rfl := (hv 1 (.s sep) v rfl rfl).val_eq
  obtain ⟨m, hm⟩ := hG.len _ Xs
  refine (Tryz.strings_Cut s sep m w hs hm).mono ?_
  rintro e w' ⟨rfl, n, rfl⟩
  refine ⟨_, rfl, .tup _ [_, _, _] rfl (fun i x v hx hv => ?_), ?_⟩
  ·match i with
   | 0 => simp at hx hv;subst hx hv;exact A7 _
   | 1 => simp at hx hv;subst hx hv;exact A7 _
   | 2 => simp at hx hv;subst hx hv;exact A7 _
   | i + 3 => simp at hx
  ·exact ⟨rfl, rfl, rfl, a0l _, fun i hi => rfl⟩
theorem Wg (s p : ByteArray) : Fn0 Tryz.prog 37 [.s s, .s p] (.b (Lib.hasPrefix s.data.toList p.data.toList)) := by
 refine ⟨⟨_, Tryz.func37, rfl, rfl⟩, fun L w vs hG hL hl hv => ?_⟩
 match vs, hl with
 | [u, v], _ =>
  obtain rfl := (hv 0 (.s s) u rfl rfl).val_eq
  obtain rfl := (hv 1 (.s p) v rfl rfl).val_eq
  refine (Tryz.strings_HasPrefix s p w).mono ?_
  rintro e w' ⟨rfl, rfl⟩
  exact ⟨_, rfl, A7 _, ⟨rfl, rfl, rfl, a0l _, fun i hi => rfl⟩⟩
def Es (s sep : ByteArray) : List ByteArray := Lib.splitB sep 0 (Lib.countB s sep) s
theorem Qj (s sep : ByteArray) : (Es s sep).map (·.data.toList) = Lib.split s.data.toList sep.data.toList := Lib.splitB_data _ _ _ _
theorem A43 (s sep : ByteArray) (h1 : 1 <= sep.size) : (Es s sep).length = Lib.countB s sep + 1 := Lib.splitB_all sep h1 0 _ s rfl
theorem A7r {s sep w : ByteArray} (h : w ∈ Es s sep) : w.size <= s.size := by
 have h1 : w.data.toList ∈ Lib.split s.data.toList sep.data.toList := by rw [<- Qj];exact a1b.2 ⟨w, h, rfl⟩
 have := Aa8 h1
 rw [a4a, a4a] at this
 exact this
theorem A76 (s sep : ByteArray) (hs : s.size < 4294967281) (h1 : 1 <= sep.size) : Fn0 Tryz.prog 35 [.s s, .s sep] (.sl ((Es s sep).map fun x => [.s x])) := by
 refine ⟨⟨_, Tryz.func35, rfl, rfl⟩, fun L w vs hG hL hl hv => ?_⟩
 match vs, hl with
 | [u, v], _ =>
  obtain rfl := (hv 0 (.s s) u rfl rfl).val_eq
  obtain rfl := (hv 1 (.s sep) v rfl rfl).val_eq
  obtain ⟨m, hm⟩ := hG.len _ Xs
  refine (Tryz.strings_Split s sep m w hs hm h1).mono ?_
  rintro e w' ⟨rfl, rfl⟩
  have hlen := A43 s sep h1
  have hcell : ∀ (i : Nat) (x : ByteArray), (Es s sep)[i]? = some x -> (w.alloc (.cells ((Lib.splitB sep 0 (Lib.countB s sep) s).map Value.string).toArray 9)).cell? ⟨w.heap.size, 0 + (i * 1 + 0), none⟩ = some (.string x) := fun i x hx => by
   have h0 : (w.alloc (.cells ((Lib.splitB sep 0 (Lib.countB s sep) s).map Value.string).toArray 9)).heap[w.heap.size]? = some (.cells ((Lib.splitB sep 0 (Lib.countB s sep) s).map Value.string).toArray 9 (0, 0)) := B7 _ _
   refine Bd h0 ?_
   rw [a8i, a0e, a1r]
   have hx' : (Lib.splitB sep 0 (Lib.countB s sep) s)[i * 1 + 0]? = some x := by simpa [Es] using hx
   rw [hx'];rfl
  have hb : Below w.heap.size w (w.alloc (.cells ((Lib.splitB sep 0 (Lib.countB s sep) s).map Value.string).toArray 9)) := (Below.refl _ _).alloc (a0l _) _
  refine ⟨_, rfl, .lf _ _ ?_, hb⟩
  have hl2 : ((Es s sep).map fun x => [Lf.s x]).length = Lib.countB s sep + 1 := by rw [a0a, hlen]
  rw [<- hl2]
  have hrow : ∀ (i : Nat) (row : List Lf) (j : Nat) (x : Lf), ((Es s sep).map fun x => [Lf.s x])[i]? = some row -> row[j]? = some x -> ∃ y, (Es s sep)[i]? = some y /\ j = 0 /\ x = Lf.s y /\ row.length = 1 := fun i row j x hi hj => by
   rw [a0e] at hi
   cases hy : (Es s sep)[i]? with
   | none => rw [hy] at hi;cases hi
   | some y =>
    rw [hy] at hi
    simp only [a1c, a0f] at hi
    subst hi
    cases j with
    | zero => simp at hj;exact ⟨y, rfl, rfl, hj.symm, rfl⟩
    | succ j => simp at hj
  refine .sl _ ⟨w.heap.size, 0, none⟩ _ (fun i _ => .string ((Es s sep).getD i ⟨#[]⟩)) (.inl rfl) (a0l _) (fun i row j x hi hj => ?_) (fun i row j x hi hj => ?_)
  ·obtain ⟨y, hy, rfl, rfl, hr⟩ := hrow i row j x hi hj
   refine ⟨fun hf => ?_, ?_⟩
   ·exact absurd (hL _ ((Dk L _).1 hf)) (b0z _)
   ·rw [hr]
    have := hcell i y hy
    rw [this, a0p, hy];rfl
  ·obtain ⟨y, hy, rfl, rfl, hr⟩ := hrow i row j x hi hj
   rw [a0p, hy]
   exact .val _
theorem A0h (s : ByteArray) (hs : s.size <= 281474976710656) {v : Int} (h : Lib.atoiAll s.data.toList = .ok v) : Fn0 Tryz.prog 36 [.s s] (.tup [.i v, .val .nilIface]) := by
 refine ⟨⟨_, b2s, rfl, rfl⟩, fun L w vs hG hL hl hv => ?_⟩
 match vs, hl with
 | [u], _ =>
  obtain rfl := (hv 0 (.s s) u rfl rfl).val_eq
  refine (Tryz.strconv_Atoi_ok s (by omega) v h w).mono ?_
  rintro e w' ⟨rfl, hw⟩
  refine ⟨_, rfl, .tup _ [_, _] rfl (fun i x v hx hv => ?_), ?_⟩
  ·match i with
   | 0 => simp at hx hv;subst hx hv;exact A7 _
   | 1 => simp at hx hv;subst hx hv;exact A7 _
   | i + 2 => simp at hx
  ·rcases hw with rfl | ⟨t, rfl⟩
   ·exact ⟨rfl, rfl, rfl, a0l _, fun i hi => rfl⟩
   ·exact Lib.below_freeze (((Below.refl _ _).drew).alloc (a0l _) _) (a0l _) _
theorem Z1 (s : ByteArray) (hs : s.size <= 281474976710656) (h : ∀ v, Lib.atoiAll s.data.toList ≠ .ok v) : ∃ n : Int, (-9223372036854775808 <= n /\ n <= 9223372036854775807) /\ Fn0 Tryz.prog 36 [.s s] (.tup [.i n, .err]) := by
 have two : ∀ {w' : World} {L : Nat -> Prop} {n : Int} {t : TypeId} {p : Value}, RelV w' L Ap (.tup [.i n, .err]) (.tuple #[.int .i64 n, .iface t p]) := fun {w' L n t p} => .tup _ [_, _] rfl fun i x v hx hv => by
  match i with
  | 0 => simp at hx hv;subst hx hv;exact A7 _
  | 1 => simp at hx hv;subst hx hv;exact .err _ _
  | i + 2 => simp at hx
 cases h0 : Lib.atoiAll s.data.toList with
 | ok v => exact absurd h0 (h v)
 | range =>
  refine ⟨Lib.atoiSat s.data.toList, by unfold Lib.atoiSat;split <;> omega, ⟨⟨_, b2s, rfl, rfl⟩, fun L w vs hG hL hl hv => ?_⟩⟩
  match vs, hl with
  | [u], _ =>
   obtain rfl := (hv 0 (.s s) u rfl rfl).val_eq
   obtain ⟨ev, h1, h2⟩ := hG.ran _ A8p
   refine (Tryz.strconv_Atoi_range s (by omega) h0 ev w h1 h2).mono ?_
   rintro e w' ⟨N, rfl, _, _, hb⟩
   exact ⟨_, rfl, two, hb⟩
 | _ =>
  refine ⟨0, by omega, ⟨⟨_, b2s, rfl, rfl⟩, fun L w vs hG hL hl hv => ?_⟩⟩
  match vs, hl with
  | [u], _ =>
   obtain rfl := (hv 0 (.s s) u rfl rfl).val_eq
   obtain ⟨ev, h1, h2⟩ := hG.syn _ A8q
   refine (Tryz.strconv_Atoi_syntax s (by omega) (h0.trans rfl) ev w h1 h2).mono ?_
   rintro e w' ⟨N, rfl, _, _, hb⟩
   exact ⟨_, rfl, two, hb⟩
def Am (x : ConR) : List ByteArray := [x.a, x.b, Hc x.lo, Hc x.hi]
def Bz (x : ConR) : List (List UInt8) := (Am x).map (·.data.toList)
def Ie (lo hi : Int) : Prop := (0 <= lo /\ lo <= 1125899906842624) /\ (hi = lo \/ hi = lo + 1)
instance (lo hi : Int) : Decidable (Ie lo hi) := by unfold Ie;exact inferInstance
def Av (x : ConR) : Prop := Ct x.a = true /\ Ct x.b = true /\ Ie x.lo x.hi
instance (x : ConR) : Decidable (Av x) := by unfold Av;exact inferInstance
def Bf (l : List ConR) : List UInt8 := bytesOf (l.map Am)
theorem Da (x : ConR) (l : List ConR) : Bf (x :: l) = Cm (Am x) ++ Bf l := rfl
theorem Og (l m : List ConR) : Bf (l ++ m) = Bf l ++ Bf m := by unfold Bf;rw [a1u, X0]
theorem Vw (x : ConR) : Bf [x] = Cm (Am x) := by unfold Bf bytesOf;simp
theorem Oh : Bf [] = [] := rfl
def K8 (s : List UInt8) (l : List ConR) : Prop := s = Bf l /\ (∀ x ∈ l, Av x) /\ l.length <= 1000
theorem Xz {c : UInt8} (hc : c.toNat < 45) (n : Int) : c ∉ Lib.itoa n := by
 unfold Lib.itoa
 split
 ·intro h
  rcases a1j.1 h with h | h
  ·subst h;exact absurd hc (by decide)
  ·have := Nc _ _ h;omega
 ·intro h
  have := Nc _ _ h;omega
theorem Y8 {s : ByteArray} (h : Ct s = true) {c : UInt8} (hc : ¬ Gi c.toNat) : c ∉ s.data.toList := by
 simp only [Ct, a0y, decide_eq_true_eq] at h
 obtain ⟨_, hw⟩ := h
 intro h10
 have hl : s.data.toList.takeWhile (fun c => decide (Gi c.toNat)) = s.data.toList := by
  refine (List.takeWhile_prefix _).eq_of_length ?_
  have : (Ey s : Int) = s.size := hw
  unfold Ey at this
  rw [a4a]
  exact Int.ofNat.inj this
 have ha := List.all_takeWhile (p := fun c : UInt8 => decide (Gi c.toNat)) (l := s.data.toList)
 rw [hl] at ha
 have := a0k.1 ha c h10
 exact hc (of_decide_eq_true this)
theorem A21 {x : ConR} (h : Av x) {c : UInt8} (hc : c = 32 \/ c = 10) : ∀ w ∈ Bz x, c ∉ w := by
 intro w hw
 simp only [Bz, Am, a1q, a4h, a1j, a2e, or_false] at hw
 have c1 : c.toNat < 45 := by rcases hc with rfl | rfl <;> decide
 have c2 : ¬ Gi c.toNat := by rcases hc with rfl | rfl <;> decide
 rcases hw with rfl | rfl | rfl | rfl
 ·exact Y8 h.1 c2
 ·exact Y8 h.2.1 c2
 ·exact Xz c1 _
 ·exact Xz c1 _
theorem M7 (x : ConR) : Cm (Am x) = Lib.join (Bz x) [32] ++ [10] := rfl
theorem Abe {x : ConR} (h : Av x) : (10 : UInt8) ∉ Lib.join (Bz x) [32] := A2n _ (A21 h (.inr rfl))
theorem Ht {x : ConR} (h : Av x) (t : List UInt8) : Lib.cut (Cm (Am x) ++ t) [10] = (Lib.join (Bz x) [32], t, true) := by
 rw [M7, a2v]
 exact Ab1 (Abe h)
theorem Hn {x : ConR} (h : Av x) : Lib.split (Lib.join (Bz x) [32]) [32] = Bz x := Tb _ (by simp [Bz, Am]) (A21 h (.inl rfl))
theorem J2 {x : ConR} (h : Av x) : (-9223372036854775808 <= x.lo /\ x.lo <= 9223372036854775807) /\ (-9223372036854775808 <= x.hi /\ x.hi <= 9223372036854775807) := by
 obtain ⟨_, _, h1, h2⟩ := h
 omega
theorem A0y {x y : ConR} (hx : Av x) (hy : Av y) (h : Bz x = Bz y) : x = y := by
 simp only [Bz, Am, a1q, a4h, a2a, and_true] at h
 obtain ⟨h1, h2, h3, h4⟩ := h
 obtain ⟨a1, a2⟩ := J2 hx
 obtain ⟨b1, b2⟩ := J2 hy
 have e3 := Xy a1.1 a1.2 b1.1 b1.2 h3
 have e4 := Xy a2.1 a2.2 b2.1 b2.2 h4
 have e1 := Kz h1
 have e2 := Kz h2
 cases x;cases y
 simp only at e1 e2 e3 e4
 subst e1 e2 e3 e4
 rfl
theorem Z7 : ∀ {l m : List ConR}, (∀ x ∈ l, Av x) -> (∀ x ∈ m, Av x) -> Bf l = Bf m -> l = m
 | [], [], _, _, _ => rfl
 | [], y :: m, _, hm, h => by
  rw [Da, M7] at h
  exact absurd (congrArg List.length h) (by simp [Oh])
 | x :: l, [], hl, _, h => by
  rw [Da, M7] at h
  exact absurd (congrArg List.length h) (by simp [Oh])
 | x :: l, y :: m, hl, hm, h => by
  rw [Da, Da] at h
  have h1 := Ht (hl x (by simp)) (Bf l)
  rw [h, Ht (hm y (by simp))] at h1
  simp only [a1e, and_true] at h1
  have h2 := Hn (hl x (by simp))
  rw [<- h1.1, Hn (hm y (by simp))] at h2
  rw [A0y (hl x (by simp)) (hm y (by simp)) h2.symm, Z7 (fun z hz => hl z (by simp [hz])) (fun z hz => hm z (by simp [hz])) h1.2.symm]
theorem A8r {s : List UInt8} {l m : List ConR} (hl : K8 s l) (hm : K8 s m) : l = m := Z7 hl.2.1 hm.2.1 (hl.1.symm.trans hm.1)
open Classical in
noncomputable def R7 (s : List UInt8) : List ConR := if h : ∃ l, K8 s l then h.choose else []
open Classical in
noncomputable def R6 (s : List UInt8) : Int := if ∃ l, K8 s l then 0 else 7
theorem A69 {s : List UInt8} {l : List ConR} (h : K8 s l) : R7 s = l /\ R6 s = 0 := by
 have he : ∃ l, K8 s l := ⟨l, h⟩
 unfold R7 R6
 rw [dif_pos he, if_pos he]
 exact ⟨A8r he.choose_spec h, rfl⟩
theorem Aby {s : List UInt8} (h : ¬ ∃ l, K8 s l) : R7 s = [] /\ R6 s = 7 := by
 unfold R7 R6
 rw [dif_neg h, if_neg h]
 exact ⟨rfl, rfl⟩
theorem Qh : ∀ {o l : List ConR} {t : List UInt8}, (∀ x ∈ o, Av x) -> (∀ x ∈ l, Av x) -> Bf l = Bf o ++ t -> ∃ r, l = o ++ r /\ t = Bf r
 | [], l, t, _, _, h => ⟨l, rfl, by rw [h];rfl⟩
 | x :: o, [], t, ho, _, h => by
  rw [Da, M7] at h
  exact absurd (congrArg List.length h) (by simp [Oh])
 | x :: o, y :: l, t, ho, hl, h => by
  rw [Da, Da, a2v] at h
  have h1 := Ht (hl y (by simp)) (Bf l)
  rw [h, Ht (ho x (by simp))] at h1
  simp only [a1e, and_true] at h1
  have h2 := Hn (hl y (by simp))
  rw [<- h1.1, Hn (ho x (by simp))] at h2
  obtain ⟨r, e1, e2⟩ := Qh (fun z hz => ho z (by simp [hz])) (fun z hz => hl z (by simp [hz])) h1.2.symm
  exact ⟨r, by rw [A0y (ho x (by simp)) (hl y (by simp)) h2, e1];rfl, e2⟩
theorem A62 {s t : List UInt8} {o l : List ConR} (hg : K8 s l) (ho : ∀ x ∈ o, Av x) (hs : s = Bf o ++ t) (ht : t ≠ []) :
  ∃ x, Av x /\ Lib.split (Lib.cut t [10]).1 [32] = Bz x /\ o.length < 1000 /\ Lib.atoiAll (Lib.itoa x.lo) = .ok x.lo /\ Lib.atoiAll (Lib.itoa x.hi) = .ok x.hi /\ Lib.hasPrefix t (Cm (Am x)) = true := by
 obtain ⟨r, rfl, rfl⟩ := Qh ho hg.2.1 (hg.1.symm.trans hs)
 cases r with
 | nil => exact absurd rfl ht
 | cons x r =>
  have hx := hg.2.1 x (by simp)
  obtain ⟨b1, b2⟩ := J2 hx
  have hl := hg.2.2
  rw [a0q, a0i] at hl
  refine ⟨x, hx, ?_, by omega, K4 _ b1.1 b1.2, K4 _ b2.1 b2.2, ?_⟩
  ·rw [Da, Ht hx, Hn hx]
  ·rw [Da]
   exact b0o.2 ⟨_, rfl⟩
theorem Abr {t : List UInt8} {x : ConR} (hx : Av x) (hp : Lib.hasPrefix t (Cm (Am x)) = true) : t = Cm (Am x) ++ (Lib.cut t [10]).2.1 := by
 obtain ⟨r, hr⟩ := b0o.1 hp
 rw [<- hr, Ht hx]
theorem Pz {x : ConR} (h : Av x) : U6 (Am x) := by
 obtain ⟨h1, h2, h3⟩ := h
 obtain ⟨b1, b2⟩ := J2 (x := x) ⟨h1, h2, h3⟩
 refine ⟨by simp [Am], fun w hw => ?_⟩
 simp only [Am, a1j, a2e, or_false] at hw
 simp only [Ct, a0y, decide_eq_true_eq] at h1 h2
 rcases hw with rfl | rfl | rfl | rfl
 ·have := h1.1.1.2;omega
 ·have := h2.1.1.2;omega
 ·have := Iv b1.1 b1.2;omega
 ·have := Iv b2.1 b2.2;omega
theorem A1y {l : List ConR} (h : ∀ x ∈ l, Av x) : (Bf l).length <= l.length * 428 := by
 have := X1 (l.map Am) fun ws hws => by
  obtain ⟨x, hx, rfl⟩ := a1b.1 hws
  exact Pz (h x hx)
 rwa [a0a] at this
/-! ### Numbers -/
/-! ### Where the reading stands -/
theorem Ut (lo hi : Int) : Fn0 Tryz.prog 54 [A1 [.i lo, .i hi]] (.b (decide (Ie lo hi))) := by
 refine Fn0.of Tryz.func54 Tryz.ntmps54 rfl rfl rfl ?_
 simp only [A2]
 repeat' (first|refine W ?_|refine Y ?_|refine V ?_|(refine W2 ?_ ?_<;>intro hc))
 all_goals exact A4 (by simp) Tryz.results54 rfl (by simp only [Value.bool.injEq];first | rfl|(rw [decide_eq_decide];unfold Ie;omega)|(symm;rw [decide_eq_true_iff];unfold Ie;omega)|(symm;rw [decide_eq_false_iff_not];unfold Ie;omega))
theorem Q2 (x : ConR) : Fn0 Tryz.prog 30 [A1 x.row] (.b (decide (Av x))) := by
 have n1 := Cs x.a
 have n2 := Cs x.b
 have b1 := Ut x.lo x.hi
 refine Fn0.of Tryz.func30 Tryz.ntmps30 rfl rfl rfl ?_
 simp only [A2]
 repeat' (first|refine W ?_|refine Y ?_|refine V ?_|(refine W2 ?_ ?_<;>intro hc))
 all_goals exact A4 (by simp) Tryz.results30 rfl (by simp [Av, *])
theorem A4q (x : ConR) : x.a ++ ⟨#[32]⟩ ++ x.b ++ ⟨#[32]⟩ ++ Hc x.lo ++ ⟨#[32]⟩ ++ Hc x.hi ++ ⟨#[10]⟩ = ofL (Cm (Am x)) := by
 apply Kz
 simp only [A4b, Fd, Cm, Am]
 simp [Lib.join, List.intercalate, Hc]
theorem A4s {x : ConR} (h : Av x) : x.a.size <= 20 /\ x.b.size <= 20 /\ (Hc x.lo).size <= 21 /\ (Hc x.hi).size <= 21 := by
 obtain ⟨b1, b2⟩ := J2 h
 obtain ⟨h1, h2, h3⟩ := h
 simp only [Ct, a0y, decide_eq_true_eq] at h1 h2
 have e1 := h1.1.1.2
 have e2 := h2.1.1.2
 exact ⟨by omega, by omega, Iv b1.1 b1.2, Iv b2.1 b2.2⟩
theorem Xb (x : ConR) (h : Av x) : Fn0 Tryz.prog 32 [A1 x.row] (.s (ofL (Cm (Am x)))) := by
 obtain ⟨b1, b2⟩ := J2 h
 obtain ⟨s1, s2, s3, s4⟩ := A4s h
 have i1 := Z2 x.lo b1.1 b1.2
 have i2 := Z2 x.hi b2.1 b2.2
 refine Fn0.of Tryz.func32 Tryz.ntmps32 rfl rfl rfl ?_
 simp only [A2]
 repeat' (first|refine W ?_|refine Y ?_|(apply p4k;(iterate 3 exact rfl);(simp only [ByteArray.size_append, A95, a3z, a0i, a0n];omega))|(apply p0b A0 (by decide +kernel))|(apply p0e 20 A0 (by decide +kernel);simp only [td])|refine V ?_|(refine W2 ?_ ?_<;>intro hc))
 all_goals exact A4 (by simp) Tryz.results32 rfl (by rw [A4q])
theorem To {h : HouseR} {c : SheetR} {G : List Int} {l : List (ByteArray × ByteArray)} {x : ConR} (hx : x ∈ Dm h c G l) : (x.a, x.b) ∈ l /\ ctR h c G (x.a, x.b) = (x.lo, x.hi, 0) := by
 obtain ⟨p, hp, hx⟩ := b3j.1 hx
 unfold Xa at hx
 split at hx
 ·rename_i e
  injection hx with hx
  subst hx
  exact ⟨hp, by rw [<- e]⟩
 ·cases hx
theorem A85 {h : HouseR} {c : SheetR} {G : List Int} (p : PlanOk h c G) {l : List (ByteArray × ByteArray)} {x : ConR} (hx : x ∈ Dm h c G l) : 0 <= x.lo /\ x.lo <= x.hi /\ x.hi <= x.lo + 1 /\ x.hi <= endI h c G := by
 obtain ⟨_, hc⟩ := To hx
 unfold ctR at hc
 split at hc
 ·rename_i a b _ _
  split at hc
  ·split at hc
   ·unfold frT at hc
    split at hc
    ·have hf := Tx a b (Bc h c G x.a) (Bc h c G x.b) (En h c G)
     rw [hc] at hf
     have := p.endI
     exact A5c (n := endI h c G) rfl this.1 (by omega) hf
    ·simp at hc
   ·rename_i e
    simp only [a1e] at hc
    exact absurd hc.2.2 e
  ·rename_i e
   simp only [a1e] at hc
   exact absurd hc.2.2 e
 ·simp at hc
set_option maxRecDepth 100000 in
theorem A4o : ∃ n1 n2 n3 : Nat, Tryz.prog.fieldsOf 36 = #[⟨"First", 9, 0, false, "", "", n1⟩, ⟨"Second", 9, 1, false, "", "", n2⟩, ⟨"At", 34, 2, false, "", "", n3⟩] := by
 unfold Program.fieldsOf
 rw [a5m]
 exact ⟨_, _, _, rfl⟩
theorem A84 : Tryz.prog.stoodInHeld 36 = false := by kernel_rfl
theorem X8 : Tryz.prog.eqGuardType Tryz.prog.depth 36 = false := by kernel_rfl
theorem Adw : Tryz.prog.underlying 36 = some (.struct (Tryz.prog.fieldsOf 36)) := by
 unfold Program.fieldsOf
 rw [a5m]
def Lw (a b : ByteArray) (u v : Int) : Value := .agg #[.string a, .string b, .int .i64 u, .int .i64 v]
def eqC (a b : ByteArray) (u v : Int) (a' b' : ByteArray) (u' v' : Int) : Prop := a = a' /\ b = b' /\ u = u' /\ v = v'
instance (a b : ByteArray) (u v : Int) (a' b' : ByteArray) (u' v' : Int) : Decidable (eqC a b u v a' b' u' v') := by unfold eqC;exact inferInstance
set_option maxRecDepth 100000 in
theorem Uu (w : World) (d : Nat) (a b : ByteArray) (u v : Int) (a' b' : ByteArray) (u' v' : Int) : (Op.equalIn (d + 3) 36 (Lw a b u v) (Lw a' b' u' v')).run Tryz.prog w = .ok (decide (eqC a b u v a' b' u' v')) w := by
 obtain ⟨n1, n2, n3, hcf⟩ := A4o
 have h1 := fun d' (k : IntKind) (a b : Int) => run_equalIn_int (P := Tryz.prog) w d' 3 k .i64 a b a2k
 have h2 := run_equalIn_struct (P := Tryz.prog) w (d + 2) 36 #[.string a, .string b, .int .i64 u, .int .i64 v] #[.string a', .string b', .int .i64 u', .int .i64 v'] Adw A84
 have h5 := fun d' (x y : ByteArray) => run_equalIn_string (P := Tryz.prog) w d' 9 x y a5s
 have h6 := fun d' => run_equalIn_struct (P := Tryz.prog) w d' 34 #[.int .i64 u, .int .i64 v] #[.int .i64 u', .int .i64 v'] Yz Vt
 rw [hcf] at h2
 rw [Mo] at h6
 unfold Lw
 rw [h2]
 simp [Op.eqFields, go_sem, h1, h5, h6, Lc, Yz]
 unfold eqC
 by_cases e1 : a = a' <;> by_cases e2 : b = b' <;> by_cases e3 : u = u' <;> by_cases e4 : v = v' <;> simp [*]
section
variable {N : Nat} {ops : Array Oper} {m : Option Nat} {K : Tm -> AH -> Prop} {tm : Tm} {H : AH} {rest : List Oper} {ty : TypeId} {pos : String} {af : Array Edge} {d : Nat} {x y : Operand}
theorem p3x {t u' : TypeId} {a b a' b' : ByteArray} {u v w z : Int} (ht : t = 36) (hx : evT tm x = some (.agg [.val (.string a), .val (.string b), .val (.int .i64 u), .val (.int .i64 v)])) (hy : evT tm y = some (.agg [.val (.string a'), .val (.string b'), .val (.int .i64 w), .val (.int .i64 z)])) (hN : Nat.ble (d + 1) N = true) (h : Reg m Tryz.prog N ops rest ((d, .val (.bool (decide (eqC a b u v a' b' w z)))) :: tm) H K) : Reg m Tryz.prog N ops (⟨some d, .binOp .eql t x y u', ty, pos, af, none⟩ :: rest) tm H K := by
 subst ht
 refine S.val (OpV.mk fun L w' ρ η hη hH => ?_) hN h
 have h1 := (hη x (by simp [Op.operands]) _ hx).flat (u := Lw a b u v) rfl
 have h2 := (hη y (by simp [Op.operands]) _ hy).flat (u := Lw a' b' w z) rfl
 refine ⟨_, ?_, A7 _⟩
 have h3 := run_eqGuard_agg (P := Tryz.prog) w' .eql 36 x y #[.string a, .string b, .int .i64 u, .int .i64 v] #[.string a', .string b', .int .i64 w, .int .i64 z] X8
 have h4 := run_eql_struct (P := Tryz.prog) w' 36 #[.string a, .string b, .int .i64 u, .int .i64 v] #[.string a', .string b', .int .i64 w, .int .i64 z]
 have h5 := Uu w' 9997 a b u v a' b' w z
 unfold Lw at h1 h2 h5
 simp only [execOp, h1, h2, a0m, h3, a0j, h4]
 rw [h5]
 rfl
theorem p4a {t u' : TypeId} {a b a' b' : ByteArray} {u v w z : Int} (ht : t = 36) (hx : evT tm x = some (.agg [.val (.string a), .val (.string b), .val (.int .i64 u), .val (.int .i64 v)])) (hy : evT tm y = some (.agg [.val (.string a'), .val (.string b'), .val (.int .i64 w), .val (.int .i64 z)])) (hN : Nat.ble (d + 1) N = true) (h : Reg m Tryz.prog N ops rest ((d, .val (.bool (decide (¬ eqC a b u v a' b' w z)))) :: tm) H K) : Reg m Tryz.prog N ops (⟨some d, .binOp .neq t x y u', ty, pos, af, none⟩ :: rest) tm H K := by
 subst ht
 refine S.val (OpV.mk fun L w' ρ η hη hH => ?_) hN h
 have h1 := (hη x (by simp [Op.operands]) _ hx).flat (u := Lw a b u v) rfl
 have h2 := (hη y (by simp [Op.operands]) _ hy).flat (u := Lw a' b' w z) rfl
 refine ⟨_, ?_, A7 _⟩
 have h3 := run_eqGuard_agg (P := Tryz.prog) w' .neq 36 x y #[.string a, .string b, .int .i64 u, .int .i64 v] #[.string a', .string b', .int .i64 w, .int .i64 z] X8
 have h4 := run_neq_struct (P := Tryz.prog) w' 36 #[.string a, .string b, .int .i64 u, .int .i64 v] #[.string a', .string b', .int .i64 w, .int .i64 z]
 have h5 := Uu w' 9997 a b u v a' b' w z
 unfold Lw at h1 h2 h5
 simp only [execOp, h1, h2, a0m, h3, a0j, h4]
 rw [h5]
 simp [go_sem]
end
theorem Qq (a b : List UInt8) : Lib.byteCells (a ++ b) = Lib.byteCells a ++ Lib.byteCells b := by simp [Lib.byteCells]
theorem W6 (a : List UInt8) : (Lib.byteCells a).length = a.length := by simp [Lib.byteCells]
theorem A0f (l : List UInt8) : FnRead Tryz.prog 70 5 33 (Lib.byteCells l) (.string (ofL l)) := by
 refine ⟨⟨_, Tryz.func33, rfl, rfl⟩, fun w k B hB hs => ?_⟩
 refine (Tryz.Builder_String_any_f B k l w (hB.f (by kernel_rfl)) hs).mono ?_
 rintro e w' ⟨rfl, _, hb⟩
 exact ⟨rfl, hb⟩
abbrev Aea (b2 : Nat) (l : List UInt8) : HB := .bld 70 5 b2 (Lib.byteCells l)
theorem A4h (str : ByteArray) (l : List UInt8) (hlen : l.length + str.size <= 140737488355328) : FnBld Tryz.prog 70 5 31 [.s str] (Lib.byteCells l) (Lib.byteCells (l ++ str.data.toList)) (.tup [.i str.size, .val .nilIface]) := by
 refine ⟨⟨_, Tryz.func31, rfl, rfl⟩, fun L w k p v vs hG hL hl hv hB => ?_⟩
 match vs, hl with
 | [u], _ =>
  obtain rfl := (hv 0 (.s str) u rfl rfl).val_eq
  refine (Th str hB (by rw [W6];exact hlen)).mono ?_
  rintro e w' ⟨rfl, ⟨v', hB', hg⟩, h1, h2, h3, h4, h5, h6⟩
  refine ⟨_, rfl, .tup _ [_, _] rfl (fun i x v hx hv => ?_), ⟨.pointer (some ⟨k, 0, none⟩), v', ?_, hg⟩, ⟨h2, h3, h4, h5, fun j hj hn => h1 j hj (fun e => hn (.inl e)) (fun e => hn (.inr e)), h6⟩⟩
  ·match i with
   | 0 => simp at hx hv;subst hx hv;exact A7 _
   | 1 => simp at hx hv;subst hx hv;exact A7 _
   | i + 2 => simp at hx
  ·rw [Qq];exact hB'
end Go.Proofs.YtlapbaiejnaeiaaGreatDoor
