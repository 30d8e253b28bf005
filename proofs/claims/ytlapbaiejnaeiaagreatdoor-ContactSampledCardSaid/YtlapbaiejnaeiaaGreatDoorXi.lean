/- Lemmas of the proof. -/
import Derived.Test.YtlapbaiejnaeiaaGreatDoorPr
import Derived.Test.YtlapbaiejnaeiaaGreatDoorMk
import Derived.Test.YtlapbaiejnaeiaaGreatDoorPd
import Derived.Test.YtlapbaiejnaeiaaGreatDoorPe
import Derived.Test.YtlapbaiejnaeiaaGreatDoorOq
import Derived.Test.YtlapbaiejnaeiaaGreatDoorPc
import Derived.Test.YtlapbaiejnaeiaaGreatDoorPf
import Derived.Test.YtlapbaiejnaeiaaGreatDoorMm
set_option linter.all false
set_option maxHeartbeats 64000000
namespace Go.Proofs.YtlapbaiejnaeiaaGreatDoor
open Go Go.RowKit
def a4g := @Tryz.results5
def a4r := @Tryz.func5
def a5h := @Tryz.ntmps5
def a8z := @Tryz.results19
def a9q := @Tryz.ntmps19
def b0e := @Tryz.func19
def b2o := @List.replicate_zero
noncomputable def atL (h : HouseR) (c : SheetR) (G : List Int) (ms : Int) : List (List Lf) := if J5 c (stL h c G) (Bn h c) then taL h c G (mil ms) else []
theorem A8d (h : HouseR) (c : SheetR) (hf : h.fits) (hc : c.fits) (G : List Int) (hG : G.length <= 4611686018427387904) (e0 : alE h c G = 0) (ho : ¬ J5 c (stL h c G) (Bn h c)) (ms : Int) (m0 : 0 <= ms) (m1 : ms <= 259845521408) : Fn0 Tryz.prog 51 [A2 h.row, A2 c.row, .sl (G.map A3), .i ms] (.tup [.sl [], .i 13]) := by
 have cm := Jp h c hf hc G hG
 obtain ⟨p, er⟩ := J8 e0
 rw [e0, er] at cm
 have co := L7 c (trL h c) (stL h c G) (Bn h c) (Gf h c G) (E1 h c _) (by have := p.v.2.1;omega) hc.2.2 p.st p.ln
 rw [decide_eq_false ho] at co
 unfold plA at co
 generalize stL h c G = u1 at *
 generalize Bn h c = u2 at *
 generalize trL h c = u3 at *
 refine Fn0.of Tryz.func51 Tryz.ntmps51 rfl rfl rfl ?_
 simp only [A1]
 repeat' (first|refine W ?_|refine Y ?_|(apply p0a A0 (by decide +kernel))|(refine p0u 8 rfl ?_;apply T.ret;change Ba _ _ _ _ _)|refine V ?_|(refine W2 ?_ ?_<;>intro hc))
 all_goals (try (exfalso;omega))
 all_goals exact D2 rfl rfl rfl
theorem Adp (h : HouseR) (c : SheetR) (hf : h.fits) (hc : c.fits) (G : List Int) (hG : G.length <= 4611686018427387904) (e0 : alE h c G = 0) (h6 : c.cues.length <= 6) (ms : Int) (m0 : 0 <= ms) (m1 : ms <= 259845521408) : Fn0 Tryz.prog 51 [A2 h.row, A2 c.row, .sl (G.map A3), .i ms] (.tup [.sl (atL h c G ms), .i (atR h c G ms)]) := by
 unfold atL atR
 by_cases ho : J5 c (stL h c G) (Bn h c)
 ·rw [if_pos ho, if_pos ho]
  exact Af1 h c hf hc G hG e0 ho h6 ms m0 m1
 ·rw [if_neg ho, if_neg ho]
  exact A8d h c hf hc G hG e0 ho ms m0 m1
theorem A0y {h : HouseR} {c : SheetR} {G : List Int} {ms : Int} (e : atR h c G ms = 0) {k : Nat} (hk : k < h.sets.length) : (atL h c G ms)[k]? = some (frR (taQ h c G (mil ms) k)) /\ (atL h c G ms).length = h.sets.length := by
 unfold atR at e
 split at e
 ·rename_i ho
  unfold atL
  rw [if_pos ho]
  unfold taL
  rw [if_pos e]
  refine ⟨?_, Ur _ _ _ _ _⟩
  unfold taN
  rw [a0e, a2y hk, a1b]
 ·cases e
theorem Abi {h : HouseR} {c : SheetR} {G : List Int} (po : PlanOk h c G) {ms : Int} (e : atR h c G ms = 0) {k : Nat} {s : SetR} (hs : h.sets[k]? = some s) : Fits (taQ h c G (mil ms) k) := by
 have hk := (a0g.1 hs).1
 unfold atR at e
 split at e
 ·have e2 : taK h c G (mil ms) k = 0 := by
   unfold taE at e
   cases hf : (List.range h.sets.length).find? fun j => taK h c G (mil ms) j ≠ 0 with
   | none => simpa using a9e.1 hf k (a2d.2 hk)
   | some j =>
    rw [hf] at e
    have := List.find?_some hf
    exact absurd e (by simpa using this)
  unfold taK at e2
  unfold taQ
  rw [hs] at e2 ⊢
  dsimp only at e2 ⊢
  have hmem : s ∈ h.sets := a0b hs
  obtain ⟨⟨_, _, s1, s2, s3, _⟩, _⟩ := po.v.1.2.2.2.2.2.1 s hmem
  have he : Dr h c (stL h c G) k s = 0 := by
   refine a3f fun k2 => ?_
   rw [if_neg k2] at e2
   exact k2 e2
  have hb : ¬ R9 h c (stL h c G) k s := fun hb => by unfold Dr at he;rw [if_pos hb] at he;cases he
  have hok : okC (Ds h c (stL h c G) k s) := Q2 (Cd (by omega) (by omega)) hb _ (a0m _)
  have hne : Ds h c (stL h c G) k s ≠ [] := Lu _ _ _ _ _ _
  exact R7 hok hne
 ·cases e
noncomputable def smR (h : HouseR) : Except Int (List Int) -> AV
 | .ok F => .tup [.sl ((Dc (Aa h) F (Aa h).length).map ConR.row), .i 0]
 | .error e => .tup [.sl [], .i e]
def H8 (n k : Nat) : List Int := List.replicate k (-1) ++ List.replicate (n - k) 0
theorem Aak {n k : Nat} (hk : k <= n) : (H8 n k).length = n := by
 unfold H8
 rw [a0q, a1v, a1v];omega
theorem Aal {n k : Nat} (hk : k < n) : (H8 n k).set k (-1) = H8 n (k + 1) := by
 unfold H8
 rw [show n - k = (n - (k + 1)) + 1 by omega, a5r, Q6 _ _ _ _ (a1v), b2b, a2t]
 rfl
theorem A6v (n : Nat) : List.replicate n (AV.val (.int .i64 0)) = Ab (H8 n 0) := by
 unfold H8 Ab
 simp only [b2o, a3h, a5x]
 induction n with
 | zero => rfl
 | succ n ih => simp only [a5r, a1l, a3b, A3, a1y, a3h] at ih ⊢;rw [ih]
theorem A6u (n : Nat) : H8 n n = List.replicate n (-1) := by unfold H8;rw [a5f, b2o, a2b]
theorem Ux {l : List Int} {k : Nat} {x : Int} (h : l[k]? = some x) : (Ab l)[k]? = some (.i x) := by
 have : Ab l = l.map fun x => (.i x : AV) := by
  clear h
  induction l with
  | nil => rfl
  | cons a l ih => simp only [Ab, A3, a1l, a3b, a1y, a3h] at ih ⊢;rw [ih]
 rw [this, a0e, h];rfl
theorem A17 (b : Nat) (X Y : List Lf) (F : List Int) (u v : HB) (hu : u.clear b = true) (hv : v.clear b = true) : AH.clear b 0 [.live (X.map .lf), .live (Y.map .lf), .live (Ab F), u, v] = true := by
 have h0 : ∀ cs : List Lf, HB.clear b (.live (cs.map .lf)) = true := fun cs => Av _ _
 simp only [AH.clear, h0, hu, hv, Bool.and_true]
 cases Nat.beq 0 b <;> cases Nat.beq (0 + 1) b <;> cases Nat.beq (0 + 1 + 1) b <;> cases Nat.beq (0 + 1 + 1 + 1) b <;> cases Nat.beq (0 + 1 + 1 + 1 + 1) b <;> rfl
structure SmS where
 k : Nat
 F : List Int
theorem A9w {h : HouseR} {c : SheetR} {G : List Int} {ms : Int} {F F' : List Int} {j : Nat} {x : Int} (e : inS h c G ms F j = .ok F') (hx : F'[j]? = some x) (h0 : 0 <= x) : inS h c G ms F (j + 1) = .ok F' := by
 rw [inS, e]
 dsimp only
 rw [if_pos (by rw [a0j, hx];exact h0)]
theorem A9x {h : HouseR} {c : SheetR} {G : List Int} {ms : Int} {F F' : List Int} {j : Nat} {x : Int} {p : ByteArray × ByteArray} (e : inS h c G ms F j = .ok F') (hx : F'[j]? = some x) (h0 : ¬ 0 <= x) (hp : (Aa h)[j]? = some p) : inS h c G ms F (j + 1) = if (Kd h c G p ms).2 ≠ 0 then .error (Kd h c G p ms).2 else if (Kd h c G p ms).1 = true then .ok (F'.set j ms) else .ok F' := by
 rw [inS, e]
 dsimp only
 rw [if_neg (by rw [a0j, hx];exact h0), hp]
theorem Aas {h : HouseR} {c : SheetR} {G : List Int} {step : Int} {k N : Nat} {e : Int} (hk : k <= N) (h1 : ouS h c G step k = .error e) : ouS h c G step N = .error e := by
 rw [show N = k + (N - k) by omega]
 exact A21 h1 _
theorem A9y {h : HouseR} {c : SheetR} {G : List Int} {ms : Int} {F : List Int} {j N : Nat} {e : Int} (hk : j <= N) (h1 : inS h c G ms F j = .error e) : inS h c G ms F N = .error e := by
 rw [show N = j + (N - j) by omega]
 exact A1k h1 _
theorem A8g (k : Nat) (step : Int) : ((k + 1 : Nat) : Int) * step = (k : Int) * step + step := by
 rw [Int.natCast_add, a5c];simp
theorem A33 (h : HouseR) (c : SheetR) (hf : h.fits) (hc : c.fits) (G : List Int) (hG : G.length <= 4611686018427387904) (e0 : alE h c G = 0) (h6 : c.cues.length <= 6) (step : Int) (s0 : 1 <= step) (s1 : step <= 2147483648) (hq : ¬ endI h c G / step >= 1000) :
  ∃ N : Nat, (∀ m : Nat, m < N -> (m : Int) * step <= endI h c G) /\ Fn0 Tryz.prog 21 [A2 h.row, A2 c.row, .sl (G.map A3), .i step] (smR h (ouS h c G step N)) := by
 have p := (J8 e0).1
 have hp := p.v.1
 have ce := Na h c hf hc G hG e0
 have hei := p.endI
 have cp := Uy h hf hp
 change Fn0 _ _ _ (.tup [.sl ((Aa h).map A8), .i 0]) at cp
 have hlp := Yo hp
 have hle : ((Aa h).map A8).length = (Aa h).length := a0a _
 have hle2 : (h.sets.map SetR.row).length = h.sets.length := a0a _
 have q0 : 0 <= endI h c G / step := a2q hei.1 (by omega)
 obtain ⟨N, hN⟩ : ∃ N : Nat, N = (endI h c G / step).toNat + 1 := ⟨_, rfl⟩
 have hin : ∀ m : Nat, m < N -> (m : Int) * step <= endI h c G := fun m hm => by
  have h1 : (m : Int) <= endI h c G / step := by omega
  exact Int.le_trans (a3e h1 (by omega)) (Int.ediv_mul_le _ (by omega))
 have hout : ∀ m : Nat, (m : Int) * step <= endI h c G -> m < N := fun m hm => by
  have h1 : (m : Int) <= endI h c G / step := Int.le_ediv_of_mul_le (by omega) hm
  omega
 refine ⟨N, hin, ?_⟩
 have hst : ∀ k, k <= N -> ∀ e, ouS h c G step k = .error e -> ouS h c G step N = .error e := fun k hk e he => Aas hk he
 obtain ⟨R, hR⟩ : ∃ R, R = ouS h c G step N := ⟨_, rfl⟩
 rw [<- hR] at hst ⊢
 have w1 : ¬ step < 1 := by omega
 have w2 : ¬ step > 2147483648 := by omega
 have nn : (Aa h).length <= 3600 := hlp
 have hAt := fun ms m0 m1 => Adp h c hf hc G hG e0 h6 ms m0 m1
 refine Fn0.of Tryz.func21 Tryz.ntmps21 rfl rfl rfl ?_
 simp only [A1]
 repeat' (first|refine W ?_|refine Y ?_|(apply S.quo;(iterate 3 exact rfl);omega)|(apply p2y (n := ((Aa h).map A8).length);(iterate 3 exact rfl);omega;exact rfl;exact rfl)|refine V ?_|(refine W2 ?_ ?_<;>intro hc))
 rw [A6v]
 refine p0d (fun k => k <= (Aa h).length) (fun k => (Aa h).length - k) (fun k => [(65, .i k), (64, .i ((Aa h).map A8).length), (13, .own 2 0 ((Aa h).map A8).length 1), (10, .i (endI h c G)), (12, .sl ((Aa h).map A8)), (2, .sl (G.map A3)), (3, .i step), (4, .ptr 0 0), (5, .ptr 1 0)]) (fun k => [.live (h.row.map .lf), .live (c.row.map .lf), .live (Ab (H8 ((Aa h).map A8).length k))]) 0 (a0n _) CW (.live rfl (.live rfl (.live (Bx _ _) .nil))) ?_
 intro k hk
 by_cases hlt : k < (Aa h).length
 ·have h1 : (k : Int) < (((Aa h).map A8).length : Nat) := by omega
  have hln := Aak (n := ((Aa h).map A8).length) (k := k) (by omega)
  have hcl : (Ab (H8 ((Aa h).map A8).length k)).length = (Aa h).length := by rw [Cw, hln, hle]
  repeat' (first|refine W ?_|refine Y ?_|(apply S.indexO;(iterate 4 exact rfl);omega;exact rfl)|(apply p1u;(iterate 6 exact rfl);(rw [hcl];simp only [a0s];omega))|refine V ?_|(refine W2 ?_ ?_<;>intro hc))
  change Next _ _ _ _ _ _
  exact Next.go (k + 1) (by omega) (by omega) CW (by
   show CovH _ _ [_, _, .live (Ab (H8 ((Aa h).map A8).length (k + 1)))]
   have hlt2 : k < (H8 ((Aa h).map A8).length k).length := by omega
   have hu := Bx 3 ((H8 ((Aa h).map A8).length k).set k (-1))
   rw [Gl hlt2] at hu
   rw [<- Aal (by omega : k < ((Aa h).map A8).length), Gl hlt2]
   exact .live rfl (.live rfl (.live hu .nil)))
 obtain rfl : k = (Aa h).length := by omega
 have h1 : ¬ (((Aa h).length : Nat) : Int) < (((Aa h).map A8).length : Nat) := by omega
 rw [show H8 ((Aa h).map A8).length (Aa h).length = List.replicate (Aa h).length (-1) by rw [hle];exact A6u _]
 repeat' (first|refine W ?_|refine Y ?_|refine V ?_|(refine W2 ?_ ?_<;>intro hc))
 refine p0d (fun a : SmS => ouS h c G step a.k = .ok a.F /\ a.k <= N /\ a.F.length = (Aa h).length) (fun a => N - a.k) (fun a => [(15, .i ((a.k : Int) * step)), (13, .own 2 0 ((Aa h).map A8).length 1), (10, .i (endI h c G)), (12, .sl ((Aa h).map A8)), (2, .sl (G.map A3)), (3, .i step), (4, .ptr 0 0), (5, .ptr 1 0)]) (fun a => [.live (h.row.map .lf), .live (c.row.map .lf), .live (Ab a.F)]) ⟨0, List.replicate (Aa h).length (-1)⟩ ⟨rfl, Nat.zero_le _, List.length_replicate⟩ (by dsimp only;rw [show ((0 : Nat) : Int) * step = 0 by simp];exact CW) (.live rfl (.live rfl (.live (Bx _ _) .nil))) ?_
 rintro ⟨k, F⟩ ⟨hou, hkN, hFl⟩
 dsimp only at hou hkN hFl ⊢
 have hms0 : 0 <= (k : Int) * step := a2s (by omega) (by omega)
 have hnx := A8g k step
 by_cases hlt : (k : Int) * step <= endI h c G
 ·have hk := hout k hlt
  have ca := hAt _ hms0 (by omega)
  have hsu : ouS h c G step (k + 1) = if atR h c G ((k : Int) * step) ≠ 0 then .error (atR h c G ((k : Int) * step)) else inS h c G ((k : Int) * step) F (Aa h).length := by rw [ouS, hou]
  by_cases ha : atR h c G ((k : Int) * step) = 0
  ·rw [if_neg (fun n => n ha)] at hsu
   have htf := fun (i : Nat) (s : SetR) (hs : h.sets[i]? = some s) => Abi p ha hs
   have hrow := fun (i : Nat) (hi : i < h.sets.length) => (A0y ha hi).1
   have hzl : h.sets.length <= (atL h c G ((k : Int) * step)).length := by
    by_cases hz : 0 < h.sets.length
    ·rw [(A0y ha hz).2];exact a0m _
    ·omega
   have htc : ∀ (p : ByteArray × ByteArray) a b, Fh h p.1 = some a -> Fh h p.2 = some b -> Kd h c G p ((k : Int) * step) = pr2 (Ha a b (taQ h c G (mil ((k : Int) * step)) (Dl h p.1)) (taQ h c G (mil ((k : Int) * step)) (Dl h p.2))) := fun p a b ha hb => by unfold Kd;rw [ha, hb]
   rw [ha] at ca
   have hsm : step + (k : Int) * step <= 9223372036854775807 := by omega
   generalize hmz : mil ((k : Int) * step) = mz at *
   generalize atL h c G ((k : Int) * step) = Z at *
   generalize hmm : (k : Int) * step = ms at *
   repeat' (first|refine W ?_|refine Y ?_|refine V ?_|(refine W2 ?_ ?_<;>intro hc))
   refine p0d (fun a : SmS => inS h c G ms F a.k = .ok a.F /\ a.k <= (Aa h).length /\ a.F.length = (Aa h).length) (fun a => (Aa h).length - a.k) (fun a => [(91, .i a.k), (90, .i ((Aa h).map A8).length), (89, .sl ((Aa h).map A8)), (16, .sl Z), (15, .i ms), (13, .own 2 0 ((Aa h).map A8).length 1), (10, .i (endI h c G)), (12, .sl ((Aa h).map A8)), (2, .sl (G.map A3)), (3, .i step), (4, .ptr 0 0), (5, .ptr 1 0)]) (fun a => [.live (h.row.map .lf), .live (c.row.map .lf), .live (Ab a.F)]) ⟨0, F⟩ ⟨rfl, a0n _, hFl⟩ CW (.live rfl (.live rfl (.live (Bx _ _) .nil))) ?_
   rintro ⟨j, F'⟩ ⟨hin', hj, hFl'⟩
   dsimp only at hin' hj hFl' ⊢
   by_cases hjl : j < (Aa h).length
   ·have h1 : (j : Int) < (((Aa h).map A8).length : Nat) := by omega
    obtain ⟨q, hpk⟩ := Ac hjl
    have hb := Af (R := A8) hpk
    have hm := a0b hpk
    obtain ⟨x, hx⟩ := Ac (l := F') (k := j) (by omega)
    have hcell : (Ab F')[0 + ((j : Nat) : Int).toNat * 1]? = some (.i x) := by
     rw [a1q, a4v, a0s];exact Ux hx
    have hcl : (Ab F').length = (Aa h).length := by rw [Cw, hFl']
    by_cases hx0 : 0 <= x
    ·have hk2 := A9w hin' hx hx0
     repeat' (first|refine W ?_|refine Y ?_|(apply S.indexR;(iterate 3 exact rfl);exact hb;omega;exact rfl)|(apply S.indexO;(iterate 4 exact rfl);omega;exact rfl)|(apply S.loadP;exact rfl;exact rfl;exact hcell;exact rfl)|refine V ?_|(refine W2 ?_ ?_<;>intro hc))
     change Next _ _ _ _ _ _
     exact Next.go ⟨j + 1, F'⟩ ⟨hk2, by dsimp only;omega, hFl'⟩ (by dsimp only;omega) CW (.live rfl (.live rfl (.live (Bx _ _) .nil)))
    ·have hk2 := A9x hin' hx hx0 hpk
     obtain ⟨i1, i2⟩ := Rn hm
     obtain ⟨a, haa⟩ : ∃ a, h.sets[(Ae h q.1).toNat]? = some a := Ee i1
     obtain ⟨b, hbb⟩ : ∃ b, h.sets[(Ae h q.2).toNat]? = some b := Ee i2
     have hs1 : (h.sets.map SetR.row)[(Ae h q.1).toNat]? = some a.row := Hm haa
     have hs2 : (h.sets.map SetR.row)[(Ae h q.2).toNat]? = some b.row := Hm hbb
     have j1 := K2 (fun s : SetR => s.name = q.1) h.sets
     have j2 := K2 (fun s : SetR => s.name = q.2) h.sets
     change Ae h q.1 < _ at j1
     change Ae h q.2 < _ at j2
     have f1 := Jc h hf hp q.1 i1
     have f2 := Jc h hf hp q.2 i2
     have z1 : Z[(Ae h q.1).toNat]? = some (frR (taQ h c G mz (Dl h q.1))) := hrow _ (by omega)
     have z2 : Z[(Ae h q.2).toNat]? = some (frR (taQ h c G mz (Dl h q.2))) := hrow _ (by omega)
     have y1 := htf _ a haa
     have y2 := htf _ b hbb
     have hma : a ∈ h.sets := a0b haa
     have hmb : b ∈ h.sets := a0b hbb
     have ct := A59 a b (hp.2.2.2.2.2.1 a hma).1 (hp.2.2.2.2.2.1 b hmb).1 (hf.2.2 a hma) (hf.2.2 b hmb) _ _ y1 y2
     rw [htc q a b haa hbb] at hk2
     change Fn0 _ _ _ (Ha a b (taQ h c G mz (Dl h q.1)) (taQ h c G mz (Dl h q.2))) at ct
     change Fn0 _ _ [A2 a.row, A2 b.row, A2 (frR (taQ h c G mz (Dl h q.1))), A2 (frR (taQ h c G mz (Dl h q.2)))] _ at ct
     generalize taQ h c G mz (Dl h q.1) = q1 at *
     generalize taQ h c G mz (Dl h q.2) = q2 at *
     obtain ⟨r, e, htt⟩ := Adt a b q1 q2
     rw [htt] at ct hk2
     change inS h c G ms F (j + 1) = if e ≠ 0 then .error e else if r = true then .ok (F'.set j ms) else .ok F' at hk2
     by_cases he : e = 0
     ·subst he
      rw [if_neg (fun n => n rfl)] at hk2
      cases r with
      | false =>
       rw [if_neg (by decide)] at hk2
       repeat' (first|refine W ?_|refine Y ?_|(apply S.indexR;(iterate 3 exact rfl);exact hb;omega;exact rfl)|(apply S.indexO;(iterate 4 exact rfl);omega;exact rfl)|(apply S.loadP;exact rfl;exact rfl;exact hcell;exact rfl)|(apply S.indexR;(iterate 3 exact rfl);exact hs1;omega;exact rfl)|(apply S.indexR;(iterate 3 exact rfl);exact hs2;omega;exact rfl)|(apply S.idxAP;(iterate 4 exact rfl);exact ⟨by decide, by decide⟩;exact rfl)|(apply S.indexR;(iterate 3 exact rfl);exact z1;omega;exact rfl)|(apply S.indexR;(iterate 3 exact rfl);exact z2;omega;exact rfl)|(apply p0e 24 A0 (by decide +kernel);simp only [td])|(apply p0a A0 (by decide +kernel))|refine V ?_|(refine W2 ?_ ?_<;>intro hc))
       all_goals (change Next _ _ _ _ _ _)
       all_goals exact Next.go ⟨j + 1, F'⟩ ⟨hk2, by dsimp only;omega, hFl'⟩ (by dsimp only;omega) CW (.live rfl (.live rfl (.live (Bx _ _) .nil)))
      | true =>
       rw [if_pos rfl] at hk2
       have hjF : j < F'.length := by omega
       repeat' (first|refine W ?_|refine Y ?_|(apply S.indexR;(iterate 3 exact rfl);exact hb;omega;exact rfl)|(apply S.indexO;(iterate 4 exact rfl);omega;exact rfl)|(apply S.loadP;exact rfl;exact rfl;exact hcell;exact rfl)|(apply S.indexR;(iterate 3 exact rfl);exact hs1;omega;exact rfl)|(apply S.indexR;(iterate 3 exact rfl);exact hs2;omega;exact rfl)|(apply S.idxAP;(iterate 4 exact rfl);exact ⟨by decide, by decide⟩;exact rfl)|(apply S.indexR;(iterate 3 exact rfl);exact z1;omega;exact rfl)|(apply S.indexR;(iterate 3 exact rfl);exact z2;omega;exact rfl)|(apply p0e 24 A0 (by decide +kernel);simp only [td])|(apply p0a A0 (by decide +kernel))|(apply p1u;(iterate 6 exact rfl);(rw [hcl];simp only [a0s];omega))|refine V ?_|(refine W2 ?_ ?_<;>intro hc))
       all_goals (change Next _ _ _ _ _ _)
       all_goals exact Next.go ⟨j + 1, F'.set j ms⟩ ⟨hk2, by dsimp only;omega, by rw [List.length_set];exact hFl'⟩ (by dsimp only;omega) CW (by
        show CovH _ _ [_, _, .live (Ab (F'.set j ms))]
        have hu := Bx 3 (F'.set j ms)
        rw [Gl hjF] at hu ⊢
        exact .live rfl (.live rfl (.live hu .nil)))
     ·rw [if_pos he] at hk2
      have hfin := hst (k + 1) hk e (hsu.trans (A9y hjl hk2))
      rw [hfin, show smR h (.error e) = .tup [.sl [], .i e] from rfl]
      repeat' (first|refine W ?_|refine Y ?_|(apply S.indexR;(iterate 3 exact rfl);exact hb;omega;exact rfl)|(apply S.indexO;(iterate 4 exact rfl);omega;exact rfl)|(apply S.loadP;exact rfl;exact rfl;exact hcell;exact rfl)|(apply S.indexR;(iterate 3 exact rfl);exact hs1;omega;exact rfl)|(apply S.indexR;(iterate 3 exact rfl);exact hs2;omega;exact rfl)|(apply S.idxAP;(iterate 4 exact rfl);exact ⟨by decide, by decide⟩;exact rfl)|(apply S.indexR;(iterate 3 exact rfl);exact z1;omega;exact rfl)|(apply S.indexR;(iterate 3 exact rfl);exact z2;omega;exact rfl)|(apply p0e 24 A0 (by decide +kernel);simp only [td])|(apply p0a A0 (by decide +kernel))|(refine p0u 8 rfl ?_;apply T.ret;change Ba _ _ _ _ _)|refine V ?_|(refine W2 ?_ ?_<;>intro hc))
      all_goals exact D2 rfl rfl rfl
   ·obtain rfl : j = (Aa h).length := by omega
    have h1 : ¬ (((Aa h).length : Nat) : Int) < (((Aa h).map A8).length : Nat) := by omega
    repeat' (first|refine W ?_|refine Y ?_|refine V ?_|(refine W2 ?_ ?_<;>intro hc))
    change Next _ _ _ _ _ _
    exact Next.go ⟨k + 1, F'⟩ ⟨hsu.trans hin', by dsimp only;omega, hFl'⟩ (by dsimp only;omega) (by dsimp only;rw [hnx];exact CW) (.live rfl (.live rfl (.live (Bx _ _) .nil)))
  ·rw [if_pos ha] at hsu
   have hfin := hst (k + 1) hk _ hsu
   rw [hfin, show smR h (.error (atR h c G ((k : Int) * step))) = .tup [.sl [], .i (atR h c G ((k : Int) * step))] from rfl]
   generalize atR h c G ((k : Int) * step) = e at *
   generalize (k : Int) * step = ms at *
   repeat' (first|refine W ?_|refine Y ?_|(refine p0u 8 rfl ?_;apply T.ret;change Ba _ _ _ _ _)|refine V ?_|(refine W2 ?_ ?_<;>intro hc))
   all_goals exact D2 rfl rfl rfl
 ·obtain rfl : k = N := by
   refine Nat.le_antisymm hkN (Nat.not_lt.1 fun hk => hlt (hin k hk))
  rw [hR, hou, show smR h (.ok F) = .tup [.sl ((Dc (Aa h) F (Aa h).length).map ConR.row), .i 0] from rfl]
  generalize (k : Int) * step = ms at *
  repeat' (first|refine W ?_|refine Y ?_|refine V ?_|(refine W2 ?_ ?_<;>intro hc))
  refine T.kill 3 ?_
  refine p0d (fun j => j <= (Aa h).length) (fun j => (Aa h).length - j) (fun j => [(148, .i j), (147, .i ((Aa h).map A8).length), (146, .sl ((Aa h).map A8)), (26, rT 3 4 (Dc (Aa h) F j).length), (13, .own 2 0 ((Aa h).map A8).length 1)]) (fun j => [.live (h.row.map .lf), .live (c.row.map .lf), .live (Ab F), rB (Gk (Dc (Aa h) F j)) (Dc (Aa h) F j).length]) 0 (a0n _) CW (.live rfl (.live rfl (.live (Bx _ _) (.dead .nil)))) ?_
  intro j hj
  have hsl : (Dc (Aa h) F j).length <= 3600 := by
   have := a5v (fun i => match (Aa h)[i]?, F[i]? with
    | some p, some x => if 0 <= x then some (⟨p.1, p.2, x, x⟩ : ConR) else none
    | _, _ => none) (List.range j)
   rw [a4o] at this
   exact a2c this (by omega)
  by_cases hjl : j < (Aa h).length
  ·have h1 : (j : Int) < (((Aa h).map A8).length : Nat) := by omega
   obtain ⟨q, hpk⟩ := Ac hjl
   have hb := Af (R := A8) hpk
   obtain ⟨x, hx⟩ := Ac (l := F) (k := j) (by omega)
   have hcell : (Ab F)[0 + ((j : Nat) : Int).toNat * 1]? = some (.i x) := by
    rw [a1q, a4v, a0s];exact Ux hx
   by_cases hx0 : 0 <= x
   ·have hy := Abd hpk hx hx0
    have hln : (Dc (Aa h) F (j + 1)).length = (Dc (Aa h) F j).length + 1 := by rw [hy, a0q];rfl
    have hsn := L0 (Dc (Aa h) F j) ⟨q.1, q.2, x, x⟩
    rw [<- hy] at hsn
    have hcl := M8 (Dc (Aa h) F j)
    cases hL : Dc (Aa h) F j with
    | nil =>
     rw [hL] at hsn hln
     repeat' (first|refine W ?_|refine Y ?_|(apply S.indexR;(iterate 3 exact rfl);exact hb;omega;exact rfl)|(apply S.indexO;(iterate 4 exact rfl);omega;exact rfl)|(apply S.loadP;exact rfl;exact rfl;exact hcell;exact rfl)|(apply S.idxAP;(iterate 4 exact rfl);exact ⟨by decide, by decide⟩;exact rfl)|(apply p0f 16 A0 (by decide +kernel);simp only [td])|(apply p0c;(iterate 7 exact rfl))|(apply p0r 3 (rows := []);(iterate 4 exact rfl);exact A17 _ _ _ _ _ _ rfl rfl;(iterate 3 exact rfl);exact Ag rfl;exact rfl;exact a0d rfl;exact a0d rfl)|refine V ?_|(refine W2 ?_ ?_<;>intro hc))
     all_goals (change Next _ _ _ _ _ _)
     all_goals exact Next.go (j + 1) (by omega) (by omega) (by rw [hln];exact CW) (by rw [hln, hsn];exact .live rfl (.live rfl (.live (Bx _ _) (.live rfl .nil))))
    | cons l0 LL =>
     rw [hL] at hsn hln hcl hsl
     have hz0 : LL.length + 1 <= 3600 := hsl
     repeat' (first|refine W ?_|refine Y ?_|(apply S.indexR;(iterate 3 exact rfl);exact hb;omega;exact rfl)|(apply S.indexO;(iterate 4 exact rfl);omega;exact rfl)|(apply S.loadP;exact rfl;exact rfl;exact hcell;exact rfl)|(apply S.idxAP;(iterate 4 exact rfl);exact ⟨by decide, by decide⟩;exact rfl)|(apply p0f 16 A0 (by decide +kernel);simp only [td])|(apply p0c;(iterate 7 exact rfl))|(apply p0n;(iterate 4 exact rfl);exact A17 _ _ _ _ _ _ (Av _ _) rfl;(iterate 3 exact rfl);exact hcl;exact Ag rfl;exact rfl;exact Av _ _;simp only [a0i, a0o];omega;simp only [a0i, a0o];omega)|refine V ?_|(refine W2 ?_ ?_<;>intro hc))
     all_goals (change Next _ _ _ _ _ _)
     all_goals exact Next.go (j + 1) (by omega) (by omega) (by rw [hln];exact CW) (by rw [hln, hsn];exact .live rfl (.live rfl (.live (Bx _ _) (.live (by rw [<- a1p];exact Ah _ _) .nil))))
   ·have hy := Adh hpk hx hx0
    repeat' (first|refine W ?_|refine Y ?_|(apply S.indexR;(iterate 3 exact rfl);exact hb;omega;exact rfl)|(apply S.indexO;(iterate 4 exact rfl);omega;exact rfl)|(apply S.loadP;exact rfl;exact rfl;exact hcell;exact rfl)|refine V ?_|(refine W2 ?_ ?_<;>intro hc))
    all_goals (change Next _ _ _ _ _ _)
    all_goals exact Next.go (j + 1) (by omega) (by omega) (by rw [hy];exact .cons rfl rfl (.cons rfl rfl (.cons rfl rfl (.cons rfl (N0 _ _ _ _ (a0m 4)) (.cons rfl rfl .nil))))) (by rw [hy];exact .live rfl (.live rfl (.live (Bx _ _) (p2c (Ah _ _) .nil _))))
  ·obtain rfl : j = (Aa h).length := by omega
   have h1 : ¬ (((Aa h).length : Nat) : Int) < (((Aa h).map A8).length : Nat) := by omega
   refine p3b 26 3 (rows := (Dc (Aa h) F (Aa h).length).map ConR.row) (Pj _) (a0a _) rfl rfl ?_
   repeat' (first|refine W ?_|refine Y ?_|refine V ?_|(refine W2 ?_ ?_<;>intro hc))
   all_goals exact D2 rfl rfl rfl
theorem Abc (ps : List (ByteArray × ByteArray)) (F : List Int) (j : Nat) : (Dc ps F j).length <= j := by
 have := a5v (fun i => match ps[i]?, F[i]? with
  | some p, some x => if 0 <= x then some (⟨p.1, p.2, x, x⟩ : ConR) else none
  | _, _ => none) (List.range j)
 rw [a4o] at this
 exact this
theorem Adi {h : HouseR} {c : SheetR} {G : List Int} {step : Int} (hf : h.fits) (po : PlanOk h c G) (h6 : c.cues.length <= 6) (hgo : ∀ p ∈ Aa h, Cq h c G p) (h0 : 0 < step) {n : Nat} (hn : ∀ m : Nat, m < n -> (m : Int) * step <= endI h c G) {F : List Int} (e : ouS h c G step n = .ok F) {x : ConR} (hx : x ∈ Dc (Aa h) F (Aa h).length) :
  0 <= x.lo /\ x.lo = x.hi /\ x.lo <= endI h c G /\ x.lo % step = 0 /\ ∃ y, 0 <= I6 (Bi h c G (Aa h)) (x.a, x.b) /\ (Bi h c G (Aa h))[(I6 (Bi h c G (Aa h)) (x.a, x.b)).toNat]? = some y /\ y.lo <= x.lo := by
 obtain ⟨i, p, h1, h2, h3, hxe⟩ := Adj hx
 obtain ⟨_, hF⟩ := A71 n F e
 rcases hF i _ h2 with k | ⟨m, q, m1, m2, m3, m4, m5⟩
 ·omega
 ·rw [h1] at m3
  injection m3 with m3
  subst m3
  have hm := a0b h1
  have hle := hn m m1
  rw [<- m2] at hle
  have hsh : ∀ a b, PairP h c G p a b -> (Az h c G p.1).length + (Az h c G p.2).length <= 200 := fun a b q => by
   have g1 : (Az h c G p.1).length <= 25 := by
    unfold Az;rw [q.ha];exact Ol h c _ _ _ h6
   have g2 : (Az h c G p.2).length <= 25 := by
    unfold Az;rw [q.hb];exact Ol h c _ _ _ h6
   omega
  obtain ⟨c1, c2⟩ := A0p hf po hm (hgo p hm) h3 hle m4 m5 hsh
  obtain ⟨_, _, hu⟩ := A5g po hm
  have hun : P6 h c G p = (ctR h c G p).1 := if_pos c1
  have ha : x.a = p.1 := by rw [hxe]
  have hb : x.b = p.2 := by rw [hxe]
  have hhi : x.lo = x.hi := by rw [hxe]
  refine ⟨h3, hhi, hle, ?_, ?_⟩
  ·rw [m2]
   exact a9l _ _
  ·rw [ha, hb]
   rcases hu with ⟨y, v0, hy, hyu⟩ | ⟨v0, hyu⟩
   ·exact ⟨y, v0, hy, by omega⟩
   ·exfalso
    have h1 : (⟨p.1, p.2, (ctR h c G p).1, (ctR h c G p).2.1⟩ : ConR) ∈ Bi h c G (Aa h) := a6d.2 ⟨p, hm, by unfold Rf;rw [if_pos c1]⟩
    have h2 : ¬ I6 (Bi h c G (Aa h)) p = -1 := H5 ⟨_, h1, rfl, rfl⟩
    have h3 : -1 <= I6 (Bi h c G (Aa h)) p := Bw _ _
    omega
theorem A6c {h : HouseR} {c : SheetR} {G : List Int} {ms : Int} {F : List Int} : ∀ (j : Nat) (e : Int), inS h c G ms F j = .error e -> e ≠ 0
 | 0, e, h1 => by
  rw [inS] at h1
  cases h1
 | j + 1, e, h1 => by
  rw [inS] at h1
  split at h1
  ·rename_i h2
   injection h1 with h1
   subst h1
   exact A6c j _ h2
  ·split at h1
   ·cases h1
   ·split at h1
    ·cases h1
    ·split at h1
     ·rename_i hne
      injection h1 with h1
      subst h1
      exact hne
     ·split at h1 <;> cases h1
theorem A70 {h : HouseR} {c : SheetR} {G : List Int} {step : Int} : ∀ (k : Nat) (e : Int), ouS h c G step k = .error e -> e ≠ 0
 | 0, e, h1 => by
  rw [ouS] at h1
  cases h1
 | k + 1, e, h1 => by
  rw [ouS] at h1
  split at h1
  ·rename_i h2
   injection h1 with h1
   subst h1
   exact A70 k _ h2
  ·split at h1
   ·rename_i hne
    injection h1 with h1
    subst h1
    exact hne
   ·exact A6c _ _ h1
def Nx (h : HouseR) (c : SheetR) (G : List Int) : Prop := ¬ (Tl h 6 /\ Tk c 6 /\ G.length <= 12)
noncomputable instance (h : HouseR) (c : SheetR) (G : List Int) : Decidable (Nx h c G) := Classical.propDecidable _
theorem Aa3 (h : HouseR) (c : SheetR) (hf : h.fits) (hc : c.fits) (G : List Int) : Fn0 Tryz.prog 19 [A2 h.row, A2 c.row, .sl (G.map A3)] (.b (decide (Nx h c G))) := by
 have c1 := A7h h 6 (by decide) hf
 have c2 := A7i c 6 (by decide) hc
 have hle : (G.map A3).length = G.length := a0a _
 by_cases h1 : Tl h 6
 ·rw [decide_eq_true h1] at c1
  by_cases h2 : Tk c 6
  ·rw [decide_eq_true h2] at c2
   by_cases h3 : ((G.map A3).length : Int) > 12
   ·rw [decide_eq_true (show Nx h c G from fun k => by have := k.2.2;omega)]
    refine Fn0.of b0e a9q rfl rfl rfl ?_
    simp only [A1]
    repeat' (first|refine W ?_|refine Y ?_|refine V ?_|(refine W2 ?_ ?_<;>intro hc))
    all_goals exact A4 (by simp) a8z rfl (congrArg Value.bool (decide_eq_true h3))
   ·rw [decide_eq_false (show ¬ Nx h c G from fun k => k ⟨h1, h2, by omega⟩)]
    refine Fn0.of b0e a9q rfl rfl rfl ?_
    simp only [A1]
    repeat' (first|refine W ?_|refine Y ?_|refine V ?_|(refine W2 ?_ ?_<;>intro hc))
    all_goals exact A4 (by simp) a8z rfl (congrArg Value.bool (decide_eq_false h3))
  ·rw [decide_eq_false h2] at c2
   rw [decide_eq_true (show Nx h c G from fun k => h2 k.2.1)]
   refine Fn0.of b0e a9q rfl rfl rfl ?_
   simp only [A1]
   repeat' (first|refine W ?_|refine Y ?_|refine V ?_|(refine W2 ?_ ?_<;>intro hc))
   all_goals exact A4 (by simp) a8z rfl rfl
 ·rw [decide_eq_false h1] at c1
  rw [decide_eq_true (show Nx h c G from fun k => h1 k.1)]
  refine Fn0.of b0e a9q rfl rfl rfl ?_
  simp only [A1]
  repeat' (first|refine W ?_|refine Y ?_|refine V ?_|(refine W2 ?_ ?_<;>intro hc))
  all_goals exact A4 (by simp) a8z rfl rfl
theorem A5b (h : HouseR) (c : SheetR) (hf : h.fits) (hc : c.fits) (G : List Int) (hG : G.length <= 4611686018427387904) : Fn0 Tryz.prog 20 [A2 h.row, A2 c.row, .sl (G.map A3)] (.tup [.sl ((ckL h c G).map ConR.row), .i (ckE h c G)]) := by
 have cc := A0o h c hf hc G hG
 generalize (ckL h c G).map ConR.row = l at *
 generalize ckE h c G = e at *
 refine Fn0.of Tryz.func20 Tryz.ntmps20 rfl rfl rfl ?_
 simp only [A1]
 repeat' (first|refine W ?_|refine Y ?_|refine V ?_|(refine W2 ?_ ?_<;>intro hc))
 all_goals exact D2 rfl rfl rfl
theorem Abb (x y : ConR) : Fn0 Tryz.prog 23 [A2 y.row, .rop x.row] (.b (decide (y.a = x.a /\ y.b = x.b))) := by
 refine Fn0.of Tryz.func23 Tryz.ntmps23 rfl rfl rfl ?_
 simp only [A1]
 repeat' (first|refine W ?_|refine Y ?_|refine V ?_|(refine W2 ?_ ?_<;>intro hc))
 all_goals exact A4 (by simp) Tryz.results23 rfl (by simp [hc])
theorem Adg (l : List ConR) (x : ConR) (hl : l.length <= 9223372036854775807) : Fn0 Tryz.prog 22 [.sl (l.map ConR.row), .fn (.func 23) [] [.rop x.row]] (.i (I6 l (x.a, x.b))) :=
 Rl l ConR.row (fun y => y.a = x.a /\ y.b = x.b) _ _ (fun _ => rfl) hl rfl fun y _ => Abb x y
theorem O9 (h : HouseR) (c : SheetR) (hf : h.fits) (hc : c.fits) (G : List Int) (hG : G.length <= 4611686018427387904) (step : Int) : Fn0 Tryz.prog 5 [A2 h.row, A2 c.row, .sl (G.map A3), .i step] (.b true) := by
 have aw := A6e
 have lg := Aa3 h c hf hc G
 by_cases a0 : alE h c G = 0
 ·have ce := Na h c hf hc G hG a0
  obtain ⟨po, _⟩ := J8 a0
  have hei := po.endI
  by_cases hl : Nx h c G
  ·rw [decide_eq_true hl] at lg
   refine Fn0.of a4r a5h rfl rfl rfl ?_
   simp only [A1]
   repeat' (first|refine W ?_|refine Y ?_|refine V ?_|(refine W2 ?_ ?_<;>intro hc))
   all_goals exact A4 (by simp) a4g rfl rfl
  rw [decide_eq_false hl] at lg
  by_cases s0 : step < 1
  ·skip
   refine Fn0.of a4r a5h rfl rfl rfl ?_
   simp only [A1]
   repeat' (first|refine W ?_|refine Y ?_|refine V ?_|(refine W2 ?_ ?_<;>intro hc))
   all_goals exact A4 (by simp) a4g rfl rfl
  by_cases s1 : step > 2147483648
  ·skip
   refine Fn0.of a4r a5h rfl rfl rfl ?_
   simp only [A1]
   repeat' (first|refine W ?_|refine Y ?_|refine V ?_|(refine W2 ?_ ?_<;>intro hc))
   all_goals exact A4 (by simp) a4g rfl rfl
  by_cases s2 : endI h c G / step > 40
  ·skip
   refine Fn0.of a4r a5h rfl rfl rfl ?_
   simp only [A1]
   repeat' (first|refine W ?_|refine Y ?_|(apply S.quo;(iterate 3 exact rfl);omega)|refine V ?_|(refine W2 ?_ ?_<;>intro hc))
   all_goals exact A4 (by simp) a4g rfl rfl
  have h6 : c.cues.length <= 6 := by have := (a1x.1 hl).2.1.1;omega
  have ck := A5b h c hf hc G hG
  obtain ⟨N, hN, cs⟩ := A33 h c hf hc G hG a0 h6 step (by omega) (by omega) (by omega)
  have hlp := Yo po.v.1
  cases hR : ouS h c G step N with
  | error f =>
   have hne := A70 N f hR
   rw [hR, show smR h (.error f) = .tup [.sl [], .i f] from rfl] at cs
   by_cases e : ckE h c G = 0
   ·rw [e] at ck
    generalize (ckL h c G).map ConR.row = l at *
    refine Fn0.of a4r a5h rfl rfl rfl ?_
    simp only [A1]
    repeat' (first|refine W ?_|refine Y ?_|(apply S.quo;(iterate 3 exact rfl);omega)|refine V ?_|(refine W2 ?_ ?_<;>intro hc))
    all_goals exact A4 (by simp) a4g rfl rfl
   ·rw [A16 e] at ck
    generalize ckE h c G = x at *
    refine Fn0.of a4r a5h rfl rfl rfl ?_
    simp only [A1]
    repeat' (first|refine W ?_|refine Y ?_|(apply S.quo;(iterate 3 exact rfl);omega)|refine V ?_|(refine W2 ?_ ?_<;>intro hc))
    all_goals exact A4 (by simp) a4g rfl rfl
  | ok F =>
   rw [hR, show smR h (.ok F) = .tup [.sl ((Dc (Aa h) F (Aa h).length).map ConR.row), .i 0] from rfl] at cs
   by_cases e : ckE h c G = 0
   ·obtain ⟨_, el⟩ := Af8 e
    rw [e, el] at ck
    have hfe : Ht h c G (Aa h) = 0 := by have := e;unfold ckE at this;rwa [if_pos a0] at this
    have hgo := Vd hfe
    have hcs := A32 h c G (Aa h)
    have hlaw := fun x hx => Adi (x := x) hf po h6 hgo (by omega) hN hR hx
    have hle3 : ((Bi h c G (Aa h)).map ConR.row).length = (Bi h c G (Aa h)).length := a0a _
    have n0 : ¬ ¬ (0 : Int) = 0 := fun k => k rfl
    have hML := Abc (Aa h) F (Aa h).length
    generalize Dc (Aa h) F (Aa h).length = M at *
    generalize Bi h c G (Aa h) = L at *
    have hle : (M.map ConR.row).length = M.length := a0a _
    refine Fn0.of a4r a5h rfl rfl rfl ?_
    simp only [A1]
    repeat' (first|refine W ?_|refine Y ?_|(apply S.quo;(iterate 3 exact rfl);omega)|refine V ?_|(refine W2 ?_ ?_<;>intro hc))
    refine p0d (fun k => k <= M.length) (fun k => M.length - k) (fun k => [(88, .i k), (87, .i (M.map ConR.row).length), (86, .sl (M.map ConR.row)), (11, .sl (L.map ConR.row)), (9, .i (endI h c G)), (3, .i step)]) (fun k => [.live (h.row.map .lf), .live (c.row.map .lf)]) 0 (a0n _) CW CH ?_
    intro k hk
    by_cases hlt : k < M.length
    ·have h1 : (k : Int) < ((M.map ConR.row).length : Nat) := by omega
     obtain ⟨x, hx⟩ := Ac hlt
     have hb := Af (R := ConR.row) hx
     obtain ⟨x0, x1, x2, x3, y, y0, hy, y1⟩ := hlaw x (a0b hx)
     have cf := Adg L x (by omega)
     have hb2 := Hm (R := ConR.row) hy
     have v1 := K2 (fun z : ConR => z.a = x.a /\ z.b = x.b) L
     change I6 L (x.a, x.b) < _ at v1
     generalize I6 L (x.a, x.b) = i at *
     have e0 : ¬ i < 0 := by omega
     have e1 : ¬ ¬ x.lo = x.hi := fun k => k x1
     have e2 : ¬ x.lo < y.lo := by omega
     have e3 : ¬ x.lo > endI h c G := by omega
     have e4 : ¬ ¬ x.lo % step = 0 := fun k => k x3
     repeat' (first|refine W ?_|refine Y ?_|(apply S.indexR;(iterate 3 exact rfl);exact hb;omega;exact rfl)|(apply S.indexR;(iterate 3 exact rfl);exact hb2;omega;exact rfl)|(apply S.callV;exact rfl;exact cf;exact .cons (.one (.lf _)) (.cons (.fn (.cons (.ptr0 (cs := x.row) rfl) .nil)) .nil);exact rfl;exact rfl)|(apply S.rem;(iterate 3 exact rfl);omega)|(apply p0e 38 A0 (by decide +kernel);simp only [td])|(apply p0a A0 (by decide +kernel))|refine V ?_|(refine W2 ?_ ?_<;>intro hc))
     all_goals (change Next _ _ _ _ _ _)
     all_goals exact Next.go (k + 1) (by omega) (by omega) CW CH
    ·have h1 : ¬ (k : Int) < ((M.map ConR.row).length : Nat) := by omega
     repeat' (first|refine W ?_|refine Y ?_|refine V ?_|(refine W2 ?_ ?_<;>intro hc))
     all_goals exact A4 (by simp) a4g rfl rfl
   ·rw [A16 e] at ck
    generalize ckE h c G = x at *
    generalize (Dc (Aa h) F (Aa h).length).map ConR.row = l at *
    refine Fn0.of a4r a5h rfl rfl rfl ?_
    simp only [A1]
    repeat' (first|refine W ?_|refine Y ?_|(apply S.quo;(iterate 3 exact rfl);omega)|refine V ?_|(refine W2 ?_ ?_<;>intro hc))
    all_goals exact A4 (by simp) a4g rfl rfl
 ·have ce := Ow h c hf hc G hG a0
  generalize alE h c G = x at *
  by_cases hl : Nx h c G
  ·rw [decide_eq_true hl] at lg
   refine Fn0.of a4r a5h rfl rfl rfl ?_
   simp only [A1]
   repeat' (first|refine W ?_|refine Y ?_|refine V ?_|(refine W2 ?_ ?_<;>intro hc))
   all_goals exact A4 (by simp) a4g rfl rfl
  ·rw [decide_eq_false hl] at lg
   refine Fn0.of a4r a5h rfl rfl rfl ?_
   simp only [A1]
   repeat' (first|refine W ?_|refine Y ?_|refine V ?_|(refine W2 ?_ ?_<;>intro hc))
   all_goals exact A4 (by simp) a4g rfl rfl
end Go.Proofs.YtlapbaiejnaeiaaGreatDoor
