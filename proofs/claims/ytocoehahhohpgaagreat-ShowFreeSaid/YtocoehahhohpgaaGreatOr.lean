/- Contracts: collide's Closest and Touch, of valid sets and paths. No conditions but those of each statement. -/
import Derived.Test.YtocoehahhohpgaaGreatPa
import Derived.Test.YtocoehahhohpgaaGreatOq
import Derived.Test.YtocoehahhohpgaaGreatOs
set_option linter.unusedSimpArgs false
set_option linter.unusedVariables false
namespace Go.Proofs.YtocoehahhohpgaaGreat
open Go Go.RowKit
set_option maxHeartbeats 16000000 in
theorem A3t (a b : SetR) (ha : Cz a) (hb : Cz b) (hfa : a.fits) (hfb : b.fits) (p q : Rat) (hp : Fits p) (hq : Fits q) :
  Fn0 Tryz.prog 20 [A1 a.row, A1 b.row, A1 (frR p), A1 (frR q)] (J0 a b p q) := by
 have va := Dt a hfa
 have vb := Dt b hfb
 rw [decide_eq_true ha] at va
 rw [decide_eq_true hb] at vb
 have vp : Fn0 Tryz.prog 49 [A1 (frR p)] (.b true) := by
  have := E5 p.num p.den
  rwa [hp.valid] at this
 have vq : Fn0 Tryz.prog 49 [A1 (frR q)] (.b true) := by
  have := E5 q.num q.den
  rwa [hq.valid] at this
 have cn := J9 a b ha hb hfa hfb
 have gA := Hy a hfa.2.1
 have gB := Hy b hfb.2.1
 rw [<- Ud] at gA gB
 have fA := J6 ha
 have fB := J6 hb
 have c1 := Dy p (Ap a) hp fA
 have c2 := Dy q (Ap b) hq fB
 unfold J0
 generalize Ap a = u at *
 generalize Ap b = v at *
 by_cases e1 : Cv a b
 ·rw [decide_eq_true e1] at cn
  rw [if_pos e1]
  unfold Db at c1 c2
  by_cases e2 : Fits (p - u)
  ·rw [if_pos e2] at c1 ⊢
   by_cases e3 : Fits (q - v)
   ·rw [if_pos e3] at c2 ⊢
    have m1 := Is (p - u) q e2 hq
    have m2 := Is (q - v) p e3 hp
    have k1 := F6 (p - u) q
    have k2 := F6 (q - v) p
    rw [show decide (p - u < q /\ q - v < p) = decide (Bm (p - u) q < 0 /\ Bm (q - v) p < 0) from decide_eq_decide.2 (by rw [k1, k2])]
    generalize Bm (p - u) q = x1 at *
    generalize Bm (q - v) p = x2 at *
    skip
    refine Fn0.of Tryz.func20 Tryz.ntmps20 rfl rfl rfl ?_
    simp only [A2]
    repeat' (first | refine W ?_|refine Zc va ?_|refine Zc vb ?_|refine Zc vp ?_|refine Zc vq ?_|refine Zc cn ?_|refine Zc gA ?_|refine Zc gB ?_|refine Zc c1 ?_|refine Zc c2 ?_|refine Zc m1 ?_|refine Zc m2 ?_|(apply T.drawAll A0 (by decide +kernel))|(apply T.draw 7 A0 (by decide +kernel);simp only [td]) | refine V ?_|(refine W2 ?_ ?_ <;> intro hc))
    all_goals refine ⟨.inr rfl, [.b (decide (x1 < 0 /\ x2 < 0)), .i 0], .cons (Res.tmpE rfl (congrArg (fun q : Bool => AV.val (.bool q)) ?_)) (.cons (.tmp rfl) .nil), .tup (.cons (.one (.lf _)) (.cons (.one (.lf _)) .nil))⟩
    all_goals first
     | exact (decide_eq_false (fun h => by obtain ⟨h1, h2⟩ := h;omega)).symm
     | exact decide_eq_decide.2 ⟨fun h => ⟨by assumption, h⟩, fun h => h.2⟩
   ·rw [if_neg e3] at c2 ⊢
    skip
    refine Fn0.of Tryz.func20 Tryz.ntmps20 rfl rfl rfl ?_
    simp only [A2]
    repeat' (first | refine W ?_|refine Zc va ?_|refine Zc vb ?_|refine Zc vp ?_|refine Zc vq ?_|refine Zc cn ?_|refine Zc gA ?_|refine Zc gB ?_|refine Zc c1 ?_|refine Zc c2 ?_|(apply T.drawAll A0 (by decide +kernel))|(apply T.draw 7 A0 (by decide +kernel);simp only [td]) | refine V ?_|(refine W2 ?_ ?_ <;> intro hc))
    all_goals exact D2 rfl rfl rfl
  ·rw [if_neg e2] at c1 ⊢
   skip
   refine Fn0.of Tryz.func20 Tryz.ntmps20 rfl rfl rfl ?_
   simp only [A2]
   repeat' (first | refine W ?_|refine Zc va ?_|refine Zc vb ?_|refine Zc vp ?_|refine Zc vq ?_|refine Zc cn ?_|refine Zc gA ?_|refine Zc c1 ?_|(apply T.drawAll A0 (by decide +kernel))|(apply T.draw 7 A0 (by decide +kernel);simp only [td]) | refine V ?_|(refine W2 ?_ ?_ <;> intro hc))
   all_goals exact D2 rfl rfl rfl
 ·rw [decide_eq_false e1] at cn
  rw [if_neg e1]
  refine Fn0.of Tryz.func20 Tryz.ntmps20 rfl rfl rfl ?_
  simp only [A2]
  repeat' (first | refine W ?_|refine Zc va ?_|refine Zc vb ?_|refine Zc vp ?_|refine Zc vq ?_|refine Zc cn ?_|(apply T.drawAll A0 (by decide +kernel)) | refine V ?_|(refine W2 ?_ ?_ <;> intro hc))
  all_goals exact D2 rfl rfl rfl
def NoT (a b : SetR) (x y : List PcQ) (L : Rat) : Prop := ∀ t, 0 <= t -> t <= L -> atE x t 0 = 0 -> atE y t 0 = 0 -> ∃ e : Int, J0 a b (atQ x t) (atQ y t) = .tup [.b false, .i e]
theorem A3g {a b : SetR} {p q : Rat} (h : Cv a b -> ¬ (p - Ap a < q /\ q - Ap b < p)) : ∃ e : Int, J0 a b p q = .tup [.b false, .i e] := by
 unfold J0
 split
 ·rename_i hn
  split
  ·split
   ·rw [decide_eq_false (h hn)]
    exact ⟨_, rfl⟩
   ·exact ⟨_, rfl⟩
  ·exact ⟨_, rfl⟩
 ·exact ⟨_, rfl⟩
theorem A8i {a b : SetR} {x y : List PcQ} {L : Rat} (h : Cv a b -> C4 a = 0 /\ C4 b = 0) : NoT a b x y L := fun t _ _ _ _ => A3g fun hn => by
 obtain ⟨h1, h2⟩ := h hn
 have e1 : Ap a = 0 := by unfold Ap;rw [h1];rfl
 have e2 : Ap b = 0 := by unfold Ap;rw [h2];rfl
 rw [e1, e2]
 rintro ⟨k1, k2⟩
 grind
theorem A3q (l : List PcQ) (fr te : Rat) : Au l fr te = spE 12 \/ ∃ lo hi : Int, Au l fr te = .tup [A1 [.i lo, .i hi], .i 0] := by
 unfold Au
 cases e : Cm (A4 l fr) fr te (A4 l fr).length with
 | none => exact .inl rfl
 | some r =>
  refine .inr ?_
  obtain ⟨j, _, hst, _⟩ := Gz e
  have key : ∃ u v : Int, r = [.i u, .i v] := by
   unfold Bf at hst
   split at hst
   ·cases hst
   ·split at hst
    ·injection hst with hst;subst hst;unfold enQ;split <;> exact ⟨_, _, rfl⟩
    ·split at hst
     ·injection hst with hst;subst hst;unfold Fv;split <;> exact ⟨_, _, rfl⟩
     ·cases hst
  obtain ⟨u, v, rfl⟩ := key
  exact ⟨u, v, rfl⟩
theorem Vr (h : HouseR) (hf : h.fits) (hp : ¬ By h) : Fn0 Tryz.prog 13 [A1 h.row] (.tup [.sl [], .i 1]) := by
 have hv := Gi h hf
 rw [decide_eq_false hp] at hv
 refine Fn0.of Tryz.func13 Tryz.ntmps13 rfl rfl rfl ?_
 simp only [A2]
 repeat' (first
  | refine W ?_
  | refine Zc hv ?_|(refine T.nilU 2 rfl ?_;apply T.ret;change Bv _ _ _ _ _)
  | refine V ?_
  | (refine W2 ?_ ?_ <;> intro hc))
 all_goals exact D2 rfl rfl rfl
theorem mem_innN {l : List SetR} {k : Nat} {a : SetR} {x : ByteArray × ByteArray} : ∀ {m : Nat}, x ∈ Al l k a m ↔ ∃ j, j < m /\ ∃ b, l[k + 1 + j]? = some b /\ Cv a b /\ x = (a.name, b.name)
 | 0 => by simp [Al]
 | m + 1 => by
  rw [Al, List.mem_append, mem_innN]
  constructor
  ·rintro (⟨j, h1, h2⟩ | h)
   ·exact ⟨j, by omega, h2⟩
   ·split at h
    ·rename_i b hb
     split at h
     ·rename_i hn
      exact ⟨m, by omega, b, hb, hn, List.mem_singleton.1 h⟩
     ·cases h
    ·cases h
  ·rintro ⟨j, h1, b, hb, hn, hx⟩
   by_cases e : j = m
   ·subst e
    refine .inr ?_
    rw [hb]
    simp only [hn, if_true]
    exact List.mem_singleton.2 hx
   ·exact .inl ⟨j, by omega, b, hb, hn, hx⟩
theorem mem_prsK {l : List SetR} {x : ByteArray × ByteArray} : ∀ {n : Nat}, x ∈ Ct l n ↔ ∃ k, k < n /\ ∃ a, l[k]? = some a /\ x ∈ Al l k a (l.length - (k + 1))
 | 0 => by simp [Ct]
 | n + 1 => by
  rw [Ct, List.mem_append, mem_prsK]
  constructor
  ·rintro (⟨k, h1, h2⟩ | h)
   ·exact ⟨k, by omega, h2⟩
   ·split at h
    ·rename_i a ha
     exact ⟨n, by omega, a, ha, h⟩
    ·cases h
  ·rintro ⟨k, h1, a, ha, hx⟩
   by_cases e : k = n
   ·subst e
    refine .inr ?_
    rw [ha]
    exact hx
   ·exact .inl ⟨k, by omega, a, ha, hx⟩
theorem A6s {l : List SetR} (hn : (l.map SetR.name).Nodup) {i j : Nat} {x y : SetR} (hx : l[i]? = some x) (hy : l[j]? = some y) (e : x.name = y.name) : i = j := by
 rcases Nat.lt_trichotomy i j with h | h | h
 ·exact absurd e (Yj hn hx hy h)
 ·exact h
 ·exact absurd e.symm (Yj hn hy hx h)
end Go.Proofs.YtocoehahhohpgaaGreat
