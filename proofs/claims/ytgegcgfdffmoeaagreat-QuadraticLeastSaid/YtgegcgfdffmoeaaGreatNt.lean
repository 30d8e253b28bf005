/- Contract: the reference's Least. No conditions but those of each statement. -/
import Derived.Test.YtgegcgfdffmoeaaGreatNs
import Derived.Test.YtgegcgfdffmoeaaGreatNl
import Derived.Test.YtgegcgfdffmoeaaGreatNk
set_option linter.unusedSimpArgs false
namespace Go.Proofs.YtgegcgfdffmoeaaGreat
set_option linter.unusedVariables false
open Go.RowKit
theorem r02_over (p q : Rat) (hp : Fits p) (hq : Fits q) (h0 : q ≠ 0) : Fn0 Tryz.prog 71 [rowA (frR p), rowA (frR q)] (outA (p / q)) := by
  have h1 : q.num ≠ 0 := fun h => h0 (Rat.num_eq_zero.1 h)
  exact r02_opA _ (p / q) p q ⟨_, Tryz.func71, rfl, rfl⟩ (divS p.num p.den q.num q.den) (by unfold divS; simp only [hp.valid, hq.valid, h1, ratV_self, and_self, if_true, if_false, ← Rat.div_def]) fun w => rover_any p.num p.den q.num q.den w hp.valid hq.valid
/-- The value of piece k at a time; none: ErrBig. -/
def rlVal (l : List PcQ) (k : Int) (t : Rat) : Option Rat := if k < 0 then some (pcAt l 0).a else if okA (pcAt l k.toNat) t then some (valR (pcAt l k.toNat) (t - (pcAt l k.toNat).f)) else none
def optA : Option Rat → AV
  | some m => frE m 0
  | none => big
theorem rlVal_fits {l : List PcQ} (hl : okC l) {k : Int} {t v : Rat} (h : rlVal l k t = some v) : Fits v := by
  unfold rlVal at h
  split at h
  · injection h with h; subst h; exact (pcAt_ok hl 0).a
  · split at h
    · rename_i h2
      injection h with h; subst h; exact h2.2.2.2.2
    · cases h
theorem rq_atv (l : List PcQ) (hl : okC l) (h0 : l ≠ []) (k : Int) (t : Rat) (ht : Fits t) (h2 : k < l.length) : Fn0 Tryz.prog 69 [.sl (l.map PcQ.row), .i k, rowA (frR t)] (optA (rlVal l k t)) := by
  unfold rlVal
  by_cases h : k < 0
  · rw [if_pos h]
    exact rq_at_neg l k t _ (pcAt_get (List.length_pos_iff.2 h0)) h
  · rw [if_neg h]
    have := rq_at_at l k t _ (pcAt_get (l := l) (k := k.toNat) (by omega)) (by omega) (pcAt_ok hl _) ht
    unfold outO at this
    split
    · rename_i h3; rwa [if_pos h3] at this
    · rename_i h3; rwa [if_neg h3] at this
def rlVtx (p : PcQ) (b e m : Rat) : Option Rat :=
  if ¬ Fits (2 * p.c) then none else if ¬ Fits (-p.b / (2 * p.c)) then none else if -p.b / (2 * p.c) ≤ b - p.f ∨ e - p.f ≤ -p.b / (2 * p.c) then some m
  else if okV p (-p.b / (2 * p.c)) then some (minQ m (valR p (-p.b / (2 * p.c)))) else none
def rlIn (m : Rat) (o : Option Rat) : Option Rat := o.map (minQ m)
def rlEnd (l : List PcQ) (k : Int) (b e m : Rat) : Option Rat := if k < 0 ∨ (pcAt l k.toNat).c.num ≤ 0 then some m else rlVtx (pcAt l k.toNat) b e m
def rlStep (l : List PcQ) (fr te : Rat) (k : Int) (m : Rat) : Option Rat :=
  (rlIn m (rlVal l k (rfB l fr k))).bind fun m1 => (rlIn m1 (rlVal l k (rfE l te k))).bind fun m2 => rlEnd l k (rfB l fr k) (rfE l te k) m2
def rlK (l : List PcQ) (fr te : Rat) : Nat → Option Rat
  | 0 => rlVal l (rpI l fr) fr
  | j + 1 => (rlK l fr te j).bind (rlStep l fr te (rpI l fr + j))
def rlA (l : List PcQ) (fr te : Rat) : AV := optA (rlK l fr te (rfN l fr te))
theorem rlK_none {l : List PcQ} {fr te : Rat} {j : Nat} (h : rlK l fr te j = none) : ∀ n, j ≤ n → rlK l fr te n = none := by
  intro n hn
  induction n with
  | zero => obtain rfl : j = 0 := by omega
            exact h
  | succ n ih =>
    by_cases e : j = n + 1
    · subst e; exact h
    · rw [rlK, ih (by omega)]; rfl
theorem rlA_none {l : List PcQ} {fr te : Rat} {j : Nat} (h : rlK l fr te j = none) (hj : j ≤ rfN l fr te) : rlA l fr te = big := by
  rw [rlA, rlK_none h _ hj]; rfl
theorem minQ_lt {p q : Rat} (h : q < p) : minQ p q = q := if_pos h
theorem minQ_ge {p q : Rat} (h : ¬ q < p) : minQ p q = p := if_neg h
structure MinS where
  j : Nat
  m : Rat
set_option maxHeartbeats 64000000 in
theorem rf_least (l : List PcQ) (fr te : Rat) (hl : okC l) (h0 : l ≠ []) (hn : l.length ≤ 1000) (hf : Fits fr) (ht : Fits te) :
    Fn0 Tryz.prog 15 [.sl (l.map PcQ.row), rowA (frR fr), rowA (frR te)] (rlA l fr te) := by
  have p1 := rq_piece l fr hl hn hf
  have p2 := rq_piece l te hl hn ht
  have hll : (l.map PcQ.row).length = l.length := List.length_map _
  have hpos : 0 < l.length := List.length_pos_iff.2 h0
  obtain ⟨r1, r2⟩ := rpI_range l fr
  obtain ⟨r3, r4⟩ := rpI_range l te
  have cA := rq_atv l hl h0 (rpI l fr) fr hf r2
  have z0 : ¬ (0 : Int) ≠ 0 := fun h => h rfl
  have z5 : (5 : Int) ≠ 0 := by decide
  cases hv0 : rlVal l (rpI l fr) fr with
  | none =>
    rw [hv0] at cA
    rw [rlA_none (j := 0) (by rw [rlK]; exact hv0) (Nat.zero_le _)]
    change Fn0 _ _ _ big at cA
    refine Fn0.of Tryz.func15 Tryz.ntmps15 rfl rfl rfl ?_
    simp only [entryTm]
    repeat' (first | (apply S.move; exact rfl; exact rfl) | (apply S.assign; exact rfl; exact rfl) | (apply S.call; exact rfl; exact rfl; exact p1; exact rfl) | (apply S.call; exact rfl; exact rfl; exact cA; exact rfl) | (apply T.drawAll anyOrder (by decide +kernel)) | (apply S.loadPA; (iterate 4 exact rfl)) | (apply S.box; (iterate 6 exact rfl)) | (apply S.alloc; (iterate 5 exact rfl)) | (apply S.store; (iterate 7 exact rfl)) | (apply S.storeD; (iterate 8 exact rfl)) | (apply S.cmp; (iterate 4 exact rfl)) | (apply S.extract; exact rfl; exact rfl; exact rfl) | (apply S.build; exact rfl; exact rfl; exact rfl) | apply S.nil | apply T.regs | (apply T.cC; exact rfl) | apply T.seq | (apply T.ret; change Done _ _ _ _ _))
    all_goals exact ⟨.inr rfl, [rowA [.i 0, .i 0], .i 5], .cons (Res.row [.i 0, .i 0] rfl rfl rfl rfl rfl) (.cons (.tmp rfl) .nil), .tup (.cons (.agg (outL_refl [.i 0, .i 0])) (.cons (.one (.lf _)) .nil))⟩
  | some m0 =>
    rw [hv0] at cA
    change Fn0 _ _ _ (frE m0 0) at cA
    refine Fn0.of Tryz.func15 Tryz.ntmps15 rfl rfl rfl ?_
    simp only [entryTm]
    repeat' (first | (apply S.move; exact rfl; exact rfl) | (apply S.assign; exact rfl; exact rfl) | (apply S.call; exact rfl; exact rfl; exact p1; exact rfl) | (apply S.call; exact rfl; exact rfl; exact cA; exact rfl) | (apply T.drawAll anyOrder (by decide +kernel)) | (apply S.loadPA; (iterate 4 exact rfl)) | (apply S.box; (iterate 6 exact rfl)) | (apply S.alloc; (iterate 5 exact rfl)) | (apply S.storeD; (iterate 8 exact rfl)) | (apply S.cmp; (iterate 4 exact rfl)) | (apply S.extract; exact rfl; exact rfl; exact rfl) | apply S.nil | apply T.regs | (apply T.cCN; exact rfl) | apply T.seq | (apply T.skip; first | change T _ _ _ _ _ | change Done _ _ _ _ _ | change Next _ _ _ _ _ _ | skip) | apply T.block)
    refine T.loopS (fun (s : MinS) => s.j ≤ rfN l fr te ∧ rlK l fr te s.j = some s.m ∧ Fits s.m) (fun s => rfN l fr te - s.j) (fun s => [(10, .i (rpI l fr + (s.j : Int))), (0, .sl (l.map PcQ.row)), (4, .ptr 0 0), (5, .ptr 1 0), (6, .ptr 2 0), (8, .ptr 3 0)]) (fun s => [.live ((frR fr).map .lf), .live ((frR te).map .lf), .live [.i 0, .i 0], .live ((frR s.m).map .lf)]) ⟨0, m0⟩ ⟨Nat.zero_le _, hv0, rlVal_fits hl hv0⟩ (.cons (by rw [show rpI l fr + ((0 : Nat) : Int) = rpI l fr by omega]; rfl) rfl (.cons rfl rfl (.cons rfl rfl (.cons rfl rfl (.cons rfl rfl (.cons rfl rfl .nil)))))) (.live rfl (.live rfl (.live rfl (.live rfl .nil)))) ?_
    rintro ⟨j, m⟩ ⟨hj, hK, fm⟩
    dsimp only at hj hK fm ⊢
    clear p1 cA
    have hN : rfN l fr te = (rpI l te - rpI l fr + 1).toNat := rfl
    have hKn : rlK l fr te (j + 1) = rlStep l fr te (rpI l fr + j) m := by rw [rlK, hK]; rfl
    obtain ⟨kk, hkk⟩ : ∃ kk, kk = rpI l fr + (j : Int) := ⟨_, rfl⟩
    rw [← hkk] at hKn ⊢
    by_cases hlt : kk ≤ rpI l te
    · have okx := pcAt_ok hl kk.toNat
      have oky := pcAt_ok hl (kk + 1).toNat
      have hbx : 0 ≤ kk → (l.map PcQ.row)[kk.toNat]? = some (pcAt l kk.toNat).row := fun h => by rw [List.getElem?_map, pcAt_get (by omega)]; rfl
      have hby : kk + 1 < (((l.map PcQ.row).length : Nat) : Int) → (l.map PcQ.row)[(kk + 1).toNat]? = some (pcAt l (kk + 1).toNat).row := fun h => by rw [List.getElem?_map, pcAt_get (by omega)]; rfl
      have cx := r02_cmp (pcAt l kk.toNat).f fr okx.f hf
      have cy := r02_cmp (pcAt l (kk + 1).toNat).f te oky.f ht
      obtain ⟨b, hb⟩ : ∃ b, b = rfB l fr kk := ⟨_, rfl⟩
      obtain ⟨e, he⟩ : ∃ e, e = rfE l te kk := ⟨_, rfl⟩
      have fb : Fits b := hb ▸ rfB_fits hl hf kk
      have fe : Fits e := he ▸ rfE_fits hl ht kk
      have hst : rlStep l fr te kk m = (rlIn m (rlVal l kk b)).bind fun m1 => (rlIn m1 (rlVal l kk e)).bind fun m2 => rlEnd l kk b e m2 := by rw [rlStep, ← hb, ← he]
      have hB1 : ¬ 0 ≤ kk → b = fr := fun h => by rw [hb, rfB, if_neg (fun q => h q.1)]
      have hB2 : 0 ≤ kk → 0 < cmpQ (pcAt l kk.toNat).f fr → b = (pcAt l kk.toNat).f := fun h q => by rw [hb, rfB, if_pos ⟨h, (cmpQ_gt _ _).1 q⟩]
      have hB3 : ¬ 0 < cmpQ (pcAt l kk.toNat).f fr → b = fr := fun q => by rw [hb, rfB, if_neg (fun r => q ((cmpQ_gt _ _).2 r.2))]
      have hE1 : kk + 1 < (((l.map PcQ.row).length : Nat) : Int) → cmpQ (pcAt l (kk + 1).toNat).f te < 0 → e = (pcAt l (kk + 1).toNat).f := fun h q => by rw [he, rfE, if_pos ⟨by omega, (cmpQ_lt _ _).1 q⟩]
      have hE2 : ¬ kk + 1 < (((l.map PcQ.row).length : Nat) : Int) → e = te := fun h => by rw [he, rfE, if_neg (fun q => h (by omega))]
      have hE3 : ¬ cmpQ (pcAt l (kk + 1).toNat).f te < 0 → e = te := fun q => by rw [he, rfE, if_neg (fun r => q ((cmpQ_lt _ _).2 r.2))]
      repeat' (first | (apply S.move; exact rfl; exact rfl) | (apply S.gTT; exact rfl; exact rfl; assumption) | (apply S.gTF; exact rfl; exact rfl; assumption; exact rfl) | (apply S.fieldR; exact rfl; exact rfl) | (apply S.pTp; exact rfl; assumption; exact rfl; exact rfl) | (apply S.pFp; exact rfl; assumption; exact rfl; exact rfl) | (apply S.arith; (iterate 4 exact rfl); omega) | (apply S.call; exact rfl; exact rfl; exact p2; exact rfl) | (apply S.call; exact rfl; exact rfl; exact cx; exact rfl) | (apply S.call; exact rfl; exact rfl; exact cy; exact rfl) | (apply S.indexR; exact rfl; exact rfl; exact rfl; exact hbx (by assumption); omega; exact rfl) | (apply S.indexR; exact rfl; exact rfl; exact rfl; exact hby (by assumption); omega; exact rfl) | (refine T.meetR 8 ([(11, .ptr 4 0), (12, .ptr 5 0), (10, .i kk), (0, .sl (l.map PcQ.row)), (4, .ptr 0 0), (5, .ptr 1 0), (6, .ptr 2 0), (8, .ptr 3 0)]) ([.live ((frR fr).map .lf), .live ((frR te).map .lf), .live [.i 0, .i 0], .live ((frR m).map .lf), .live ((frR b).map .lf), .live ((frR te).map .lf)]) ?_ ?_) | (refine T.meetS 10 ([(11, .ptr 4 0), (12, .ptr 5 0), (10, .i kk), (0, .sl (l.map PcQ.row)), (4, .ptr 0 0), (5, .ptr 1 0), (6, .ptr 2 0), (8, .ptr 3 0)]) ([.live ((frR fr).map .lf), .live ((frR te).map .lf), .live [.i 0, .i 0], .live ((frR m).map .lf), .live ((frR b).map .lf), .live ((frR e).map .lf)]) ?_ ?_) | (apply T.draw 10 anyOrder (by decide +kernel); simp only [List.take_succ_cons, List.take_zero, List.drop_succ_cons, List.drop_zero]) | (apply T.drawAll anyOrder (by decide +kernel)) | (apply S.loadPA; (iterate 4 exact rfl)) | (apply S.loadRA; (iterate 4 exact rfl)) | (apply S.alloc; (iterate 5 exact rfl)) | (apply S.store; (iterate 7 exact rfl)) | (apply S.storeD; (iterate 8 exact rfl)) | (apply S.cmp; (iterate 4 exact rfl)) | (apply S.lenR; exact rfl; exact rfl) | (apply S.gsT; exact rfl; exact rfl; exact rfl; intro hc; rotate_left; intro hc; rotate_right) | apply S.nil | apply T.regs | apply T.reg | (apply T.cCN; exact rfl) | (apply T.cT; exact rfl; assumption) | (apply T.cS; exact rfl; intro hc; rotate_left; intro hc; rotate_right) | apply T.seq | (apply T.skip; first | change T _ _ _ _ _ | change Done _ _ _ _ _ | change Next _ _ _ _ _ _ | skip) | apply T.block)
      all_goals try first
        | exact T.met (.cons rfl rfl (.cons rfl rfl (.cons rfl rfl (.cons rfl rfl (.cons rfl rfl (.cons rfl rfl (.cons rfl rfl (.cons rfl rfl .nil)))))))) (by rw [hB1 (by assumption)]; exact (.live rfl (.live rfl (.live rfl (.live rfl (.live rfl (.live rfl .nil)))))))
        | exact T.met (.cons rfl rfl (.cons rfl rfl (.cons rfl rfl (.cons rfl rfl (.cons rfl rfl (.cons rfl rfl (.cons rfl rfl (.cons rfl rfl .nil)))))))) (by rw [hB2 (by assumption) (by assumption)]; exact (.live rfl (.live rfl (.live rfl (.live rfl (.live rfl (.live rfl .nil)))))))
        | exact T.met (.cons rfl rfl (.cons rfl rfl (.cons rfl rfl (.cons rfl rfl (.cons rfl rfl (.cons rfl rfl (.cons rfl rfl (.cons rfl rfl .nil)))))))) (by rw [hB3 (by assumption)]; exact (.live rfl (.live rfl (.live rfl (.live rfl (.live rfl (.live rfl .nil)))))))
        | exact T.met (.cons rfl rfl (.cons rfl rfl (.cons rfl rfl (.cons rfl rfl (.cons rfl rfl (.cons rfl rfl (.cons rfl rfl (.cons rfl rfl .nil)))))))) (by rw [hE1 (by assumption) (by assumption)]; exact (.live rfl (.live rfl (.live rfl (.live rfl (.live rfl (.live rfl .nil)))))))
        | exact T.met (.cons rfl rfl (.cons rfl rfl (.cons rfl rfl (.cons rfl rfl (.cons rfl rfl (.cons rfl rfl (.cons rfl rfl (.cons rfl rfl .nil)))))))) (by rw [hE2 (by assumption)]; exact (.live rfl (.live rfl (.live rfl (.live rfl (.live rfl (.live rfl .nil)))))))
        | exact T.met (.cons rfl rfl (.cons rfl rfl (.cons rfl rfl (.cons rfl rfl (.cons rfl rfl (.cons rfl rfl (.cons rfl rfl (.cons rfl rfl .nil)))))))) (by rw [hE3 (by assumption)]; exact (.live rfl (.live rfl (.live rfl (.live rfl (.live rfl (.live rfl .nil)))))))
      refine ⟨?_⟩
      clear hB1 hB2 hB3 hE1 hE2 hE3 hby cx cy
      have kkl : kk < l.length := by omega
      have cb := rq_atv l hl h0 kk b fb kkl
      have ce := rq_atv l hl h0 kk e fe kkl
      repeat' (first | (apply S.assign; exact rfl; exact rfl) | apply S.nil | apply T.regs | apply T.seq | apply T.block)
      refine T.loopS (fun (s : MinS) => (s.j = 0 ∧ s.m = m ∨ s.j = 1 ∧ rlIn m (rlVal l kk b) = some s.m ∨ s.j = 2 ∧ ((rlIn m (rlVal l kk b)).bind fun m1 => rlIn m1 (rlVal l kk e)) = some s.m) ∧ Fits s.m) (fun s => 2 - s.j) (fun s => [(13, .i (s.j : Int)), (11, .ptr 4 0), (12, .ptr 5 0), (10, .i kk), (0, .sl (l.map PcQ.row)), (4, .ptr 0 0), (5, .ptr 1 0), (6, .ptr 2 0), (8, .ptr 3 0)]) (fun s => [.live ((frR fr).map .lf), .live ((frR te).map .lf), .live [.i 0, .i 0], .live ((frR s.m).map .lf), .live ((frR b).map .lf), .live ((frR e).map .lf)]) ⟨0, m⟩ ⟨.inl ⟨rfl, rfl⟩, fm⟩ (.cons rfl rfl (.cons rfl rfl (.cons rfl rfl (.cons rfl rfl (.cons rfl rfl (.cons rfl rfl (.cons rfl rfl (.cons rfl rfl (.cons rfl rfl .nil))))))))) (.live rfl (.live rfl (.live rfl (.live rfl (.live rfl (.live rfl .nil)))))) ?_
      rintro ⟨i, q⟩ ⟨hI, fq⟩
      dsimp only at hI fq ⊢
      rcases hI with ⟨rfl, rfl⟩ | ⟨rfl, hI⟩ | ⟨rfl, hI⟩
      · have i0 : ((0 : Nat) : Int) < 2 := by decide
        have i1 : ¬ ((0 : Nat) : Int) = 1 := by decide
        cases hv : rlVal l kk b with
        | none =>
          rw [hv] at cb
          change Fn0 _ _ _ big at cb
          rw [rlA_none (j := j + 1) (by rw [hKn, hst, hv]; rfl) (by omega)]
          repeat' (first | (apply S.move; exact rfl; exact rfl) | (apply S.assign; exact rfl; exact rfl) | (apply S.call; exact rfl; exact rfl; exact cb; exact rfl) | (apply S.loadPA; (iterate 4 exact rfl)) | (apply S.alloc; (iterate 5 exact rfl)) | (apply S.store; (iterate 7 exact rfl)) | (apply S.cmp; (iterate 4 exact rfl)) | (apply S.extract; exact rfl; exact rfl; exact rfl) | (apply S.build; exact rfl; exact rfl; exact rfl) | apply S.nil | apply T.regs | (apply T.cC; exact rfl) | (apply T.cCN; exact rfl) | apply T.seq | (apply T.skip; first | change T _ _ _ _ _ | change Done _ _ _ _ _ | change Next _ _ _ _ _ _ | skip) | (apply T.ret; change Done _ _ _ _ _) | apply T.block)
          all_goals exact ⟨.inr rfl, [rowA [.i 0, .i 0], .i 5], .cons (Res.row [.i 0, .i 0] rfl rfl rfl rfl rfl) (.cons (.tmp rfl) .nil), .tup (.cons (.agg (outL_refl [.i 0, .i 0])) (.cons (.one (.lf _)) .nil))⟩
        | some v =>
          rw [hv] at cb
          change Fn0 _ _ _ (frE v 0) at cb
          have fv := rlVal_fits hl hv
          have cm := r02_cmp v q fv fq
          have km := cmpQ_lt v q
          repeat' (first | (apply S.move; exact rfl; exact rfl) | (apply S.assign; exact rfl; exact rfl) | (apply S.arith; (iterate 4 exact rfl); omega) | (apply S.call; exact rfl; exact rfl; exact cb; exact rfl) | (apply S.call; exact rfl; exact rfl; exact cm; exact rfl) | (apply S.loadPA; (iterate 4 exact rfl)) | (apply S.alloc; (iterate 5 exact rfl)) | (apply S.store; (iterate 7 exact rfl)) | (apply S.cmp; (iterate 4 exact rfl)) | (apply S.extract; exact rfl; exact rfl; exact rfl) | apply S.nil | apply T.regs | apply T.reg | (apply T.cC; exact rfl) | (apply T.cCN; exact rfl) | (apply T.cS; exact rfl; intro hc; rotate_left; intro hc; rotate_right) | apply T.seq | (apply T.skip; first | change T _ _ _ _ _ | change Done _ _ _ _ _ | change Next _ _ _ _ _ _ | skip) | apply T.block)
          all_goals first
            | (change Next _ _ _ _ _ _; exact Next.go ⟨1, v⟩ ⟨.inr (.inl ⟨rfl, by exact congrArg some (minQ_lt (km.1 (by assumption)))⟩), fv⟩ (by dsimp only; omega) (.cons rfl rfl (.cons rfl rfl (.cons rfl rfl (.cons rfl rfl (.cons rfl rfl (.cons rfl rfl (.cons rfl rfl (.cons rfl rfl (.cons rfl rfl .nil))))))))) (.live rfl (.live rfl (.live rfl (.live rfl (.live rfl (.live rfl .nil)))))))
            | (change Next _ _ _ _ _ _; exact Next.go ⟨1, q⟩ ⟨.inr (.inl ⟨rfl, by exact congrArg some (minQ_ge (fun h => absurd (km.2 h) (by assumption)))⟩), fq⟩ (by dsimp only; omega) (.cons rfl rfl (.cons rfl rfl (.cons rfl rfl (.cons rfl rfl (.cons rfl rfl (.cons rfl rfl (.cons rfl rfl (.cons rfl rfl (.cons rfl rfl .nil))))))))) (.live rfl (.live rfl (.live rfl (.live rfl (.live rfl (.live rfl .nil)))))))
      · have i0 : ((1 : Nat) : Int) < 2 := by decide
        have i1 : ((1 : Nat) : Int) = 1 := by decide
        cases hv : rlVal l kk e with
        | none =>
          rw [hv] at ce
          change Fn0 _ _ _ big at ce
          rw [rlA_none (j := j + 1) (by rw [hKn, hst, hI, hv]; rfl) (by omega)]
          repeat' (first | (apply S.move; exact rfl; exact rfl) | (apply S.assign; exact rfl; exact rfl) | (apply S.call; exact rfl; exact rfl; exact ce; exact rfl) | (apply S.loadPA; (iterate 4 exact rfl)) | (apply S.alloc; (iterate 5 exact rfl)) | (apply S.store; (iterate 7 exact rfl)) | (apply S.cmp; (iterate 4 exact rfl)) | (apply S.extract; exact rfl; exact rfl; exact rfl) | (apply S.build; exact rfl; exact rfl; exact rfl) | apply S.nil | apply T.regs | apply T.reg | (apply T.cC; exact rfl) | apply T.seq | (apply T.skip; first | change T _ _ _ _ _ | change Done _ _ _ _ _ | change Next _ _ _ _ _ _ | skip) | (apply T.ret; change Done _ _ _ _ _) | apply T.block)
          all_goals exact ⟨.inr rfl, [rowA [.i 0, .i 0], .i 5], .cons (Res.row [.i 0, .i 0] rfl rfl rfl rfl rfl) (.cons (.tmp rfl) .nil), .tup (.cons (.agg (outL_refl [.i 0, .i 0])) (.cons (.one (.lf _)) .nil))⟩
        | some v =>
          rw [hv] at ce
          change Fn0 _ _ _ (frE v 0) at ce
          have fv := rlVal_fits hl hv
          have cm := r02_cmp v q fv fq
          have km := cmpQ_lt v q
          repeat' (first | (apply S.move; exact rfl; exact rfl) | (apply S.assign; exact rfl; exact rfl) | (apply S.arith; (iterate 4 exact rfl); omega) | (apply S.call; exact rfl; exact rfl; exact ce; exact rfl) | (apply S.call; exact rfl; exact rfl; exact cm; exact rfl) | (apply S.loadPA; (iterate 4 exact rfl)) | (apply S.alloc; (iterate 5 exact rfl)) | (apply S.store; (iterate 7 exact rfl)) | (apply S.cmp; (iterate 4 exact rfl)) | (apply S.extract; exact rfl; exact rfl; exact rfl) | apply S.nil | apply T.regs | apply T.reg | (apply T.cC; exact rfl) | (apply T.cCN; exact rfl) | (apply T.cS; exact rfl; intro hc; rotate_left; intro hc; rotate_right) | apply T.seq | (apply T.skip; first | change T _ _ _ _ _ | change Done _ _ _ _ _ | change Next _ _ _ _ _ _ | skip) | apply T.block)
          all_goals first
            | (change Next _ _ _ _ _ _; exact Next.go ⟨2, v⟩ ⟨.inr (.inr ⟨rfl, by rw [hI]; exact congrArg some (minQ_lt (km.1 (by assumption)))⟩), fv⟩ (by dsimp only; omega) (.cons rfl rfl (.cons rfl rfl (.cons rfl rfl (.cons rfl rfl (.cons rfl rfl (.cons rfl rfl (.cons rfl rfl (.cons rfl rfl (.cons rfl rfl .nil))))))))) (.live rfl (.live rfl (.live rfl (.live rfl (.live rfl (.live rfl .nil)))))))
            | (change Next _ _ _ _ _ _; exact Next.go ⟨2, q⟩ ⟨.inr (.inr ⟨rfl, by rw [hI]; exact congrArg some (minQ_ge (fun h => absurd (km.2 h) (by assumption)))⟩), fq⟩ (by dsimp only; omega) (.cons rfl rfl (.cons rfl rfl (.cons rfl rfl (.cons rfl rfl (.cons rfl rfl (.cons rfl rfl (.cons rfl rfl (.cons rfl rfl (.cons rfl rfl .nil))))))))) (.live rfl (.live rfl (.live rfl (.live rfl (.live rfl (.live rfl .nil)))))))
      · have i0 : ¬ ((2 : Nat) : Int) < 2 := by decide
        have hst2 : rlStep l fr te kk m = rlEnd l kk b e q := by
          rw [hst]
          cases hv : rlIn m (rlVal l kk b) with
          | none => rw [hv] at hI; cases hI
          | some m1 =>
            rw [hv] at hI
            change rlIn m1 (rlVal l kk e) = some q at hI
            change (rlIn m1 (rlVal l kk e)).bind _ = _
            rw [hI]; rfl
        by_cases hng : kk < 0 ∨ (pcAt l kk.toNat).c.num ≤ 0
        · have hKq : rlK l fr te (j + 1) = some q := by rw [hKn, hst2, rlEnd, if_pos hng]
          by_cases hneg : kk < 0
          · skip
            repeat' (first | (apply S.move; exact rfl; exact rfl) | (apply S.assign; exact rfl; exact rfl) | (apply S.gFT; exact rfl; exact rfl; assumption; exact rfl) | (apply S.pTp; exact rfl; assumption; exact rfl; exact rfl) | (apply S.arith; (iterate 4 exact rfl); omega) | (apply S.cmp; (iterate 4 exact rfl)) | apply S.nil | apply T.regs | apply T.reg | (apply T.cC; exact rfl) | (apply T.cCN; exact rfl) | apply T.seq | (apply T.exit; first | change T _ _ _ _ _ | change Done _ _ _ _ _ | change Next _ _ _ _ _ _ | skip))
            change Next _ _ _ _ _ _
            exact Next.go ⟨j + 1, q⟩ ⟨by dsimp only; omega, hKq, fq⟩ (by dsimp only; omega) (.cons (by rw [show rpI l fr + ((j + 1 : Nat) : Int) = kk + 1 by omega]; rfl) rfl (.cons rfl rfl (.cons rfl rfl (.cons rfl rfl (.cons rfl rfl (.cons rfl rfl .nil)))))) (.live rfl (.live rfl (.live rfl (.live rfl .nil))))
          · have h0k : 0 ≤ kk := by omega
            have hc : (pcAt l kk.toNat).c.num ≤ 0 := by omega
            have hbx' := hbx h0k
            repeat' (first | (apply S.move; exact rfl; exact rfl) | (apply S.assign; exact rfl; exact rfl) | (apply S.gFF; exact rfl; exact rfl; assumption) | (apply S.fieldR; exact rfl; exact rfl) | (apply S.loadR; exact rfl; exact rfl; exact rfl) | (apply S.pFp; exact rfl; assumption; exact rfl; exact rfl) | (apply S.arith; (iterate 4 exact rfl); omega) | (apply S.indexR; exact rfl; exact rfl; exact rfl; exact hbx'; omega; exact rfl) | (apply S.cmp; (iterate 4 exact rfl)) | apply S.nil | apply T.regs | apply T.reg | (apply T.cCN; exact rfl) | (apply T.cT; exact rfl; assumption) | apply T.seq | (apply T.exit; first | change T _ _ _ _ _ | change Done _ _ _ _ _ | change Next _ _ _ _ _ _ | skip))
            change Next _ _ _ _ _ _
            exact Next.go ⟨j + 1, q⟩ ⟨by dsimp only; omega, hKq, fq⟩ (by dsimp only; omega) (.cons (by rw [show rpI l fr + ((j + 1 : Nat) : Int) = kk + 1 by omega]; rfl) rfl (.cons rfl rfl (.cons rfl rfl (.cons rfl rfl (.cons rfl rfl (.cons rfl rfl .nil)))))) (.live rfl (.live rfl (.live rfl (.live rfl .nil))))
        · have hneg : ¬ kk < 0 := by omega
          have h0k : 0 ≤ kk := by omega
          have hc : ¬ (pcAt l kk.toNat).c.num ≤ 0 := by omega
          have hbx' := hbx h0k
          rw [rlEnd, if_neg hng] at hst2
          generalize pcAt l kk.toNat = p at *
          have o2 : Fn0 Tryz.prog 54 [.i 2] (rowA (frR 2)) := r02_of 2
          have t1 := r02_times 2 p.c (by decide) okx.c
          unfold outA at t1
          by_cases f1 : Fits (2 * p.c)
          · rw [if_pos f1] at t1
            have hne : 2 * p.c ≠ 0 := fun h => by
              have : p.c = 0 := by grind
              rw [this] at hc
              exact hc (by decide)
            have t2 := r02_neg p.b okx.b
            have t3 := r02_over (-p.b) (2 * p.c) okx.b.neg f1 hne
            unfold outA at t3
            by_cases f2 : Fits (-p.b / (2 * p.c))
            · rw [if_pos f2] at t3
              rw [rlVtx, if_neg (fun h => h f1), if_neg (fun h => h f2)] at hst2
              generalize -p.b / (2 * p.c) = v at *
              have u1 := rf_ofQ v f2
              have u2 := rf_ofQ b fb
              have u3 := rf_ofQ p.f okx.f
              have u4 := rf_ofQ e fe
              have bv := XN.bd_ofQ f2
              have b1 := XN.bd_less (XN.bd_ofQ fb) (XN.bd_ofQ okx.f)
              have b2 := XN.bd_less (XN.bd_ofQ fe) (XN.bd_ofQ okx.f)
              have w1 := rf_xless (XN.bd_ofQ fb) (XN.bd_ofQ okx.f) (by decide)
              have w2 := rf_xless (XN.bd_ofQ fe) (XN.bd_ofQ okx.f) (by decide)
              have m1 := rf_xcmp bv b1 (by decide)
              have m2 := rf_xcmp bv b2 (by decide)
              have k1 := XN.cmp_le bv b1
              have k2 := XN.cmp_neg bv b2
              rw [XN.val_ofQ, XN.val_less (XN.bd_ofQ fb).p (XN.bd_ofQ okx.f).p, XN.val_ofQ, XN.val_ofQ] at k1
              rw [XN.val_ofQ, XN.val_less (XN.bd_ofQ fe).p (XN.bd_ofQ okx.f).p, XN.val_ofQ, XN.val_ofQ] at k2
              generalize ((XN.ofQ v).less ((XN.ofQ b).less (XN.ofQ p.f))).sgn = s1 at m1 k1
              generalize ((XN.ofQ v).less ((XN.ofQ e).less (XN.ofQ p.f))).sgn = s2 at m2 k2
              by_cases hs : s1 ≤ 0 ∨ 0 ≤ s2
              · have hKq : rlK l fr te (j + 1) = some q := by
                  rw [hKn, hst2, if_pos]
                  rcases hs with h | h
                  · exact .inl (k1.1 h)
                  · exact .inr (Rat.not_lt.1 fun h2 => by have := k2.2 h2; omega)
                repeat' (first | (apply S.move; exact rfl; exact rfl) | (apply S.assign; exact rfl; exact rfl) | (apply S.gFF; exact rfl; exact rfl; assumption) | (apply S.gFT; exact rfl; exact rfl; assumption; exact rfl) | (apply S.fieldR; exact rfl; exact rfl) | (apply S.loadR; exact rfl; exact rfl; exact rfl) | (apply S.pTp; exact rfl; assumption; exact rfl; exact rfl) | (apply S.pFp; exact rfl; assumption; exact rfl; exact rfl) | (apply S.arith; (iterate 4 exact rfl); omega) | (apply S.indexR; exact rfl; exact rfl; exact rfl; exact hbx'; omega; exact rfl) | (apply S.call; exact rfl; exact rfl; exact o2; exact rfl) | (apply S.call; exact rfl; exact rfl; exact t1; exact rfl) | (apply S.call; exact rfl; exact rfl; exact t2; exact rfl) | (apply S.call; exact rfl; exact rfl; exact t3; exact rfl) | (apply S.call; exact rfl; exact rfl; exact u1; exact rfl) | (apply S.call; exact rfl; exact rfl; exact u2; exact rfl) | (apply S.call; exact rfl; exact rfl; exact u3; exact rfl) | (apply S.call; exact rfl; exact rfl; exact u4; exact rfl) | (apply S.call; exact rfl; exact rfl; exact w1; exact rfl) | (apply S.call; exact rfl; exact rfl; exact w2; exact rfl) | (apply S.call; exact rfl; exact rfl; exact m1; exact rfl) | (apply S.call; exact rfl; exact rfl; exact m2; exact rfl) | (apply T.drawAll anyOrder (by decide +kernel)) | (apply S.loadPA; (iterate 4 exact rfl)) | (apply S.loadRA; (iterate 4 exact rfl)) | (apply S.alloc; (iterate 5 exact rfl)) | (apply S.storeD; (iterate 8 exact rfl)) | (apply S.cmp; (iterate 4 exact rfl)) | (apply S.extract; exact rfl; exact rfl; exact rfl) | (apply S.gsF; exact rfl; exact rfl; exact rfl; intro hc; rotate_left; intro hc; rotate_right) | apply S.nil | apply T.regs | apply T.reg | (apply T.cC; exact rfl) | (apply T.cCN; exact rfl) | (apply T.cF; exact rfl; assumption) | (apply T.cS; exact rfl; intro hc; rotate_left; intro hc; rotate_right) | apply T.seq | (apply T.skip; first | change T _ _ _ _ _ | change Done _ _ _ _ _ | change Next _ _ _ _ _ _ | skip) | (apply T.exit; first | change T _ _ _ _ _ | change Done _ _ _ _ _ | change Next _ _ _ _ _ _ | skip))
                all_goals first
                  | (change Next _ _ _ _ _ _; exact Next.go ⟨j + 1, q⟩ ⟨by dsimp only; omega, hKq, fq⟩ (by dsimp only; omega) (.cons (by rw [show rpI l fr + ((j + 1 : Nat) : Int) = kk + 1 by omega]; rfl) rfl (.cons rfl rfl (.cons rfl rfl (.cons rfl rfl (.cons rfl rfl (.cons rfl rfl .nil)))))) (.live rfl (.live rfl (.live rfl (.live rfl .nil)))))
                  | (exfalso; omega)
              · have n1 : ¬ s1 ≤ 0 := fun h => hs (.inl h)
                have n2 : ¬ 0 ≤ s2 := fun h => hs (.inr h)
                rw [if_neg (fun h => by
                  rcases h with h | h
                  · exact n1 (k1.2 h)
                  · exact Rat.not_lt.2 h (k2.1 (by omega)))] at hst2
                have cv := rq_value p v okx f2
                unfold outO at cv
                by_cases f3 : okV p v
                · rw [if_pos f3] at cv hst2
                  have fw : Fits (valR p v) := f3.2.2.2
                  have cm := r02_cmp (valR p v) q fw fq
                  have km := cmpQ_lt (valR p v) q
                  generalize valR p v = w at *
                  repeat' (first | (apply S.move; exact rfl; exact rfl) | (apply S.assign; exact rfl; exact rfl) | (apply S.gFF; exact rfl; exact rfl; assumption) | (apply S.fieldR; exact rfl; exact rfl) | (apply S.loadR; exact rfl; exact rfl; exact rfl) | (apply S.pFp; exact rfl; assumption; exact rfl; exact rfl) | (apply S.arith; (iterate 4 exact rfl); omega) | (apply S.indexR; exact rfl; exact rfl; exact rfl; exact hbx'; omega; exact rfl) | (apply S.call; exact rfl; exact rfl; exact o2; exact rfl) | (apply S.call; exact rfl; exact rfl; exact t1; exact rfl) | (apply S.call; exact rfl; exact rfl; exact t2; exact rfl) | (apply S.call; exact rfl; exact rfl; exact t3; exact rfl) | (apply S.call; exact rfl; exact rfl; exact u1; exact rfl) | (apply S.call; exact rfl; exact rfl; exact u2; exact rfl) | (apply S.call; exact rfl; exact rfl; exact u3; exact rfl) | (apply S.call; exact rfl; exact rfl; exact u4; exact rfl) | (apply S.call; exact rfl; exact rfl; exact w1; exact rfl) | (apply S.call; exact rfl; exact rfl; exact w2; exact rfl) | (apply S.call; exact rfl; exact rfl; exact m1; exact rfl) | (apply S.call; exact rfl; exact rfl; exact m2; exact rfl) | (apply S.call; exact rfl; exact rfl; exact cv; exact rfl) | (apply S.call; exact rfl; exact rfl; exact cm; exact rfl) | (apply S.loadRW; (iterate 4 exact rfl)) | (apply T.drawAll anyOrder (by decide +kernel)) | (apply S.loadPA; (iterate 4 exact rfl)) | (apply S.loadRA; (iterate 4 exact rfl)) | (apply S.alloc; (iterate 5 exact rfl)) | (apply S.store; (iterate 7 exact rfl)) | (apply S.storeD; (iterate 8 exact rfl)) | (apply S.cmp; (iterate 4 exact rfl)) | (apply S.extract; exact rfl; exact rfl; exact rfl) | apply S.nil | apply T.regs | apply T.reg | (apply T.cCN; exact rfl) | (apply T.cF; exact rfl; assumption) | (apply T.cS; exact rfl; intro hc; rotate_left; intro hc; rotate_right) | apply T.seq | (apply T.skip; first | change T _ _ _ _ _ | change Done _ _ _ _ _ | change Next _ _ _ _ _ _ | skip) | (apply T.exit; first | change T _ _ _ _ _ | change Done _ _ _ _ _ | change Next _ _ _ _ _ _ | skip))
                  all_goals first
                    | (change Next _ _ _ _ _ _; exact Next.go ⟨j + 1, w⟩ ⟨by dsimp only; omega, by rw [hKn, hst2]; exact congrArg some (minQ_lt (km.1 (by assumption))), fw⟩ (by dsimp only; omega) (.cons (by rw [show rpI l fr + ((j + 1 : Nat) : Int) = kk + 1 by omega]; rfl) rfl (.cons rfl rfl (.cons rfl rfl (.cons rfl rfl (.cons rfl rfl (.cons rfl rfl .nil)))))) (.live rfl (.live rfl (.live rfl (.live rfl .nil)))))
                    | (change Next _ _ _ _ _ _; exact Next.go ⟨j + 1, q⟩ ⟨by dsimp only; omega, by rw [hKn, hst2]; exact congrArg some (minQ_ge (fun h => absurd (km.2 h) (by assumption))), fq⟩ (by dsimp only; omega) (.cons (by rw [show rpI l fr + ((j + 1 : Nat) : Int) = kk + 1 by omega]; rfl) rfl (.cons rfl rfl (.cons rfl rfl (.cons rfl rfl (.cons rfl rfl (.cons rfl rfl .nil)))))) (.live rfl (.live rfl (.live rfl (.live rfl .nil)))))
                    | (exfalso; omega)
                · rw [if_neg f3] at cv hst2
                  rw [rlA_none (j := j + 1) (by rw [hKn, hst2]) (by omega)]
                  repeat' (first | (apply S.move; exact rfl; exact rfl) | (apply S.assign; exact rfl; exact rfl) | (apply S.gFF; exact rfl; exact rfl; assumption) | (apply S.fieldR; exact rfl; exact rfl) | (apply S.loadR; exact rfl; exact rfl; exact rfl) | (apply S.pFp; exact rfl; assumption; exact rfl; exact rfl) | (apply S.indexR; exact rfl; exact rfl; exact rfl; exact hbx'; omega; exact rfl) | (apply S.call; exact rfl; exact rfl; exact o2; exact rfl) | (apply S.call; exact rfl; exact rfl; exact t1; exact rfl) | (apply S.call; exact rfl; exact rfl; exact t2; exact rfl) | (apply S.call; exact rfl; exact rfl; exact t3; exact rfl) | (apply S.call; exact rfl; exact rfl; exact u1; exact rfl) | (apply S.call; exact rfl; exact rfl; exact u2; exact rfl) | (apply S.call; exact rfl; exact rfl; exact u3; exact rfl) | (apply S.call; exact rfl; exact rfl; exact u4; exact rfl) | (apply S.call; exact rfl; exact rfl; exact w1; exact rfl) | (apply S.call; exact rfl; exact rfl; exact w2; exact rfl) | (apply S.call; exact rfl; exact rfl; exact m1; exact rfl) | (apply S.call; exact rfl; exact rfl; exact m2; exact rfl) | (apply S.call; exact rfl; exact rfl; exact cv; exact rfl) | (apply S.loadRW; (iterate 4 exact rfl)) | (apply T.drawAll anyOrder (by decide +kernel)) | (apply S.loadPA; (iterate 4 exact rfl)) | (apply S.loadRA; (iterate 4 exact rfl)) | (apply S.alloc; (iterate 5 exact rfl)) | (apply S.store; (iterate 7 exact rfl)) | (apply S.storeD; (iterate 8 exact rfl)) | (apply S.cmp; (iterate 4 exact rfl)) | (apply S.extract; exact rfl; exact rfl; exact rfl) | (apply S.build; exact rfl; exact rfl; exact rfl) | apply S.nil | apply T.regs | (apply T.cC; exact rfl) | (apply T.cCN; exact rfl) | (apply T.cF; exact rfl; assumption) | apply T.seq | (apply T.skip; first | change T _ _ _ _ _ | change Done _ _ _ _ _ | change Next _ _ _ _ _ _ | skip) | (apply T.ret; change Done _ _ _ _ _) | (apply T.exit; first | change T _ _ _ _ _ | change Done _ _ _ _ _ | change Next _ _ _ _ _ _ | skip))
                  all_goals first
                    | exact ⟨.inr rfl, [rowA [.i 0, .i 0], .i 5], .cons (Res.row [.i 0, .i 0] rfl rfl rfl rfl rfl) (.cons (.tmp rfl) .nil), .tup (.cons (.agg (outL_refl [.i 0, .i 0])) (.cons (.one (.lf _)) .nil))⟩
                    | (exfalso; omega)
            · rw [if_neg f2] at t3
              rw [rlVtx, if_neg (fun h => h f1), if_pos f2] at hst2
              rw [rlA_none (j := j + 1) (by rw [hKn, hst2]) (by omega)]
              repeat' (first | (apply S.move; exact rfl; exact rfl) | (apply S.assign; exact rfl; exact rfl) | (apply S.gFF; exact rfl; exact rfl; assumption) | (apply S.fieldR; exact rfl; exact rfl) | (apply S.loadR; exact rfl; exact rfl; exact rfl) | (apply S.pFp; exact rfl; assumption; exact rfl; exact rfl) | (apply S.indexR; exact rfl; exact rfl; exact rfl; exact hbx'; omega; exact rfl) | (apply S.call; exact rfl; exact rfl; exact o2; exact rfl) | (apply S.call; exact rfl; exact rfl; exact t1; exact rfl) | (apply S.call; exact rfl; exact rfl; exact t2; exact rfl) | (apply S.call; exact rfl; exact rfl; exact t3; exact rfl) | (apply T.drawAll anyOrder (by decide +kernel)) | (apply S.loadPA; (iterate 4 exact rfl)) | (apply S.loadRA; (iterate 4 exact rfl)) | (apply S.alloc; (iterate 5 exact rfl)) | (apply S.store; (iterate 7 exact rfl)) | (apply S.storeD; (iterate 8 exact rfl)) | (apply S.cmp; (iterate 4 exact rfl)) | (apply S.extract; exact rfl; exact rfl; exact rfl) | (apply S.build; exact rfl; exact rfl; exact rfl) | apply S.nil | apply T.regs | (apply T.cC; exact rfl) | (apply T.cCN; exact rfl) | (apply T.cF; exact rfl; assumption) | apply T.seq | (apply T.skip; first | change T _ _ _ _ _ | change Done _ _ _ _ _ | change Next _ _ _ _ _ _ | skip) | (apply T.ret; change Done _ _ _ _ _) | (apply T.exit; first | change T _ _ _ _ _ | change Done _ _ _ _ _ | change Next _ _ _ _ _ _ | skip))
              all_goals exact ⟨.inr rfl, [rowA [.i 0, .i 0], .i 5], .cons (Res.row [.i 0, .i 0] rfl rfl rfl rfl rfl) (.cons (.tmp rfl) .nil), .tup (.cons (.agg (outL_refl [.i 0, .i 0])) (.cons (.one (.lf _)) .nil))⟩
          · rw [if_neg f1] at t1
            rw [rlVtx, if_pos f1] at hst2
            rw [rlA_none (j := j + 1) (by rw [hKn, hst2]) (by omega)]
            repeat' (first | (apply S.move; exact rfl; exact rfl) | (apply S.assign; exact rfl; exact rfl) | (apply S.gFF; exact rfl; exact rfl; assumption) | (apply S.fieldR; exact rfl; exact rfl) | (apply S.loadR; exact rfl; exact rfl; exact rfl) | (apply S.pFp; exact rfl; assumption; exact rfl; exact rfl) | (apply S.indexR; exact rfl; exact rfl; exact rfl; exact hbx'; omega; exact rfl) | (apply S.call; exact rfl; exact rfl; exact o2; exact rfl) | (apply S.call; exact rfl; exact rfl; exact t1; exact rfl) | (apply T.drawAll anyOrder (by decide +kernel)) | (apply S.loadRA; (iterate 4 exact rfl)) | (apply S.alloc; (iterate 5 exact rfl)) | (apply S.store; (iterate 7 exact rfl)) | (apply S.storeD; (iterate 8 exact rfl)) | (apply S.cmp; (iterate 4 exact rfl)) | (apply S.extract; exact rfl; exact rfl; exact rfl) | (apply S.build; exact rfl; exact rfl; exact rfl) | apply S.nil | apply T.regs | (apply T.cC; exact rfl) | (apply T.cCN; exact rfl) | (apply T.cF; exact rfl; assumption) | apply T.seq | (apply T.skip; first | change T _ _ _ _ _ | change Done _ _ _ _ _ | change Next _ _ _ _ _ _ | skip) | (apply T.ret; change Done _ _ _ _ _) | (apply T.exit; first | change T _ _ _ _ _ | change Done _ _ _ _ _ | change Next _ _ _ _ _ _ | skip))
            all_goals exact ⟨.inr rfl, [rowA [.i 0, .i 0], .i 5], .cons (Res.row [.i 0, .i 0] rfl rfl rfl rfl rfl) (.cons (.tmp rfl) .nil), .tup (.cons (.agg (outL_refl [.i 0, .i 0])) (.cons (.one (.lf _)) .nil))⟩
    · have hjN : j = rfN l fr te := by omega
      repeat' (first | (apply S.move; exact rfl; exact rfl) | (apply S.assign; exact rfl; exact rfl) | (apply S.call; exact rfl; exact rfl; exact p2; exact rfl) | (apply S.loadPA; (iterate 4 exact rfl)) | (apply S.store; (iterate 7 exact rfl)) | (apply S.cmp; (iterate 4 exact rfl)) | apply S.nil | apply T.regs | (apply T.cF; exact rfl; assumption) | apply T.seq | (apply T.ret; change Done _ _ _ _ _) | (apply T.exit; first | change T _ _ _ _ _ | change Done _ _ _ _ _ | change Next _ _ _ _ _ _ | skip))
      rw [show rlA l fr te = frE m 0 by unfold rlA; rw [← hjN, hK]; rfl]
      exact ⟨.inr rfl, [rowA (frR (m)), .i 0], .cons (Res.row (frR (m)) rfl rfl rfl rfl rfl) (.cons (.tmp rfl) .nil), .tup (.cons (.agg (outL_refl (frR (m)))) (.cons (.one (.lf _)) .nil))⟩
end Go.Proofs.YtgegcgfdffmoeaaGreat
