/- Lemmas of the proof. -/
import Derived.Test.YtlapbaiejnaeiaaGreatDoorMm
import Derived.Test.YtlapbaiejnaeiaaGreatDoorMb
import Derived.Test.YtlapbaiejnaeiaaGreatDoorMd
import Derived.Test.YtlapbaiejnaeiaaGreatDoorMj
import Derived.Laws.Externs
import Derived.Shelf.Spec.BitsCarry
set_option linter.all false
set_option maxHeartbeats 64000000
namespace Go.Proofs.YtlapbaiejnaeiaaGreatDoor
open Go.RowKit
def a7e := @Tryz.results159
def b0l := @Tryz.results157
def b1z := @Tryz.ntmps92
def b2y := @Tryz.func92
def Ks (l : List CueR) : Int := (l.map fun q => (q.moves.length : Int)).sum
theorem A79 (l : List CueR) (q : CueR) : Ks (l ++ [q]) = Ks l + q.moves.length := by simp [Ks, List.sum_append]
def okQ (h : HouseR) (l : List CueR) (i : Nat) (q : CueR) : Prop := Ks (l.take (i + 1)) <= 100 /\ Dy h q /\ (¬ ∃ y ∈ l.take i, y.name = q.name) /\ (q.link = 1 -> q.after = ⟨#[]⟩) /\ (¬ q.link = 1 -> ∃ y ∈ l.take i, y.name = q.after)
def A2p (h : HouseR) (l : List CueR) : Prop := ∀ i q, l[i]? = some q -> okQ h l i q
def validP (h : HouseR) (c : SheetR) : Prop := Cn h /\ (c.cues.length : Int) <= 60 /\ A2p h c.cues /\ Nx c
noncomputable instance (h : HouseR) (c : SheetR) : Decidable (validP h c) := Classical.propDecidable _
theorem A07 : ¬ Ct ⟨#[]⟩ = true := by simp [Ct]
theorem A7u {h : HouseR} {l : List CueR} {k : Nat} {n : ByteArray} (hok : ∀ i q, i < k -> l[i]? = some q -> okQ h l i q) (hn : ∃ y ∈ l.take k, y.name = n) : ¬ n = ⟨#[]⟩ := by
 rintro rfl
 obtain ⟨y, hy, he⟩ := hn
 obtain ⟨i, hi⟩ := a2y hy
 have hik : i < k := by have := (a0g.1 hi).1;simp at this;omega
 have := (hok i y hik (by rw [a1k hik] at hi;exact hi)).2.1.1
 rw [he] at this
 exact A07 this
theorem Uy (h : HouseR) (c : SheetR) (hf : h.fits) (hc : c.fits) : Fn0 Tryz.prog 157 [A1 h.row, A1 c.row] (.b (decide (validP h c))) := by
 obtain ⟨hc1, hc2, hc3⟩ := hc
 have hf1 := hf.1
 have hle : (c.cues.map CueR.row).length = c.cues.length := a0a _
 refine Fn0.of Tryz.func157 Tryz.ntmps157 rfl rfl rfl ?_
 simp only [A2]
 repeat' (first|refine W ?_|refine Zc (G6 h hf) ?_|refine V ?_|(refine W2 ?_ ?_<;>intro hc))
 all_goals first
  | exact A4 (by simp) b0l rfl (congrArg Value.bool (decide_eq_false (fun hh => by
    obtain ⟨g1, g2, _⟩ := hh
    first | contradiction | omega)).symm)
  | skip
 refine p0d (fun k => k <= c.cues.length /\ (0 <= Ks (c.cues.take k) /\ Ks (c.cues.take k) <= 100) /\ ∀ i q, i < k -> c.cues[i]? = some q -> okQ h c.cues i q) (fun k => c.cues.length - k) (fun k => [(20, .i k), (19, .i (c.cues.map CueR.row).length), (18, .sl (c.cues.map CueR.row)), (2, .ptr 0 0), (3, .ptr 1 0), (5, .i (Ks (c.cues.take k)))]) (fun _ => [.live (h.row.map .lf), .live (c.row.map .lf)]) 0 ⟨a0o _, by simp [Ks], by intro i q h;omega⟩ CV CH ?_
 rintro k ⟨hk, hsum, hok⟩
 by_cases hlt : k < c.cues.length
 ·have h1 : (k : Int) < ((c.cues.map CueR.row).length : Nat) := by omega
  obtain ⟨q, hq⟩ := Aa hlt
  have hb := Ab (R := CueR.row) hq
  have hsn := B8 hq
  have hmem : q ∈ c.cues := a0c hq
  have hm3 := hc3 q hmem
  have hle3 : (q.moves.map MoveR.row).length = q.moves.length := a0a _
  have hss : Ks (c.cues.take (k + 1)) = Ks (c.cues.take k) + (q.moves.map MoveR.row).length := by rw [hsn, A79, hle3]
  have hidx : Cd c.cues q.name = (k : Int) ↔ _ := M3 (p := fun s : CueR => s.name = q.name) hq rfl
  have haft : 0 <= Cd (c.cues.take k) q.after ↔ _ := A2z
  have hne := A7u (n := q.after) hok
  have hbad : ¬ okQ h c.cues k q -> ¬ validP h c := fun g hh => g (hh.2.2.1 k q hq)
  repeat' (first|refine W ?_|(apply p0b A0 (by kernel_rfl))|(apply S.indexR;(iterate 3 exact rfl);exact hb;omega;exact rfl)|(apply p0k;(iterate 4 exact rfl))|(apply S.boolNe;(iterate 3 exact rfl))|(apply S.call;exact rfl;exact rfl;exact Ux h q hf1 (by omega);exact rfl)|refine Zc (Lx c.cues q.name hc1) ?_|(apply p1s;(iterate 3 exact rfl);omega;(intro row hr;obtain ⟨z, _, rfl⟩ := a1b.1 hr;rfl))|refine Zc (Wa c.cues k q.after hc1) ?_|refine Za ?_|refine V ?_|(refine W2 ?_ ?_<;>intro hc))
  all_goals (try change Next _ _ _ _ _ _)
  all_goals first
   | exact A4 (by simp) b0l rfl (congrArg Value.bool (decide_eq_false (hbad fun hh => by
     obtain ⟨g1, g2, g3, g4, g5⟩ := hh
     have g6 := hidx.2 g3
     first
      | contradiction
      | omega
      | exact (by assumption : ¬ (q.link = 1 ↔ q.after = ⟨#[]⟩)) ⟨g4, fun e => a3k fun hn => hne (g5 hn) e⟩
      | (have := haft.2 (g5 (by assumption));omega))).symm)
   | exact Next.go (k + 1) ⟨by omega, by rw [hss];omega, by
     intro i p hi hp
     rcases a1a i k with h9 | h9
     ·exact hok i p h9 hp
     ·obtain rfl : i = k := by omega
      obtain rfl : q = p := by rw [hq] at hp;injection hp
      have g7 : q.link = 1 ↔ q.after = ⟨#[]⟩ := by first | assumption | exact a3k (by assumption)
      exact ⟨by rw [hss];omega, by assumption, hidx.1 (by first | assumption | exact a3k (by assumption)), g7.1, fun hn => haft.1 (by first | contradiction | omega)⟩⟩ (by omega) (.cons rfl rfl (.cons rfl rfl (.cons rfl rfl (.cons rfl rfl (.cons rfl rfl (.cons (by rw [hss];rfl) rfl .nil)))))) CH
 ·have h1 : ¬ (k : Int) < ((c.cues.map CueR.row).length : Nat) := by omega
  have hall : A2p h c.cues := fun i p hp => hok i p (by have := (a0g.1 hp).1;omega) hp
  repeat' (first|refine W ?_|refine Zc (A4y c hc1 hc2) ?_|refine V ?_|(refine W2 ?_ ?_<;>intro hc))
  all_goals exact A4 (by simp) b0l rfl (congrArg Value.bool (decide_eq_decide.2 ⟨fun g => ⟨by assumption, by omega, hall, g⟩, fun g => g.2.2.2⟩))
theorem A6 {H : AH} (l : List Lf) : OutL H (l.map .lf) (l.map .lf) := by
 induction l with
 | nil => exact .nil
 | cons x l ih => exact .cons (.lf x) ih
theorem Res.row {P : Program} {st : St} {t b n : Nat} {ty : TypeId} {cells : List AV} {ds : TypeDesc} (cs : List Lf) [hu : HasU P ty ds] [hi : HasS P ty n] (h : st.tm.get t = some (.ptr b 0)) (hb : st.H.at b = .live cells) (hd : ds.isRow = true) (hc : cells = cs.map .lf) (hn : Nat.beq cs.length n = true) : Res P st (.cell t ty) (A1 cs) := by
 subst hc
 have hn' := a1y hn
 have := Res.cells h hb hu.out hd hi.out (a2o (by simp;omega))
 rw [List.drop_zero, a0h (by simp;omega)] at this
 exact this
def Dq (h : HouseR) (l : List Int) : Prop := ∀ (i : Nat) (n : Int) (s : SetR), l[i]? = some n -> h.sets[i]? = some s -> s.low <= n /\ n <= s.high
open Classical in
noncomputable def Ep (h : HouseR) (l : List Int) (q : CueR) : Int := if Cn h /\ Dy h q then (if l.length = h.sets.length then (if Dq h l then 0 else 2) else 3) else 1
theorem R2 {h : HouseR} {l : List Int} {q : CueR} (g : ¬ (Cn h /\ Dy h q)) : Ep h l q = 1 := by unfold Ep;rw [if_neg g]
theorem Xr {h : HouseR} {l : List Int} {q : CueR} (g : Cn h /\ Dy h q) (g2 : ¬ l.length = h.sets.length) : Ep h l q = 3 := by unfold Ep;rw [if_pos g, if_neg g2]
theorem Xq {h : HouseR} {l : List Int} {q : CueR} (g : Cn h /\ Dy h q) (g2 : l.length = h.sets.length) (g3 : ¬ Dq h l) : Ep h l q = 2 := by unfold Ep;rw [if_pos g, if_pos g2, if_neg g3]
theorem Xp {h : HouseR} {l : List Int} {q : CueR} (g : Cn h /\ Dy h q) (g2 : l.length = h.sets.length) (g3 : Dq h l) : Ep h l q = 0 := by unfold Ep;rw [if_pos g, if_pos g2, if_pos g3]
theorem A50 (h : HouseR) (l : List Int) (q : CueR) (hf : h.fits) (hq : q.moves.length <= 9223372036854775807) (hl : l.length <= 9223372036854775807) : Fn0 Tryz.prog 159 [A1 h.row, .sl (l.map A3), A1 q.row] (.i (Ep h l q)) := by
 have hf1 := hf.1
 have hle : (h.sets.map SetR.row).length = h.sets.length := a0a _
 have hle2 : (l.map A3).length = l.length := a0a _
 refine Fn0.of Tryz.func159 Tryz.ntmps159 rfl rfl rfl ?_
 simp only [A2]
 repeat' (first|refine W ?_|refine Zc (G6 h hf) ?_|refine Zc (Ux h q hf1 hq) ?_|refine V ?_|(refine W2 ?_ ?_<;>intro hc))
 all_goals first
  | exact A4 (by simp) a7e rfl (congrArg (Value.int .i64) (R2 (fun g => absurd g.1 (by assumption))).symm)
  | exact A4 (by simp) a7e rfl (congrArg (Value.int .i64) (R2 (fun g => absurd g.2 (by assumption))).symm)
  | exact A4 (by simp) a7e rfl (congrArg (Value.int .i64) (Xr ⟨by assumption, by assumption⟩ (by omega)).symm)
  | skip
 have hg : Cn h /\ Dy h q := ⟨by assumption, by assumption⟩
 have hll : l.length = h.sets.length := by omega
 refine p0d (fun k => k <= l.length /\ ∀ (i : Nat) (n : Int) (s : SetR), i < k -> l[i]? = some n -> h.sets[i]? = some s -> s.low <= n /\ n <= s.high) (fun k => l.length - k) (fun k => [(28, .i k), (27, .i (l.map A3).length), (26, .sl (l.map A3)), (3, .ptr 0 0)]) (fun _ => [.live (h.row.map .lf)]) 0 ⟨a0o _, by intro i n s h;omega⟩ CV (.live rfl .nil) ?_
 rintro k ⟨hk, hok⟩
 by_cases hlt : k < l.length
 ·have h1 : (k : Int) < ((l.map A3).length : Nat) := by omega
  obtain ⟨x, hx⟩ := Aa hlt
  obtain ⟨s, hs⟩ := Aa (l := h.sets) (k := k) (by omega)
  have hb := Ab (R := A3) hx
  have hbs := Ab (R := SetR.row) hs
  repeat' (first|refine W ?_|(apply p0b A0 (by kernel_rfl))|(apply S.indexR;(iterate 3 exact rfl);exact hb;omega;exact rfl)|(apply S.indexR;(iterate 3 exact rfl);exact hbs;omega;exact rfl)|refine Zc (I8 _ _ _) ?_|refine Za ?_|refine V ?_|(refine W2 ?_ ?_<;>intro hc))
  all_goals (try change Next _ _ _ _ _ _)
  all_goals first
   | exact Next.go (k + 1) ⟨by omega, by
     intro i n t hi hn ht
     rcases a1a i k with h9 | h9
     ·exact hok i n t h9 hn ht
     ·obtain rfl : i = k := by omega
      obtain rfl : x = n := by rw [hx] at hn;injection hn
      obtain rfl : s = t := by rw [hs] at ht;injection ht
      assumption⟩ (by omega) CV (.live rfl .nil)
   | exact A4 (by simp) a7e rfl (congrArg (Value.int .i64) (Xq hg hll (fun g => absurd (g k x s hx hs) (by assumption))).symm)
 ·have h1 : ¬ (k : Int) < ((l.map A3).length : Nat) := by omega
  repeat' (first|refine W ?_|refine V ?_|(refine W2 ?_ ?_<;>intro hc))
  exact A4 (by simp) a7e rfl (congrArg (Value.int .i64) (Xp hg hll (fun i n s hn hs => hok i n s (by have := (a0g.1 hn).1;omega) hn hs)).symm)
def Ul (d : Int) (m : MoveR) : Int := if E4 m then (if 0 <= d /\ d <= 1048576 then 0 else 2) else 1
theorem Sw (d : Int) (m : MoveR) : Fn0 Tryz.prog 175 [.i d, A1 m.row] (.i (Ul d m)) := by
 refine Fn0.of Tryz.func175 Tryz.ntmps175 rfl rfl rfl ?_
 simp only [A2]
 repeat' (first|refine W ?_|refine Zc (Mc m) ?_|refine Zc (Qc _ _ _) ?_|refine V ?_|(refine W2 ?_ ?_<;>intro hc))
 all_goals exact A4 (by simp) Tryz.results175 rfl (by unfold Ul;simp [*])
def Mt (P : Nat -> Bool) : Nat -> Nat
 | 0 => 0
 | k + 1 => if P (k + 1) = true then k + 1 else Mt P k
theorem A1z {P : Nat -> Bool} {lo : Nat} : ∀ {k : Nat}, (lo = 0 \/ P lo = true) -> lo <= k -> (∀ w, lo < w -> w <= k -> ¬ P w = true) -> Mt P k = lo
 | 0, _, h, _ => by simp [Mt];omega
 | k + 1, h0, h, hn => by
  rw [Mt]
  by_cases e : lo = k + 1
  ·rw [if_pos]
   ·exact e.symm
   ·rcases h0 with h0 | h0
    ·omega
    ·rw [<- e];exact h0
  ·rw [if_neg (hn (k + 1) (by omega) (a0l _))]
   exact A1z h0 (by omega) fun w h1 h2 => hn w h1 (by omega)
def Gc (d : Int) (m : MoveR) (w : Int) : Prop := w * w * (m.rise + m.fall) <= 2 * d * m.rise * m.fall
instance (d : Int) (m : MoveR) (w : Int) : Decidable (Gc d m w) := by unfold Gc;exact inferInstance
theorem A8j {d : Int} {m : MoveR} {v w : Int} (hm : 0 <= m.rise + m.fall) (h0 : 0 <= v) (h : v <= w) (hw : Gc d m w) : Gc d m v := by
 unfold Gc at hw ⊢
 have h1 : v * v <= w * w := a4z h h h0 (by omega)
 have h2 := a3l h1 hm
 omega
def Bb (d : Int) (m : MoveR) : Nat := if d = 0 then 0 else Mt (fun w => decide (Gc d m w)) m.speed.toNat
theorem A9t (d : Int) (m : MoveR) (hm : E4 m) (hd : 0 <= d /\ d <= 1048576) : Fn0 Tryz.prog 176 [.i d, A1 m.row] (.i (Bb d m)) := by
 obtain ⟨_, _, h3, h4, h5⟩ := hm
 by_cases hd0 : d = 0
 ·skip
  refine Fn0.of Tryz.func176 Tryz.ntmps176 rfl rfl rfl ?_
  simp only [A2]
  repeat' (first|refine W ?_|(apply p0b A0 (by kernel_rfl))|refine V ?_|(refine W2 ?_ ?_<;>intro hc))
  all_goals exact A4 (by simp) Tryz.results176 rfl (by simp [Bb, hd0])
 ·have c1 : 0 <= 2 * d * m.rise /\ 2 * d * m.rise <= 2097152 * 16384 := ⟨a2t (by omega) (by omega), a4z (by omega) h4.2 (by omega) (by omega)⟩
  have c2 : 0 <= 2 * d * m.rise * m.fall /\ 2 * d * m.rise * m.fall <= 2097152 * 16384 * 16384 := ⟨a2t c1.1 (by omega), a4z c1.2 h5.2 (by omega) (by omega)⟩
  have key : ∀ w : Int, 0 <= w -> w <= 8192 -> (0 <= w * w /\ w * w <= 8192 * 8192) /\ 0 <= w * w * (m.rise + m.fall) /\ w * w * (m.rise + m.fall) <= 8192 * 8192 * 32768 := fun w g1 g2 => by
   have b1 : 0 <= w * w /\ w * w <= 8192 * 8192 := ⟨a2t g1 g1, a4z g2 g2 g1 (by omega)⟩
   exact ⟨b1, a2t b1.1 (by omega), a4z b1.2 (by omega) (by omega) (by omega)⟩
  have hsp : ((m.speed.toNat : Nat) : Int) = m.speed := Int.toNat_of_nonneg (by omega)
  refine Fn0.of Tryz.func176 Tryz.ntmps176 rfl rfl rfl ?_
  simp only [A2]
  repeat' (first|refine W ?_|(apply p0b A0 (by kernel_rfl))|refine V ?_|(refine W2 ?_ ?_<;>intro hc))
  refine p0d (fun (p : Nat × Nat) => p.1 <= p.2 /\ p.2 <= m.speed.toNat /\ Gc d m p.1 /\ ∀ w : Nat, p.2 < w -> w <= m.speed.toNat -> ¬ Gc d m w) (fun p => p.2 - p.1) (fun p => [(5, .i p.1), (6, .i p.2), (0, .i d), (3, .ptr 0 0)]) (fun _ => [.live (m.row.map .lf)]) (0, m.speed.toNat) ⟨by omega, a0l _, by unfold Gc;simp only [Int.natCast_zero, Int.zero_mul, Int.ofNat_zero];omega, by intro w h1 h2;omega⟩ (.cons rfl rfl (.cons (by rw [hsp];rfl) rfl CV)) (.live rfl .nil) ?_
  rintro p ⟨i1, i2, i3, i4⟩
  by_cases hlt : p.1 < p.2
  ·have h1 : (p.1 : Int) < p.2 := by omega
   have kb := key (((p.1 : Int) + p.2 + 1) / 2) (by omega) (by omega)
   have hmid : ((p.1 : Int) + p.2 + 1) / 2 = (((p.1 + p.2 + 1) / 2 : Nat) : Int) := by omega
   repeat' (first|refine W ?_|(apply S.quo;(iterate 3 exact rfl);omega)|refine Za ?_|refine V ?_|(refine W2 ?_ ?_<;>intro hc))
   all_goals (try change Next _ _ _ _ _ _)
   all_goals first
    | exact Next.go ((p.1 + p.2 + 1) / 2, p.2) ⟨by simp only;omega, i2, by simp only;rw [<- hmid];assumption, i4⟩ (by simp only;omega) (.cons (by rw [<- hmid];rfl) rfl CV) (.live rfl .nil)
    | exact Next.go (p.1, (p.1 + p.2 + 1) / 2 - 1) ⟨by simp only;omega, by simp only;omega, i3, by
      intro w g1 g2 g3
      simp only at g1
      have g4 : Gc d m (((p.1 : Int) + p.2 + 1) / 2) := A8j (v := ((p.1 : Int) + p.2 + 1) / 2) (by omega) (by omega) (by omega) g3
      exact absurd g4 (by assumption)⟩ (by simp only;omega) (.cons rfl rfl (.cons (by rw [show (((p.1 + p.2 + 1) / 2 - 1 : Nat) : Int) = ((p.1 : Int) + p.2 + 1) / 2 - 1 by omega];rfl) rfl CV)) (.live rfl .nil)
  ·have h1 : ¬ (p.1 : Int) < p.2 := by omega
   have ht : Bb d m = p.1 := by
    unfold Bb
    rw [if_neg hd0]
    exact A1z (.inr (decide_eq_true i3)) (by omega) fun w g1 g2 g3 => i4 w (by omega) g2 (of_decide_eq_true g3)
   repeat' (first|refine W ?_|refine V ?_|(refine W2 ?_ ?_<;>intro hc))
   exact A4 (by simp) Tryz.results176 rfl (by rw [ht])
theorem p2k {P : Program} {f : FuncId} {args : List AV} {us : List Value} {v : Value} {r : AV} (ent : Enters P f) (ha : args.map AV.flat = us.map some) (hr : ∀ (w : World) (L : Nat -> Prop), RelV w L Ap r v) (h : ∀ w, Calls P f us.toArray w fun e w' => e = .returned v /\ Below w.heap.size w w') : Fn0 P f args r := by
 refine ⟨ent, fun L w vs _ hL hl hv => ?_⟩
 have hlen : args.length = us.length := by have := congrArg List.length ha;simpa using this
 obtain rfl : vs = us := by
  apply a9n
  intro i
  rcases a1a i args.length with hi | hi
  ·have h1 : args[i]? = some args[i] := a0b hi
   have h2 : vs[i]? = some (vs[i]'(by omega)) := a0b _
   have h3 : us[i]? = some (us[i]'(by omega)) := a0b _
   have h4 : (args.map AV.flat)[i]? = (us.map some)[i]? := by rw [ha]
   rw [a0e, a0e, h1, h3] at h4
   simp only [a1c, a0f] at h4
   rw [h2, h3, (hv i _ _ h1 h2).flat h4]
  ·rw [a0w (by omega), a0w (by omega)]
 refine (h w).mono ?_
 rintro e w' ⟨rfl, hb⟩
 exact ⟨v, rfl, hr w' L, hb⟩
theorem A6s {w : World} {L : Nat -> Prop} {ρ : Pl} : ∀ (l : List Value) (i : Nat) (x : AV) (v : Value), (l.map AV.val)[i]? = some x -> l[i]? = some v -> RelV w L ρ x v := fun l i x v hx hv => by
 rw [a0e, hv] at hx
 simp only [a1c, a0f] at hx
 subst hx
 exact A7 v
def Fits (q : Rat) : Prop := q.num.natAbs <= 1152921504606846976 /\ q.den <= 1152921504606846976
abbrev frR (q : Rat) : List Lf := [.i q.num, .i q.den]
abbrev frE (q : Rat) (e : Int) : AV := .tup [A1 (frR q), .i e]
instance (q : Rat) : Decidable (Fits q) := by unfold Fits;exact inferInstance
theorem Fits.valid {q : Rat} (h : Fits q) : Ee q.num q.den = true := Wk q h.1 h.2
theorem A5g (x y : Int) : Int.gcd y (x % y) = Int.gcd x y := by
 rw [a9q, Int.emod_def, a5h];exact Int.gcd_sub_mul_right_left y x (x / y)
theorem D3 {P : Program} {fn : Func} {t0 t1 b n : Nat} {ty : TypeId} {ds : TypeDesc} {cs : List Lf} {x : Lf} {cells : List AV} {tm : Tm} {H : AH} [HasU P ty ds] [HasS P ty n] (hr : fn.results.toList = [.cell t0 ty, .tmp t1]) (h0 : tm.get t0 = some (.ptr b 0)) (hb : H.at b = .live cells) (hd : ds.isRow = true) (hc : cells = cs.map .lf) (hn : Nat.beq cs.length n = true) (h1 : tm.get t1 = some (.lf x)) : Bj P fn (.tup [A1 cs, .lf x]) .ret ⟨tm, H⟩ :=
 ⟨.inr rfl, [A1 cs, .lf x], by rw [hr];exact .cons (Res.row cs h0 hb hd hc hn) (.cons (.tmp h1) .nil), .tup (.cons (.agg (A6 cs)) (.cons (.one (.lf _)) .nil))⟩
theorem D4 {P : Program} {fn : Func} {t0 b n : Nat} {ty : TypeId} {ds : TypeDesc} {cs : List Lf} {cells : List AV} {tm : Tm} {H : AH} [HasU P ty ds] [HasS P ty n] (hr : fn.results.toList = [.cell t0 ty]) (h0 : tm.get t0 = some (.ptr b 0)) (hb : H.at b = .live cells) (hd : ds.isRow = true) (hc : cells = cs.map .lf) (hn : Nat.beq cs.length n = true) : Bj P fn (A1 cs) .ret ⟨tm, H⟩ :=
 ⟨.inr rfl, [A1 cs], by rw [hr];exact .cons (Res.row cs h0 hb hd hc hn) .nil, .one (.agg (A6 cs))⟩
end Go.Proofs.YtlapbaiejnaeiaaGreatDoor
namespace Go.Proofs.YtlapbaiejnaeiaaGreatDoor
open Go Go.RowKit
abbrev uA (n : Int) : AV := .val (.int .u64 n)
abbrev wR (n : Int) : List Lf := [.val (.int .u64 (n / 18446744073709551616)), .val (.int .u64 (n % 18446744073709551616))]
section
variable {P : Program} {N : Nat} {ops : Array Oper} {m : Option Nat} {K : Tm -> AH -> Prop} {tm tm' : Tm} {H : AH} {rest : List Oper}
variable {P : Program} {N : Nat} {ops : Array Oper} {m : Option Nat} {K : Tm -> AH -> Prop} {tm tm' : Tm} {H : AH} {rest : List Oper} {ty : TypeId} {pos : String} {af : Array Edge} {d : Nat} {t e u : TypeId} {x y : Operand}
structure Ext (P : Program) (f : FuncId) (vs : List Value) (v : Value) : Prop where
 run : ∀ w, (callFunc f vs.toArray).run P w = .ok (.value v) w
theorem S.ext {f : FuncId} {xs : Array Operand} {ts : Array TypeId} {v1 v2 v3 v : Value} {r : AV} (hx : evs (evT tm) xs.toList = some [.val v1, .val v2, .val v3]) (hc : Ext P f [v1, v2, v3] v) (hr : ∀ (w : World) (L : Nat -> Prop) (ρ : Pl), RelV w L ρ r v) (hN : Nat.ble (d + 1) N = true) (h : Reg m P N ops rest ((d, r) :: tm) H K) : Reg m P N ops (⟨some d, .call ⟨.value (.func f), xs, ts⟩, ty, pos, af, none⟩ :: rest) tm H K := by
 refine S.val (fun E st a w ρ K Q hs he hH hn hK => ?_) hN h
 obtain ⟨g1, g2⟩ := Dg _ _ hx
 have hl : xs.toList.map a.eval = [v1, v2, v3] := by
  apply a9n
  intro i
  rw [a0e]
  have one : ∀ (i : Nat) (u : Value), [AV.val v1, AV.val v2, AV.val v3][i]? = some (AV.val u) -> (xs.toList[i]?).map a.eval = some u := fun i u hi => by
   obtain ⟨x, h1, h2⟩ := g2 i _ hi
   have hm : x ∈ xs := a3g.1 (a0c h1)
   rw [h1]
   show some (a.eval x) = _
   rw [(hs.ev (he x (a4x.2 (.inr hm)) _ h2)).val_eq]
  match i with
  | 0 => exact one 0 _ rfl
  | 1 => exact one 1 _ rfl
  | 2 => exact one 2 _ rfl
  | i + 3 => rw [a0w (by rw [g1];simp)];rfl
 have : (execOp a.eval ⟨some d, .call ⟨.value (.func f), xs, ts⟩, ty, pos, af, none⟩).run P w = (callFunc f (#[] ++ xs.map a.eval ++ #[])).run P w := by simp [execOp, resolve, Act.eval, Deferred.ofValue, invoke]
 unfold Oper.wp
 rw [this, show (#[] ++ xs.map a.eval ++ #[]) = [v1, v2, v3].toArray by rw [<- hl];apply a4y;simp, hc.run w]
 exact hK w ρ v hs (hr w _ _)
end
theorem E9 (n : Int) (h1 : -9223372036854775808 <= n) (h2 : n <= 9223372036854775807) : Fn0 Tryz.prog 90 [.i n] (uA n.natAbs) := by
 refine Fn0.of Tryz.func90 Tryz.ntmps90 rfl rfl rfl ?_
 simp only [A2]
 repeat' (first|refine W ?_|refine Y ?_|(apply p0h;exact rfl;exact Cr _;exact rfl)|(apply p4m;exact rfl;exact Cr _;exact rfl)|refine V ?_|(refine W2 ?_ ?_<;>intro hc))
 all_goals exact A4 (by simp) Tryz.results90 rfl (by exact congrArg (Value.int .u64) (by omega))
theorem Ado (a b : Nat) (ha : a < 18446744073709551616) (hb : b < 18446744073709551616) : Fn0 Tryz.prog 91 [uA a, uA b] (uA (Nat.gcd a b : Nat)) := by
 refine Fn0.of Tryz.func91 Tryz.ntmps91 rfl rfl rfl ?_
 simp only [A2]
 repeat' (first|refine W ?_|refine Y ?_|refine V ?_|(refine W2 ?_ ?_<;>intro hc))
 refine p0d (fun p : Nat × Nat => Nat.gcd p.1 p.2 = Nat.gcd a b /\ p.1 < 18446744073709551616 /\ p.2 < 18446744073709551616) (fun p => p.2) (fun p => [(0, uA p.1), (1, uA p.2)]) (fun _ => []) (a, b) ⟨rfl, ha, hb⟩ CV .nil ?_
 rintro ⟨x, y⟩ ⟨h1, h2, h3⟩
 dsimp only at h1 h2 h3 ⊢
 by_cases hy : (y : Int) = 0
 ·have hn : ¬ ¬ (y : Int) = 0 := fun k => k hy
  repeat' (first|refine W ?_|refine Y ?_|refine V ?_|(refine W2 ?_ ?_<;>intro hc))
  all_goals exact A4 (by simp) Tryz.results91 rfl (by exact congrArg (Value.int .u64) (by rw [<- h1, show y = 0 by omega, Nat.gcd_zero_right]))
 ·repeat' (first|refine W ?_|refine Y ?_|(apply p4p;(iterate 3 exact rfl);omega)|(apply p0f 6 A0 (by decide +kernel);simp only [td])|(apply p0f 5 A0 (by decide +kernel);simp only [td])|refine V ?_|(refine W2 ?_ ?_<;>intro hc))
  all_goals (try change Next _ _ _ _ _ _)
  have hm : x % y < y := a5l _ (by omega)
  exact Next.go (y, x % y) ⟨by rw [<- h1];show Nat.gcd y (x % y) = _;rw [Nat.gcd_comm, <- Nat.gcd_rec, Nat.gcd_comm], by dsimp only;omega, by dsimp only;omega⟩ (by dsimp only;omega) (by show Cov _ _ [(0, uA ((y : Nat) : Int)), (1, uA ((x % y : Nat) : Int))];rw [Int.natCast_emod];exact CV) .nil
def sgO (neg : Bool) (n d : Int) : AV := if n <= 1152921504606846976 /\ d <= 1152921504606846976 then .tup [A1 [.i (if neg then -n else n), .i d], .i 0] else .tup [A1 [.i 0, .i 0], .i 5]
theorem Ke (neg : Bool) (n d : Int) (hn : 0 <= n /\ n < 18446744073709551616) (hd : 0 <= d /\ d < 18446744073709551616) : Fn0 Tryz.prog 92 [.b neg, uA n, uA d] (sgO neg n d) := by
 unfold sgO
 by_cases h : n <= 1152921504606846976 /\ d <= 1152921504606846976
 ·rw [if_pos h]
  obtain ⟨h1, h2⟩ := h
  have g1 : ¬ n > 1152921504606846976 := by omega
  have g2 : ¬ d > 1152921504606846976 := by omega
  cases neg with
  | true =>
   refine Fn0.of b2y b1z rfl rfl rfl ?_
   simp only [A2]
   repeat' (first|refine W ?_|refine Y ?_|(apply p0h;exact rfl;exact wrap_i64 _ (by omega);exact rfl)|(apply S.neg;exact rfl;exact rfl;omega)|refine V ?_|(refine W2 ?_ ?_<;>intro hc))
   all_goals exact D3 rfl rfl rfl rfl rfl rfl rfl
  | false =>
   refine Fn0.of b2y b1z rfl rfl rfl ?_
   simp only [A2]
   repeat' (first|refine W ?_|refine Y ?_|(apply p0h;exact rfl;exact wrap_i64 _ (by omega);exact rfl)|(apply S.neg;exact rfl;exact rfl;omega)|refine V ?_|(refine W2 ?_ ?_<;>intro hc))
   all_goals exact D3 rfl rfl rfl rfl rfl rfl rfl
 ·rw [if_neg h]
  refine Fn0.of b2y b1z rfl rfl rfl ?_
  simp only [A2]
  repeat' (first|refine W ?_|refine Y ?_|(apply p0h;exact rfl;exact wrap_i64 _ (by omega);exact rfl)|(apply S.neg;exact rfl;exact rfl;omega)|refine V ?_|(refine W2 ?_ ?_<;>intro hc))
  all_goals first
   | (exfalso;apply h;constructor <;> omega)
   | (exact D3 rfl rfl rfl rfl rfl rfl rfl)
theorem J9 (w : World) (L : Nat -> Prop) (ρ : Pl) (a c : Int) : RelV w L ρ (.tup [.val (.int .u64 a), .val (.int .u64 c)]) (.tuple #[.int .u64 a, .int .u64 c]) :=
 .tup _ [.int .u64 a, .int .u64 c] rfl (A6s [.int .u64 a, .int .u64 c])
theorem Wx (a b : Nat) (ha : a < 18446744073709551616) (hb : b < 18446744073709551616) : Fn0 Tryz.prog 196 [.val (.int .u64 a), .val (.int .u64 b)] (.tup [.val (.int .u64 ((a * b / 18446744073709551616 : Nat) : Int)), .val (.int .u64 ((a * b % 18446744073709551616 : Nat) : Int))]) := by
 refine p2k (us := [.int .u64 a, .int .u64 b]) ⟨_, Tryz.func196, rfl, rfl⟩ rfl (fun w L => J9 w L Ap _ _) fun w => ?_
 refine (Tryz.bits_Mul64 a b ha hb w).mono ?_
 rintro e w' ⟨rfl, rfl⟩
 exact ⟨rfl, Below.refl _ _⟩
theorem A3j (a b : Nat) (ha : a < 18446744073709551616) (hb : b < 18446744073709551616) : Fn0 Tryz.prog 135 [uA a, uA b] (A1 (wR ((a * b : Nat) : Int))) := by
 have c := Wx a b ha hb
 rw [show wR ((a * b : Nat) : Int) = [.val (.int .u64 ((a * b / 18446744073709551616 : Nat) : Int)), .val (.int .u64 ((a * b % 18446744073709551616 : Nat) : Int))] by rw [Int.natCast_ediv, Int.natCast_emod];rfl]
 generalize ((a * b / 18446744073709551616 : Nat) : Int) = u at *
 generalize ((a * b % 18446744073709551616 : Nat) : Int) = v at *
 refine Fn0.of Tryz.func135 Tryz.ntmps135 rfl rfl rfl ?_
 simp only [A2]
 repeat' (first|refine W ?_|refine Y ?_|refine V ?_|(refine W2 ?_ ?_<;>intro hc))
 all_goals exact D4 rfl rfl rfl rfl rfl rfl
theorem A97 (p q : Int) (hp : 0 <= p) (hq : 0 <= q) : (p / 18446744073709551616 < q / 18446744073709551616 \/ p / 18446744073709551616 = q / 18446744073709551616 /\ p % 18446744073709551616 < q % 18446744073709551616) ↔ p < q := by omega
theorem Aa2 (a b c d : Int) : Fn0 Tryz.prog 136 [A1 [.val (.int .u64 a), .val (.int .u64 c)], A1 [.val (.int .u64 b), .val (.int .u64 d)]] (.b (decide (a < b \/ a = b /\ c < d))) := by
 refine Fn0.of Tryz.func136 Tryz.ntmps136 rfl rfl rfl ?_
 simp only [A2]
 repeat' (first|refine W ?_|refine Y ?_|refine V ?_|(refine W2 ?_ ?_<;>intro hc))
 all_goals exact A4 (by simp) Tryz.results136 rfl (congrArg Value.bool (by first | exact decide_eq_decide.2 (by omega)|(symm;first | exact decide_eq_true (by omega) | exact decide_eq_false (by omega))|(first | exact decide_eq_true (by omega) | exact decide_eq_false (by omega))))
theorem Pd (p q : Int) (hp : 0 <= p) (hq : 0 <= q) : Fn0 Tryz.prog 136 [A1 (wR p), A1 (wR q)] (.b (decide (p < q))) := by
 rw [<- decide_eq_decide.2 (A97 p q hp hq)]
 exact Aa2 _ _ _ _
theorem A12 (x y c : Int) (hx : 0 <= x) (hy : 0 <= y) (hc0 : 0 <= c) (hc : c <= 1) : Ext Tryz.prog 230 [.int .u64 x, .int .u64 y, .int .u64 c] (.tuple #[.int .u64 ((x + y + c) % 18446744073709551616), .int .u64 ((x + y + c) / 18446744073709551616)]) := by
 refine ⟨fun w => ?_⟩
 obtain ⟨x, rfl⟩ := a1s hx
 obtain ⟨y, rfl⟩ := a1s hy
 obtain ⟨c, rfl⟩ := a1s hc0
 show (callFunc _ #[_, _, _]).run _ _ = _
 rw [run_callFunc_extern Tryz.func230 (by kernel_rfl) (by kernel_rfl) (by kernel_rfl) (e := add64Entry) (by kernel_rfl), run_add64 x y c (by omega) (by omega) (by omega) (by omega)]
 simp only [Result.andThen]
 try (congr 5 <;> omega)
theorem A13 (x y b : Int) (hx : 0 <= x) (hy : 0 <= y) (hy' : y < 18446744073709551616) (hb0 : 0 <= b) (hb : b <= 1) : Ext Tryz.prog 231 [.int .u64 x, .int .u64 y, .int .u64 b] (.tuple #[.int .u64 ((x - y - b) % 18446744073709551616), .int .u64 (if x < y + b then 1 else 0)]) := by
 refine ⟨fun w => ?_⟩
 obtain ⟨x, rfl⟩ := a1s hx
 obtain ⟨y, rfl⟩ := a1s hy
 obtain ⟨b, rfl⟩ := a1s hb0
 have e1 : (((x + 18446744073709551616 - y - b) % 18446744073709551616 : Nat) : Int) = ((x : Int) - y - b) % 18446744073709551616 := by omega
 have e2 : ((if x < y + b then 1 else 0 : Nat) : Int) = if (x : Int) < y + b then 1 else 0 := by split <;> split <;> omega
 rw [<- e1, <- e2]
 show (callFunc _ #[_, _, _]).run _ _ = _
 rw [run_callFunc_extern Tryz.func231 (by kernel_rfl) (by kernel_rfl) (by kernel_rfl) (e := sub64Entry) (by kernel_rfl), run_sub64 x y b (by omega)]
 rfl
theorem A1p (p q : Int) (hp : 0 <= p) (hq : 0 <= q) (h : p + q < 340282366920938463463374607431768211456) : Fn0 Tryz.prog 193 [A1 (wR p), A1 (wR q)] (A1 (wR (p + q))) := by
 unfold wR
 have c1 := A12 (p % 18446744073709551616) (q % 18446744073709551616) 0 (by omega) (by omega) (by omega) (by omega)
 have c2 := A12 (p / 18446744073709551616) (q / 18446744073709551616) ((p % 18446744073709551616 + q % 18446744073709551616 + 0) / 18446744073709551616) (by omega) (by omega) (by omega) (by omega)
 have e1 : (p % 18446744073709551616 + q % 18446744073709551616 + 0) % 18446744073709551616 = (p + q) % 18446744073709551616 := by omega
 have e2 : (p / 18446744073709551616 + q / 18446744073709551616 + (p % 18446744073709551616 + q % 18446744073709551616 + 0) / 18446744073709551616) % 18446744073709551616 = (p + q) / 18446744073709551616 := by omega
 rw [e1] at c1
 rw [e2] at c2
 generalize p / 18446744073709551616 = p1 at *
 generalize q / 18446744073709551616 = q1 at *
 generalize (p % 18446744073709551616 + q % 18446744073709551616 + 0) / 18446744073709551616 = cc at *
 generalize p % 18446744073709551616 = p0 at *
 generalize q % 18446744073709551616 = q0 at *
 generalize (p + q) / 18446744073709551616 = r1 at *
 generalize (p + q) % 18446744073709551616 = r0 at *
 refine Fn0.of Tryz.func193 Tryz.ntmps193 rfl rfl rfl ?_
 simp only [A2]
 repeat' (first|refine W ?_|refine Y ?_|(apply S.ext;exact rfl;exact c1;exact fun w L ρ => J9 w L ρ _ _;exact rfl)|(apply S.ext;exact rfl;exact c2;exact fun w L ρ => J9 w L ρ _ _;exact rfl)|refine V ?_|(refine W2 ?_ ?_<;>intro hc))
 all_goals exact D4 rfl rfl rfl rfl rfl rfl
theorem Re (p q : Int) (hq : 0 <= q) (hpq : q <= p) (h : p < 340282366920938463463374607431768211456) : Fn0 Tryz.prog 194 [A1 (wR p), A1 (wR q)] (A1 (wR (p - q))) := by
 unfold wR
 have c1 := A13 (p % 18446744073709551616) (q % 18446744073709551616) 0 (by omega) (by omega) (by omega) (by omega) (by omega)
 have c2 := A13 (p / 18446744073709551616) (q / 18446744073709551616) (if p % 18446744073709551616 < q % 18446744073709551616 + 0 then 1 else 0) (by omega) (by omega) (by omega) (by split <;> omega) (by split <;> omega)
 have e1 : (p % 18446744073709551616 - q % 18446744073709551616 - 0) % 18446744073709551616 = (p - q) % 18446744073709551616 := by omega
 have e2 : (p / 18446744073709551616 - q / 18446744073709551616 - (if p % 18446744073709551616 < q % 18446744073709551616 + 0 then 1 else 0)) % 18446744073709551616 = (p - q) / 18446744073709551616 := by split <;> omega
 rw [e1] at c1
 rw [e2] at c2
 generalize (if p / 18446744073709551616 < q / 18446744073709551616 + (if p % 18446744073709551616 < q % 18446744073709551616 + 0 then 1 else 0) then (1 : Int) else 0) = dd at *
 generalize (if p % 18446744073709551616 < q % 18446744073709551616 + 0 then (1 : Int) else 0) = cc at *
 generalize p / 18446744073709551616 = p1 at *
 generalize q / 18446744073709551616 = q1 at *
 generalize p % 18446744073709551616 = p0 at *
 generalize q % 18446744073709551616 = q0 at *
 generalize (p - q) / 18446744073709551616 = r1 at *
 generalize (p - q) % 18446744073709551616 = r0 at *
 refine Fn0.of Tryz.func194 Tryz.ntmps194 rfl rfl rfl ?_
 simp only [A2]
 repeat' (first|refine W ?_|refine Y ?_|(apply S.ext;exact rfl;exact c1;exact fun w L ρ => J9 w L ρ _ _;exact rfl)|(apply S.ext;exact rfl;exact c2;exact fun w L ρ => J9 w L ρ _ _;exact rfl)|refine V ?_|(refine W2 ?_ ?_<;>intro hc))
 all_goals exact D4 rfl rfl rfl rfl rfl rfl
end Go.Proofs.YtlapbaiejnaeiaaGreatDoor
