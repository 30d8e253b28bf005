/- Lemmas of the proof. -/
import Derived.Test.YtlapbaiejnaeiaaGreatDoorPq
import Derived.Test.YtlapbaiejnaeiaaGreatDoorPf
import Derived.Test.YtlapbaiejnaeiaaGreatDoorOg
import Derived.Test.YtlapbaiejnaeiaaGreatDoorNx
import Derived.Test.YtlapbaiejnaeiaaGreatDoorMc
import Derived.Test.YtlapbaiejnaeiaaGreatDoorMi
import Derived.WalkKit
import Derived.Lib.Walk
import Derived.Lib.Hide
import Derived.Deep.RegionLaw
import Derived.Shelf.RegionOpenPlain
import Derived.Shelf.Spec.SlicesInsertGrow
import Derived.Test.YtlapbaiejnaeiaaGreatDoorNn
import Derived.Test.YtlapbaiejnaeiaaGreatDoorPc
import Derived.Test.YtlapbaiejnaeiaaGreatDoorXg
import Derived.Test.YtlapbaiejnaeiaaGreatDoorOm
set_option linter.all false
set_option maxHeartbeats 64000000
namespace Go.Proofs.YtlapbaiejnaeiaaGreatDoor
open Go Go.RowKit
def a7i := @Addr.add_lit
def a8d := @IntKind.wrap_i64
def b0c := @Nat.min_def
def b0v := @World.cell?_setCells_out
def b1h := @World.cell?_alloc_past
def b1i := @World.frozen?_setCells
def b2r := @Tryz.func28
/-! ### Pushing pieces -/
end Go.Proofs.YtlapbaiejnaeiaaGreatDoor
namespace Go.Proofs.YtlapbaiejnaeiaaGreatDoor
open Go Go.RowKit Go.Lib
theorem Qt : (Tryz.prog.info? 36).map (fun i => (i.zero, i.size, i.bytes)) = some (some (.agg #[.string ⟨#[]⟩, .string ⟨#[]⟩, .int .i64 0, .int .i64 0]), 4, 48) := by kernel_rfl
set_option maxRecDepth 1000000 in
theorem Ab2 {k o n cap i j : Nat} {c : Array Value} {el : TypeId} {lo hi : Nat} {w : World} (hw : w.heap[k]? = some (.cells c el (lo, hi))) (hlo : hi <= lo) (hlt : i < j) (hj : j <= n) (hn : n <= 1000000) (hcap : n <= cap) (hfit : o + cap * 4 <= c.size) (h1 : ∀ t, t < n * 4 -> ∀ u, c[o + t]? = some u -> u.oneCell' = true) :
  Calls Tryz.prog 27 #[.slice (some ⟨k, o, none⟩) n cap, .int .i64 i, .int .i64 j] w fun e w' => e = .returned (.slice (some ⟨k, o, none⟩) (n - (j - i)) cap) /\ ∃ c', w'.heap[k]? = some (.cells c' el (lo, hi)) /\ c'.size = c.size /\ (∀ t, t < i * 4 -> c'[o + t]? = c[o + t]?) /\ (∀ t, i * 4 <= t -> t < (n - (j - i)) * 4 -> c'[o + t]? = c[o + t + (j - i) * 4]?) /\ Fr (fun x => x = k) w w' := by
 obtain ⟨i0, hi0, hz0, hz1, hzb⟩ := info_parts Qt
 have hnc : n * 4 <= cap * 4 := a1x _ hcap
 obtain ⟨news, hnews⟩ : ∃ news, news = (List.range ((n - j) * 4)).map fun t => c.getD (o + j * 4 + t) undef := ⟨_, rfl⟩
 have hlen : news.length = (n - j) * 4 := by rw [hnews];simp
 have hget : ∀ t, t < (n - j) * 4 -> news[t]? = c[o + j * 4 + t]? := by
  intro t ht
  have hb : o + j * 4 + t < c.size := by omega
  rw [hnews, a0e, a3c ht, a1c, a0s, a1o hb]
  rfl
 obtain ⟨A, hA, hsrc⟩ : ∃ A : Addr, (if cap = j then some (⟨k, o, none⟩ : Addr) else some ⟨k, o + j * 4, none⟩) = some A /\ Hid (∀ t u, news[t]? = some u -> w.drew.cell? (A.add t) = some u) := by
  by_cases h : cap = j
  ·refine ⟨⟨k, o, none⟩, by simp [h], fun t u hu => ?_⟩
   have h0 : news.length = 0 := by rw [hlen];omega
   rw [List.length_eq_zero_iff.1 h0] at hu
   simp at hu
  ·refine ⟨⟨k, o + j * 4, none⟩, by simp [h], fun t u hu => ?_⟩
   have ht : t < (n - j) * 4 := by
    have := (a0g.1 hu).1
    rwa [hlen] at this
   rw [hget t ht] at hu
   rw [a7i, a3b (w := w.drew) hw]
   exact hu
 have s1 : Hid (news.length = (n - j) * 4) := hlen
 have s2 : Hid (∀ u ∈ news, u.oneCell' = true) := by
  intro u hu
  obtain ⟨t, ht⟩ := a8k.1 hu
  have htl : t < (n - j) * 4 := by
   have := (a0g.1 ht).1
   rwa [hlen] at this
  rw [hget t htl] at ht
  exact h1 (j * 4 + t) (by omega) u (by rw [<- a1h];exact ht)
 have s3 : Hid (∀ t, t < news.length -> (w.drew.cell? ⟨k, o + i * 4 + t, none⟩).isSome = true /\ w.drew.frozen? ⟨k, o + i * 4 + t, none⟩ = false) := by
  intro t ht
  rw [hlen] at ht
  have hb : o + i * 4 + t < c.size := by omega
  refine ⟨?_, ?_⟩
  ·rw [a3b (w := w.drew) hw, a1o hb];rfl
  ·show w.frozen? _ = false
   simp only [World.frozen?, hw]
   simp
   omega
 obtain ⟨W1, hW1⟩ : ∃ W1, W1 = w.drew.setCells k (o + i * 4) news := ⟨_, rfl⟩
 obtain ⟨c1, g1, g2, g3, g4, g5, g6, g7, g8, g9⟩ := Eb news (o + i * 4) c w.drew hw (by rw [hlen];omega)
 rw [<- hW1] at g1 g4 g5 g6 g7 g8 g9
 obtain ⟨c2, W2, f1, f2, f3, f4, f5, f6, f7, f8, f9, f10⟩ := G1 (P := Tryz.prog) (k := k) (off := o + (i + (n - j)) * 4) hlo (Builtin.zeroCells (Value.agg #[.string ⟨#[]⟩, .string ⟨#[]⟩, .int .i64 0, .int .i64 0]).cells (n - (i + (n - j)))).toList 0 c1 W1 g1 (by
  rw [g2]
  simp [Builtin.zeroCells, Value.cells]
  omega) (by
  intro v hv
  simp only [Builtin.zeroCells, a5p, a1b] at hv
  obtain ⟨t, ht, rfl⟩ := hv
  have hs : (Value.agg #[.string ⟨#[]⟩, .string ⟨#[]⟩, .int .i64 0, .int .i64 0]).cells.size = 4 := rfl
  rw [hs]
  rcases (by omega : t % 4 = 0 \/ t % 4 = 1 \/ t % 4 = 2 \/ t % 4 = 3) with h | h | h | h <;> rw [h] <;> rfl)
 have hcl : ∀ ty, (Builtin.clear_ #[22] ty #[.slice (some ⟨k, o + (i + (n - j)) * 4, none⟩) (n - (i + (n - j))) (cap - (i + (n - j)))]).run Tryz.prog W1 = .ok (.tuple #[]) W2 := fun ty => by
  obtain ⟨z, hz⟩ : ∃ z, n - (i + (n - j)) = z + 1 := ⟨n - (i + (n - j)) - 1, by omega⟩
  rw [hz] at f1 ⊢
  simp [Builtin.clear_, run_underlying a2x, zeroValue, typeInfo, hi0, hz0, f1]
 have hW : Hid (W1 = w.drew.setCells k (o + i * 4) news) := hW1
 have hic : i <= cap := by omega
 have hjc : j <= cap := by omega
 have hfin : Hid (∃ c', W2.heap[k]? = some (.cells c' el (lo, hi)) /\ c'.size = c.size /\ (∀ t, t < i * 4 -> c'[o + t]? = c[o + t]?) /\ (∀ t, i * 4 <= t -> t < (n - (j - i)) * 4 -> c'[o + t]? = c[o + t + (j - i) * 4]?) /\ Fr (fun x => x = k) w W2) := by
  refine ⟨c2, f2, f3.trans g2, fun t ht => ?_, fun t h1 h2 => ?_, ⟨f7.trans g6, f8.trans g7, f9.trans g8, by rw [f10, g9];exact a0l _, fun x hx hne => (f5 x hne).trans (g4 x hne), fun x y hy => f6 x y (g5 x y hy)⟩⟩
  ·rw [f4, if_neg (by omega), g3, if_neg (by omega)]
  ·rw [f4, if_neg (by omega), g3, if_pos (by rw [hlen];omega), hget _ (by omega)]
   congr 1
   omega
 clear hW1 hget hnews hlen g1 g2 g3 g4 g5 g6 g7 g8 g9 f1 f2 f3 f4 f5 f6 f7 f8 f9 f10 h1
 have mixed := A0
 go_enter Tryz.func27, Tryz.ntmps27
 go_wp2_with fail
 go_region_law_o (refine step_append_room rfl (.tmp 22) (.tmp 25) 22 rfl 36 i0 4 a2x hi0 hz1 k o i cap (by simp [Act.eval, Act.put]) A (n - j) (cap - j) news (by simp [Act.eval, Act.put]) s1.out hsrc.out s2.out (by omega) s3.out ?_;rw [<- hW.out])
 go_wp2
 go_ret
 exact ⟨by rw [show n - (j - i) = i + (n - j) by omega];rfl, hfin.out⟩
theorem Kf {P : Program} (w : World) (dT sT ty elem : TypeId) (ix : TypeInfo) (b o dLen dCap : Nat) (a : Addr) (sLen sCap : Nat) (cs : List Value) (hu : P.underlying dT = some (.slice elem)) (hi : P.info? elem = some ix) (hl : cs.length = Nat.min sLen dLen * ix.size)
  (hc : ∀ j v, cs[j]? = some v -> w.cell? (a.add j) = some v) (hsp : ∀ j, j < cs.length -> (w.cell? ⟨b, o + j, none⟩).isSome = true) (hfz : ∀ j, j < cs.length -> w.frozen? ⟨b, o + j, none⟩ = false) (h1 : ∀ v ∈ cs, v.oneCell' = true) :
  (Builtin.copy_ #[dT, sT] ty #[.slice (some ⟨b, o, none⟩) dLen dCap, .slice (some a) sLen sCap]).run P w = .ok (goInt (Nat.min sLen dLen)) (w.setCells b o cs) := by
 have hfc := run_firstCells_some (P := P) w ix.size (Nat.min sLen dLen) a sLen sCap cs hl hc
 have hst := run_storeCells_cells (P := P) b o cs 0 w (by simpa using hsp) (by simpa using hfz) h1
 simp only [a2z] at hst
 simp [Builtin.copy_, run_underlying hu, sizeOf, typeInfo, hi, Builtin.lenOf, hfc, hst]
set_option maxRecDepth 1000000 in
theorem A5o {b off n c i vb voff m vc : Nat} {cs vs : List Value} {w : World} (hi : i < n) (hm : 0 < m) (hbig : n + m <= 1000000) (hroom : n + m <= c) (hvb : vb ≠ b)
  (hcl : cs.length = n * 4) (hvl : vs.length = m * 4)
  (hcs : ∀ j v, cs[j]? = some v -> w.cell? ⟨b, off + j, none⟩ = some v) (hsp : ∀ j, j < (n + m) * 4 -> (w.cell? ⟨b, off + j, none⟩).isSome = true) (hfz : ∀ j, w.frozen? ⟨b, j, none⟩ = false)
  (hvs : ∀ j v, vs[j]? = some v -> w.cell? ⟨vb, voff + j, none⟩ = some v) (h1c : ∀ v ∈ cs, v.oneCell' = true) (h1v : ∀ v ∈ vs, v.oneCell' = true)
  (tA tB : TypeId) (kA kB : Nat) (hsa : w.shape? vb = some (tA, kA)) (hsb : w.shape? b = some (tB, kB)) (hkB : kB ≠ 0) (hfa : ∀ j, w.frozen? ⟨vb, j, none⟩ = false) :
  Calls Tryz.prog 28 #[.slice (some ⟨b, off, none⟩) n c, .int .i64 i, .slice (some ⟨vb, voff, none⟩) m vc] w fun e w' =>
   e = .returned (.slice (some ⟨b, off, none⟩) (n + m) c) /\ w' = (w.drew.setCells b (off + (i + m) * 4) (cs.drop (i * 4))).setCells b (off + i * 4) vs := by
 obtain ⟨i0, hi0, hz0, hzs, hzb⟩ := info_parts Qt
 have u24 := run_underlying (P := Tryz.prog) a2x
 have hz1 : ¬ ((m : Int) = 0) := by omega
 have hz2 : ¬ ((i : Int) = (n : Int)) := by omega
 have hsz : ∀ w, (Go.sizeOf 36).run Tryz.prog w = .ok 4 w := fun w => by simp [sizeOf, typeInfo, hi0, hzs]
 have hov : ∀ lb cb, (callFunc 59 #[.slice (some ⟨vb, voff, none⟩) m vc, .slice (some ⟨b, off + (i + m) * 4, none⟩) lb cb]).run Tryz.prog w = .ok (.value (.bool false)) w := fun lb cb => by
  rw [run_callFunc_extern Tryz.func59 (by kernel_rfl) (by kernel_rfl) (by kernel_rfl) (e := Extern.SlicesOverlaps.overlaps #[22, 22] #[4]) (by kernel_rfl),
   Lib.run_overlaps_apart w 22 4 36 a2x 4 hsz ⟨vb, voff, none⟩ ⟨b, off + (i + m) * 4, none⟩ m vc lb cb hvb tA tB kA kB hsa hsb hkB (hfa _) (hfa _)]
  rfl
 have hdl : (cs.drop (i * 4)).length = (n - i) * 4 := by rw [a1v, hcl];omega
 have mixed := A0
 have hw1 : IntKind.i64.wrap ((i : Int) + (m : Int)) = (i : Int) + (m : Int) := by rw [a8d];omega
 have hw2 : IntKind.i64.wrap ((n : Int) + (m : Int)) = (n : Int) + (m : Int) := by rw [a8d];omega
 have hb1 : (0 : Int) <= (i : Int) + (m : Int) := by omega
 have hin : i <= n := by omega
 have htn : ((i : Int) + (m : Int)).toNat = i + m := by omega
 have hb2 : ¬ (c = i + m) := by omega
 have hb3 : (i : Int) <= (n : Int) + (m : Int) := by omega
 have hb4 : ¬ (c = i) := by omega
 have hcp1 : ∀ ty dc sc, (Builtin.copy_ #[22, 22] ty #[.slice (some ⟨b, off + (i + m) * 4, none⟩) (n + m - (i + m)) dc, .slice (some ⟨b, off + i * 4, none⟩) (n + m - i) sc]).run Tryz.prog w.drew = .ok (goInt ((n - i : Nat) : Int)) (w.drew.setCells b (off + (i + m) * 4) (cs.drop (i * 4))) := fun ty dc sc => by
  have hmin : Nat.min (n + m - i) (n + m - (i + m)) = n - i := by simp only [b0c];split <;> omega
  have := Kf (P := Tryz.prog) w.drew 22 22 ty 36 i0 b (off + (i + m) * 4) (n + m - (i + m)) dc ⟨b, off + i * 4, none⟩ (n + m - i) sc (cs.drop (i * 4)) a2x hi0 (by rw [hdl, hmin, hzs])
   (fun j v hj => by rw [a7i, a1h];exact hcs (i * 4 + j) v (by rwa [a1t] at hj))
   (fun j hj => by rw [hdl] at hj;rw [a1h];exact hsp _ (by omega)) (fun j hj => hfz _) (fun v hv => h1c v (a8y hv))
  rwa [hmin] at this
 obtain ⟨W1, hW1⟩ : ∃ W1, W1 = w.drew.setCells b (off + (i + m) * 4) (cs.drop (i * 4)) := ⟨_, rfl⟩
 have hsp1 : ∀ k, k < (n + m) * 4 -> (W1.cell? ⟨b, off + k, none⟩).isSome = true := fun k hk => by
  rw [hW1]
  exact isSome_setCells b _ _ _ (fun j hj => by rw [hdl] at hj;rw [a1h];exact hsp _ (by omega)) _ (hsp k hk)
 have hcp2 : ∀ (W : World), (∀ x, W.cell? x = W1.cell? x) -> (∀ x, W.frozen? x = W1.frozen? x) -> ∀ ty dc, (Builtin.copy_ #[22, 22] ty #[.slice (some ⟨b, off + i * 4, none⟩) (n + m - i) dc, .slice (some ⟨vb, voff, none⟩) m vc]).run Tryz.prog W = .ok (goInt m) (W.setCells b (off + i * 4) vs) := fun W hWc hWf ty dc => by
  have hmin : Nat.min m (n + m - i) = m := by simp only [b0c];split <;> omega
  have := Kf (P := Tryz.prog) W 22 22 ty 36 i0 b (off + i * 4) (n + m - i) dc ⟨vb, voff, none⟩ m vc vs a2x hi0 (by rw [hvl, hmin, hzs])
   (fun j v hj => by
    rw [a7i, hWc, hW1, b0v b _ _ _ _ (fun h _ => absurd h hvb)]
    exact hvs j v hj)
   (fun j hj => by rw [hvl] at hj;rw [hWc, a1h];exact hsp1 _ (by omega)) (fun j hj => by rw [hWf, hW1, b1i];exact hfz _) h1v
  rwa [hmin] at this
 rw [<- hW1] at hcp1
 go_enter b2r, Tryz.ntmps28
 go_wp2_with (simp only [hov])
 go_region_law_o (refine step_copy_runI rfl _ _ 22 22 rfl _ _ (by simp [Act.eval, Act.put]) (by simp [Act.eval, Act.put]) (hcp1 _ _ _) ?_)
 go_wp2_with (at_builtin;refine wpList_copy_runI _ rfl _ _ 22 22 rfl _ _ rfl rfl (hcp2 _ (fun _ => rfl) (fun _ => rfl) _ _) ?_)
 go_ret
 first | exact ⟨rfl, rfl⟩ | exact ⟨rfl, by rw [hW1]⟩
theorem Gj (z : Value) (n : Nat) : (Builtin.zeroCells z.cells n).size = n * z.cells.size := by simp [Builtin.zeroCells]
abbrev zInC : Value := .agg #[.string ⟨#[]⟩, .string ⟨#[]⟩, .int .i64 0, .int .i64 0]
set_option maxRecDepth 1000000 in
theorem A8x {b off n c i vb voff m vc : Nat} {cs vs : List Value} {w : World} (hi : i < n) (hm : 0 < m) (hbig : n + m <= 1000000) (hnc : n <= c) (hroom : c < n + m)
  (hcl : cs.length = n * 4) (hvl : vs.length = m * 4)
  (hcs : ∀ j v, cs[j]? = some v -> w.cell? ⟨b, off + j, none⟩ = some v)
  (hvs : ∀ j v, vs[j]? = some v -> w.cell? ⟨vb, voff + j, none⟩ = some v) (h1c : ∀ v ∈ cs, v.oneCell' = true) (h1v : ∀ v ∈ vs, v.oneCell' = true) :
  Calls Tryz.prog 28 #[.slice (some ⟨b, off, none⟩) n c, .int .i64 i, .slice (some ⟨vb, voff, none⟩) m vc] w fun e w' =>
   e = .returned (.slice (some ⟨w.heap.size, 0, none⟩) (n + m) (grownCap w (n + m) c 36)) /\
   w' = (((w.drew.alloc (.cells ((cs.take (i * 4)).toArray ++ Builtin.zeroCells zInC.cells (n + m - i) ++ Builtin.zeroCells zInC.cells (grownCap w (n + m) c 36 - (n + m))) 36)).setCells w.heap.size (i * 4) vs).drew).setCells w.heap.size ((i + m) * 4) (cs.drop (i * 4)) := by
 obtain ⟨i0, hi0, hz0, hzs, hzb⟩ := info_parts Qt
 have u24 := run_underlying (P := Tryz.prog) a2x
 have hz1 : ¬ ((m : Int) = 0) := by omega
 have hz2 : ¬ ((i : Int) = (n : Int)) := by omega
 have hz3 : (c : Int) < (n : Int) + (m : Int) := by omega
 have hbw : b < w.heap.size := block_lt_of_cell (hcs 0 _ (a0b (by omega)))
 have hvw : vb < w.heap.size := block_lt_of_cell (hvs 0 _ (a0b (by omega)))
 have hkk : (n : Int) + (m : Int) - (i : Int) = ((n + m - i : Nat) : Int) := by omega
 have hik : i + (n + m - i) = n + m := by omega
 have hold : (Builtin.firstCells i0.size i (.slice (some ⟨b, off, none⟩) i c)).run Tryz.prog w.drew = .ok (cs.take (i * 4)).toArray w.drew := by
  rw [hzs]
  exact run_firstCells_some w.drew 4 i ⟨b, off, none⟩ i c (cs.take (i * 4)) (by rw [a0t];omega) (fun j v hj => by
   rw [a7i]
   rw [a5d] at hj
   split at hj
   ·exact hcs j v hj
   ·cases hj)
 have hrz : ∀ ty, (Builtin.append_ #[22, 3] ty #[.slice (some ⟨b, off, none⟩) i c, .int .i64 ((n : Int) + (m : Int) - (i : Int))]).run Tryz.prog w =
   .ok (.slice (some ⟨w.heap.size, 0, none⟩) (n + m) (grownCap w (n + m) c 36)) (w.drew.alloc (.cells ((cs.take (i * 4)).toArray ++ Builtin.zeroCells zInC.cells (n + m - i) ++ Builtin.zeroCells zInC.cells (grownCap w (n + m) c 36 - (n + m))) 36)) := fun ty => by
  have h := Lib.run_append_grow_zeros w 22 3 ty 36 i0 _ .i64 .i64 a2x a2k hi0 hz0 (some ⟨b, off, none⟩) i c (cs.take (i * 4)) hold (n + m - i) (by omega) (by omega) (by omega) (by omega) (by rw [hzb];omega) (by rw [hzb, hik];exact growslice_fits hroom (by omega))
  rw [hik] at h
  rw [hkk]
  exact h
 obtain ⟨G, hG⟩ : ∃ G, G = grownCap w (n + m) c 36 := ⟨_, rfl⟩
 obtain ⟨ROW, hROW⟩ : ∃ ROW : Array Value, ROW = (cs.take (i * 4)).toArray ++ Builtin.zeroCells zInC.cells (n + m - i) ++ Builtin.zeroCells zInC.cells (G - (n + m)) := ⟨_, rfl⟩
 rw [<- hG] at hrz ⊢
 rw [<- hROW] at hrz ⊢
 have hRl : (n + m) * 4 <= ROW.size := by
  have hz4 : zInC.cells.size = 4 := rfl
  rw [hROW, a3i, a3i, Gj, Gj, hz4, a3z, a0t]
  omega
 obtain ⟨W1, hW1⟩ : ∃ W1, W1 = w.drew.alloc (.cells ROW 36) := ⟨_, rfl⟩
 rw [<- hW1] at hrz
 have hN : ∀ j, j < (n + m) * 4 -> (W1.cell? ⟨w.heap.size, j, none⟩).isSome = true := fun j hj => by
  rw [hW1, World.cell?_alloc_at (w := w.drew) ROW _ w.heap.size j rfl, a1o (by omega)];rfl
 have hNf : ∀ j, W1.frozen? ⟨w.heap.size, j, none⟩ = false := fun j => by rw [hW1];exact World.frozen?_alloc_at (w := w.drew) ROW _ w.heap.size j rfl
 have hOb : ∀ j v, w.cell? ⟨b, j, none⟩ = some v -> W1.cell? ⟨b, j, none⟩ = some v := fun j v h => by rw [hW1, b1h (w := w.drew) _ b j hbw];exact h
 have hOv : ∀ j v, w.cell? ⟨vb, j, none⟩ = some v -> W1.cell? ⟨vb, j, none⟩ = some v := fun j v h => by rw [hW1, b1h (w := w.drew) _ vb j hvw];exact h
 have hcpA : ∀ (W : World), (∀ x, W.cell? x = W1.cell? x) -> (∀ x, W.frozen? x = W1.frozen? x) -> ∀ ty dc, (Builtin.copy_ #[22, 22] ty #[.slice (some ⟨w.heap.size, i * 4, none⟩) (n + m - i) dc, .slice (some ⟨vb, voff, none⟩) m vc]).run Tryz.prog W = .ok (goInt m) (W.setCells w.heap.size (i * 4) vs) := fun W hWc hWf ty dc => by
  have hmin : Nat.min m (n + m - i) = m := by simp only [b0c];split <;> omega
  have := Kf (P := Tryz.prog) W 22 22 ty 36 i0 w.heap.size (i * 4) (n + m - i) dc ⟨vb, voff, none⟩ m vc vs a2x hi0 (by rw [hvl, hmin, hzs])
   (fun j v hj => by rw [a7i, hWc];exact hOv _ v (hvs j v hj))
   (fun j hj => by rw [hvl] at hj;rw [hWc];exact hN _ (by omega)) (fun j hj => by rw [hWf];exact hNf _) h1v
  rwa [hmin] at this
 have hGn : n + m <= G := by rw [hG];exact grownCap_ge w _ _ _
 have hGi : ¬ (G = i) := by omega
 have hGim : ¬ (G = i + m) := by omega
 have hci : ¬ (c = i) := by omega
 have hbN : b ≠ w.heap.size := by omega
 have hdl : (cs.drop (i * 4)).length = (n - i) * 4 := by rw [a1v, hcl];omega
 have hcpB : ∀ (W : World), (∀ x, W.cell? x = (W1.setCells w.heap.size (i * 4) vs).cell? x) -> (∀ x, W.frozen? x = (W1.setCells w.heap.size (i * 4) vs).frozen? x) -> ∀ ty dc sc, (Builtin.copy_ #[22, 22] ty #[.slice (some ⟨w.heap.size, (i + m) * 4, none⟩) (n + m - (i + m)) dc, .slice (some ⟨b, off + i * 4, none⟩) (n - i) sc]).run Tryz.prog W = .ok (goInt ((n - i : Nat) : Int)) (W.setCells w.heap.size ((i + m) * 4) (cs.drop (i * 4))) := fun W hWc hWf ty dc sc => by
  have hmin : Nat.min (n - i) (n + m - (i + m)) = n - i := by simp only [b0c];split <;> omega
  have := Kf (P := Tryz.prog) W 22 22 ty 36 i0 w.heap.size ((i + m) * 4) (n + m - (i + m)) dc ⟨b, off + i * 4, none⟩ (n - i) sc (cs.drop (i * 4)) a2x hi0 (by rw [hdl, hmin, hzs])
   (fun j v hj => by
    rw [a7i, hWc, b0v _ _ _ _ _ (fun h _ => absurd h hbN), a1h]
    exact hOb _ v (hcs (i * 4 + j) v (by rwa [a1t] at hj)))
   (fun j hj => by rw [hdl] at hj;rw [hWc];exact isSome_setCells _ _ _ _ (fun t ht => by rw [hvl] at ht;exact hN _ (by omega)) _ (hN _ (by omega)))
   (fun j hj => by rw [hWf, b1i];exact hNf _) (fun v hv => h1c v (a8y hv))
  rwa [hmin] at this
 subst hW1
 have hE1 : ∀ x, ((w.alloc (.cells ROW 36)).drew).cell? x = (w.drew.alloc (.cells ROW 36)).cell? x := fun x => rfl
 have hE2 : ∀ x, ((w.alloc (.cells ROW 36)).drew).frozen? x = (w.drew.alloc (.cells ROW 36)).frozen? x := fun x => rfl
 have hF1 : ∀ x, (((w.alloc (.cells ROW 36)).drew.setCells w.heap.size (i * 4) vs).drew).cell? x = ((w.drew.alloc (.cells ROW 36)).setCells w.heap.size (i * 4) vs).cell? x := fun x => rfl
 have hF2 : ∀ x, (((w.alloc (.cells ROW 36)).drew.setCells w.heap.size (i * 4) vs).drew).frozen? x = ((w.drew.alloc (.cells ROW 36)).setCells w.heap.size (i * 4) vs).frozen? x := fun x => rfl
 have mixed := A0
 have hw1 : IntKind.i64.wrap ((i : Int) + (m : Int)) = (i : Int) + (m : Int) := by rw [a8d];omega
 have hw2 : IntKind.i64.wrap ((n : Int) + (m : Int)) = (n : Int) + (m : Int) := by rw [a8d];omega
 have hb1 : (0 : Int) <= (i : Int) + (m : Int) := by omega
 have hin : i <= n := by omega
 have htn : ((i : Int) + (m : Int)).toNat = i + m := by omega
 have hb3 : (i : Int) <= (n : Int) := by omega
 clear hkk hik hold hROW hG hRl
 go_enter b2r, Tryz.ntmps28
 go_wp2_with (first|(at_builtin;refine Lib.wpList_append_run _ rfl _ _ _ _ rfl _ _ rfl rfl _ _ (hrz _) ?_)|(at_builtin;refine wpList_copy_runI _ rfl _ _ 22 22 rfl _ _ rfl rfl (hcpA _ hE1 hE2 _ _) ?_)|(at_builtin;refine wpList_copy_runI _ rfl _ _ 22 22 rfl _ _ rfl rfl (hcpB _ (fun _ => rfl) (fun _ => rfl) _ _ _) ?_))
 go_region_law_o (refine step_copy_runI rfl _ _ 22 22 rfl (.slice (some ⟨w.heap.size, (i + m) * 4, none⟩) (n + m - (i + m)) (G - (i + m))) (.slice (some ⟨b, off + i * 4, none⟩) (n - i) (c - i)) (by simp [Act.eval, Act.put]) (by simp [Act.eval, Act.put]) (hcpB _ hF1 hF2 3 (G - (i + m)) (c - i)) ?_)
 go_wp2
 go_ret
 exact ⟨rfl, rfl⟩
def Aq (l : List ConR) : List Value := (l.map fun x => [.string x.a, .string x.b, .int .i64 x.lo, .int .i64 x.hi]).flatten
theorem Mw (l : List ConR) : (Aq l).map AV.val = Cb l := by
 unfold Aq
 induction l with
 | nil => rfl
 | cons x l ih =>
  simp only [a1q, a3d, a1u] at ih ⊢
  rw [ih]
  rfl
theorem Gb (l m : List ConR) : Aq (l ++ m) = Aq l ++ Aq m := by simp [Aq]
theorem Dj (l : List ConR) : (Aq l).length = l.length * 4 := by
 induction l with
 | nil => rfl
 | cons x l ih =>
  have h : Aq (x :: l) = [.string x.a, .string x.b, .int .i64 x.lo, .int .i64 x.hi] ++ Aq l := rfl
  rw [h, a0q, ih, a0i]
  simp only [a0i, a0n];omega
theorem K1 (l : List ConR) : ∀ u ∈ Aq l, u.oneCell' = true := by
 intro u hu
 unfold Aq at hu
 obtain ⟨r, hr, hu⟩ := a5q.1 hu
 obtain ⟨x, _, rfl⟩ := a1b.1 hr
 simp only [a1j, a2e, or_false] at hu
 rcases hu with rfl | rfl | rfl | rfl <;> rfl
theorem W5 (l : List ConR) (k : Nat) : Aq (l.take k) = (Aq l).take (k * 4) := by
 by_cases h : k <= l.length
 ·have e : Aq l = Aq (l.take k) ++ Aq (l.drop k) := by rw [<- Gb, a4i]
  have hl : (Aq (l.take k)).length = k * 4 := by rw [Dj, a0t, a4b h]
  rw [e, List.take_append_of_le_length (by omega)]
  exact (a0h (by omega)).symm
 ·have := Dj l
  rw [a0h (by omega), a0h (by omega)]
theorem W0 (l : List ConR) (k : Nat) : Aq (l.drop k) = (Aq l).drop (k * 4) := by
 by_cases h : k <= l.length
 ·have e : Aq l = Aq (l.take k) ++ Aq (l.drop k) := by rw [<- Gb, a4i]
  have hl : (Aq (l.take k)).length = k * 4 := by rw [Dj, a0t, a4b h]
  have h0 : (Aq (l.take k)).drop (k * 4) = [] := a5b (by omega)
  rw [e, List.drop_append_of_le_length (by omega), h0, a3m]
 ·have := Dj l
  rw [a5b (by omega), a5b (by omega)]
  rfl
theorem A2h (l : List ConR) (i : Nat) (hi : i < l.length) (hl : l.length <= 1000) :
  FnMutP Tryz.prog 27 4 l.length (Aq l) (fun _ _ us => us = [.int .i64 i, .int .i64 ((i + 1 : Nat) : Int)]) (l.length - 1) (Aq (l.take i ++ l.drop (i + 1))) := by
 refine ⟨⟨_, Tryz.func27, rfl, rfl⟩, fun w k o cap c el lo hi' us hus hw hlo hcap hfit hsz hc => ?_⟩
 subst hus
 have hv := Dj l
 have hone : ∀ t, t < l.length * 4 -> ∀ u, c[o + t]? = some u -> u.oneCell' = true := fun t ht u hu => by
  have h1 := hc t _ (a0b (by omega))
  rw [h1] at hu
  injection hu with hu
  rw [<- hu]
  exact K1 l _ (a3t _)
 refine (Ab2 hw hlo (a3u i) hi (by omega) hcap hfit hone).mono ?_
 rintro e w' ⟨rfl, c', h1, h2, h3, h4, hF⟩
 have hx : (Aq (l.take i ++ l.drop (i + 1))).length = (l.length - 1) * 4 := by rw [Dj, a0q, a0t, a1v];omega
 have hnc : l.length * 4 <= cap * 4 := a1x _ hcap
 refine ⟨hF, k, o, cap, c', el, lo, hi', ?_, .inl rfl, h1, hlo, by omega, by rw [h2];exact hfit, by rw [hx, h2];omega, fun j u hj => ?_⟩
 ·rw [show l.length - (i + 1 - i) = l.length - 1 by omega]
 ·have hjl : j < (l.length - 1) * 4 := by rw [<- hx];exact (a0g.1 hj).1
  have htl : (Aq (l.take i)).length = i * 4 := by rw [Dj, a0t, a4b (by omega)]
  rw [Gb] at hj
  rcases a1a j (i * 4) with hji | hji
  ·rw [a1g (by omega), W5, a1k hji] at hj
   rw [h3 j hji]
   exact hc j u hj
  ·rw [a1d (by omega), htl, W0, a1t] at hj
   rw [h4 j hji (by rw [show l.length - (i + 1 - i) = l.length - 1 by omega];exact hjl)]
   have := hc _ u hj
   rw [<- this]
   congr 1
   omega
def Acw (i : Nat) (x : ConR) (w : World) (k : Nat) (us : List Value) : Prop := ∃ k2 o2 cap2 c2 el2 lo2 hi2, us = [.int .i64 i, .slice (some ⟨k2, o2, none⟩) 1 cap2] /\ k2 ≠ k /\ w.heap[k2]? = some (.cells c2 el2 (lo2, hi2)) /\ hi2 <= lo2 /\ ∀ j u, (Aq [x])[j]? = some u -> c2[o2 + j]? = some u
theorem A2i (l : List ConR) (i : Nat) (x : ConR) (hi : i < l.length) (hl : l.length <= 1000) :
  FnMutP Tryz.prog 28 4 l.length (Aq l) (Acw i x) (l.length + 1) (Aq (l.take i ++ x :: l.drop i)) := by
 refine ⟨⟨_, b2r, rfl, rfl⟩, fun w k o cap c el lo hi' us hus hw hlo hcap hfit hsz hc => ?_⟩
 obtain ⟨k2, o2, cap2, c2, el2, lo2, hi2, rfl, hne, hw2, hlo2, hc2⟩ := hus
 have hv := Dj l
 have hv1 := Dj [x]
 have hnc : l.length * 4 <= cap * 4 := a1x _ hcap
 have hcs : ∀ j v, (Aq l)[j]? = some v -> w.cell? ⟨k, o + j, none⟩ = some v := fun j v hj => by rw [a3b hw];exact hc j v hj
 have hvs : ∀ j v, (Aq [x])[j]? = some v -> w.cell? ⟨k2, o2 + j, none⟩ = some v := fun j v hj => by rw [a3b hw2];exact hc2 j v hj
 have hfz : ∀ {k : Nat} {c : Array Value} {el : TypeId} {lo hi : Nat}, w.heap[k]? = some (.cells c el (lo, hi)) -> hi <= lo -> ∀ j, w.frozen? ⟨k, j, none⟩ = false := fun hw hlo j => by
  simp only [World.frozen?, hw]
  simp
  omega
 have hx : (Aq (l.take i ++ x :: l.drop i)).length = (l.length + 1) * 4 := by rw [Dj, a0q, a0i, a0t, a1v];omega
 have htl : (Aq (l.take i)).length = i * 4 := by rw [Dj, a0t, a4b (by omega)]
 have hdl : ((Aq l).drop (i * 4)).length = (l.length - i) * 4 := by rw [a1v, hv];omega
 have hall : ∀ j u, (Aq (l.take i ++ x :: l.drop i))[j]? = some u -> (j < i * 4 /\ (Aq l)[j]? = some u) \/ (i * 4 <= j /\ j < i * 4 + 4 /\ (Aq [x])[j - i * 4]? = some u) \/ ((i + 1) * 4 <= j /\ ((Aq l).drop (i * 4))[j - (i + 1) * 4]? = some u) := fun j u hj => by
  rw [show l.take i ++ x :: l.drop i = l.take i ++ ([x] ++ l.drop i) from rfl, Gb, Gb] at hj
  rcases a1a j (i * 4) with hji | hji
  ·rw [a1g (by omega), W5, a1k hji] at hj
   exact .inl ⟨hji, hj⟩
  ·rw [a1d (by omega), htl] at hj
   have h4 : (Aq [x]).length = 4 := by rw [hv1];rfl
   rcases a1a (j - i * 4) 4 with hj4 | hj4
   ·rw [a1g (by omega)] at hj
    exact .inr (.inl ⟨hji, by omega, hj⟩)
   ·rw [a1d (by omega), h4, W0] at hj
    exact .inr (.inr ⟨by omega, by rw [show j - (i + 1) * 4 = j - i * 4 - 4 by omega];exact hj⟩)
 rcases a1a cap (l.length + 1) with hroom | hroom
 ·refine (A8x (m := 1) (vc := cap2) hi Nat.one_pos (by omega) hcap hroom (by rw [hv]) (by rw [hv1];rfl) hcs hvs (K1 l) (K1 [x])).mono ?_
  rintro e w' ⟨rfl, rfl⟩
  have hge : l.length + 1 <= grownCap w (l.length + 1) cap 36 := grownCap_ge w _ _ _
  generalize grownCap w (l.length + 1) cap 36 = G at *
  obtain ⟨ROW, hROW⟩ : ∃ ROW : Array Value, ROW = ((Aq l).take (i * 4)).toArray ++ Builtin.zeroCells zInC.cells (l.length + 1 - i) ++ Builtin.zeroCells zInC.cells (G - (l.length + 1)) := ⟨_, rfl⟩
  rw [<- hROW]
  have hRs : ROW.size = G * 4 := by
   have hz4 : zInC.cells.size = 4 := rfl
   rw [hROW, a3i, a3i, Gj, Gj, hz4, a3z, a0t]
   omega
  have hR0 : ∀ j, j < i * 4 -> ROW[j]? = (Aq l)[j]? := fun j hj => by
   rw [hROW, a1l (by rw [a3i, a3z, a0t];omega), a1l (by rw [a3z, a0t];omega), a8i, a1k hj]
  have hw1 : (w.drew.alloc (.cells ROW 36)).heap[w.heap.size]? = some (.cells ROW 36 (0, 0)) := B7 w.drew _
  obtain ⟨c3, g1, g2, g3, g4, g5, g6, g7, g8, g9⟩ := Eb (Aq [x]) (i * 4) ROW _ hw1 (by rw [hv1, hRs];simp only [a0i, a0n];omega)
  generalize (w.drew.alloc (.cells ROW 36)).setCells w.heap.size (i * 4) (Aq [x]) = W1 at *
  obtain ⟨c4, f1, f2, f3, f4, f5, f6, f7, f8, f9⟩ := Eb ((Aq l).drop (i * 4)) ((i + 1) * 4) c3 W1.drew g1 (by rw [hdl, g2, hRs];omega)
  have hold : ∀ j, j < w.heap.size -> (w.drew.alloc (.cells ROW 36)).heap[j]? = w.heap[j]? := fun j hj => Ai w.drew _ hj
  refine ⟨⟨f6.trans g6, f7.trans g7, f8.trans g8, by rw [f9];show w.heap.size <= W1.heap.size;rw [g9];simp, fun j hj hn => (f4 j (by omega)).trans ((g4 j (by omega)).trans (hold j hj)), fun j y hy => f5 j y (g5 j y (by rw [Au (hold j (D6 hy))];exact hy))⟩, w.heap.size, 0, G, c4, 36, 0, 0, rfl, .inr (a0l _), f1, a0l _, hge, by rw [f2, g2, hRs];omega, by rw [hx, f2, g2, hRs];omega, fun j u hj => ?_⟩
  rw [a1r, f3]
  rcases hall j u hj with ⟨a1, a2⟩ | ⟨a1, a2, a3⟩ | ⟨a1, a2⟩
  ·rw [if_neg (by omega), g3, if_neg (by omega), hR0 j a1];exact a2
  ·rw [if_neg (by omega), g3, if_pos ⟨a1, by rw [hv1];simp only [a0i, a0n];omega⟩];exact a3
  ·have := (a0g.1 a2).1
   rw [if_pos ⟨a1, by omega⟩];exact a2
 ·refine (A5o (m := 1) (vc := cap2) hi Nat.one_pos (by omega) hroom hne (by rw [hv]) (by rw [hv1];rfl) hcs (fun j hj => by
   have : (l.length + 1) * 4 <= cap * 4 := a1x _ hroom
   rw [a3b hw, a1o (by omega)];rfl) (hfz hw hlo) hvs (K1 l) (K1 [x]) el2 el c2.size c.size (by unfold World.shape?;rw [hw2]) (by unfold World.shape?;rw [hw]) (by omega) (hfz hw2 hlo2)).mono ?_
  rintro e w' ⟨rfl, rfl⟩
  have h1 : (l.length + 1) * 4 <= cap * 4 := a1x _ hroom
  obtain ⟨c3, g1, g2, g3, g4, g5, g6, g7, g8, g9⟩ := Eb ((Aq l).drop (i * 4)) (o + (i + 1) * 4) c w.drew hw (by rw [hdl];omega)
  generalize w.drew.setCells k (o + (i + 1) * 4) ((Aq l).drop (i * 4)) = W1 at *
  obtain ⟨c4, f1, f2, f3, f4, f5, f6, f7, f8, f9⟩ := Eb (Aq [x]) (o + i * 4) c3 W1 g1 (by rw [hv1, g2];simp only [a0i, a0n];omega)
  refine ⟨⟨f6.trans g6, f7.trans g7, f8.trans g8, by rw [f9, g9];exact a0l _, fun j hj hn => (f4 j hn).trans (g4 j hn), fun j y hy => f5 j y (g5 j y hy)⟩, k, o, cap, c4, el, lo, hi', rfl, .inl rfl, f1, hlo, hroom, by rw [f2, g2];exact hfit, by rw [hx, f2, g2];omega, fun j u hj => ?_⟩
  have h4 : (Aq [x]).length = 4 := by rw [hv1];rfl
  rw [f3]
  rcases hall j u hj with ⟨a1, a2⟩ | ⟨a1, a2, a3⟩ | ⟨a1, a2⟩
  ·rw [if_neg (by omega), g3, if_neg (by omega)];exact hc j u a2
  ·rw [if_pos ⟨by omega, by omega⟩, show o + j - (o + i * 4) = j - i * 4 by omega];exact a3
  ·have := (a0g.1 a2).1
   rw [if_neg (by omega), g3, if_pos ⟨by omega, by omega⟩, show o + j - (o + (i + 1) * 4) = j - (i + 1) * 4 by omega];exact a2
theorem A89 (l : List ConR) : (l.map ConR.row).flatten.all Lf.one = true := by
 rw [a0k]
 intro y hy
 obtain ⟨r, hr, hy⟩ := a5q.1 hy
 obtain ⟨x, _, rfl⟩ := a1b.1 hr
 simp only [ConR.row, a1j, a2e, or_false] at hy
 rcases hy with rfl | rfl | rfl | rfl <;> rfl
theorem Ry (l : List ConR) (hl : l.length <= 1000) : FnOwn Tryz.prog 26 [.sl (l.map ConR.row)] (l.map ConR.row) 4 := by
 have hle : (l.map ConR.row).length = l.length := a0a _
 refine FnOwn.of Tryz.func26 Tryz.ntmps26 rfl rfl rfl ?_
 simp only [A2]
 repeat' (first|refine W ?_|(apply p3i;exact rfl;exact rfl;intro hnil;rotate_left;rotate_right)|(apply p1c;(iterate 6 exact rfl))|(apply p0p;(iterate 9 exact rfl);exact J3 l;exact A89 l;exact rfl;omega;omega)|refine V ?_|(refine W2 ?_ ?_<;>intro hc))
 all_goals (apply T.ret;change Wm _ _ _ _ _ _)
 ·exact ⟨.inr rfl, .inl ⟨_, .cons (.tmp rfl) .nil, rfl, hnil⟩⟩
 ·exact ⟨.inr rfl, .inr (.inr ⟨0, .cons (p2z rfl) .nil, rfl⟩)⟩
end Go.Proofs.YtlapbaiejnaeiaaGreatDoor
namespace Go.Proofs.YtlapbaiejnaeiaaGreatDoor
open Go Go.RowKit
end Go.Proofs.YtlapbaiejnaeiaaGreatDoor
