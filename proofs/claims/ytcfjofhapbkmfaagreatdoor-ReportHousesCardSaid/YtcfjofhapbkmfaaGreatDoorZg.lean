/- Walk: a line of words on a paper, of any length: strings, integers, fractions. No conditions but those of each statement. -/
import Derived.Test.YtcfjofhapbkmfaaGreatDoorZa
import Derived.Test.YtcfjofhapbkmfaaGreatDoorMy
import Derived.Test.YtcfjofhapbkmfaaGreatDoorXb
import Derived.Test.YtcfjofhapbkmfaaGreatDoorZf
set_option linter.unusedSimpArgs false
set_option linter.unusedVariables false
namespace Go.Proofs.YtcfjofhapbkmfaaGreatDoor
open Go Go.RowKit
def jnT (ws : List ByteArray) : List UInt8 := Lib.join (ws.map (·.data.toList)) [32]
theorem Pq (sep : List UInt8) : ∀ (a : List UInt8) (r : List (List UInt8)) (w : List UInt8), Lib.join (a :: (r ++ [w])) sep = Lib.join (a :: r) sep ++ sep ++ w
 | a, [], w => by simp [Lib.join, List.intercalate]
 | a, b :: r, w => by
  have h1 := Pq sep b r w
  have h2 : ∀ (x : List (List UInt8)), Lib.join (a :: b :: x) sep = a ++ sep ++ Lib.join (b :: x) sep := fun x => by simp [Lib.join, List.intercalate]
  rw [List.cons_append, h2, h2, h1]
  simp
theorem Rr : jnT [] = [] := by simp [jnT, Lib.join, List.intercalate]
theorem Ze (w : ByteArray) : jnT [w] = w.data.toList := by simp [jnT, Lib.join, List.intercalate]
theorem Xt {ws : List ByteArray} (h : ws ≠ []) (w : ByteArray) : jnT (ws ++ [w]) = jnT ws ++ [32] ++ w.data.toList := by
 cases ws with
 | nil => exact absurd rfl h
 | cons a r =>
  unfold jnT
  rw [List.cons_append, List.map_cons, List.map_append, List.map_cons, List.map_nil, Pq]
  rfl
theorem Xw (ws : List ByteArray) : Bu ws = jnT ws ++ [10] := rfl
abbrev Wor := Lf × ByteArray
def Dz (w : Wor) : Prop := w.2.size <= 60 /\ (w.1 = .val (.iface 9 (.string w.2)) \/ (∃ n : Int, -9223372036854775808 <= n /\ n <= 9223372036854775807 /\ w = (.val (.iface 3 (.int .i64 n)), Af n)) \/ ∃ q : Rat, Fits q /\ w = (.val (.iface 40 (.agg #[.int .i64 q.num, .int .i64 q.den])), D9 q))
def Kv (ws : List Wor) : List (List Lf) := ws.map fun w => [w.1]
def Dq (ws : List Wor) : List ByteArray := ws.map (·.2)
theorem A0z {ws : List Wor} {k : Nat} {w : Wor} (hw : ws[k]? = some w) (hk : 0 < k) : jnT (Dq (ws.take (k + 1))) = jnT (Dq (ws.take k)) ++ [32] ++ w.2.data.toList := by
 unfold Dq
 rw [Ai hw, List.map_append, List.map_cons, List.map_nil, Xt]
 intro h
 have := congrArg List.length h
 have h2 := (List.getElem?_eq_some_iff.1 hw).1
 rw [List.length_map, List.length_take, List.length_nil] at this
 omega
theorem Zx {ws : List Wor} {w : Wor} (hw : ws[0]? = some w) : jnT (Dq (ws.take (0 + 1))) = w.2.data.toList := by
 unfold Dq
 rw [Ai hw]
 exact Ze _
theorem Zy {ws : List Wor} (h : ∀ w ∈ ws, Dz w) (k : Nat) : (jnT (Dq (ws.take k))).length <= ws.length * 61 := by
 have := Rs (B := 60) [32] ((Dq (ws.take k)).map (·.data.toList)) fun w hw => by
  obtain ⟨x, hx, rfl⟩ := List.mem_map.1 hw
  obtain ⟨y, hy, rfl⟩ := List.mem_map.1 hx
  have := (h y (List.mem_of_mem_take hy)).1
  rwa [Db]
 unfold jnT
 unfold Dq at *
 rw [List.length_map, List.length_map, List.length_take] at this
 simp only [List.length_cons, List.length_nil] at this
 have h2 : min k ws.length <= ws.length := Nat.min_le_right _ _
 have h3 := Nat.mul_le_mul_right 61 h2
 omega
theorem Jw {ca cb ks : List AV} {vs : List Value} {l : List UInt8} {r : AH} (ha : ca.all (AV.clear 2) = true) (hb : cb.all (AV.clear 2) = true) (hk : ks.all (AV.clear 2) = true) (hr : AH.clear 2 5 r = true) : AH.clear 2 0 (.live ca :: Fz 2 l :: .hid :: .live cb :: .gho ks vs :: r) = true := by
 show (ca.all (AV.clear 2) && (true && (true && (cb.all (AV.clear 2) && (ks.all (AV.clear 2) && AH.clear 2 5 r))))) = true
 rw [ha, hb, hk, hr];rfl
set_option maxHeartbeats 64000000 in
theorem Ij {c : Code} (hc : Tryz.f27.body = some c) (ca cb ks : List AV) (vs : List Value) (l : List UInt8) (ws : List Wor) (a1 : ca.all (AV.clear 2) = true) (b1 : cb.all (AV.clear 2) = true) (k1 : ks.all (AV.clear 2) = true) (a2 : ca.all (AV.under 5) = true) (b2 : cb.all (AV.under 5) = true) (k2 : ks.all (AV.under 5) = true) (hl : l.length <= 1000000) (hn : ws.length <= 100) (hw : ∀ w ∈ ws, Dz w) {Q : Exit -> St -> Prop} (hQ : ∀ tm, Q .normal ⟨tm, [.live ca, Fz 2 (l ++ Bu (Dq ws)), .hid, .live cb, .gho ks vs]⟩) : T Tryz.prog Tryz.f27.ntmps c ⟨A0 0 [.ptr 1 0, .sl (Kv ws)], [.live ca, Fz 2 l, .hid, .live cb, .gho ks vs]⟩ Q := by
 obtain rfl : c = _ := (Option.some.inj hc).symm
 clear hc
 have z2 : (⟨#[32]⟩ : ByteArray).size = 1 := rfl
 have z5 : (⟨#[10]⟩ : ByteArray).size = 1 := rfl
 have hle : (Kv ws).length = ws.length := List.length_map _
 simp only [A0, List.cons_append, List.nil_append]
 repeat' (first
  | refine W ?_
  | refine Y ?_
  | refine V ?_
  | (refine W2 ?_ ?_ <;> intro hc))
 refine T.loopS (fun k => k <= ws.length) (fun k => ws.length - k) (fun k => [(13, .i (k : Nat)), (12, .i (Kv ws).length), (11, .sl (Kv ws)), (0, .ptr 1 0)]) (fun k => [.live ca, Fz 2 (l ++ jnT (Dq (ws.take k))), .hid, .live cb, .gho ks vs]) 0 (Nat.zero_le _) CW (.live a2 (.bldE (by rw [show Dq (ws.take 0) = [] from rfl, Rr, List.append_nil]) rfl (.hid (.live b2 (.gho k2 .nil))))) ?_
 intro k hk
 have hj := Zy hw k
 by_cases hlt : k < ws.length
 ·have h1 : ((k : Nat) : Int) < ((Kv ws).length : Nat) := by omega
  obtain ⟨w, hwk⟩ := Aa hlt
  have hb : (Kv ws)[((k : Nat) : Int).toNat]? = some [w.1] := Ab (R := fun w : Wor => [w.1]) hwk
  obtain ⟨ws1, wk⟩ := hw w (List.mem_of_getElem? hwk)
  rcases Nat.eq_zero_or_pos k with k0 | kpos
  ·subst k0
   have hS : l ++ jnT (Dq (ws.take (0 + 1))) = l ++ jnT (Dq (ws.take 0)) ++ w.2.data.toList := by
    rw [Zx hwk, show Dq (ws.take 0) = [] from rfl, Rr, List.append_nil]
   have h3 : ¬ ((0 : Nat) : Int) > 0 := by omega
   rcases wk with e | ⟨m, m1, m2, e⟩ | ⟨q, hq, e⟩
   ·rw [e] at hb
    generalize w.2 = wt at *
    repeat' (first
     | refine W ?_
     | (apply S.indexR;(iterate 3 exact rfl);exact hb;omega;exact rfl) | refine Y ?_|(apply S.papW;(iterate 4 exact rfl);exact Jw a1 b1 k1 rfl;exact rfl;(simp only [List.length_append, Db, List.length_cons, List.length_nil];omega))|(apply S.fieldB;(iterate 3 exact rfl))|(apply S.nilCheckB;(iterate 3 exact rfl))|(apply S.assertYes;(iterate 3 exact rfl))|(apply S.assertNo;(iterate 4 exact rfl))|(refine T.ordersR (N := Tryz.f27.ntmps) (id := 11) A3 ?_)|(apply Ords.nil;decide +kernel)|(apply Ords.takeMove 0;exact rfl;decide +kernel;decide +kernel;decide +kernel;exact rfl;exact rfl)|(apply Ords.takeMove 3;exact rfl;decide +kernel;decide +kernel;decide +kernel;exact rfl;exact rfl)|(apply Ords.takeNilB 1;exact rfl;decide +kernel;decide +kernel;decide +kernel;(iterate 3 exact rfl))|(apply Ords.takeFieldB 2;exact rfl;decide +kernel;decide +kernel;decide +kernel;exact inferInstance;(iterate 3 exact rfl))|(apply Ords.one (i := 4);decide +kernel;exact rfl)|(apply Ords.one (i := 5);decide +kernel;exact rfl)|refine Za ?_
     | refine V ?_
     | (refine W2 ?_ ?_ <;> intro hc))
    all_goals (change Next _ _ _ _ _ _)
    all_goals exact Next.go (0 + 1) (by omega) (by omega) CW (.live a2 (.bldE hS rfl (.hid (.live b2 (.gho k2 .nil)))))
   ·subst e
    have ci := Dh m m1 m2
    dsimp only at hS ws1 hb
    generalize Af m = wt at *
    repeat' (first
     | refine W ?_
     | (apply S.indexR;(iterate 3 exact rfl);exact hb;omega;exact rfl) | refine Y ?_|(apply S.papW;(iterate 4 exact rfl);exact Jw a1 b1 k1 rfl;exact rfl;(simp only [List.length_append, Db, List.length_cons, List.length_nil];omega))|(apply S.fieldB;(iterate 3 exact rfl))|(apply S.nilCheckB;(iterate 3 exact rfl))|(apply S.assertYes;(iterate 3 exact rfl))|(apply S.assertNo;(iterate 4 exact rfl))|(refine T.ordersR (N := Tryz.f27.ntmps) (id := 11) A3 ?_)|(apply Ords.nil;decide +kernel)|(apply Ords.takeMove 0;exact rfl;decide +kernel;decide +kernel;decide +kernel;exact rfl;exact rfl)|(apply Ords.takeMove 3;exact rfl;decide +kernel;decide +kernel;decide +kernel;exact rfl;exact rfl)|(apply Ords.takeNilB 1;exact rfl;decide +kernel;decide +kernel;decide +kernel;(iterate 3 exact rfl))|(apply Ords.takeFieldB 2;exact rfl;decide +kernel;decide +kernel;decide +kernel;exact inferInstance;(iterate 3 exact rfl))|(apply Ords.one (i := 4);decide +kernel;exact rfl)|(apply Ords.one (i := 5);decide +kernel;exact rfl)|refine Za ?_
     | refine V ?_
     | (refine W2 ?_ ?_ <;> intro hc))
    all_goals (change Next _ _ _ _ _ _)
    all_goals exact Next.go (0 + 1) (by omega) (by omega) CW (.live a2 (.bldE hS rfl (.hid (.live b2 (.gho k2 .nil)))))
   ·subst e
    have cq := Nw q hq
    dsimp only at hS ws1 hb
    generalize D9 q = wt at *
    repeat' (first
     | refine W ?_
     | (apply S.indexR;(iterate 3 exact rfl);exact hb;omega;exact rfl) | refine Y ?_|(apply S.papW;(iterate 4 exact rfl);exact Jw a1 b1 k1 rfl;exact rfl;(simp only [List.length_append, Db, List.length_cons, List.length_nil];omega))|(apply S.fieldB;(iterate 3 exact rfl))|(apply S.nilCheckB;(iterate 3 exact rfl))|(apply S.assertYes;(iterate 3 exact rfl))|(apply S.assertNo;(iterate 4 exact rfl))|(refine T.ordersR (N := Tryz.f27.ntmps) (id := 11) A3 ?_)|(apply Ords.nil;decide +kernel)|(apply Ords.takeMove 0;exact rfl;decide +kernel;decide +kernel;decide +kernel;exact rfl;exact rfl)|(apply Ords.takeMove 3;exact rfl;decide +kernel;decide +kernel;decide +kernel;exact rfl;exact rfl)|(apply Ords.takeNilB 1;exact rfl;decide +kernel;decide +kernel;decide +kernel;(iterate 3 exact rfl))|(apply Ords.takeFieldB 2;exact rfl;decide +kernel;decide +kernel;decide +kernel;exact inferInstance;(iterate 3 exact rfl))|(apply Ords.one (i := 4);decide +kernel;exact rfl)|(apply Ords.one (i := 5);decide +kernel;exact rfl)|refine Za ?_
     | refine V ?_
     | (refine W2 ?_ ?_ <;> intro hc))
    all_goals (change Next _ _ _ _ _ _)
    all_goals exact Next.go (0 + 1) (by omega) (by omega) CW (.live a2 (.bldE hS rfl (.hid (.live b2 (.gho k2 .nil)))))
  ·have hS : l ++ jnT (Dq (ws.take (k + 1))) = l ++ jnT (Dq (ws.take k)) ++ (⟨#[32]⟩ : ByteArray).data.toList ++ w.2.data.toList := by
    rw [A0z hwk kpos];simp
   have h3 : ((k : Nat) : Int) > 0 := by omega
   rcases wk with e | ⟨m, m1, m2, e⟩ | ⟨q, hq, e⟩
   ·rw [e] at hb
    generalize w.2 = wt at *
    repeat' (first
     | refine W ?_
     | (apply S.indexR;(iterate 3 exact rfl);exact hb;omega;exact rfl) | refine Y ?_|(apply S.papW;(iterate 4 exact rfl);exact Jw a1 b1 k1 rfl;exact rfl;(simp only [List.length_append, Db, List.length_cons, List.length_nil];omega))|(apply S.fieldB;(iterate 3 exact rfl))|(apply S.nilCheckB;(iterate 3 exact rfl))|(apply S.assertYes;(iterate 3 exact rfl))|(apply S.assertNo;(iterate 4 exact rfl))|(refine T.ordersR (N := Tryz.f27.ntmps) (id := 11) A3 ?_)|(apply Ords.nil;decide +kernel)|(apply Ords.takeMove 0;exact rfl;decide +kernel;decide +kernel;decide +kernel;exact rfl;exact rfl)|(apply Ords.takeMove 3;exact rfl;decide +kernel;decide +kernel;decide +kernel;exact rfl;exact rfl)|(apply Ords.takeNilB 1;exact rfl;decide +kernel;decide +kernel;decide +kernel;(iterate 3 exact rfl))|(apply Ords.takeFieldB 2;exact rfl;decide +kernel;decide +kernel;decide +kernel;exact inferInstance;(iterate 3 exact rfl))|(apply Ords.one (i := 4);decide +kernel;exact rfl)|(apply Ords.one (i := 5);decide +kernel;exact rfl)|refine Za ?_
     | refine V ?_
     | (refine W2 ?_ ?_ <;> intro hc))
    all_goals (change Next _ _ _ _ _ _)
    all_goals exact Next.go (k + 1) (by omega) (by omega) CW (.live a2 (.bldE hS rfl (.hid (.live b2 (.gho k2 .nil)))))
   ·subst e
    have ci := Dh m m1 m2
    dsimp only at hS ws1 hb
    generalize Af m = wt at *
    repeat' (first
     | refine W ?_
     | (apply S.indexR;(iterate 3 exact rfl);exact hb;omega;exact rfl) | refine Y ?_|(apply S.papW;(iterate 4 exact rfl);exact Jw a1 b1 k1 rfl;exact rfl;(simp only [List.length_append, Db, List.length_cons, List.length_nil];omega))|(apply S.fieldB;(iterate 3 exact rfl))|(apply S.nilCheckB;(iterate 3 exact rfl))|(apply S.assertYes;(iterate 3 exact rfl))|(apply S.assertNo;(iterate 4 exact rfl))|(refine T.ordersR (N := Tryz.f27.ntmps) (id := 11) A3 ?_)|(apply Ords.nil;decide +kernel)|(apply Ords.takeMove 0;exact rfl;decide +kernel;decide +kernel;decide +kernel;exact rfl;exact rfl)|(apply Ords.takeMove 3;exact rfl;decide +kernel;decide +kernel;decide +kernel;exact rfl;exact rfl)|(apply Ords.takeNilB 1;exact rfl;decide +kernel;decide +kernel;decide +kernel;(iterate 3 exact rfl))|(apply Ords.takeFieldB 2;exact rfl;decide +kernel;decide +kernel;decide +kernel;exact inferInstance;(iterate 3 exact rfl))|(apply Ords.one (i := 4);decide +kernel;exact rfl)|(apply Ords.one (i := 5);decide +kernel;exact rfl)|refine Za ?_
     | refine V ?_
     | (refine W2 ?_ ?_ <;> intro hc))
    all_goals (change Next _ _ _ _ _ _)
    all_goals exact Next.go (k + 1) (by omega) (by omega) CW (.live a2 (.bldE hS rfl (.hid (.live b2 (.gho k2 .nil)))))
   ·subst e
    have cq := Nw q hq
    dsimp only at hS ws1 hb
    generalize D9 q = wt at *
    repeat' (first
     | refine W ?_
     | (apply S.indexR;(iterate 3 exact rfl);exact hb;omega;exact rfl) | refine Y ?_|(apply S.papW;(iterate 4 exact rfl);exact Jw a1 b1 k1 rfl;exact rfl;(simp only [List.length_append, Db, List.length_cons, List.length_nil];omega))|(apply S.fieldB;(iterate 3 exact rfl))|(apply S.nilCheckB;(iterate 3 exact rfl))|(apply S.assertYes;(iterate 3 exact rfl))|(apply S.assertNo;(iterate 4 exact rfl))|(refine T.ordersR (N := Tryz.f27.ntmps) (id := 11) A3 ?_)|(apply Ords.nil;decide +kernel)|(apply Ords.takeMove 0;exact rfl;decide +kernel;decide +kernel;decide +kernel;exact rfl;exact rfl)|(apply Ords.takeMove 3;exact rfl;decide +kernel;decide +kernel;decide +kernel;exact rfl;exact rfl)|(apply Ords.takeNilB 1;exact rfl;decide +kernel;decide +kernel;decide +kernel;(iterate 3 exact rfl))|(apply Ords.takeFieldB 2;exact rfl;decide +kernel;decide +kernel;decide +kernel;exact inferInstance;(iterate 3 exact rfl))|(apply Ords.one (i := 4);decide +kernel;exact rfl)|(apply Ords.one (i := 5);decide +kernel;exact rfl)|refine Za ?_
     | refine V ?_
     | (refine W2 ?_ ?_ <;> intro hc))
    all_goals (change Next _ _ _ _ _ _)
    all_goals exact Next.go (k + 1) (by omega) (by omega) CW (.live a2 (.bldE hS rfl (.hid (.live b2 (.gho k2 .nil)))))
 ·have h1 : ¬ ((k : Nat) : Int) < ((Kv ws).length : Nat) := by omega
  have hkt : ws.take k = ws := List.take_of_length_le (by omega)
  rw [hkt] at hj ⊢
  rw [Xw, <- List.append_assoc] at hQ
  repeat' (first
   | refine W ?_
   | (apply S.indexR;(iterate 3 exact rfl);exact hb;omega;exact rfl) | refine Y ?_|(apply S.papW;(iterate 4 exact rfl);exact Jw a1 b1 k1 rfl;exact rfl;(simp only [List.length_append, Db, List.length_cons, List.length_nil];omega))|(apply S.fieldB;(iterate 3 exact rfl))|(apply S.nilCheckB;(iterate 3 exact rfl))|(apply S.assertYes;(iterate 3 exact rfl))|(apply S.assertNo;(iterate 4 exact rfl))|(refine T.ordersR (N := Tryz.f27.ntmps) (id := 11) A3 ?_)|(apply Ords.nil;decide +kernel)|(apply Ords.takeMove 0;exact rfl;decide +kernel;decide +kernel;decide +kernel;exact rfl;exact rfl)|(apply Ords.takeMove 3;exact rfl;decide +kernel;decide +kernel;decide +kernel;exact rfl;exact rfl)|(apply Ords.takeNilB 1;exact rfl;decide +kernel;decide +kernel;decide +kernel;(iterate 3 exact rfl))|(apply Ords.takeFieldB 2;exact rfl;decide +kernel;decide +kernel;decide +kernel;exact inferInstance;(iterate 3 exact rfl))|(apply Ords.one (i := 4);decide +kernel;exact rfl)|(apply Ords.one (i := 5);decide +kernel;exact rfl)|refine Za ?_
   | refine V ?_
   | (refine W2 ?_ ?_ <;> intro hc))
  all_goals exact hQ _
abbrev Bg (b : ByteArray) : Wor := (.val (.iface 9 (.string b)), b)
abbrev Eb (n : Int) : Wor := (.val (.iface 3 (.int .i64 n)), Af n)
abbrev Yq (q : Rat) : Wor := (.val (.iface 40 (.agg #[.int .i64 q.num, .int .i64 q.den])), D9 q)
theorem Bn {b : ByteArray} (h : b.size <= 60) : Dz (Bg b) := ⟨h, .inl rfl⟩
theorem Ew {n : Int} (h1 : -9223372036854775808 <= n) (h2 : n <= 9223372036854775807) : Dz (Eb n) := ⟨by have := Ar h1 h2;dsimp only;omega, .inr (.inl ⟨n, h1, h2, rfl⟩)⟩
theorem Zw {q : Rat} (h : Fits q) : Dz (Yq q) := ⟨by have := Hv h;dsimp only;omega, .inr (.inr ⟨q, h, rfl⟩)⟩
theorem Am {w : Wor} {l : List Wor} (h : Dz w) (hl : ∀ x ∈ l, Dz x) : ∀ x ∈ w :: l, Dz x := by
 intro x hx
 rcases List.mem_cons.1 hx with rfl | hx
 ·exact h
 ·exact hl x hx
theorem N7 : ∀ x ∈ ([] : List Wor), Dz x := by intro x hx;cases hx
theorem Ob (h : HouseR) (hf : h.fits) (hp : Az h) (h5 : h.sets.length <= 5) : Fn0 Tryz.prog 20 [A6 h.row] (.tup [.sl ((iN (Ac (Ak h) h.sets.length)).map A8), .i 0]) := by
 rcases Nat.eq_zero_or_pos h.sets.length with h0 | hpos
 ·rw [h0]
  exact Od h hf hp h0
 ·exact Uv h hf hp h.sets.length rfl hpos (by omega)
theorem Oa (h : HouseR) (hf : h.fits) (hp : Az h) (h5 : h.sets.length <= 5) (b : Ek h) : Fn0 Tryz.prog 21 [A6 h.row] (.tup [.sl (h.roofs.map fun x => frR (brQ h.roofs h.sets x)), .i 0]) :=
 Ic h hf hp _ _ (fun _ => Ss h.roofs hp.2.2.2.2.1 h.sets h5 (fun s hs => (hp.2.2.2.2.2.1 s hs).1) b.1 b.2) fun hn => absurd b.1 hn
theorem Pg (h : HouseR) (hf : h.fits) (hp : Az h) (h5 : h.sets.length <= 5) (b : ¬ Ek h) : ∃ e : Int, ¬ e = 0 /\ Fn0 Tryz.prog 21 [A6 h.row] (.tup [.sl [], .i e]) := by
 by_cases h1 : ∀ s ∈ h.sets, ptW s <= 67108864
 ·have h2 : ∃ s ∈ h.sets, Ap h.roofs s.depth = 0 := Classical.byContradiction fun hn => b ⟨h1, fun s hs => Nat.pos_of_ne_zero fun e => hn ⟨s, hs, e⟩⟩
  exact ⟨12, by decide, Ic h hf hp [] 12 (fun _ => Lg h.roofs hp.2.2.2.2.1 h.sets (by omega) (fun s hs => (hp.2.2.2.2.2.1 s hs).1) h1 h2) fun hn => absurd h1 hn⟩
 ·exact ⟨5, by decide, Ic h hf hp [] 5 (fun hh => absurd hh h1) fun _ => ⟨rfl, rfl⟩⟩
theorem Oj (h : HouseR) (hf : h.fits) (hp : ¬ Az h) : Fn0 Tryz.prog 17 [A6 h.row] (.tup [.s ⟨#[]⟩, .i 1]) := by
 have co := Oc h hf hp
 refine Fn0.of Tryz.func17 Tryz.ntmps17 rfl rfl rfl ?_
 simp only [A0]
 repeat' (first
  | refine W ?_
  | refine Y ?_
  | refine V ?_
  | (refine W2 ?_ ?_ <;> intro hc))
 all_goals exact D2 rfl rfl rfl
set_option maxRecDepth 20000 in
set_option maxHeartbeats 64000000 in
theorem O3 (h : HouseR) (hf : h.fits) (hp : Az h) (h5 : h.sets.length <= 5) (rs : List (List Lf)) (e : Int) (T2 : List UInt8) (cl : Fn0 Tryz.prog 21 [A6 h.row] (.tup [.sl rs, .i e])) (he : ¬ e = 0 -> T2 = hT1 h (Ac (Ak h) h.sets.length)) (hb : e = 0 -> Ek h /\ rs = h.roofs.map (fun x => frR (brQ h.roofs h.sets x)) /\ T2 = hT2 h (Ac (Ak h) h.sets.length) h.roofs) : Fn0 Tryz.prog 17 [A6 h.row] (.tup [.s (ofL T2), .i 0]) := by
 have co := Ob h hf hp h5
 obtain ⟨L, hL⟩ : ∃ L, L = iN (Ac (Ak h) h.sets.length) := ⟨_, rfl⟩
 have hLl : L.length = h.sets.length := by rw [hL, Lk, Bk]
 have hll : (L.map A8).length = h.sets.length := by rw [List.length_map, hLl]
 rw [<- hL] at co
 have sN := Ch hp.1
 have hh := hp.2.1
 have hh2 := hp.2.2.1
 have ci := Dh h.height (by omega) (by omega)
 have si := Ar (n := h.height) (by omega) (by omega)
 have hsh := A0x [] ⟨#[104, 111, 117, 115, 101]⟩ h.name (Af h.height)
 have z1 : (⟨#[104, 111, 117, 115, 101]⟩ : ByteArray).size = 5 := rfl
 have z2 : (⟨#[32]⟩ : ByteArray).size = 1 := rfl
 have z5 : (⟨#[10]⟩ : ByteArray).size = 1 := rfl
 refine Fn0.of Tryz.func17 Tryz.ntmps17 rfl rfl rfl ?_
 simp only [A0]
 repeat' (first
  | refine W ?_
  | refine Y ?_|(apply S.papN;exact rfl;exact rfl)|(apply S.mkIface;(iterate 4 exact rfl))|(refine T.unroll (N := Tryz.f27.ntmps) ?_)|(refine TL.round ?_)|(dsimp only [Au, Ae];refine TL.round ?_)|(apply S.arith;(iterate 4 exact rfl);decide)|(apply S.indexR;(iterate 4 exact rfl);decide;exact rfl)|(apply S.buildSliceF;(iterate 8 exact rfl))|(refine ⟨by first | exact .inl rfl | exact .inr rfl, [], .nil, rfl, ?_⟩;show Reg none _ _ _ _ _ _ _)|(refine S.inline [(1, .ptr 0 0), (4, .sl (L.map A8)), (6, .ptr 1 0)] Tryz.func27 Tryz.ntmps27 rfl rfl rfl rfl rfl rfl rfl CW rfl ?_;intro vs4;simp only [A0, List.cons_append, List.nil_append])|(apply S.papW;(iterate 6 exact rfl);first | omega|(simp only [List.length_append, Db, List.length_cons, List.length_nil];omega))|(apply S.papW;(iterate 6 exact rfl);exact Nat.le_of_ble_eq_true rfl)|(apply S.fieldB;(iterate 3 exact rfl))|(apply S.nilCheckB;(iterate 3 exact rfl))|(apply S.assertYes;(iterate 3 exact rfl))|(apply S.assertNo;(iterate 4 exact rfl))|(refine T.ordersR (N := Tryz.f27.ntmps) (id := 11) A3 ?_)|(apply Ords.nil;decide +kernel)|(apply Ords.takeMove 0;exact rfl;decide +kernel;decide +kernel;decide +kernel;exact rfl;exact rfl)|(apply Ords.takeMove 3;exact rfl;decide +kernel;decide +kernel;decide +kernel;exact rfl;exact rfl)|(apply Ords.takeNilB 1;exact rfl;decide +kernel;decide +kernel;decide +kernel;(iterate 3 exact rfl))|(apply Ords.takeFieldB 2;exact rfl;decide +kernel;decide +kernel;decide +kernel;exact inferInstance;(iterate 3 exact rfl))|(apply Ords.one (i := 4);decide +kernel;exact rfl)|(apply Ords.one (i := 5);decide +kernel;exact rfl)|refine Za ?_
  | refine V ?_
  | (refine W2 ?_ ?_ <;> intro hc))
 obtain ⟨n, hn⟩ : ∃ n, n = h.sets.length := ⟨_, rfl⟩
 rw [<- hn] at hL hLl hll he hb h5
 refine T.loopS (fun k => k <= n) (fun k => n - k) (fun k => [(40, .i (k : Nat)), (39, .i (L.map A8).length), (38, .sl (L.map A8)), (1, .ptr 0 0), (6, .ptr 1 0)]) (fun k => [.live (h.row.map .lf), Fz 2 (hT1 h ((Ac (Ak h) n).take k)), .hid]) 0 (Nat.zero_le _) CW (.live rfl (.bldE ((Ro h).trans hsh.symm) rfl (.hid .nil))) ?_
 intro k hk
 by_cases hlt : k < n
 ·have h2 : ((k : Nat) : Int) < ((L.map A8).length : Nat) := by omega
  obtain ⟨x, hx⟩ := Aa (l := Ac (Ak h) n) (k := k) (by rw [Bk];exact hlt)
  have hxn : x < n := ordP_mem.1 (List.mem_of_getElem? hx)
  have hxL : L[k]? = some (x : Int) := by rw [hL, iN, List.getElem?_map, hx];rfl
  have hb1 := Ab (R := A8) hxL
  obtain ⟨s, hs⟩ := Aa (l := h.sets) (k := x) (by omega)
  have hb2 := Ab (R := SetR.row) hs
  have hsm := List.mem_of_getElem? hs
  have hsp := (hp.2.2.2.2.2.1 s hsm).1
  have hsf : s.fits := hf.2.2 s hsm
  have cw := Gx s hsf hsp
  have cb := Jc s hsf hsp
  have ch := U4 s hsf hsp
  have r1 := C5 hsp
  have r2 := Ej hsp
  have r3 := hsp.2.1
  have hts := Pd hx hs
  have htl := Pc hp (l := (Ac (Ak h) n).take k) fun y hy => by have := ordP_mem.1 (List.mem_of_mem_take hy);omega
  have htk : ((Ac (Ak h) n).take k).length <= 5 := by rw [List.length_take, Bk];omega
  have s4 := Ch hsp.1
  have htl : (hT1 h ((Ac (Ak h) n).take k)).length <= 1000000 := by omega
  by_cases hold : Gf s
  ·have hX : hwX s = ⟨#[104, 111, 108, 100, 115]⟩ := if_pos hold
   rw [decide_eq_true hold] at ch
   unfold hwS at hts
   rw [hX] at hts
   have hwo : ∀ w ∈ [Bg ⟨#[115, 101, 116]⟩, Bg s.name, Bg ⟨#[100, 101, 112, 116, 104]⟩, Eb s.depth, Bg ⟨#[119, 101, 105, 103, 104, 116]⟩, Eb (wtS s), Bg ⟨#[105, 109, 98, 97, 108, 97, 110, 99, 101]⟩, Eb (Br s), Bg ⟨#[104, 111, 108, 100, 115]⟩], Dz w := (Am (Bn (by decide)) (Am (Bn (by omega)) (Am (Bn (by decide)) (Am (Ew (by omega) (by omega)) (Am (Bn (by decide)) (Am (Ew (by omega) (by omega)) (Am (Bn (by decide)) (Am (Ew (by omega) (by omega)) (Am (Bn (by decide)) N7)))))))))
   repeat' (first
    | refine W ?_
    | (apply S.indexR;(iterate 3 exact rfl);exact hb1;omega;exact rfl)|(apply S.indexR;(iterate 3 exact rfl);exact hb2;omega;exact rfl) | refine Y ?_|(apply S.mkIface;(iterate 4 exact rfl))|(apply S.buildSliceF;(iterate 8 exact rfl))|(refine ⟨by first | exact .inl rfl | exact .inr rfl, [], .nil, rfl, ?_⟩;show Reg none _ _ _ _ _ _ _)|(refine S.inline [(40, .i (k : Nat)), (39, .i (L.map A8).length), (38, .sl (L.map A8)), (1, .ptr 0 0), (6, .ptr 1 0)] Tryz.func27 Tryz.ntmps27 rfl rfl rfl rfl rfl rfl rfl CW rfl ?_;intro vs4;refine Ij rfl (h.row.map .lf) (s.row.map .lf) _ vs4 _ [Bg ⟨#[115, 101, 116]⟩, Bg s.name, Bg ⟨#[100, 101, 112, 116, 104]⟩, Eb s.depth, Bg ⟨#[119, 101, 105, 103, 104, 116]⟩, Eb (wtS s), Bg ⟨#[105, 109, 98, 97, 108, 97, 110, 99, 101]⟩, Eb (Br s), Bg ⟨#[104, 111, 108, 100, 115]⟩] (B8 _ _) (B8 _ _) rfl (Aw _ _) (Aw _ _) rfl htl (Nat.le_of_ble_eq_true rfl) hwo ?_;intro tm5)|refine Za ?_
    | refine V ?_
    | (refine W2 ?_ ?_ <;> intro hc))
   all_goals (change Next _ _ _ _ _ _)
   all_goals exact Next.go (k + 1) (by omega) (by omega) CW (.live rfl (.bldE hts rfl (.hid .nil)))
  ·have hX : hwX s = ⟨#[115, 108, 105, 112, 115]⟩ := if_neg hold
   rw [decide_eq_false hold] at ch
   unfold hwS at hts
   rw [hX] at hts
   have hwo : ∀ w ∈ [Bg ⟨#[115, 101, 116]⟩, Bg s.name, Bg ⟨#[100, 101, 112, 116, 104]⟩, Eb s.depth, Bg ⟨#[119, 101, 105, 103, 104, 116]⟩, Eb (wtS s), Bg ⟨#[105, 109, 98, 97, 108, 97, 110, 99, 101]⟩, Eb (Br s), Bg ⟨#[115, 108, 105, 112, 115]⟩], Dz w := (Am (Bn (by decide)) (Am (Bn (by omega)) (Am (Bn (by decide)) (Am (Ew (by omega) (by omega)) (Am (Bn (by decide)) (Am (Ew (by omega) (by omega)) (Am (Bn (by decide)) (Am (Ew (by omega) (by omega)) (Am (Bn (by decide)) N7)))))))))
   repeat' (first
    | refine W ?_
    | (apply S.indexR;(iterate 3 exact rfl);exact hb1;omega;exact rfl)|(apply S.indexR;(iterate 3 exact rfl);exact hb2;omega;exact rfl) | refine Y ?_|(apply S.mkIface;(iterate 4 exact rfl))|(apply S.buildSliceF;(iterate 8 exact rfl))|(refine ⟨by first | exact .inl rfl | exact .inr rfl, [], .nil, rfl, ?_⟩;show Reg none _ _ _ _ _ _ _)|(refine S.inline [(40, .i (k : Nat)), (39, .i (L.map A8).length), (38, .sl (L.map A8)), (1, .ptr 0 0), (6, .ptr 1 0)] Tryz.func27 Tryz.ntmps27 rfl rfl rfl rfl rfl rfl rfl CW rfl ?_;intro vs4;refine Ij rfl (h.row.map .lf) (s.row.map .lf) _ vs4 _ [Bg ⟨#[115, 101, 116]⟩, Bg s.name, Bg ⟨#[100, 101, 112, 116, 104]⟩, Eb s.depth, Bg ⟨#[119, 101, 105, 103, 104, 116]⟩, Eb (wtS s), Bg ⟨#[105, 109, 98, 97, 108, 97, 110, 99, 101]⟩, Eb (Br s), Bg ⟨#[115, 108, 105, 112, 115]⟩] (B8 _ _) (B8 _ _) rfl (Aw _ _) (Aw _ _) rfl htl (Nat.le_of_ble_eq_true rfl) hwo ?_;intro tm5)|refine Za ?_
    | refine V ?_
    | (refine W2 ?_ ?_ <;> intro hc))
   all_goals (change Next _ _ _ _ _ _)
   all_goals exact Next.go (k + 1) (by omega) (by omega) CW (.live rfl (.bldE hts rfl (.hid .nil)))
 have h2 : ¬ ((k : Nat) : Int) < ((L.map A8).length : Nat) := by omega
 obtain rfl : n = k := by omega
 rw [List.take_of_length_le (by rw [Bk];omega)]
 by_cases e0 : e = 0
 ·obtain ⟨bk, hrs, hT⟩ := hb e0
  subst hrs hT e0
  have hTb := fun (r : List RoofR) hr => Ut hp bk (by omega) (l := Ac (Ak h) n) (r := r) (fun y hy => by have := ordP_mem.1 hy;omega) hr
  have hol := Bk (Ak h) n
  have hr20 : h.roofs.length <= 20 := hp.2.2.2.2.1.1
  have hle : (h.roofs.map RoofR.row).length = h.roofs.length := List.length_map _
  repeat' (first
   | refine W ?_
   | refine Y ?_
   | refine V ?_
   | (refine W2 ?_ ?_ <;> intro hc))
  refine T.loopS (fun j => j <= h.roofs.length) (fun j => h.roofs.length - j) (fun j => [(108, .i (j : Nat)), (107, .i (h.roofs.map RoofR.row).length), (106, .sl (h.roofs.map RoofR.row)), (6, .ptr 1 0), (17, .sl (h.roofs.map fun x => frR (brQ h.roofs h.sets x)))]) (fun j => [.live (h.row.map .lf), Fz 2 (hT2 h (Ac (Ak h) n) (h.roofs.take j)), .hid]) 0 (Nat.zero_le _) CW (.live rfl (.bldE (Rp h _) rfl (.hid .nil))) ?_
  intro j hj
  have hT2j := hTb (h.roofs.take j) fun y hy => List.mem_of_mem_take hy
  have hjl : (h.roofs.take j).length <= 20 := by rw [List.length_take];omega
  have htl : (hT2 h (Ac (Ak h) n) (h.roofs.take j)).length <= 1000000 := by omega
  by_cases hlt : j < h.roofs.length
  ·have h3 : ((j : Nat) : Int) < ((h.roofs.map RoofR.row).length : Nat) := by omega
   obtain ⟨x, hx⟩ := Aa hlt
   have hb1 := Ab (R := RoofR.row) hx
   have hxm := List.mem_of_getElem? hx
   have hb2 := Ab (R := fun x => frR (brQ h.roofs h.sets x)) hx
   have hxp := hp.2.2.2.2.1.2.1 x hxm
   have hfit := I7 hp bk (by omega) hxm (k := h.sets.length) (Nat.le_refl _)
   rw [List.take_length] at hfit
   have hts := Pe (h := h) (l := Ac (Ak h) n) hx
   have r3 := hxp.2.2.2.2
   have s4 := Ch hxp.1
   have hwo : ∀ w ∈ [Bg ⟨#[98, 101, 97, 109]⟩, Bg x.name, Bg ⟨#[98, 101, 97, 114, 115]⟩, Yq (brQ h.roofs h.sets x), Bg ⟨#[111, 102]⟩, Eb x.most], Dz w := (Am (Bn (by decide)) (Am (Bn (by omega)) (Am (Bn (by decide)) (Am (Zw hfit) (Am (Bn (by decide)) (Am (Ew (by omega) (by omega)) N7))))))
   have hfr : frR (brQ h.roofs h.sets x) = [.i (brQ h.roofs h.sets x).num, .i ((brQ h.roofs h.sets x).den : Nat)] := rfl
   unfold hwB at hts
   repeat' (first
    | refine W ?_
    | (apply S.indexR;(iterate 3 exact rfl);exact hb1;omega;exact rfl)|(apply S.indexR;(iterate 3 exact rfl);exact hb2;omega;exact rfl) | refine Y ?_|(apply T.drawN 4 15 A3 (by decide +kernel);simp only [td])|(apply T.drawRN 4 15 A3 (by decide +kernel);simp only [td])|(apply S.mkIface;(iterate 4 exact rfl))|(apply S.buildSliceF;(iterate 8 exact rfl))|(refine ⟨by first | exact .inl rfl | exact .inr rfl, [], .nil, rfl, ?_⟩;show Reg none _ _ _ _ _ _ _)|(refine S.inline [(108, .i (j : Nat)), (107, .i (h.roofs.map RoofR.row).length), (106, .sl (h.roofs.map RoofR.row)), (6, .ptr 1 0), (17, .sl (h.roofs.map fun x => frR (brQ h.roofs h.sets x)))] Tryz.func27 Tryz.ntmps27 rfl rfl rfl rfl rfl rfl rfl CW rfl ?_;intro vs4;refine Ij rfl (h.row.map .lf) (x.row.map .lf) _ vs4 _ [Bg ⟨#[98, 101, 97, 109]⟩, Bg x.name, Bg ⟨#[98, 101, 97, 114, 115]⟩, Yq (brQ h.roofs h.sets x), Bg ⟨#[111, 102]⟩, Eb x.most] (B8 _ _) (B8 _ _) rfl (Aw _ _) (Aw _ _) rfl htl (Nat.le_of_ble_eq_true rfl) hwo ?_;intro tm5)|refine Za ?_
    | refine V ?_
    | (refine W2 ?_ ?_ <;> intro hc))
   all_goals (change Next _ _ _ _ _ _)
   all_goals exact Next.go (j + 1) (by omega) (by omega) CW (.live rfl (.bldE hts rfl (.hid .nil)))
  ·have h3 : ¬ ((j : Nat) : Int) < ((h.roofs.map RoofR.row).length : Nat) := by omega
   rw [List.take_of_length_le (by omega)]
   repeat' (first
    | refine W ?_
    | refine Y ?_|(apply S.papT;(iterate 3 exact rfl))
    | refine V ?_
    | (refine W2 ?_ ?_ <;> intro hc))
   all_goals exact D2 rfl rfl rfl
 ·have hT := he e0
  subst hT
  repeat' (first
   | refine W ?_
   | refine Y ?_|(apply S.papT;(iterate 3 exact rfl))
   | refine V ?_
   | (refine W2 ?_ ?_ <;> intro hc))
  all_goals exact D2 rfl rfl rfl
theorem Oi (h : HouseR) (hf : h.fits) (hp : Az h) (h5 : h.sets.length <= 5) : Fn0 Tryz.prog 17 [A6 h.row] (.tup [.s (ofL (hTx h)), .i 0]) := by
 by_cases b : Ek h
 ·exact O3 h hf hp h5 _ 0 _ (Oa h hf hp h5 b) (fun hn => absurd rfl hn) fun _ => ⟨b, rfl, Rq b⟩
 ·obtain ⟨e, he, cl⟩ := Pg h hf hp h5 b
  exact O3 h hf hp h5 _ e _ cl (fun _ => Uu b) fun h0 => absurd h0 he
end Go.Proofs.YtcfjofhapbkmfaaGreatDoor
