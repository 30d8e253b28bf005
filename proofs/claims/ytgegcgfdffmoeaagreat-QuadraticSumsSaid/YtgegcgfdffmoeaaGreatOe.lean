/- Contract: loftblockref08's Add. No conditions but those of each statement. -/
import Derived.Test.YtgegcgfdffmoeaaGreatOd
set_option linter.unusedSimpArgs false
namespace Go.Proofs.YtgegcgfdffmoeaaGreat
set_option linter.unusedVariables false
open Go Go.RowKit
theorem putQ_len (l : List Rat) (t : Rat) : (putQ l t).length ≤ l.length + 1 := by
  induction l with
  | nil => simp [putQ]
  | cons y l ih =>
    unfold putQ
    split
    · simp;omega
    · split <;> simp
theorem foldQ_len (l m : List Rat) : (l.foldl putQ m).length ≤ m.length + l.length := by
  induction l generalizing m with
  | nil => simp
  | cons y l ih =>
    have h1 := ih (putQ m y)
    have h2 := putQ_len m y
    rw [List.foldl_cons, List.length_cons]
    omega
theorem foldQ_snoc (l : List PcQ) (i : Nat) (x : PcQ) (m : List Rat) (h : l[i]? = some x) : ((l.take (i + 1)).map (·.f)).foldl putQ m = putQ (((l.take i).map (·.f)).foldl putQ m) x.f := by
  rw [List.take_add_one, h, List.map_append, List.foldl_append]
  rfl
theorem foldQ_fits (l : List PcQ) (m : List Rat) (hl : okC l) (hm : ∀ q ∈ m, Fits q) (i : Nat) : ∀ q ∈ ((l.take i).map (·.f)).foldl putQ m, Fits q := fun q hq => by
  rw [mem_foldQ] at hq
  rcases hq with hq | hq
  · exact hm q hq
  · obtain ⟨p, hp, rfl⟩ := List.mem_map.1 hq
    exact (hl p (List.mem_of_mem_take hp)).f
theorem foldQ_take_len (l : List PcQ) (m : List Rat) (i : Nat) : (((l.take i).map (·.f)).foldl putQ m).length ≤ m.length + l.length := by
  have := foldQ_len ((l.take i).map (·.f)) m
  rw [List.length_map, List.length_take] at this
  omega
theorem timesQ_two (a b : List PcQ) : (b.map (·.f)).foldl putQ ((a.map (·.f)).foldl putQ []) = timesQ a b := by
  rw [timesQ, putAll, List.map_append, List.foldl_append]
theorem r02_addX (p q : Rat) (hp : Fits p) (hq : Fits q) : ∃ n d e : Int, Fn0 Tryz.prog 77 [rowA (frR p), rowA (frR q)] (.tup [rowA [.i n, .i d], .i e]) ∧ (Fits (p + q) → n = (p + q).num ∧ d = (p + q).den ∧ e = 0) ∧ (¬ Fits (p + q) → ¬ e = 0) := by
  have h := r02_add p q hp hq
  by_cases hf : Fits (p + q)
  · rw [outA, if_pos hf] at h
    exact ⟨_, _, _, h, fun _ => ⟨rfl, rfl, rfl⟩, fun k => absurd hf k⟩
  · rw [outA, if_neg hf] at h
    exact ⟨_, _, _, h, fun k => absurd k hf, fun _ => by decide⟩
theorem fits_negQ {q : Rat} (h : Fits q) : Fits (-q) := by
  obtain ⟨h1, h2⟩ := h
  refine ⟨?_, ?_⟩ <;> simp <;> omega
set_option maxHeartbeats 32000000 in
theorem rq_add0 (a b : List PcQ) (ha : okC a) (hb : okC b) (ha0 : a ≠ []) (hb0 : b ≠ []) (hsa : sortC a) (hsb : sortC b) (han : a.length ≤ 200) (hbn : b.length ≤ 200) :
    Fn0 Tryz.prog 21 [.sl (a.map PcQ.row), .sl (b.map PcQ.row), .b false] (.tup [.sl ((joinL (fun p q : Rat => p + q) a b).map PcQ.row), .i (joinE (fun p q : Rat => p + q) a b)]) := by
  have hla : (a.map PcQ.row).length = a.length := List.length_map _
  have hlb : (b.map PcQ.row).length = b.length := List.length_map _
  have hfit := timesQ_fits a b ha hb
  have hT0 : 0 < (timesQ a b).length := by
    obtain ⟨x, hx⟩ : ∃ x, x ∈ a := ⟨_, List.getElem_mem (List.length_pos_iff.2 ha0)⟩
    have : x.f ∈ timesQ a b := by rw [timesQ, mem_putAll];exact List.mem_map.2 ⟨x, List.mem_append.2 (.inl hx), rfl⟩
    exact List.length_pos_of_mem this
  unfold joinL joinE
  skip
  refine Fn0.of Tryz.func21 Tryz.ntmps21 rfl rfl rfl ?_
  simp only [entryTm]
  repeat' (first|(apply S.assign;exact rfl;exact rfl) | apply S.nil | apply T.regs | apply T.seq | apply T.block)
  refine T.nilU 8 rfl ?_
  refine T.loopS (fun i => i ≤ a.length) (fun i => a.length - i) (fun i => [(9, .i i), (8, .sl ((((a.take i).map (·.f)).foldl putQ []).map frR)), (0, .sl (a.map PcQ.row)), (1, .sl (b.map PcQ.row)), (2, .b false)]) (fun i => []) 0 (Nat.zero_le _) (.cons rfl rfl (.cons rfl rfl (.cons rfl rfl (.cons rfl rfl (.cons rfl rfl .nil))))) .nil ?_
  intro i hi
  by_cases hlt : (i : Int) < ((a.map PcQ.row).length : Nat)
  · obtain ⟨x, hx⟩ : ∃ x, a[i]? = some x := ⟨a[i]'(by omega), List.getElem?_eq_getElem _⟩
    have hb2 : (a.map PcQ.row)[((i : Nat) : Int).toNat]? = some x.row := by rw [Int.toNat_natCast, List.getElem?_map, hx];rfl
    have hsn := foldQ_snoc a i x [] hx
    have hlen := foldQ_take_len a [] i
    rw [List.length_nil] at hlen
    have cp := rq_put (((a.take i).map (·.f)).foldl putQ []) x.f (foldQ_fits a [] ha (by simp) i) (ha x (List.mem_of_getElem? hx)).f (by omega)
    repeat' (first|(apply S.move;exact rfl;exact rfl)|(apply S.assign;exact rfl;exact rfl)|(apply S.fieldR;exact rfl;exact rfl)|(apply S.arith;(iterate 4 exact rfl);omega)|(apply S.call;exact rfl;exact rfl;exact cp;exact rfl)|(apply S.indexR;exact rfl;exact rfl;exact rfl;exact hb2;omega;exact rfl)|(apply S.loadRA;(iterate 4 exact rfl))|(apply S.cmp;(iterate 4 exact rfl))|(apply S.lenR;exact rfl;exact rfl) | apply S.nil | apply T.regs | apply T.reg|(apply T.cT;exact rfl;assumption) | apply T.seq|(apply T.skip;first | change T _ _ _ _ _ | change Done _ _ _ _ _ | change Next _ _ _ _ _ _ | skip) | apply T.block)
    change Next _ _ _ _ _ _
    exact Next.go (i + 1) (by omega) (by omega) (.cons (by rw [show (((i + 1 : Nat) : Int)) = (i : Int) + 1 by omega];rfl) rfl (.cons (by rw [hsn];rfl) rfl (.cons rfl rfl (.cons rfl rfl (.cons rfl rfl .nil))))) .nil
  obtain rfl : i = a.length := by omega
  rw [List.take_length]
  have hAfit : ∀ q ∈ (a.map (·.f)).foldl putQ [], Fits q := by
    have := foldQ_fits a [] ha (by simp) a.length
    rwa [List.take_length] at this
  have hAlen := foldQ_take_len a [] a.length
  rw [List.take_length, List.length_nil] at hAlen
  have htwo := timesQ_two a b
  generalize (a.map (·.f)).foldl putQ [] = tA at hAfit hAlen htwo ⊢
  repeat' (first|(apply S.move;exact rfl;exact rfl)|(apply S.assign;exact rfl;exact rfl)|(apply S.cmp;(iterate 4 exact rfl))|(apply S.lenR;exact rfl;exact rfl) | apply S.nil | apply T.regs|(apply T.cF;exact rfl;assumption) | apply T.seq|(apply T.exit;first | change T _ _ _ _ _ | change Done _ _ _ _ _ | change Next _ _ _ _ _ _ | skip) | apply T.block)
  refine T.loopS (fun i => i ≤ b.length) (fun i => b.length - i) (fun i => [(10, .i i), (8, .sl ((((b.take i).map (·.f)).foldl putQ tA).map frR)), (0, .sl (a.map PcQ.row)), (1, .sl (b.map PcQ.row)), (2, .b false)]) (fun i => []) 0 (Nat.zero_le _) (.cons rfl rfl (.cons rfl rfl (.cons rfl rfl (.cons rfl rfl (.cons rfl rfl .nil))))) .nil ?_
  intro i hi
  by_cases hlt2 : (i : Int) < ((b.map PcQ.row).length : Nat)
  · obtain ⟨x, hx⟩ : ∃ x, b[i]? = some x := ⟨b[i]'(by omega), List.getElem?_eq_getElem _⟩
    have hb2 : (b.map PcQ.row)[((i : Nat) : Int).toNat]? = some x.row := by rw [Int.toNat_natCast, List.getElem?_map, hx];rfl
    have hsn := foldQ_snoc b i x tA hx
    have hlen := foldQ_take_len b tA i
    have cp := rq_put (((b.take i).map (·.f)).foldl putQ tA) x.f (foldQ_fits b tA hb hAfit i) (hb x (List.mem_of_getElem? hx)).f (by omega)
    repeat' (first|(apply S.move;exact rfl;exact rfl)|(apply S.assign;exact rfl;exact rfl)|(apply S.fieldR;exact rfl;exact rfl)|(apply S.arith;(iterate 4 exact rfl);omega)|(apply S.call;exact rfl;exact rfl;exact cp;exact rfl)|(apply S.indexR;exact rfl;exact rfl;exact rfl;exact hb2;omega;exact rfl)|(apply S.loadRA;(iterate 4 exact rfl))|(apply S.cmp;(iterate 4 exact rfl))|(apply S.lenR;exact rfl;exact rfl) | apply S.nil | apply T.regs | apply T.reg|(apply T.cT;exact rfl;assumption) | apply T.seq|(apply T.skip;first | change T _ _ _ _ _ | change Done _ _ _ _ _ | change Next _ _ _ _ _ _ | skip) | apply T.block)
    change Next _ _ _ _ _ _
    exact Next.go (i + 1) (by omega) (by omega) (.cons (by rw [show (((i + 1 : Nat) : Int)) = (i : Int) + 1 by omega];rfl) rfl (.cons (by rw [hsn];rfl) rfl (.cons rfl rfl (.cons rfl rfl (.cons rfl rfl .nil))))) .nil
  obtain rfl : i = b.length := by omega
  rw [List.take_length, htwo]
  generalize timesQ a b = tms at hfit hT0 ⊢
  have hlm : (tms.map frR).length = tms.length := List.length_map _
  by_cases h2 : (200 : Int) < ((tms.map frR).length : Nat)
  · rw [if_pos (show 200 < tms.length by omega), if_pos (show 200 < tms.length by omega)]
    repeat' (first|(apply S.move;exact rfl;exact rfl)|(apply S.assign;exact rfl;exact rfl)|(refine T.nilU 6 rfl ?_;apply T.ret;change Done _ _ _ _ _)|(apply S.cmp;(iterate 4 exact rfl))|(apply S.lenR;exact rfl;exact rfl) | apply S.nil | apply T.regs|(apply T.cT;exact rfl;assumption)|(apply T.cF;exact rfl;assumption) | apply T.seq|(apply T.exit;first | change T _ _ _ _ _ | change Done _ _ _ _ _ | change Next _ _ _ _ _ _ | skip))
    exact ⟨.inr rfl, [.sl [], .i 4], .cons (.tmp rfl) (.cons (.tmp rfl) .nil), .tup (.cons (.one (.lf _)) (.cons (.one (.lf _)) .nil))⟩
  rw [if_neg (show ¬ 200 < tms.length by omega), if_neg (show ¬ 200 < tms.length by omega)]
  repeat' (first|(apply S.move;exact rfl;exact rfl)|(apply S.assign;exact rfl;exact rfl)|(apply S.cmp;(iterate 4 exact rfl))|(apply S.lenR;exact rfl;exact rfl) | apply S.nil | apply T.regs|(apply T.cF;exact rfl;assumption) | apply T.seq|(apply T.skip;first | change T _ _ _ _ _ | change Done _ _ _ _ _ | change Next _ _ _ _ _ _ | skip)|(apply T.exit;first | change T _ _ _ _ _ | change Done _ _ _ _ _ | change Next _ _ _ _ _ _ | skip) | apply T.block)
  refine T.kill 0 ?_
  refine T.loopS (fun i => i ≤ tms.length ∧ jEs (fun p q : Rat => p + q) a b (tms.take i) = 0) (fun i => tms.length - i) (fun i => [(12, .i i), (11, rT 0 8 i), (8, .sl (tms.map frR)), (0, .sl (a.map PcQ.row)), (1, .sl (b.map PcQ.row)), (2, .b false)]) (fun i => [rB (cellsP ((tms.take i).map (jP (fun p q : Rat => p + q) a b))) i]) 0 ⟨Nat.zero_le _, rfl⟩ (.cons rfl rfl (.cons rfl rfl (.cons rfl rfl (.cons rfl rfl (.cons rfl rfl (.cons rfl rfl .nil)))))) (.dead .nil) ?_
  rintro i ⟨hi, he0⟩
  by_cases hlt3 : (i : Int) < ((tms.map frR).length : Nat)
  · obtain ⟨t, ht⟩ : ∃ t, tms[i]? = some t := ⟨tms[i]'(by omega), List.getElem?_eq_getElem _⟩
    have hft := hfit t (List.mem_of_getElem? ht)
    have hb2 : (tms.map frR)[((i : Nat) : Int).toNat]? = some (frR t) := by rw [Int.toNat_natCast, List.getElem?_map, ht];rfl
    have hts1 : tms.take (i + 1) = tms.take i ++ [t] := by rw [List.take_add_one, ht];rfl
    have hE : jEs (fun p q : Rat => p + q) a b (tms.take (i + 1)) = jE (fun p q : Rat => p + q) a b t 0 := by rw [hts1, jEs, List.foldl_append];unfold jEs at he0;rw [he0];rfl
    have hbad := jEs_at (fun p q : Rat => p + q) a b tms i t ht he0
    have hP : cellsP ((tms.take (i + 1)).map (jP (fun p q : Rat => p + q) a b)) = cellsP ((tms.take i).map (jP (fun p q : Rat => p + q) a b)) ++ (jP (fun p q : Rat => p + q) a b t).row.map .lf := by rw [hts1, List.map_append, cellsP_append];show _ ++ cellsP [jP (fun p q : Rat => p + q) a b t] = _;simp [cellsP]
    have hPl : ((tms.take i).map (jP (fun p q : Rat => p + q) a b)).length = i := by rw [List.length_map, List.length_take];omega
    have hJ := jE (fun p q : Rat => p + q) a b t 0
    have hJd : jE (fun p q : Rat => p + q) a b t 0 = kE ((fun p q : Rat => p + q) (atP a t).c (atP b t).c) (kE ((fun p q : Rat => p + q) (atP a t).b (atP b t).b) (kE ((fun p q : Rat => p + q) (atP a t).a (atP b t).a) (atPE b t (atPE a t 0)))) := rfl
    have hPd : (jP (fun p q : Rat => p + q) a b t).row.map AV.lf = [.i t.num, .i t.den, .i (kQ ((fun p q : Rat => p + q) (atP a t).a (atP b t).a)).num, .i (kQ ((fun p q : Rat => p + q) (atP a t).a (atP b t).a)).den, .i (kQ ((fun p q : Rat => p + q) (atP a t).b (atP b t).b)).num, .i (kQ ((fun p q : Rat => p + q) (atP a t).b (atP b t).b)).den, .i (kQ ((fun p q : Rat => p + q) (atP a t).c (atP b t).c)).num, .i (kQ ((fun p q : Rat => p + q) (atP a t).c (atP b t).c)).den] := rfl
    rw [hPd] at hP
    obtain ⟨y1, cf1, hy1⟩ := rq_from a t ha ha0 hsa (by omega) hft
    obtain ⟨y2, cf2, hy2⟩ := rq_from b t hb hb0 hsb (by omega) hft
    have ox := atP_okD a t ha ha0 hft
    have oy := atP_okD b t hb hb0 hft
    rcases atPE_or a t with e1 | e1
    · rw [hy1 e1, e1] at cf1
      rw [e1] at hJd
      rcases atPE_or b t with e2 | e2
      · rw [hy2 e2, e2] at cf2
        rw [e2] at hJd
        have hxf : (atP a t).f = t := by rw [atP_eq]
        generalize atP a t = x at cf1 ox hJd hP hxf
        generalize atP b t = y at cf2 oy hJd hP
        subst hxf
        obtain ⟨nA, dA, eA, cA, gA, fA⟩ := r02_addX x.a y.a ox.a oy.a
        obtain ⟨nB, dB, eB, cB, gB, fB⟩ := r02_addX x.b y.b ox.b oy.b
        obtain ⟨nC, dC, eC, cC, gC, fC⟩ := r02_addX x.c y.c ox.c oy.c
        by_cases kA : Fits (x.a + y.a)
        · obtain ⟨rfl, rfl, rfl⟩ := gA kA
          by_cases kB : Fits (x.b + y.b)
          · obtain ⟨rfl, rfl, rfl⟩ := gB kB
            by_cases kC : Fits (x.c + y.c)
            · obtain ⟨rfl, rfl, rfl⟩ := gC kC
              have hJ0 : jE (fun p q : Rat => p + q) a b x.f 0 = 0 := hJd.trans (by rw [kE_ok kA, kE_ok kB, kE_ok kC])
              rw [hJ0] at hE
              simp only [] at hP
              rw [kQ_ok kA, kQ_ok kB, kQ_ok kC] at hP
              cases i with
              | zero =>
                repeat' (first|(apply S.move;exact rfl;exact rfl)|(apply S.assign;exact rfl;exact rfl)|(apply S.gC;exact rfl;exact rfl;exact rfl)|(apply S.fieldP;exact rfl;exact rfl;exact rfl)|(apply S.pCN;exact rfl;exact rfl;exact rfl)|(apply S.arith;(iterate 4 exact rfl);omega)|(apply S.call;exact rfl;exact rfl;exact cf1;exact rfl)|(apply S.call;exact rfl;exact rfl;exact cf2;exact rfl)|(apply S.call;exact rfl;exact rfl;exact cA;exact rfl)|(apply S.call;exact rfl;exact rfl;exact cB;exact rfl)|(apply S.call;exact rfl;exact rfl;exact cC;exact rfl)|(apply S.indexR;exact rfl;exact rfl;exact rfl;exact hb2;omega;exact rfl)|(apply S.buildSlice1;(iterate 7 exact rfl))|(apply S.appendN 0 (rows := []);(iterate 8 exact rfl);exact rows_one rfl;exact rfl;exact Nat.le_of_ble_eq_true rfl;exact Nat.le_of_ble_eq_true rfl)|(apply S.loadPA;(iterate 4 exact rfl))|(apply S.loadRA;(iterate 4 exact rfl))|(apply S.alloc;(iterate 5 exact rfl))|(apply S.store;(iterate 7 exact rfl))|(apply S.cmp;(iterate 4 exact rfl))|(apply S.extract;exact rfl;exact rfl;exact rfl)|(apply S.lenR;exact rfl;exact rfl) | apply S.nil | apply T.regs | apply T.reg|(apply T.cCN;exact rfl)|(apply T.cT;exact rfl;assumption) | apply T.seq|(apply T.skip;first | change T _ _ _ _ _ | change Done _ _ _ _ _ | change Next _ _ _ _ _ _ | skip) | apply T.block)
                change Next _ _ _ _ _ _
                exact Next.go 1 ⟨by omega, hE⟩ (by omega) (.cons rfl rfl (.cons rfl rfl (.cons rfl rfl (.cons rfl rfl (.cons rfl rfl (.cons rfl rfl .nil)))))) (by rw [show (1 : Nat) = 0 + 1 from rfl, hP];exact .live rfl .nil)
              | succ i =>
                repeat' (first|(apply S.move;exact rfl;exact rfl)|(apply S.assign;exact rfl;exact rfl)|(apply S.gC;exact rfl;exact rfl;exact rfl)|(apply S.fieldP;exact rfl;exact rfl;exact rfl)|(apply S.pCN;exact rfl;exact rfl;exact rfl)|(apply S.arith;(iterate 4 exact rfl);omega)|(apply S.call;exact rfl;exact rfl;exact cf1;exact rfl)|(apply S.call;exact rfl;exact rfl;exact cf2;exact rfl)|(apply S.call;exact rfl;exact rfl;exact cA;exact rfl)|(apply S.call;exact rfl;exact rfl;exact cB;exact rfl)|(apply S.call;exact rfl;exact rfl;exact cC;exact rfl)|(apply S.indexR;exact rfl;exact rfl;exact rfl;exact hb2;omega;exact rfl)|(apply S.buildSlice1;(iterate 7 exact rfl))|(apply S.appendO;(iterate 8 exact rfl);(rw [cellsP_len, hPl]);exact rows_one rfl;exact rfl;exact clear_lf _ _;simp only [List.length_cons, List.length_nil];omega;simp only [List.length_cons, List.length_nil];omega)|(apply S.loadPA;(iterate 4 exact rfl))|(apply S.loadRA;(iterate 4 exact rfl))|(apply S.alloc;(iterate 5 exact rfl))|(apply S.store;(iterate 7 exact rfl))|(apply S.cmp;(iterate 4 exact rfl))|(apply S.extract;exact rfl;exact rfl;exact rfl)|(apply S.lenR;exact rfl;exact rfl) | apply S.nil | apply T.regs | apply T.reg|(apply T.cCN;exact rfl)|(apply T.cT;exact rfl;assumption) | apply T.seq|(apply T.skip;first | change T _ _ _ _ _ | change Done _ _ _ _ _ | change Next _ _ _ _ _ _ | skip) | apply T.block)
                change Next _ _ _ _ _ _
                exact Next.go (i + 1 + 1) ⟨by omega, hE⟩ (by omega) (.cons (by rw [show (((i + 1 + 1 : Nat) : Int)) = ((i + 1 : Nat) : Int) + 1 by omega];rfl) rfl (.cons rfl rfl (.cons rfl rfl (.cons rfl rfl (.cons rfl rfl (.cons rfl rfl .nil)))))) (by rw [hP];exact .live (by rw [List.all_append, under_pcs];rfl) .nil)
            · have hz := fC kC
              rw [hbad (hJd.trans (by rw [kE_ok kA, kE_ok kB, kE_bad kC])), if_neg (show ¬ (5 : Int) = 0 by decide)]
              repeat' (first|(apply S.move;exact rfl;exact rfl)|(apply S.assign;exact rfl;exact rfl)|(apply S.gC;exact rfl;exact rfl;exact rfl)|(apply S.fieldP;exact rfl;exact rfl;exact rfl)|(apply S.pCN;exact rfl;exact rfl;exact rfl)|(apply S.call;exact rfl;exact rfl;exact cf1;exact rfl)|(apply S.call;exact rfl;exact rfl;exact cf2;exact rfl)|(apply S.call;exact rfl;exact rfl;exact cA;exact rfl)|(apply S.call;exact rfl;exact rfl;exact cB;exact rfl)|(apply S.call;exact rfl;exact rfl;exact cC;exact rfl)|(apply S.indexR;exact rfl;exact rfl;exact rfl;exact hb2;omega;exact rfl)|(refine T.nilU 6 rfl ?_;apply T.ret;change Done _ _ _ _ _)|(apply S.loadPA;(iterate 4 exact rfl))|(apply S.loadRA;(iterate 4 exact rfl))|(apply S.alloc;(iterate 5 exact rfl))|(apply S.store;(iterate 7 exact rfl))|(apply S.cmp;(iterate 4 exact rfl))|(apply S.extract;exact rfl;exact rfl;exact rfl)|(apply S.lenR;exact rfl;exact rfl) | apply S.nil | apply T.regs|(apply T.cCN;exact rfl)|(apply T.cT;exact rfl;assumption) | apply T.seq|(apply T.skip;first | change T _ _ _ _ _ | change Done _ _ _ _ _ | change Next _ _ _ _ _ _ | skip) | apply T.block)
              exact ⟨.inr rfl, [.sl [], .i 5], .cons (.tmp rfl) (.cons (.tmp rfl) .nil), .tup (.cons (.one (.lf _)) (.cons (.one (.lf _)) .nil))⟩
          · have hz := fB kB
            rw [hbad (hJd.trans (by rw [kE_ok kA, kE_bad kB, kE_five])), if_neg (show ¬ (5 : Int) = 0 by decide)]
            repeat' (first|(apply S.move;exact rfl;exact rfl)|(apply S.assign;exact rfl;exact rfl)|(apply S.gC;exact rfl;exact rfl;exact rfl)|(apply S.gFT;exact rfl;exact rfl;assumption;exact rfl)|(apply S.fieldP;exact rfl;exact rfl;exact rfl)|(apply S.pCN;exact rfl;exact rfl;exact rfl)|(apply S.pTp;exact rfl;assumption;exact rfl;exact rfl)|(apply S.call;exact rfl;exact rfl;exact cf1;exact rfl)|(apply S.call;exact rfl;exact rfl;exact cf2;exact rfl)|(apply S.call;exact rfl;exact rfl;exact cA;exact rfl)|(apply S.call;exact rfl;exact rfl;exact cB;exact rfl)|(apply S.call;exact rfl;exact rfl;exact cC;exact rfl)|(apply S.indexR;exact rfl;exact rfl;exact rfl;exact hb2;omega;exact rfl)|(refine T.nilU 6 rfl ?_;apply T.ret;change Done _ _ _ _ _)|(apply S.loadPA;(iterate 4 exact rfl))|(apply S.loadRA;(iterate 4 exact rfl))|(apply S.alloc;(iterate 5 exact rfl))|(apply S.store;(iterate 7 exact rfl))|(apply S.cmp;(iterate 4 exact rfl))|(apply S.extract;exact rfl;exact rfl;exact rfl)|(apply S.lenR;exact rfl;exact rfl) | apply S.nil | apply T.regs|(apply T.cC;exact rfl)|(apply T.cCN;exact rfl)|(apply T.cT;exact rfl;assumption) | apply T.seq|(apply T.skip;first | change T _ _ _ _ _ | change Done _ _ _ _ _ | change Next _ _ _ _ _ _ | skip) | apply T.block)
            exact ⟨.inr rfl, [.sl [], .i 5], .cons (.tmp rfl) (.cons (.tmp rfl) .nil), .tup (.cons (.one (.lf _)) (.cons (.one (.lf _)) .nil))⟩
        · have hz := fA kA
          rw [hbad (hJd.trans (by rw [kE_bad kA, kE_five, kE_five])), if_neg (show ¬ (5 : Int) = 0 by decide)]
          repeat' (first|(apply S.move;exact rfl;exact rfl)|(apply S.assign;exact rfl;exact rfl)|(apply S.gCN;(iterate 4 exact rfl))|(apply S.gFT;exact rfl;exact rfl;assumption;exact rfl)|(apply S.fieldP;exact rfl;exact rfl;exact rfl)|(apply S.pC;exact rfl;exact rfl;exact rfl)|(apply S.pTp;exact rfl;assumption;exact rfl;exact rfl)|(apply S.call;exact rfl;exact rfl;exact cf1;exact rfl)|(apply S.call;exact rfl;exact rfl;exact cf2;exact rfl)|(apply S.call;exact rfl;exact rfl;exact cA;exact rfl)|(apply S.call;exact rfl;exact rfl;exact cB;exact rfl)|(apply S.call;exact rfl;exact rfl;exact cC;exact rfl)|(apply S.indexR;exact rfl;exact rfl;exact rfl;exact hb2;omega;exact rfl)|(refine T.nilU 6 rfl ?_;apply T.ret;change Done _ _ _ _ _)|(apply S.loadPA;(iterate 4 exact rfl))|(apply S.loadRA;(iterate 4 exact rfl))|(apply S.alloc;(iterate 5 exact rfl))|(apply S.store;(iterate 7 exact rfl))|(apply S.cmp;(iterate 4 exact rfl))|(apply S.extract;exact rfl;exact rfl;exact rfl)|(apply S.lenR;exact rfl;exact rfl) | apply S.nil | apply T.regs|(apply T.cC;exact rfl)|(apply T.cCN;exact rfl)|(apply T.cT;exact rfl;assumption) | apply T.seq|(apply T.skip;first | change T _ _ _ _ _ | change Done _ _ _ _ _ | change Next _ _ _ _ _ _ | skip) | apply T.block)
          exact ⟨.inr rfl, [.sl [], .i 5], .cons (.tmp rfl) (.cons (.tmp rfl) .nil), .tup (.cons (.one (.lf _)) (.cons (.one (.lf _)) .nil))⟩
      · rw [e2] at cf2
        rw [hbad (hJd.trans (by rw [e2, kE_five, kE_five, kE_five])), if_neg (show ¬ (5 : Int) = 0 by decide)]
        repeat' (first|(apply S.move;exact rfl;exact rfl)|(apply S.assign;exact rfl;exact rfl)|(apply S.call;exact rfl;exact rfl;exact cf1;exact rfl)|(apply S.call;exact rfl;exact rfl;exact cf2;exact rfl)|(apply S.indexR;exact rfl;exact rfl;exact rfl;exact hb2;omega;exact rfl)|(refine T.nilU 6 rfl ?_;apply T.ret;change Done _ _ _ _ _)|(apply S.loadRA;(iterate 4 exact rfl))|(apply S.alloc;(iterate 5 exact rfl))|(apply S.store;(iterate 7 exact rfl))|(apply S.cmp;(iterate 4 exact rfl))|(apply S.extract;exact rfl;exact rfl;exact rfl)|(apply S.lenR;exact rfl;exact rfl) | apply S.nil | apply T.regs|(apply T.cC;exact rfl)|(apply T.cCN;exact rfl)|(apply T.cT;exact rfl;assumption) | apply T.seq|(apply T.skip;first | change T _ _ _ _ _ | change Done _ _ _ _ _ | change Next _ _ _ _ _ _ | skip) | apply T.block)
        exact ⟨.inr rfl, [.sl [], .i 5], .cons (.tmp rfl) (.cons (.tmp rfl) .nil), .tup (.cons (.one (.lf _)) (.cons (.one (.lf _)) .nil))⟩
    · rw [e1] at cf1
      rw [hbad (hJd.trans (by rw [e1, atPE_five, kE_five, kE_five, kE_five])), if_neg (show ¬ (5 : Int) = 0 by decide)]
      repeat' (first|(apply S.move;exact rfl;exact rfl)|(apply S.assign;exact rfl;exact rfl)|(apply S.call;exact rfl;exact rfl;exact cf1;exact rfl)|(apply S.indexR;exact rfl;exact rfl;exact rfl;exact hb2;omega;exact rfl)|(refine T.nilU 6 rfl ?_;apply T.ret;change Done _ _ _ _ _)|(apply S.loadRA;(iterate 4 exact rfl))|(apply S.alloc;(iterate 5 exact rfl))|(apply S.store;(iterate 7 exact rfl))|(apply S.cmp;(iterate 4 exact rfl))|(apply S.extract;exact rfl;exact rfl;exact rfl)|(apply S.lenR;exact rfl;exact rfl) | apply S.nil | apply T.regs|(apply T.cC;exact rfl)|(apply T.cT;exact rfl;assumption) | apply T.seq|(apply T.skip;first | change T _ _ _ _ _ | change Done _ _ _ _ _ | change Next _ _ _ _ _ _ | skip) | apply T.block)
      exact ⟨.inr rfl, [.sl [], .i 5], .cons (.tmp rfl) (.cons (.tmp rfl) .nil), .tup (.cons (.one (.lf _)) (.cons (.one (.lf _)) .nil))⟩
  obtain rfl : i = tms.length := by omega
  rw [List.take_length] at he0
  have hown := own_pcs (tms.map (jP (fun p q : Rat => p + q) a b))
  rw [List.length_map] at hown
  rw [rT_pos hT0, rB_pos hT0, List.take_length, he0, if_pos (show (0 : Int) = 0 from rfl)]
  repeat' (first|(apply S.move;exact rfl;exact rfl)|(apply S.assign;exact rfl;exact rfl)|(refine T.freeze 11 rfl rfl hown ?_)|(apply S.cmp;(iterate 4 exact rfl))|(apply S.lenR;exact rfl;exact rfl) | apply S.nil | apply T.regs|(apply T.cF;exact rfl;assumption) | apply T.seq|(apply T.ret;change Done _ _ _ _ _)|(apply T.exit;first | change T _ _ _ _ _ | change Done _ _ _ _ _ | change Next _ _ _ _ _ _ | skip))
  exact ⟨.inr rfl, [.sl ((tms.map (jP (fun p q : Rat => p + q) a b)).map PcQ.row), .i 0], .cons (.tmp rfl) (.cons (.tmp rfl) .nil), .tup (.cons (.one (.lf _)) (.cons (.one (.lf _)) .nil))⟩
set_option maxHeartbeats 32000000 in
theorem rq_add1 (a b : List PcQ) (ha : okC a) (hb : okC b) (ha0 : a ≠ []) (hb0 : b ≠ []) (hsa : sortC a) (hsb : sortC b) (han : a.length ≤ 200) (hbn : b.length ≤ 200) :
    Fn0 Tryz.prog 21 [.sl (a.map PcQ.row), .sl (b.map PcQ.row), .b true] (.tup [.sl ((joinL (fun p q : Rat => p + -q) a b).map PcQ.row), .i (joinE (fun p q : Rat => p + -q) a b)]) := by
  have hla : (a.map PcQ.row).length = a.length := List.length_map _
  have hlb : (b.map PcQ.row).length = b.length := List.length_map _
  have hfit := timesQ_fits a b ha hb
  have hT0 : 0 < (timesQ a b).length := by
    obtain ⟨x, hx⟩ : ∃ x, x ∈ a := ⟨_, List.getElem_mem (List.length_pos_iff.2 ha0)⟩
    have : x.f ∈ timesQ a b := by rw [timesQ, mem_putAll];exact List.mem_map.2 ⟨x, List.mem_append.2 (.inl hx), rfl⟩
    exact List.length_pos_of_mem this
  unfold joinL joinE
  skip
  refine Fn0.of Tryz.func21 Tryz.ntmps21 rfl rfl rfl ?_
  simp only [entryTm]
  repeat' (first|(apply S.assign;exact rfl;exact rfl) | apply S.nil | apply T.regs | apply T.seq | apply T.block)
  refine T.nilU 8 rfl ?_
  refine T.loopS (fun i => i ≤ a.length) (fun i => a.length - i) (fun i => [(9, .i i), (8, .sl ((((a.take i).map (·.f)).foldl putQ []).map frR)), (0, .sl (a.map PcQ.row)), (1, .sl (b.map PcQ.row)), (2, .b true)]) (fun i => []) 0 (Nat.zero_le _) (.cons rfl rfl (.cons rfl rfl (.cons rfl rfl (.cons rfl rfl (.cons rfl rfl .nil))))) .nil ?_
  intro i hi
  by_cases hlt : (i : Int) < ((a.map PcQ.row).length : Nat)
  · obtain ⟨x, hx⟩ : ∃ x, a[i]? = some x := ⟨a[i]'(by omega), List.getElem?_eq_getElem _⟩
    have hb2 : (a.map PcQ.row)[((i : Nat) : Int).toNat]? = some x.row := by rw [Int.toNat_natCast, List.getElem?_map, hx];rfl
    have hsn := foldQ_snoc a i x [] hx
    have hlen := foldQ_take_len a [] i
    rw [List.length_nil] at hlen
    have cp := rq_put (((a.take i).map (·.f)).foldl putQ []) x.f (foldQ_fits a [] ha (by simp) i) (ha x (List.mem_of_getElem? hx)).f (by omega)
    repeat' (first|(apply S.move;exact rfl;exact rfl)|(apply S.assign;exact rfl;exact rfl)|(apply S.fieldR;exact rfl;exact rfl)|(apply S.arith;(iterate 4 exact rfl);omega)|(apply S.call;exact rfl;exact rfl;exact cp;exact rfl)|(apply S.indexR;exact rfl;exact rfl;exact rfl;exact hb2;omega;exact rfl)|(apply S.loadRA;(iterate 4 exact rfl))|(apply S.cmp;(iterate 4 exact rfl))|(apply S.lenR;exact rfl;exact rfl) | apply S.nil | apply T.regs | apply T.reg|(apply T.cT;exact rfl;assumption) | apply T.seq|(apply T.skip;first | change T _ _ _ _ _ | change Done _ _ _ _ _ | change Next _ _ _ _ _ _ | skip) | apply T.block)
    change Next _ _ _ _ _ _
    exact Next.go (i + 1) (by omega) (by omega) (.cons (by rw [show (((i + 1 : Nat) : Int)) = (i : Int) + 1 by omega];rfl) rfl (.cons (by rw [hsn];rfl) rfl (.cons rfl rfl (.cons rfl rfl (.cons rfl rfl .nil))))) .nil
  obtain rfl : i = a.length := by omega
  rw [List.take_length]
  have hAfit : ∀ q ∈ (a.map (·.f)).foldl putQ [], Fits q := by
    have := foldQ_fits a [] ha (by simp) a.length
    rwa [List.take_length] at this
  have hAlen := foldQ_take_len a [] a.length
  rw [List.take_length, List.length_nil] at hAlen
  have htwo := timesQ_two a b
  generalize (a.map (·.f)).foldl putQ [] = tA at hAfit hAlen htwo ⊢
  repeat' (first|(apply S.move;exact rfl;exact rfl)|(apply S.assign;exact rfl;exact rfl)|(apply S.cmp;(iterate 4 exact rfl))|(apply S.lenR;exact rfl;exact rfl) | apply S.nil | apply T.regs|(apply T.cF;exact rfl;assumption) | apply T.seq|(apply T.exit;first | change T _ _ _ _ _ | change Done _ _ _ _ _ | change Next _ _ _ _ _ _ | skip) | apply T.block)
  refine T.loopS (fun i => i ≤ b.length) (fun i => b.length - i) (fun i => [(10, .i i), (8, .sl ((((b.take i).map (·.f)).foldl putQ tA).map frR)), (0, .sl (a.map PcQ.row)), (1, .sl (b.map PcQ.row)), (2, .b true)]) (fun i => []) 0 (Nat.zero_le _) (.cons rfl rfl (.cons rfl rfl (.cons rfl rfl (.cons rfl rfl (.cons rfl rfl .nil))))) .nil ?_
  intro i hi
  by_cases hlt2 : (i : Int) < ((b.map PcQ.row).length : Nat)
  · obtain ⟨x, hx⟩ : ∃ x, b[i]? = some x := ⟨b[i]'(by omega), List.getElem?_eq_getElem _⟩
    have hb2 : (b.map PcQ.row)[((i : Nat) : Int).toNat]? = some x.row := by rw [Int.toNat_natCast, List.getElem?_map, hx];rfl
    have hsn := foldQ_snoc b i x tA hx
    have hlen := foldQ_take_len b tA i
    have cp := rq_put (((b.take i).map (·.f)).foldl putQ tA) x.f (foldQ_fits b tA hb hAfit i) (hb x (List.mem_of_getElem? hx)).f (by omega)
    repeat' (first|(apply S.move;exact rfl;exact rfl)|(apply S.assign;exact rfl;exact rfl)|(apply S.fieldR;exact rfl;exact rfl)|(apply S.arith;(iterate 4 exact rfl);omega)|(apply S.call;exact rfl;exact rfl;exact cp;exact rfl)|(apply S.indexR;exact rfl;exact rfl;exact rfl;exact hb2;omega;exact rfl)|(apply S.loadRA;(iterate 4 exact rfl))|(apply S.cmp;(iterate 4 exact rfl))|(apply S.lenR;exact rfl;exact rfl) | apply S.nil | apply T.regs | apply T.reg|(apply T.cT;exact rfl;assumption) | apply T.seq|(apply T.skip;first | change T _ _ _ _ _ | change Done _ _ _ _ _ | change Next _ _ _ _ _ _ | skip) | apply T.block)
    change Next _ _ _ _ _ _
    exact Next.go (i + 1) (by omega) (by omega) (.cons (by rw [show (((i + 1 : Nat) : Int)) = (i : Int) + 1 by omega];rfl) rfl (.cons (by rw [hsn];rfl) rfl (.cons rfl rfl (.cons rfl rfl (.cons rfl rfl .nil))))) .nil
  obtain rfl : i = b.length := by omega
  rw [List.take_length, htwo]
  generalize timesQ a b = tms at hfit hT0 ⊢
  have hlm : (tms.map frR).length = tms.length := List.length_map _
  by_cases h2 : (200 : Int) < ((tms.map frR).length : Nat)
  · rw [if_pos (show 200 < tms.length by omega), if_pos (show 200 < tms.length by omega)]
    repeat' (first|(apply S.move;exact rfl;exact rfl)|(apply S.assign;exact rfl;exact rfl)|(refine T.nilU 6 rfl ?_;apply T.ret;change Done _ _ _ _ _)|(apply S.cmp;(iterate 4 exact rfl))|(apply S.lenR;exact rfl;exact rfl) | apply S.nil | apply T.regs|(apply T.cT;exact rfl;assumption)|(apply T.cF;exact rfl;assumption) | apply T.seq|(apply T.exit;first | change T _ _ _ _ _ | change Done _ _ _ _ _ | change Next _ _ _ _ _ _ | skip))
    exact ⟨.inr rfl, [.sl [], .i 4], .cons (.tmp rfl) (.cons (.tmp rfl) .nil), .tup (.cons (.one (.lf _)) (.cons (.one (.lf _)) .nil))⟩
  rw [if_neg (show ¬ 200 < tms.length by omega), if_neg (show ¬ 200 < tms.length by omega)]
  repeat' (first|(apply S.move;exact rfl;exact rfl)|(apply S.assign;exact rfl;exact rfl)|(apply S.cmp;(iterate 4 exact rfl))|(apply S.lenR;exact rfl;exact rfl) | apply S.nil | apply T.regs|(apply T.cF;exact rfl;assumption) | apply T.seq|(apply T.skip;first | change T _ _ _ _ _ | change Done _ _ _ _ _ | change Next _ _ _ _ _ _ | skip)|(apply T.exit;first | change T _ _ _ _ _ | change Done _ _ _ _ _ | change Next _ _ _ _ _ _ | skip) | apply T.block)
  refine T.kill 0 ?_
  refine T.loopS (fun i => i ≤ tms.length ∧ jEs (fun p q : Rat => p + -q) a b (tms.take i) = 0) (fun i => tms.length - i) (fun i => [(12, .i i), (11, rT 0 8 i), (8, .sl (tms.map frR)), (0, .sl (a.map PcQ.row)), (1, .sl (b.map PcQ.row)), (2, .b true)]) (fun i => [rB (cellsP ((tms.take i).map (jP (fun p q : Rat => p + -q) a b))) i]) 0 ⟨Nat.zero_le _, rfl⟩ (.cons rfl rfl (.cons rfl rfl (.cons rfl rfl (.cons rfl rfl (.cons rfl rfl (.cons rfl rfl .nil)))))) (.dead .nil) ?_
  rintro i ⟨hi, he0⟩
  by_cases hlt3 : (i : Int) < ((tms.map frR).length : Nat)
  · obtain ⟨t, ht⟩ : ∃ t, tms[i]? = some t := ⟨tms[i]'(by omega), List.getElem?_eq_getElem _⟩
    have hft := hfit t (List.mem_of_getElem? ht)
    have hb2 : (tms.map frR)[((i : Nat) : Int).toNat]? = some (frR t) := by rw [Int.toNat_natCast, List.getElem?_map, ht];rfl
    have hts1 : tms.take (i + 1) = tms.take i ++ [t] := by rw [List.take_add_one, ht];rfl
    have hE : jEs (fun p q : Rat => p + -q) a b (tms.take (i + 1)) = jE (fun p q : Rat => p + -q) a b t 0 := by rw [hts1, jEs, List.foldl_append];unfold jEs at he0;rw [he0];rfl
    have hbad := jEs_at (fun p q : Rat => p + -q) a b tms i t ht he0
    have hP : cellsP ((tms.take (i + 1)).map (jP (fun p q : Rat => p + -q) a b)) = cellsP ((tms.take i).map (jP (fun p q : Rat => p + -q) a b)) ++ (jP (fun p q : Rat => p + -q) a b t).row.map .lf := by rw [hts1, List.map_append, cellsP_append];show _ ++ cellsP [jP (fun p q : Rat => p + -q) a b t] = _;simp [cellsP]
    have hPl : ((tms.take i).map (jP (fun p q : Rat => p + -q) a b)).length = i := by rw [List.length_map, List.length_take];omega
    have hJ := jE (fun p q : Rat => p + -q) a b t 0
    have hJd : jE (fun p q : Rat => p + -q) a b t 0 = kE ((fun p q : Rat => p + -q) (atP a t).c (atP b t).c) (kE ((fun p q : Rat => p + -q) (atP a t).b (atP b t).b) (kE ((fun p q : Rat => p + -q) (atP a t).a (atP b t).a) (atPE b t (atPE a t 0)))) := rfl
    have hPd : (jP (fun p q : Rat => p + -q) a b t).row.map AV.lf = [.i t.num, .i t.den, .i (kQ ((fun p q : Rat => p + -q) (atP a t).a (atP b t).a)).num, .i (kQ ((fun p q : Rat => p + -q) (atP a t).a (atP b t).a)).den, .i (kQ ((fun p q : Rat => p + -q) (atP a t).b (atP b t).b)).num, .i (kQ ((fun p q : Rat => p + -q) (atP a t).b (atP b t).b)).den, .i (kQ ((fun p q : Rat => p + -q) (atP a t).c (atP b t).c)).num, .i (kQ ((fun p q : Rat => p + -q) (atP a t).c (atP b t).c)).den] := rfl
    rw [hPd] at hP
    obtain ⟨y1, cf1, hy1⟩ := rq_from a t ha ha0 hsa (by omega) hft
    obtain ⟨y2, cf2, hy2⟩ := rq_from b t hb hb0 hsb (by omega) hft
    have ox := atP_okD a t ha ha0 hft
    have oy := atP_okD b t hb hb0 hft
    rcases atPE_or a t with e1 | e1
    · rw [hy1 e1, e1] at cf1
      rw [e1] at hJd
      rcases atPE_or b t with e2 | e2
      · rw [hy2 e2, e2] at cf2
        rw [e2] at hJd
        have hxf : (atP a t).f = t := by rw [atP_eq]
        generalize atP a t = x at cf1 ox hJd hP hxf
        generalize atP b t = y at cf2 oy hJd hP
        subst hxf
        have n1 := r02_neg y.a oy.a
        have n2 := r02_neg y.b oy.b
        have n3 := r02_neg y.c oy.c
        obtain ⟨nA, dA, eA, cA, gA, fA⟩ := r02_addX x.a (-y.a) ox.a (fits_negQ oy.a)
        obtain ⟨nB, dB, eB, cB, gB, fB⟩ := r02_addX x.b (-y.b) ox.b (fits_negQ oy.b)
        obtain ⟨nC, dC, eC, cC, gC, fC⟩ := r02_addX x.c (-y.c) ox.c (fits_negQ oy.c)
        by_cases kA : Fits (x.a + (-y.a))
        · obtain ⟨rfl, rfl, rfl⟩ := gA kA
          by_cases kB : Fits (x.b + (-y.b))
          · obtain ⟨rfl, rfl, rfl⟩ := gB kB
            by_cases kC : Fits (x.c + (-y.c))
            · obtain ⟨rfl, rfl, rfl⟩ := gC kC
              have hJ0 : jE (fun p q : Rat => p + -q) a b x.f 0 = 0 := hJd.trans (by rw [kE_ok kA, kE_ok kB, kE_ok kC])
              rw [hJ0] at hE
              simp only [] at hP
              rw [kQ_ok kA, kQ_ok kB, kQ_ok kC] at hP
              cases i with
              | zero =>
                repeat' (first|(apply S.move;exact rfl;exact rfl)|(apply S.assign;exact rfl;exact rfl)|(apply S.gC;exact rfl;exact rfl;exact rfl)|(apply S.fieldP;exact rfl;exact rfl;exact rfl)|(apply S.pCN;exact rfl;exact rfl;exact rfl)|(apply S.arith;(iterate 4 exact rfl);omega)|(apply S.call;exact rfl;exact rfl;exact cf1;exact rfl)|(apply S.call;exact rfl;exact rfl;exact cf2;exact rfl)|(apply S.call;exact rfl;exact rfl;exact cA;exact rfl)|(apply S.call;exact rfl;exact rfl;exact cB;exact rfl)|(apply S.call;exact rfl;exact rfl;exact cC;exact rfl)|(apply S.call;exact rfl;exact rfl;exact n1;exact rfl)|(apply S.call;exact rfl;exact rfl;exact n2;exact rfl)|(apply S.call;exact rfl;exact rfl;exact n3;exact rfl)|(apply S.indexR;exact rfl;exact rfl;exact rfl;exact hb2;omega;exact rfl)|(apply S.buildSlice1;(iterate 7 exact rfl))|(apply S.appendN 0 (rows := []);(iterate 8 exact rfl);exact rows_one rfl;exact rfl;exact Nat.le_of_ble_eq_true rfl;exact Nat.le_of_ble_eq_true rfl)|(apply T.drawR 10 anyOrder (by decide +kernel);simp only [List.take_succ_cons, List.take_zero, List.drop_succ_cons, List.drop_zero])|(apply S.loadPA;(iterate 4 exact rfl))|(apply S.loadRA;(iterate 4 exact rfl))|(apply S.alloc;(iterate 5 exact rfl))|(apply S.store;(iterate 7 exact rfl))|(apply S.cmp;(iterate 4 exact rfl))|(apply S.extract;exact rfl;exact rfl;exact rfl)|(apply S.lenR;exact rfl;exact rfl)|(apply S.build;exact rfl;exact rfl;exact rfl) | apply S.nil | apply T.regs | apply T.reg|(apply T.cC;exact rfl)|(apply T.cCN;exact rfl)|(apply T.cT;exact rfl;assumption) | apply T.seq|(apply T.skip;first | change T _ _ _ _ _ | change Done _ _ _ _ _ | change Next _ _ _ _ _ _ | skip) | apply T.block)
                change Next _ _ _ _ _ _
                exact Next.go 1 ⟨by omega, hE⟩ (by omega) (.cons rfl rfl (.cons rfl rfl (.cons rfl rfl (.cons rfl rfl (.cons rfl rfl (.cons rfl rfl .nil)))))) (by rw [show (1 : Nat) = 0 + 1 from rfl, hP];exact .live rfl .nil)
              | succ i =>
                repeat' (first|(apply S.move;exact rfl;exact rfl)|(apply S.assign;exact rfl;exact rfl)|(apply S.gC;exact rfl;exact rfl;exact rfl)|(apply S.fieldP;exact rfl;exact rfl;exact rfl)|(apply S.pCN;exact rfl;exact rfl;exact rfl)|(apply S.arith;(iterate 4 exact rfl);omega)|(apply S.call;exact rfl;exact rfl;exact cf1;exact rfl)|(apply S.call;exact rfl;exact rfl;exact cf2;exact rfl)|(apply S.call;exact rfl;exact rfl;exact cA;exact rfl)|(apply S.call;exact rfl;exact rfl;exact cB;exact rfl)|(apply S.call;exact rfl;exact rfl;exact cC;exact rfl)|(apply S.call;exact rfl;exact rfl;exact n1;exact rfl)|(apply S.call;exact rfl;exact rfl;exact n2;exact rfl)|(apply S.call;exact rfl;exact rfl;exact n3;exact rfl)|(apply S.indexR;exact rfl;exact rfl;exact rfl;exact hb2;omega;exact rfl)|(apply S.buildSlice1;(iterate 7 exact rfl))|(apply S.appendO;(iterate 8 exact rfl);(rw [cellsP_len, hPl]);exact rows_one rfl;exact rfl;exact clear_lf _ _;simp only [List.length_cons, List.length_nil];omega;simp only [List.length_cons, List.length_nil];omega)|(apply T.drawR 10 anyOrder (by decide +kernel);simp only [List.take_succ_cons, List.take_zero, List.drop_succ_cons, List.drop_zero])|(apply S.loadPA;(iterate 4 exact rfl))|(apply S.loadRA;(iterate 4 exact rfl))|(apply S.alloc;(iterate 5 exact rfl))|(apply S.store;(iterate 7 exact rfl))|(apply S.cmp;(iterate 4 exact rfl))|(apply S.extract;exact rfl;exact rfl;exact rfl)|(apply S.lenR;exact rfl;exact rfl)|(apply S.build;exact rfl;exact rfl;exact rfl) | apply S.nil | apply T.regs | apply T.reg|(apply T.cC;exact rfl)|(apply T.cCN;exact rfl)|(apply T.cT;exact rfl;assumption) | apply T.seq|(apply T.skip;first | change T _ _ _ _ _ | change Done _ _ _ _ _ | change Next _ _ _ _ _ _ | skip) | apply T.block)
                change Next _ _ _ _ _ _
                exact Next.go (i + 1 + 1) ⟨by omega, hE⟩ (by omega) (.cons (by rw [show (((i + 1 + 1 : Nat) : Int)) = ((i + 1 : Nat) : Int) + 1 by omega];rfl) rfl (.cons rfl rfl (.cons rfl rfl (.cons rfl rfl (.cons rfl rfl (.cons rfl rfl .nil)))))) (by rw [hP];exact .live (by rw [List.all_append, under_pcs];rfl) .nil)
            · have hz := fC kC
              rw [hbad (hJd.trans (by rw [kE_ok kA, kE_ok kB, kE_bad kC])), if_neg (show ¬ (5 : Int) = 0 by decide)]
              repeat' (first|(apply S.move;exact rfl;exact rfl)|(apply S.assign;exact rfl;exact rfl)|(apply S.gC;exact rfl;exact rfl;exact rfl)|(apply S.fieldP;exact rfl;exact rfl;exact rfl)|(apply S.pCN;exact rfl;exact rfl;exact rfl)|(apply S.call;exact rfl;exact rfl;exact cf1;exact rfl)|(apply S.call;exact rfl;exact rfl;exact cf2;exact rfl)|(apply S.call;exact rfl;exact rfl;exact cA;exact rfl)|(apply S.call;exact rfl;exact rfl;exact cB;exact rfl)|(apply S.call;exact rfl;exact rfl;exact cC;exact rfl)|(apply S.call;exact rfl;exact rfl;exact n1;exact rfl)|(apply S.call;exact rfl;exact rfl;exact n2;exact rfl)|(apply S.call;exact rfl;exact rfl;exact n3;exact rfl)|(apply S.indexR;exact rfl;exact rfl;exact rfl;exact hb2;omega;exact rfl)|(apply T.drawR 10 anyOrder (by decide +kernel);simp only [List.take_succ_cons, List.take_zero, List.drop_succ_cons, List.drop_zero])|(refine T.nilU 6 rfl ?_;apply T.ret;change Done _ _ _ _ _)|(apply S.loadPA;(iterate 4 exact rfl))|(apply S.loadRA;(iterate 4 exact rfl))|(apply S.alloc;(iterate 5 exact rfl))|(apply S.store;(iterate 7 exact rfl))|(apply S.cmp;(iterate 4 exact rfl))|(apply S.extract;exact rfl;exact rfl;exact rfl)|(apply S.lenR;exact rfl;exact rfl)|(apply S.build;exact rfl;exact rfl;exact rfl) | apply S.nil | apply T.regs|(apply T.cC;exact rfl)|(apply T.cCN;exact rfl)|(apply T.cT;exact rfl;assumption) | apply T.seq|(apply T.skip;first | change T _ _ _ _ _ | change Done _ _ _ _ _ | change Next _ _ _ _ _ _ | skip) | apply T.block)
              exact ⟨.inr rfl, [.sl [], .i 5], .cons (.tmp rfl) (.cons (.tmp rfl) .nil), .tup (.cons (.one (.lf _)) (.cons (.one (.lf _)) .nil))⟩
          · have hz := fB kB
            rw [hbad (hJd.trans (by rw [kE_ok kA, kE_bad kB, kE_five])), if_neg (show ¬ (5 : Int) = 0 by decide)]
            repeat' (first|(apply S.move;exact rfl;exact rfl)|(apply S.assign;exact rfl;exact rfl)|(apply S.gC;exact rfl;exact rfl;exact rfl)|(apply S.gFT;exact rfl;exact rfl;assumption;exact rfl)|(apply S.fieldP;exact rfl;exact rfl;exact rfl)|(apply S.pCN;exact rfl;exact rfl;exact rfl)|(apply S.pTp;exact rfl;assumption;exact rfl;exact rfl)|(apply S.call;exact rfl;exact rfl;exact cf1;exact rfl)|(apply S.call;exact rfl;exact rfl;exact cf2;exact rfl)|(apply S.call;exact rfl;exact rfl;exact cA;exact rfl)|(apply S.call;exact rfl;exact rfl;exact cB;exact rfl)|(apply S.call;exact rfl;exact rfl;exact cC;exact rfl)|(apply S.call;exact rfl;exact rfl;exact n1;exact rfl)|(apply S.call;exact rfl;exact rfl;exact n2;exact rfl)|(apply S.call;exact rfl;exact rfl;exact n3;exact rfl)|(apply S.indexR;exact rfl;exact rfl;exact rfl;exact hb2;omega;exact rfl)|(apply T.drawR 10 anyOrder (by decide +kernel);simp only [List.take_succ_cons, List.take_zero, List.drop_succ_cons, List.drop_zero])|(refine T.nilU 6 rfl ?_;apply T.ret;change Done _ _ _ _ _)|(apply S.loadPA;(iterate 4 exact rfl))|(apply S.loadRA;(iterate 4 exact rfl))|(apply S.alloc;(iterate 5 exact rfl))|(apply S.store;(iterate 7 exact rfl))|(apply S.cmp;(iterate 4 exact rfl))|(apply S.extract;exact rfl;exact rfl;exact rfl)|(apply S.lenR;exact rfl;exact rfl)|(apply S.build;exact rfl;exact rfl;exact rfl) | apply S.nil | apply T.regs|(apply T.cC;exact rfl)|(apply T.cCN;exact rfl)|(apply T.cT;exact rfl;assumption) | apply T.seq|(apply T.skip;first | change T _ _ _ _ _ | change Done _ _ _ _ _ | change Next _ _ _ _ _ _ | skip) | apply T.block)
            exact ⟨.inr rfl, [.sl [], .i 5], .cons (.tmp rfl) (.cons (.tmp rfl) .nil), .tup (.cons (.one (.lf _)) (.cons (.one (.lf _)) .nil))⟩
        · have hz := fA kA
          rw [hbad (hJd.trans (by rw [kE_bad kA, kE_five, kE_five])), if_neg (show ¬ (5 : Int) = 0 by decide)]
          repeat' (first|(apply S.move;exact rfl;exact rfl)|(apply S.assign;exact rfl;exact rfl)|(apply S.gCN;(iterate 4 exact rfl))|(apply S.gFT;exact rfl;exact rfl;assumption;exact rfl)|(apply S.fieldP;exact rfl;exact rfl;exact rfl)|(apply S.pC;exact rfl;exact rfl;exact rfl)|(apply S.pTp;exact rfl;assumption;exact rfl;exact rfl)|(apply S.call;exact rfl;exact rfl;exact cf1;exact rfl)|(apply S.call;exact rfl;exact rfl;exact cf2;exact rfl)|(apply S.call;exact rfl;exact rfl;exact cA;exact rfl)|(apply S.call;exact rfl;exact rfl;exact cB;exact rfl)|(apply S.call;exact rfl;exact rfl;exact cC;exact rfl)|(apply S.call;exact rfl;exact rfl;exact n1;exact rfl)|(apply S.call;exact rfl;exact rfl;exact n2;exact rfl)|(apply S.call;exact rfl;exact rfl;exact n3;exact rfl)|(apply S.indexR;exact rfl;exact rfl;exact rfl;exact hb2;omega;exact rfl)|(apply T.drawR 10 anyOrder (by decide +kernel);simp only [List.take_succ_cons, List.take_zero, List.drop_succ_cons, List.drop_zero])|(refine T.nilU 6 rfl ?_;apply T.ret;change Done _ _ _ _ _)|(apply S.loadPA;(iterate 4 exact rfl))|(apply S.loadRA;(iterate 4 exact rfl))|(apply S.alloc;(iterate 5 exact rfl))|(apply S.store;(iterate 7 exact rfl))|(apply S.cmp;(iterate 4 exact rfl))|(apply S.extract;exact rfl;exact rfl;exact rfl)|(apply S.lenR;exact rfl;exact rfl)|(apply S.build;exact rfl;exact rfl;exact rfl) | apply S.nil | apply T.regs|(apply T.cC;exact rfl)|(apply T.cCN;exact rfl)|(apply T.cT;exact rfl;assumption) | apply T.seq|(apply T.skip;first | change T _ _ _ _ _ | change Done _ _ _ _ _ | change Next _ _ _ _ _ _ | skip) | apply T.block)
          exact ⟨.inr rfl, [.sl [], .i 5], .cons (.tmp rfl) (.cons (.tmp rfl) .nil), .tup (.cons (.one (.lf _)) (.cons (.one (.lf _)) .nil))⟩
      · rw [e2] at cf2
        rw [hbad (hJd.trans (by rw [e2, kE_five, kE_five, kE_five])), if_neg (show ¬ (5 : Int) = 0 by decide)]
        repeat' (first|(apply S.move;exact rfl;exact rfl)|(apply S.assign;exact rfl;exact rfl)|(apply S.call;exact rfl;exact rfl;exact cf1;exact rfl)|(apply S.call;exact rfl;exact rfl;exact cf2;exact rfl)|(apply S.indexR;exact rfl;exact rfl;exact rfl;exact hb2;omega;exact rfl)|(refine T.nilU 6 rfl ?_;apply T.ret;change Done _ _ _ _ _)|(apply S.loadRA;(iterate 4 exact rfl))|(apply S.alloc;(iterate 5 exact rfl))|(apply S.store;(iterate 7 exact rfl))|(apply S.cmp;(iterate 4 exact rfl))|(apply S.extract;exact rfl;exact rfl;exact rfl)|(apply S.lenR;exact rfl;exact rfl) | apply S.nil | apply T.regs|(apply T.cC;exact rfl)|(apply T.cCN;exact rfl)|(apply T.cT;exact rfl;assumption) | apply T.seq|(apply T.skip;first | change T _ _ _ _ _ | change Done _ _ _ _ _ | change Next _ _ _ _ _ _ | skip) | apply T.block)
        exact ⟨.inr rfl, [.sl [], .i 5], .cons (.tmp rfl) (.cons (.tmp rfl) .nil), .tup (.cons (.one (.lf _)) (.cons (.one (.lf _)) .nil))⟩
    · rw [e1] at cf1
      rw [hbad (hJd.trans (by rw [e1, atPE_five, kE_five, kE_five, kE_five])), if_neg (show ¬ (5 : Int) = 0 by decide)]
      repeat' (first|(apply S.move;exact rfl;exact rfl)|(apply S.assign;exact rfl;exact rfl)|(apply S.call;exact rfl;exact rfl;exact cf1;exact rfl)|(apply S.indexR;exact rfl;exact rfl;exact rfl;exact hb2;omega;exact rfl)|(refine T.nilU 6 rfl ?_;apply T.ret;change Done _ _ _ _ _)|(apply S.loadRA;(iterate 4 exact rfl))|(apply S.alloc;(iterate 5 exact rfl))|(apply S.store;(iterate 7 exact rfl))|(apply S.cmp;(iterate 4 exact rfl))|(apply S.extract;exact rfl;exact rfl;exact rfl)|(apply S.lenR;exact rfl;exact rfl) | apply S.nil | apply T.regs|(apply T.cC;exact rfl)|(apply T.cT;exact rfl;assumption) | apply T.seq|(apply T.skip;first | change T _ _ _ _ _ | change Done _ _ _ _ _ | change Next _ _ _ _ _ _ | skip) | apply T.block)
      exact ⟨.inr rfl, [.sl [], .i 5], .cons (.tmp rfl) (.cons (.tmp rfl) .nil), .tup (.cons (.one (.lf _)) (.cons (.one (.lf _)) .nil))⟩
  obtain rfl : i = tms.length := by omega
  rw [List.take_length] at he0
  have hown := own_pcs (tms.map (jP (fun p q : Rat => p + -q) a b))
  rw [List.length_map] at hown
  rw [rT_pos hT0, rB_pos hT0, List.take_length, he0, if_pos (show (0 : Int) = 0 from rfl)]
  repeat' (first|(apply S.move;exact rfl;exact rfl)|(apply S.assign;exact rfl;exact rfl)|(refine T.freeze 11 rfl rfl hown ?_)|(apply S.cmp;(iterate 4 exact rfl))|(apply S.lenR;exact rfl;exact rfl) | apply S.nil | apply T.regs|(apply T.cF;exact rfl;assumption) | apply T.seq|(apply T.ret;change Done _ _ _ _ _)|(apply T.exit;first | change T _ _ _ _ _ | change Done _ _ _ _ _ | change Next _ _ _ _ _ _ | skip))
  exact ⟨.inr rfl, [.sl ((tms.map (jP (fun p q : Rat => p + -q) a b)).map PcQ.row), .i 0], .cons (.tmp rfl) (.cons (.tmp rfl) .nil), .tup (.cons (.one (.lf _)) (.cons (.one (.lf _)) .nil))⟩
theorem sub_op : (fun p q : Rat => p + -q) = (fun p q : Rat => p - q) := by
  funext p q
  exact (Rat.sub_eq_add_neg p q).symm
theorem rq_sub (a b : List PcQ) (ha : okC a) (hb : okC b) (ha0 : a ≠ []) (hb0 : b ≠ []) (hsa : sortC a) (hsb : sortC b) (han : a.length ≤ 200) (hbn : b.length ≤ 200) :
    Fn0 Tryz.prog 21 [.sl (a.map PcQ.row), .sl (b.map PcQ.row), .b true] (.tup [.sl ((joinL (· - ·) a b).map PcQ.row), .i (joinE (· - ·) a b)]) := by
  have h := rq_add1 a b ha hb ha0 hb0 hsa hsb han hbn
  rw [sub_op] at h
  exact h
end Go.Proofs.YtgegcgfdffmoeaaGreat
