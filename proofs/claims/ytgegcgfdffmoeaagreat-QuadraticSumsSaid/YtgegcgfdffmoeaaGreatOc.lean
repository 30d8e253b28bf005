/- Contracts: loftblockref08's put, From, Same. No conditions but those of each statement. | Two equal pieces are not told apart;contract: loftblockref08's Same of equal curves. No conditions but those of each statement. -/
import Derived.Test.YtgegcgfdffmoeaaGreatOb
import Derived.Test.YtgegcgfdffmoeaaGreatNx
import Derived.Test.YtgegcgfdffmoeaaGreatNs
import Derived.Test.YtgegcgfdffmoeaaGreatNm
set_option linter.unusedSimpArgs false
namespace Go.Proofs.YtgegcgfdffmoeaaGreat
set_option linter.unusedVariables false
open Go Go.RowKit
def posQ : List Rat → Rat → Nat
  | [], _ => 0
  | x :: l, t => if x < t then posQ l t + 1 else 0
theorem putQ_pos : ∀ (l : List Rat) (t : Rat), putQ l t = if l[posQ l t]? = some t then l else l.take (posQ l t) ++ t :: l.drop (posQ l t)
  | [], t => by simp [putQ, posQ]
  | x :: l, t => by
    unfold putQ posQ
    by_cases h : x < t
    · rw [if_pos h, if_pos h, putQ_pos l t, List.getElem?_cons_succ, List.take_succ_cons, List.drop_succ_cons]
      split <;> rfl
    · rw [if_neg h, if_neg h, List.getElem?_cons_zero]
      by_cases e : x = t
      · rw [if_pos e, if_pos (by rw [e])]
      · rw [if_neg e, if_neg (by simpa using e)];rfl
theorem posQ_le : ∀ (l : List Rat) (t : Rat), posQ l t ≤ l.length
  | [], _ => Nat.le_refl _
  | x :: l, t => by
    unfold posQ
    have := posQ_le l t
    split <;> simp <;> omega
theorem posQ_lt : ∀ (l : List Rat) (t : Rat) (k : Nat), k < posQ l t → ∃ x, l[k]? = some x ∧ x < t
  | [], _, k, h => by simp [posQ] at h
  | x :: l, t, 0, h => by
    unfold posQ at h
    by_cases hx : x < t
    · exact ⟨x, rfl, hx⟩
    · rw [if_neg hx] at h;omega
  | x :: l, t, k + 1, h => by
    unfold posQ at h
    by_cases hx : x < t
    · rw [if_pos hx] at h
      exact posQ_lt l t k (by omega)
    · rw [if_neg hx] at h;omega
theorem posQ_at : ∀ (l : List Rat) (t : Rat) (x : Rat), l[posQ l t]? = some x → ¬ x < t
  | [], _, x, h => by simp at h
  | y :: l, t, x, h => by
    unfold posQ at h
    by_cases hy : y < t
    · rw [if_pos hy] at h
      exact posQ_at l t x (by simpa using h)
    · rw [if_neg hy] at h
      simp at h
      subst h
      exact hy
theorem own_of {cells : List AV} {len : Nat} {m : List Rat} (h : cells = fa m) (hl : len = m.length) : OwnRows cells 0 len 2 (m.map frR) := by
  subst h hl
  exact own_fa m
theorem rat_one (rows : List (List Lf)) {l : List Rat} (h : rows = l.map frR) : rows.flatten.all Lf.one = true := by
  subst h
  rw [List.all_eq_true]
  intro x hx
  obtain ⟨r, hr, hxr⟩ := List.mem_flatten.1 hx
  obtain ⟨n, _, rfl⟩ := List.mem_map.1 hr
  simp only [List.mem_cons, List.not_mem_nil, or_false] at hxr
  rcases hxr with rfl | rfl <;> rfl
theorem clear_step {b : Nat} {cells : List AV} {r : List Lf} (h : cells.all (AV.clear b) = true) : (cells ++ r.map AV.lf).all (AV.clear b) = true := by
  rw [List.all_append, h, clear_lf];rfl
theorem cells_step {cells : List AV} {len : Nat} {rows : List (List Lf)} (h : cells.length = len * 2) (hr : ∀ row ∈ rows, row.length = 2) : (cells ++ rows.flatten.map AV.lf).length = (len + rows.length) * 2 := by
  rw [List.length_append, List.length_map, flatten_len rows hr, h, Nat.add_mul]
theorem put_own (l : List Rat) (t : Rat) (k : Nat) (cells : List AV) (h0 : cells = []) : OwnRows (cells ++ ((l.map frR).take ((k : Nat) : Int).toNat).flatten.map AV.lf ++ ([[Lf.val (.int .i64 t.num), Lf.val (.int .i64 (t.den : Int))]] : List (List Lf)).flatten.map AV.lf ++ ((l.map frR).drop ((k : Nat) : Int).toNat).flatten.map AV.lf) 0
    (0 + ((l.map frR).take ((k : Nat) : Int).toNat).length + ([[Lf.val (.int .i64 t.num), Lf.val (.int .i64 (t.den : Int))]] : List (List Lf)).length + ((l.map frR).drop ((k : Nat) : Int).toNat).length) 2 ((l.take k ++ t :: l.drop k).map frR) := by
  subst h0
  rw [Int.toNat_natCast]
  refine own_of ?_ ?_
  · simp [fa, cellsF, List.map_take, List.map_drop]
  · simp
    omega
set_option maxHeartbeats 16000000 in
theorem rq_put (l : List Rat) (t : Rat) (hl : ∀ q ∈ l, Fits q) (ht : Fits t) (hn : l.length ≤ 1000000) : Fn0 Tryz.prog 78 [.sl (l.map frR), rowA (frR t)] (.sl ((putQ l t).map frR)) := by
  have hle : (l.map frR).length = l.length := List.length_map _
  have hpl := posQ_le l t
  have hplt := posQ_lt l t
  have hpat := posQ_at l t
  rw [putQ_pos]
  generalize posQ l t = p at hpl hplt hpat ⊢
  refine Fn0.of Tryz.func78 Tryz.ntmps78 rfl rfl rfl ?_
  simp only [entryTm]
  repeat' (first|(apply S.assign;exact rfl;exact rfl)|(apply S.box;(iterate 6 exact rfl)) | apply S.nil | apply T.regs | apply T.seq | apply T.block)
  refine T.loopS (fun k => k ≤ p) (fun k => p - k) (fun k => [(5, .i k), (0, .sl (l.map frR)), (3, .ptr 0 0)]) (fun k => [.live [.i t.num, .i t.den]]) 0 (Nat.zero_le _) (.cons rfl rfl (.cons rfl rfl (.cons rfl rfl .nil))) (.live rfl .nil) ?_
  intro k hk
  by_cases hkp : k < p
  · obtain ⟨x, hx, hxt⟩ := hplt k hkp
    have h1 : (k : Int) < ((l.map frR).length : Nat) := by omega
    have hb : (l.map frR)[((k : Nat) : Int).toNat]? = some (frR x) := by rw [Int.toNat_natCast, List.getElem?_map, hx];rfl
    have c := r02_cmp x t (hl x (List.mem_of_getElem? hx)) ht
    have h3 : cmpQ x t < 0 := (cmpQ_lt x t).2 hxt
    generalize cmpQ x t = cc at c h3
    repeat' (first|(apply S.move;exact rfl;exact rfl)|(apply S.assign;exact rfl;exact rfl)|(apply S.gTT;exact rfl;exact rfl;assumption)|(apply S.pTp;exact rfl;assumption;exact rfl;exact rfl)|(apply S.arith;(iterate 4 exact rfl);omega)|(apply S.call;exact rfl;exact rfl;exact c;exact rfl)|(apply S.indexR;exact rfl;exact rfl;exact rfl;exact hb;omega;exact rfl)|(apply T.drawAll anyOrder (by decide +kernel))|(apply S.loadPA;(iterate 4 exact rfl))|(apply S.loadRA;(iterate 4 exact rfl))|(apply S.cmp;(iterate 4 exact rfl))|(apply S.lenR;exact rfl;exact rfl) | apply S.nil | apply T.reg|(apply T.cT;exact rfl;assumption) | apply T.seq|(apply T.skip;first | change T _ _ _ _ _ | change Done _ _ _ _ _ | change Next _ _ _ _ _ _ | skip) | apply T.block)
    change Next _ _ _ _ _ _
    exact Next.go (k + 1) (by omega) (by omega) (.cons (by rw [show (((k + 1 : Nat) : Int)) = (k : Int) + 1 by omega];rfl) rfl (.cons rfl rfl (.cons rfl rfl .nil))) (.live rfl .nil)
  · obtain rfl : k = p := by omega
    have hrt : ∀ row ∈ l.map frR, row.length = 2 := frR_row l
    have h1r : ((l.map frR).take ((k : Nat) : Int).toNat).flatten.all Lf.one = true := rat_one _ (l := l.take k) (by rw [Int.toNat_natCast, ← List.map_take])
    have h2r : ((l.map frR).drop ((k : Nat) : Int).toNat).flatten.all Lf.one = true := rat_one _ (l := l.drop k) (by rw [Int.toNat_natCast, ← List.map_drop])
    by_cases hkl : k < l.length
    · obtain ⟨x, hx⟩ : ∃ x, l[k]? = some x := ⟨l[k], List.getElem?_eq_getElem hkl⟩
      have h1 : (k : Int) < ((l.map frR).length : Nat) := by omega
      have hb : (l.map frR)[((k : Nat) : Int).toNat]? = some (frR x) := by rw [Int.toNat_natCast, List.getElem?_map, hx];rfl
      have c := r02_cmp x t (hl x (List.mem_of_getElem? hx)) ht
      have h3 : ¬ cmpQ x t < 0 := fun h => hpat x hx ((cmpQ_lt x t).1 h)
      generalize cmpQ x t = cc at c h3
      by_cases he : x.num = t.num ∧ (x.den : Int) = (t.den : Int)
      · rw [if_pos (by rw [hx, eq_of_ratN he])]
        repeat' (first|(apply S.move;exact rfl;exact rfl)|(apply S.assign;exact rfl;exact rfl)|(apply S.gTT;exact rfl;exact rfl;assumption)|(apply S.pTp;exact rfl;assumption;exact rfl;exact rfl)|(apply S.call;exact rfl;exact rfl;exact c;exact rfl)|(apply S.indexR;exact rfl;exact rfl;exact rfl;exact hb;omega;exact rfl)|(apply S.eq2;exact rfl;exact rfl;exact rfl)|(apply T.drawAll anyOrder (by decide +kernel))|(apply S.loadPA;(iterate 4 exact rfl))|(apply S.loadRA;(iterate 4 exact rfl))|(apply S.cmp;(iterate 4 exact rfl))|(apply S.lenR;exact rfl;exact rfl) | apply S.nil | apply T.regs|(apply T.cT;exact rfl;assumption)|(apply T.cF;exact rfl;assumption) | apply T.seq|(apply T.ret;change Done _ _ _ _ _)|(apply T.exit;first | change T _ _ _ _ _ | change Done _ _ _ _ _ | change Next _ _ _ _ _ _ | skip))
        exact done1 (by simp) Tryz.results78 rfl (.one (.one (.lf _)))
      · rw [if_neg (by rw [hx];intro e;injection e with e;exact ne_of_ratN he e)]
        repeat' (first|(apply S.move;exact rfl;exact rfl)|(apply S.assign;exact rfl;exact rfl)|(apply S.gTT;exact rfl;exact rfl;assumption)|(apply S.pTp;exact rfl;assumption;exact rfl;exact rfl)|(apply S.call;exact rfl;exact rfl;exact c;exact rfl)|(apply S.indexR;exact rfl;exact rfl;exact rfl;exact hb;omega;exact rfl)|(apply S.eq2;exact rfl;exact rfl;exact rfl)|(refine T.orders (id := 6) anyOrder ?_)|(apply Ords.takeMove 1;exact rfl;decide +kernel;decide +kernel;decide +kernel;exact rfl;exact rfl)|(apply Ords.takeMove 2;exact rfl;decide +kernel;decide +kernel;decide +kernel;exact rfl;exact rfl)|(apply Ords.takeMove 8;exact rfl;decide +kernel;decide +kernel;decide +kernel;exact rfl;exact rfl)|(apply Ords.takeMove 9;exact rfl;decide +kernel;decide +kernel;decide +kernel;exact rfl;exact rfl)|(apply Ords.takeTo 3;exact rfl;decide +kernel;decide +kernel;decide +kernel;exact rfl;exact rfl;exact rfl;exact inferInstance;exact inferInstance;omega;exact hrt)|(apply Ords.takeFrom 10;exact rfl;decide +kernel;decide +kernel;decide +kernel;exact rfl;exact rfl;exact rfl;exact inferInstance;exact inferInstance;omega;exact hrt)|(apply Ords.two (i := 0) (j := 5);decide +kernel;exact rfl;exact rfl)|(apply Ords.two (i := 0) (j := 6);decide +kernel;exact rfl;exact rfl)|(apply Ords.two (i := 4) (j := 5);decide +kernel;exact rfl;exact rfl)|(apply Ords.two (i := 4) (j := 6);decide +kernel;exact rfl;exact rfl)|(apply Ords.one (i := 0);decide +kernel;exact rfl)|(apply Ords.one (i := 4);decide +kernel;exact rfl)|(apply Ords.one (i := 5);decide +kernel;exact rfl)|(apply Ords.one (i := 6);decide +kernel;exact rfl)|(apply Ords.one (i := 7);decide +kernel;exact rfl)|(apply Ords.one (i := 11);decide +kernel;exact rfl)|(apply Ords.one (i := 12);decide +kernel;exact rfl)|(apply Ords.nil;decide +kernel)|(apply S.buildSlice1;(iterate 7 exact rfl))|(apply S.buildSliceO;(iterate 6 exact rfl))|(apply S.appendO;(iterate 9 exact rfl);(intro row hr;exact hrt row (List.mem_of_mem_take hr));exact h1r;exact rfl;(simp;omega);(simp;omega))|(apply S.appendO;(iterate 8 exact rfl);exact cells_step rfl (fun row hr => hrt row (List.mem_of_mem_take hr));exact rows_one rfl;exact rfl;exact clear_step rfl;(simp;omega);(simp;omega))|(apply S.appendO;(iterate 8 exact rfl);exact cells_step (cells_step rfl (fun row hr => hrt row (List.mem_of_mem_take hr))) (rows_one rfl);(intro row hr;exact hrt row (List.mem_of_mem_drop hr));exact h2r;exact clear_step (clear_step rfl);(simp;omega);(simp;omega))|(apply T.drawAll anyOrder (by decide +kernel))|(apply S.loadPA;(iterate 4 exact rfl))|(apply S.loadRA;(iterate 4 exact rfl))|(apply S.cmp;(iterate 4 exact rfl))|(apply S.lenR;exact rfl;exact rfl) | apply S.nil|(apply T.cF;exact rfl;assumption) | apply T.seq|(apply T.skip;first | change T _ _ _ _ _ | change Done _ _ _ _ _ | change Next _ _ _ _ _ _ | skip)|(apply T.ret;change Done _ _ _ _ _)|(apply T.exit;first | change T _ _ _ _ _ | change Done _ _ _ _ _ | change Next _ _ _ _ _ _ | skip))
        all_goals exact ⟨.inr rfl, [_], .cons (.tmp rfl) .nil, .one (.one (.own rfl (put_own l t k _ rfl)))⟩
    · have h1 : ¬ (k : Int) < ((l.map frR).length : Nat) := by omega
      rw [if_neg (by rw [List.getElem?_eq_none (by omega)];simp)]
      repeat' (first|(apply S.move;exact rfl;exact rfl)|(apply S.assign;exact rfl;exact rfl)|(apply S.gTF;exact rfl;exact rfl;assumption;exact rfl)|(apply S.pFp;exact rfl;assumption;exact rfl;exact rfl)|(refine T.orders (id := 6) anyOrder ?_)|(apply Ords.takeMove 1;exact rfl;decide +kernel;decide +kernel;decide +kernel;exact rfl;exact rfl)|(apply Ords.takeMove 2;exact rfl;decide +kernel;decide +kernel;decide +kernel;exact rfl;exact rfl)|(apply Ords.takeMove 8;exact rfl;decide +kernel;decide +kernel;decide +kernel;exact rfl;exact rfl)|(apply Ords.takeMove 9;exact rfl;decide +kernel;decide +kernel;decide +kernel;exact rfl;exact rfl)|(apply Ords.takeTo 3;exact rfl;decide +kernel;decide +kernel;decide +kernel;exact rfl;exact rfl;exact rfl;exact inferInstance;exact inferInstance;omega;exact hrt)|(apply Ords.takeFrom 10;exact rfl;decide +kernel;decide +kernel;decide +kernel;exact rfl;exact rfl;exact rfl;exact inferInstance;exact inferInstance;omega;exact hrt)|(apply Ords.two (i := 0) (j := 5);decide +kernel;exact rfl;exact rfl)|(apply Ords.two (i := 0) (j := 6);decide +kernel;exact rfl;exact rfl)|(apply Ords.two (i := 4) (j := 5);decide +kernel;exact rfl;exact rfl)|(apply Ords.two (i := 4) (j := 6);decide +kernel;exact rfl;exact rfl)|(apply Ords.one (i := 0);decide +kernel;exact rfl)|(apply Ords.one (i := 4);decide +kernel;exact rfl)|(apply Ords.one (i := 5);decide +kernel;exact rfl)|(apply Ords.one (i := 6);decide +kernel;exact rfl)|(apply Ords.one (i := 7);decide +kernel;exact rfl)|(apply Ords.one (i := 11);decide +kernel;exact rfl)|(apply Ords.one (i := 12);decide +kernel;exact rfl)|(apply Ords.nil;decide +kernel)|(apply S.buildSlice1;(iterate 7 exact rfl))|(apply S.buildSliceO;(iterate 6 exact rfl))|(apply S.appendO;(iterate 9 exact rfl);(intro row hr;exact hrt row (List.mem_of_mem_take hr));exact h1r;exact rfl;(simp;omega);(simp;omega))|(apply S.appendO;(iterate 8 exact rfl);exact cells_step rfl (fun row hr => hrt row (List.mem_of_mem_take hr));exact rows_one rfl;exact rfl;exact clear_step rfl;(simp;omega);(simp;omega))|(apply S.appendO;(iterate 8 exact rfl);exact cells_step (cells_step rfl (fun row hr => hrt row (List.mem_of_mem_take hr))) (rows_one rfl);(intro row hr;exact hrt row (List.mem_of_mem_drop hr));exact h2r;exact clear_step (clear_step rfl);(simp;omega);(simp;omega))|(apply T.drawAll anyOrder (by decide +kernel))|(apply S.loadPA;(iterate 4 exact rfl))|(apply S.cmp;(iterate 4 exact rfl))|(apply S.lenR;exact rfl;exact rfl) | apply S.nil|(apply T.cCN;exact rfl) | apply T.seq|(apply T.skip;first | change T _ _ _ _ _ | change Done _ _ _ _ _ | change Next _ _ _ _ _ _ | skip)|(apply T.ret;change Done _ _ _ _ _)|(apply T.exit;first | change T _ _ _ _ _ | change Done _ _ _ _ _ | change Next _ _ _ _ _ _ | skip))
      all_goals exact ⟨.inr rfl, [_], .cons (.tmp rfl) .nil, .one (.one (.own rfl (put_own l t k _ rfl)))⟩
end Go.Proofs.YtgegcgfdffmoeaaGreat
set_option linter.unusedSimpArgs false
namespace Go.Proofs.YtgegcgfdffmoeaaGreat
set_option linter.unusedVariables false
open Go Go.RowKit
set_option maxRecDepth 100000 in
theorem pieceFields : Tryz.prog.fieldsOf 59 = #[⟨"From", 25, 0, false, "", "", 0⟩, ⟨"A", 25, 2, false, "", "", 16⟩, ⟨"B", 25, 4, false, "", "", 32⟩, ⟨"C", 25, 6, false, "", "", 48⟩] := by
  unfold Program.fieldsOf
  rw [Tryz.underlying59]
theorem pieceStood : Tryz.prog.stoodInHeld 59 = false := by kernel_rfl
theorem pieceGuard : Tryz.prog.eqGuardType Tryz.prog.depth 59 = false := by kernel_rfl
theorem pieceIs : Tryz.prog.underlying 59 = some (.struct (Tryz.prog.fieldsOf 59)) := by
  rw [pieceFields];exact Tryz.underlying59
class HasNe8 (P : Program) (t : TypeId) : Prop where
  out : ∀ (o : Oper) (η : Operand → Value) (w : World) (x y : Operand) (u : TypeId) (a b c d e f g h : Int), o.op = .binOp .neq t x y u → η x = .agg #[.int .i64 a, .int .i64 b, .int .i64 c, .int .i64 d, .int .i64 e, .int .i64 f, .int .i64 g, .int .i64 h] → η y = .agg #[.int .i64 a, .int .i64 b, .int .i64 c, .int .i64 d, .int .i64 e, .int .i64 f, .int .i64 g, .int .i64 h] → (execOp η o).run P w = .ok (.value (.bool false)) w
section
variable {P : Program} {N : Nat} {ops : Array Oper} {m : Option Nat} {K : Tm → AH → Prop} {tm : Tm} {H : AH} {rest : List Oper} {ty : TypeId} {pos : String} {af : Array Edge} {d : Nat} {t : TypeId} {x y : Operand}
theorem S.ne8 {u : TypeId} {a b c d' e f g i : Int} [he : HasNe8 P t] (hx : evT tm x = some (.agg [.val (.int .i64 a), .val (.int .i64 b), .val (.int .i64 c), .val (.int .i64 d'), .val (.int .i64 e), .val (.int .i64 f), .val (.int .i64 g), .val (.int .i64 i)])) (hy : evT tm y = some (.agg [.val (.int .i64 a), .val (.int .i64 b), .val (.int .i64 c), .val (.int .i64 d'), .val (.int .i64 e), .val (.int .i64 f), .val (.int .i64 g), .val (.int .i64 i)])) (hN : Nat.ble (d + 1) N = true) (h : Reg m P N ops rest ((d, .val (.bool false)) :: tm) H K) : Reg m P N ops (⟨some d, .binOp .neq t x y u, ty, pos, af, none⟩ :: rest) tm H K := by
  refine S.val (OpV.mk fun L w ρ η hη hH => ?_) hN h
  have h1 := (hη x (by simp [Op.operands]) _ hx).flat (u := .agg #[.int .i64 a, .int .i64 b, .int .i64 c, .int .i64 d', .int .i64 e, .int .i64 f, .int .i64 g, .int .i64 i]) rfl
  have h2 := (hη y (by simp [Op.operands]) _ hy).flat (u := .agg #[.int .i64 a, .int .i64 b, .int .i64 c, .int .i64 d', .int .i64 e, .int .i64 f, .int .i64 g, .int .i64 i]) rfl
  exact ⟨_, he.out _ η w x y u a b c d' e f g i rfl h1 h2, relV_val _⟩
end
set_option maxRecDepth 100000 in
instance : HasNe8 Tryz.prog 59 := ⟨fun o η w x y u a b c d e f g i ho hx hy => by
  have h1 := fun w d' (k : IntKind) (a b : Int) => run_equalIn_int (P := Tryz.prog) w d' 3 k .i64 a b Tryz.underlying3
  have hF := fun w d' (a b : Int) => run_equalIn_agg (P := Tryz.prog) w d' 25 #[.int .i64 a, .int .i64 b] #[.int .i64 a, .int .i64 b] fracIs fracStood
  rw [fracFields] at hF
  have h2 := run_equalIn_agg (P := Tryz.prog) w 9999 59 #[.int .i64 a, .int .i64 b, .int .i64 c, .int .i64 d, .int .i64 e, .int .i64 f, .int .i64 g, .int .i64 i] #[.int .i64 a, .int .i64 b, .int .i64 c, .int .i64 d, .int .i64 e, .int .i64 f, .int .i64 g, .int .i64 i] pieceIs pieceStood
  have h3 := run_eqGuard_agg (P := Tryz.prog) w .neq 59 x y #[.int .i64 a, .int .i64 b, .int .i64 c, .int .i64 d, .int .i64 e, .int .i64 f, .int .i64 g, .int .i64 i] #[.int .i64 a, .int .i64 b, .int .i64 c, .int .i64 d, .int .i64 e, .int .i64 f, .int .i64 g, .int .i64 i] pieceGuard
  have h4 := run_neq_struct (P := Tryz.prog) w 59 #[.int .i64 a, .int .i64 b, .int .i64 c, .int .i64 d, .int .i64 e, .int .i64 f, .int .i64 g, .int .i64 i] #[.int .i64 a, .int .i64 b, .int .i64 c, .int .i64 d, .int .i64 e, .int .i64 f, .int .i64 g, .int .i64 i]
  rw [pieceFields] at h2
  simp only [execOp, ho, hx, hy, Sem.run_bind, h3, Result.andThen_ok, h4]
  rw [h2]
  simp [Op.eqFields, go_sem, h1, hF]⟩
set_option maxHeartbeats 4000000 in
theorem rq_same (l : List PcQ) (hn : l.length ≤ 1000000) : Fn0 Tryz.prog 20 [.sl (l.map PcQ.row), .sl (l.map PcQ.row)] (.b true) := by
  have hle : (l.map PcQ.row).length = l.length := List.length_map _
  refine Fn0.of Tryz.func20 Tryz.ntmps20 rfl rfl rfl ?_
  simp only [entryTm]
  have h0 : ¬ ¬ (((l.map PcQ.row).length : Nat) : Int) = ((l.map PcQ.row).length : Nat) := by simp
  repeat' (first|(apply S.move;exact rfl;exact rfl)|(apply S.assign;exact rfl;exact rfl)|(apply S.cmp;(iterate 4 exact rfl))|(apply S.lenR;exact rfl;exact rfl) | apply S.nil | apply T.regs|(apply T.cF;exact rfl;assumption) | apply T.seq|(apply T.skip;first | change T _ _ _ _ _ | change Done _ _ _ _ _ | change Next _ _ _ _ _ _ | skip) | apply T.block)
  refine T.loopS (fun i => i ≤ l.length) (fun i => l.length - i) (fun i => [(5, .i i), (0, .sl (l.map PcQ.row)), (1, .sl (l.map PcQ.row))]) (fun i => []) 0 (Nat.zero_le _) (.cons rfl rfl (.cons rfl rfl (.cons rfl rfl .nil))) .nil ?_
  intro i hi
  by_cases hlt : (i : Int) < ((l.map PcQ.row).length : Nat)
  · obtain ⟨x, hx⟩ : ∃ x, l[i]? = some x := ⟨l[i]'(by omega), List.getElem?_eq_getElem _⟩
    have hb : (l.map PcQ.row)[((i : Nat) : Int).toNat]? = some x.row := by rw [Int.toNat_natCast, List.getElem?_map, hx];rfl
    repeat' (first|(apply S.move;exact rfl;exact rfl)|(apply S.assign;exact rfl;exact rfl)|(apply S.arith;(iterate 4 exact rfl);omega)|(apply S.indexR;exact rfl;exact rfl;exact rfl;exact hb;omega;exact rfl)|(apply S.ne8;exact rfl;exact rfl;exact rfl)|(apply T.drawAll anyOrder (by decide +kernel))|(apply S.loadRA;(iterate 4 exact rfl))|(apply S.cmp;(iterate 4 exact rfl))|(apply S.lenR;exact rfl;exact rfl) | apply S.nil | apply T.regs | apply T.reg|(apply T.cCN;exact rfl)|(apply T.cT;exact rfl;assumption) | apply T.seq|(apply T.skip;first | change T _ _ _ _ _ | change Done _ _ _ _ _ | change Next _ _ _ _ _ _ | skip) | apply T.block)
    change Next _ _ _ _ _ _
    exact Next.go (i + 1) (by omega) (by omega) (.cons (by rw [show (((i + 1 : Nat) : Int)) = (i : Int) + 1 by omega];rfl) rfl (.cons rfl rfl (.cons rfl rfl .nil))) .nil
  · repeat' (first|(apply S.move;exact rfl;exact rfl)|(apply S.assign;exact rfl;exact rfl)|(apply S.cmp;(iterate 4 exact rfl))|(apply S.lenR;exact rfl;exact rfl) | apply S.nil | apply T.regs|(apply T.cF;exact rfl;assumption) | apply T.seq|(apply T.ret;change Done _ _ _ _ _)|(apply T.exit;first | change T _ _ _ _ _ | change Done _ _ _ _ _ | change Next _ _ _ _ _ _ | skip))
    exact doneV (by simp) Tryz.results20 rfl rfl
end Go.Proofs.YtgegcgfdffmoeaaGreat
