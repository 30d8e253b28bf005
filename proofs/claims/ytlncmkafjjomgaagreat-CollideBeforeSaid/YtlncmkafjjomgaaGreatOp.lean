/- Plain laws: the distance of two sets, as a curve. No conditions but those of each statement. | Contracts: collide's lowered, distance, given. No conditions but those of each statement. -/
import Derived.Test.YtlncmkafjjomgaaGreatOo
import Derived.Test.YtlncmkafjjomgaaGreatOn
import Derived.Test.YtlncmkafjjomgaaGreatOg
import Derived.Test.YtlncmkafjjomgaaGreatOd
import Derived.Test.YtlncmkafjjomgaaGreatOm
set_option linter.unusedSimpArgs false
namespace Go.Proofs.YtlncmkafjjomgaaGreat
set_option linter.unusedVariables false
open Go Go.RowKit
def hangQ (s : SetR) : Rat := (hangI s : Int)
theorem hangQ_row (s : SetR) : frR (hangQ s) = [.i (hangI s), .i 1] := by
 unfold frR hangQ
 rw [Rat.num_intCast, Rat.den_intCast]
 rfl
theorem hangI_ok {s : SetR} (hs : setP s) : 0 ≤ hangI s ∧ hangI s ≤ 1048576 := by
 rw [← hang_reach]
 exact (reachR_ok hs).hang
theorem hangQ_fits {s : SetR} (hs : setP s) : Fits (hangQ s) := by
 have := hangI_ok hs
 unfold Fits hangQ
 rw [Rat.num_intCast, Rat.den_intCast]
 omega
def sbL (x y : List PcQ) : List PcQ := (timesQ x y).map (jP (· - ·) x y)
def lwE (x y : List PcQ) (by_ : Rat) : Int := if joinE (· - ·) x y = 0 then (if ∀ p ∈ sbL x y, Fits (p.a - by_) then 0 else 5) else joinE (· - ·) x y
def lwL (x y : List PcQ) (by_ : Rat) : List PcQ := if lwE x y by_ = 0 then (sbL x y).map (lowC by_) else []
def dsE (ha hb : Rat) (x y : List PcQ) : Int :=
 if atE x 0 0 = 0 then (if atE y 0 0 = 0 then (if Fits (atQ x 0 - atQ y 0) then (if Fits (atQ x 0 - atQ y 0 - ha) then (if 0 ≤ atQ x 0 - atQ y 0 - ha then lwE x y ha else lwE y x hb) else 5) else 5) else atE y 0 0) else atE x 0 0
def dsL (ha hb : Rat) (x y : List PcQ) : List PcQ :=
 if atE x 0 0 = 0 then (if atE y 0 0 = 0 then (if Fits (atQ x 0 - atQ y 0) then (if Fits (atQ x 0 - atQ y 0 - ha) then (if 0 ≤ atQ x 0 - atQ y 0 - ha then lwL x y ha else lwL y x hb) else []) else []) else []) else []
def firC (a b : SetR) (x y : List PcQ) (te : Rat) : AV := if nearP a b ∧ ¬ (hangI a = 0 ∧ hangI b = 0) then (if dsE (hangQ a) (hangQ b) x y = 0 then firstA (dsL (hangQ a) (hangQ b) x y) 0 te else spE (dsE (hangQ a) (hangQ b) x y)) else spE 12
def cloC (a b : SetR) (x y : List PcQ) (te : Rat) : AV := if nearP a b then (if dsE (hangQ a) (hangQ b) x y = 0 then leastA (dsL (hangQ a) (hangQ b) x y) 0 te else spE (dsE (hangQ a) (hangQ b) x y)) else spE 12
def touC (a b : SetR) (p q : Rat) : AV := if nearP a b then (if Fits (p - hangQ a) then (if Fits (q - hangQ b) then .tup [.b (decide (p - hangQ a < q ∧ q - hangQ b < p)), .i 0] else .tup [.b false, .i 5]) else .tup [.b false, .i 5]) else .tup [.b false, .i 0]
theorem joinE_zero {op : Rat → Rat → Rat} {a b : List PcQ} (h : joinE op a b = 0) : ¬ 200 < (timesQ a b).length ∧ jEs op a b (timesQ a b) = 0 := by
 unfold joinE at h
 split at h
 ·cases h
 ·exact ⟨by assumption, h⟩
theorem sb_sum {x y : List PcQ} (h : joinE (· - ·) x y = 0) : Sum (· - ·) x y (timesQ x y) (sbL x y) := ⟨rfl, rfl, (joinE_zero h).2⟩
theorem low_ok {by_ : Rat} {l : List PcQ} (h : okC l) (hf : ∀ p ∈ l, Fits (p.a - by_)) : okC (l.map (lowC by_)) := fun p hp => by
 obtain ⟨q, hq, rfl⟩ := List.mem_map.1 hp
 obtain ⟨h1, _, h3, h4⟩ := h q hq
 exact ⟨h1, hf q hq, h3, h4⟩
structure Dst (x y : List PcQ) (by_ : Rat) (l : List PcQ) : Prop where
 ok : okC l
 sort : sortC l
 ne : l ≠ []
 len : l.length ≤ 200
 val : ∀ t, vaX l t = vaX x t - vaX y t - by_
theorem lw_dst {x y : List PcQ} {by_ : Rat} (hx : okC x) (hy : okC y) (hx0 : x ≠ []) (hy0 : y ≠ []) (hsx : sortC x) (hsy : sortC y) (h : lwE x y by_ = 0) : Dst x y by_ (lwL x y by_) := by
 unfold lwL
 rw [if_pos h]
 unfold lwE at h
 split at h
 ·rename_i hj
  split at h
  ·rename_i hf
   have hS := sb_sum hj
   have hl := hS.len
   have hp := hS.pos hx0
   have h0 : sbL x y ≠ [] := fun e => by rw [e] at hl;simp at hl;omega
   refine ⟨low_ok (hS.ok hx hy) hf, low_sort hS.sort, fun e => h0 (List.map_eq_nil_iff.1 e), ?_, fun t => ?_⟩
   ·rw [List.length_map]
    have := (joinE_zero hj).1
    omega
   ·rw [low_value h0, hS.value (c := (-1)) (fun p q => by grind) hsx hsy hx0 hy0 t]
  ·cases h
 ·rename_i hj
  exact absurd h hj
theorem ds_dst {ha hb : Rat} {x y : List PcQ} (hx : okC x) (hy : okC y) (hx0 : x ≠ []) (hy0 : y ≠ []) (hsx : sortC x) (hsy : sortC y) (h : dsE ha hb x y = 0) : Dst x y ha (dsL ha hb x y) ∨ Dst y x hb (dsL ha hb x y) := by
 unfold dsL
 unfold dsE at h
 by_cases e1 : atE x 0 0 = 0
 ·rw [if_pos e1] at h ⊢
  by_cases e2 : atE y 0 0 = 0
  ·rw [if_pos e2] at h ⊢
   by_cases e3 : Fits (atQ x 0 - atQ y 0)
   ·rw [if_pos e3] at h ⊢
    by_cases e4 : Fits (atQ x 0 - atQ y 0 - ha)
    ·rw [if_pos e4] at h ⊢
     by_cases e5 : 0 ≤ atQ x 0 - atQ y 0 - ha
     ·rw [if_pos e5] at h ⊢
      exact .inl (lw_dst hx hy hx0 hy0 hsx hsy h)
     ·rw [if_neg e5] at h ⊢
      exact .inr (lw_dst hy hx hy0 hx0 hsy hsx h)
    ·rw [if_neg e4] at h;cases h
   ·rw [if_neg e3] at h;cases h
  ·rw [if_neg e2] at h;exact absurd h e2
 ·rw [if_neg e1] at h;exact absurd h e1
theorem ds_all {ha hb : Rat} {x y : List PcQ} (hx : okC x) (hy : okC y) (hx0 : x ≠ []) (hy0 : y ≠ []) (hsx : sortC x) (hsy : sortC y) (h : dsE ha hb x y = 0) : okC (dsL ha hb x y) ∧ sortC (dsL ha hb x y) ∧ dsL ha hb x y ≠ [] ∧ (dsL ha hb x y).length ≤ 200 := by
 rcases ds_dst hx hy hx0 hy0 hsx hsy h with h | h
 ·exact ⟨h.ok, h.sort, h.ne, h.len⟩
 ·exact ⟨h.ok, h.sort, h.ne, h.len⟩
end Go.Proofs.YtlncmkafjjomgaaGreat
set_option linter.unusedSimpArgs false
namespace Go.Proofs.YtlncmkafjjomgaaGreat
set_option linter.unusedVariables false
open Go Go.RowKit
theorem cellsP_loadA : ∀ (l : List PcQ) (i : Nat) (x : PcQ), l[i]? = some x → ((cellsP l).drop (i * 8 + 2)).take 2 = [.i x.a.num, .i x.a.den]
 | [], i, x, h => by simp at h
 | y :: l, 0, x, h => by
  simp only [List.getElem?_cons_zero, Option.some.injEq] at h
  subst h
  rfl
 | y :: l, i + 1, x, h => by
  rw [cellsP_cons, show (i + 1) * 8 + 2 = (y.row.map AV.lf).length + (i * 8 + 2) by simp [PcQ.row];omega, List.drop_length_add_append]
  exact cellsP_loadA l i x (by simpa using h)
theorem cellsP_setA : ∀ (l : List PcQ) (i : Nat) (x : PcQ) (v : Rat), l[i]? = some x → setA (i * 8 + 2) [.i v.num, .i v.den] (cellsP l) = cellsP (l.set i ⟨x.f, v, x.b, x.c⟩)
 | [], i, x, v, h => by simp at h
 | y :: l, 0, x, v, h => by
  simp only [List.getElem?_cons_zero, Option.some.injEq] at h
  subst h
  rw [List.set_cons_zero, cellsP_cons, cellsP_cons]
  simp [PcQ.row, setA, setA_nil]
 | y :: l, i + 1, x, v, h => by
  rw [List.set_cons_succ, cellsP_cons, cellsP_cons, ← cellsP_setA l i x v (by simpa using h), show (i + 1) * 8 + 2 = (i * 8 + 2) + 8 by omega]
  simp [PcQ.row, setA]
def lwM (by_ : Rat) (c : List PcQ) (i : Nat) : List PcQ := (c.take i).map (lowC by_) ++ c.drop i
theorem lwM_get (by_ : Rat) (c : List PcQ) (i : Nat) (x : PcQ) (h : c[i]? = some x) : (lwM by_ c i)[i]? = some x := by
 have := (List.getElem?_eq_some_iff.1 h).1
 rw [lwM, List.getElem?_append_right (by simp;omega), List.getElem?_drop, List.length_map, List.length_take, show i + (i - min i c.length) = i by omega, h]
theorem lwM_len (by_ : Rat) (c : List PcQ) (i : Nat) (h : i ≤ c.length) : (lwM by_ c i).length = c.length := by
 rw [lwM, List.length_append, List.length_map, List.length_take, List.length_drop];omega
theorem lwM_set (by_ : Rat) (c : List PcQ) (i : Nat) (x : PcQ) (h : c[i]? = some x) : (lwM by_ c i).set i (lowC by_ x) = lwM by_ c (i + 1) := by
 have hi := (List.getElem?_eq_some_iff.1 h).1
 have hl : ((c.take i).map (lowC by_)).length = i := by rw [List.length_map, List.length_take];omega
 rw [lwM, lwM, List.set_append_right _ _ (by omega), hl, Nat.sub_self, List.take_add_one, h]
 rw [List.drop_eq_getElem_cons hi, List.set_cons_zero]
 simp
set_option maxHeartbeats 16000000 in
theorem col_lowered (x y : List PcQ) (by_ : Rat) (hx : okC x) (hy : okC y) (hx0 : x ≠ []) (hy0 : y ≠ []) (hxn : x.length ≤ 200) (hyn : y.length ≤ 200) (hf : Fits by_)
  (hu : Fn0 Tryz.prog 38 [.sl (x.map PcQ.row)] (.b true)) (hv : Fn0 Tryz.prog 38 [.sl (y.map PcQ.row)] (.b true)) :
  Fn0 Tryz.prog 62 [.sl (x.map PcQ.row), .sl (y.map PcQ.row), rowA (frR by_)] (.tup [.sl ((lwL x y by_).map PcQ.row), .i (lwE x y by_)]) := by
 by_cases hj : joinE (· - ·) x y = 0
 ·obtain ⟨h2, hz⟩ := joinE_zero hj
  have c1 := qua_subO x y hx hy hx0 hy0 hxn hyn hu hv hz h2
  have hS := sb_sum hj
  have hok := hS.ok hx hy
  have hcl : (sbL x y).length ≤ 200 := by have := hS.len;omega
  unfold lwL lwE
  rw [if_pos hj]
  change FnOwnT _ _ _ ((sbL x y).map PcQ.row) _ _ at c1
  generalize sbL x y = c at c1 hok hcl ⊢
  clear hu hv hz h2 hS hj
  have hle : (c.map PcQ.row).length = c.length := List.length_map _
  skip
  refine Fn0.of Tryz.func62 Tryz.ntmps62 rfl rfl rfl ?_
  simp only [entryTm]
  repeat' (first|(apply S.move;exact rfl;exact rfl)|(apply S.assign;exact rfl;exact rfl)|(apply S.callOwnT 1 c1;(iterate 6 exact rfl);exact pcs_row _)|(apply S.lenO;exact rfl;exact rfl;exact rfl)|(apply S.box;(iterate 6 exact rfl))|(apply S.cmp;(iterate 4 exact rfl))|(apply S.extract;exact rfl;exact rfl;exact rfl) | apply S.nil | apply T.regs|(apply T.cCN;exact rfl) | apply T.seq|(apply T.skip;first | change T _ _ _ _ _ | change Done _ _ _ _ _ | change Next _ _ _ _ _ _ | skip) | apply T.block)
  refine T.loopS (fun i => i ≤ c.length ∧ ∀ p ∈ c.take i, Fits (p.a - by_)) (fun i => c.length - i) (fun i => [(22, .i i), (21, .i (c.map PcQ.row).length), (8, .own 1 0 (c.map PcQ.row).length 8), (5, .ptr 0 0)]) (fun i => [.live [.i by_.num, .i by_.den], .live (cellsP (lwM by_ c i))]) 0 ⟨Nat.zero_le _, by simp⟩ (.cons rfl rfl (.cons rfl rfl (.cons rfl rfl (.cons rfl rfl .nil)))) (.live rfl (.live (under_pcs _ c) .nil)) ?_
  rintro i ⟨hi, hfi⟩
  by_cases hlt : (i : Int) < ((c.map PcQ.row).length : Nat)
  ·obtain ⟨p, hp⟩ : ∃ p, c[i]? = some p := ⟨c[i]'(by omega), List.getElem?_eq_getElem _⟩
   have hmem := List.mem_of_getElem? hp
   have hld := cellsP_loadA _ i p (lwM_get by_ c i p hp)
   have hll := lwM_len by_ c i hi
   have cs := ratio_subA p.a by_ (hok p hmem).a hf
   unfold outA at cs
   by_cases hF : Fits (p.a - by_)
   ·rw [if_pos hF] at cs
    have hst := cellsP_setA _ i p (p.a - by_) (lwM_get by_ c i p hp)
    have hsm := lwM_set by_ c i p hp
    unfold lowC at hsm
    rw [hsm] at hst
    have hf' : ∀ q ∈ c.take (i + 1), Fits (q.a - by_) := fun q hq => by
     rw [List.take_add_one, hp] at hq
     rcases List.mem_append.1 hq with hq | hq
     ·exact hfi q hq
     ·obtain rfl : q = p := by simpa using hq
      exact hF
    repeat' (first|(apply S.move;exact rfl;exact rfl)|(apply S.assign;exact rfl;exact rfl)|(apply S.arith;(iterate 4 exact rfl);omega)|(apply S.call;exact rfl;exact rfl;exact cs;exact rfl)|(apply S.indexL (o2 := i * 8);exact rfl;exact rfl;exact rfl;decide +kernel;exact rfl;omega;omega)|(apply S.fieldL;exact rfl;exact rfl;decide +kernel;exact rfl)|(apply S.loadLO;exact rfl;exact rfl;exact rfl;decide +kernel;exact rfl;exact hld;(rw [cellsP_len];omega))|(apply S.storeLW;(iterate 6 exact rfl);(rw [cellsP_len];omega);exact rfl)|(apply T.drawN 1 16 anyOrder (by decide +kernel);simp only [List.take_succ_cons, List.take_zero, List.drop_succ_cons, List.drop_zero])|(apply S.loadPA;(iterate 4 exact rfl))|(apply S.cmp;(iterate 4 exact rfl))|(apply S.extract;exact rfl;exact rfl;exact rfl) | apply S.nil | apply T.regs | apply T.reg|(apply T.cCN;exact rfl)|(apply T.cT;exact rfl;assumption) | apply T.seq|(apply T.skip;first | change T _ _ _ _ _ | change Done _ _ _ _ _ | change Next _ _ _ _ _ _ | skip) | apply T.block)
    change Next _ _ _ _ _ _
    exact Next.go (i + 1) ⟨by omega, hf'⟩ (by omega) (.cons (by rw [show (((i + 1 : Nat) : Int)) = (i : Int) + 1 by omega];rfl) rfl (.cons rfl rfl (.cons rfl rfl (.cons rfl rfl .nil)))) (.live rfl (CovH.liveE hst (under_pcs _ _) .nil))
   ·rw [if_neg hF] at cs
    have hno : ¬ ∀ p ∈ c, Fits (p.a - by_) := fun h => hF (h p hmem)
    rw [if_neg hno, if_neg (show ¬ (5 : Int) = 0 by decide)]
    repeat' (first|(apply S.move;exact rfl;exact rfl)|(apply S.assign;exact rfl;exact rfl)|(apply S.call;exact rfl;exact rfl;exact cs;exact rfl)|(apply S.indexL (o2 := i * 8);exact rfl;exact rfl;exact rfl;decide +kernel;exact rfl;omega;omega)|(apply S.fieldL;exact rfl;exact rfl;decide +kernel;exact rfl)|(apply S.loadLO;exact rfl;exact rfl;exact rfl;decide +kernel;exact rfl;exact hld;(rw [cellsP_len];omega))|(apply S.storeLW;(iterate 6 exact rfl);(rw [cellsP_len];omega);exact rfl)|(apply T.drawN 1 16 anyOrder (by decide +kernel);simp only [List.take_succ_cons, List.take_zero, List.drop_succ_cons, List.drop_zero])|(refine T.nilU 6 rfl ?_;apply T.ret;change Done _ _ _ _ _)|(apply S.loadPA;(iterate 4 exact rfl))|(apply S.cmp;(iterate 4 exact rfl))|(apply S.extract;exact rfl;exact rfl;exact rfl) | apply S.nil | apply T.regs|(apply T.cC;exact rfl)|(apply T.cT;exact rfl;assumption) | apply T.seq|(apply T.skip;first | change T _ _ _ _ _ | change Done _ _ _ _ _ | change Next _ _ _ _ _ _ | skip) | apply T.block)
    all_goals exact ⟨.inr rfl, [.sl [], .i 5], .cons (.tmp rfl) (.cons (.tmp rfl) .nil), .tup (.cons (.one (.lf _)) (.cons (.one (.lf _)) .nil))⟩
  ·obtain rfl : i = c.length := by omega
   rw [List.take_length] at hfi
   rw [if_pos hfi, if_pos rfl]
   have hfin : lwM by_ c c.length = c.map (lowC by_) := by rw [lwM, List.take_length, List.drop_length, List.append_nil]
   have hown := own_pcs (c.map (lowC by_))
   rw [List.length_map, ← hle] at hown
   rw [hfin]
   repeat' (first|(apply S.move;exact rfl;exact rfl)|(apply S.assign;exact rfl;exact rfl)|(refine T.freeze 8 rfl rfl hown ?_)|(apply S.cmp;(iterate 4 exact rfl)) | apply S.nil | apply T.regs|(apply T.cF;exact rfl;assumption) | apply T.seq|(apply T.ret;change Done _ _ _ _ _)|(apply T.exit;first | change T _ _ _ _ _ | change Done _ _ _ _ _ | change Next _ _ _ _ _ _ | skip))
   exact ⟨.inr rfl, [.sl ((c.map (lowC by_)).map PcQ.row), .i 0], .cons (.tmp rfl) (.cons (.tmp rfl) .nil), .tup (.cons (.one (.lf _)) (.cons (.one (.lf _)) .nil))⟩
 ·have c1 := qua_sub x y hx hy hx0 hy0 hxn hyn hu hv
  have hl : lwE x y by_ = joinE (· - ·) x y := if_neg hj
  unfold lwL
  rw [hl, if_neg hj]
  generalize joinE (· - ·) x y = e at *
  generalize joinL (· - ·) x y = l at *
  refine Fn0.of Tryz.func62 Tryz.ntmps62 rfl rfl rfl ?_
  simp only [entryTm]
  repeat' (first|(apply S.move;exact rfl;exact rfl)|(apply S.assign;exact rfl;exact rfl)|(apply S.call;exact rfl;exact rfl;exact c1;exact rfl)|(refine T.nilU 6 rfl ?_;apply T.ret;change Done _ _ _ _ _)|(apply S.box;(iterate 6 exact rfl))|(apply S.cmp;(iterate 4 exact rfl))|(apply S.extract;exact rfl;exact rfl;exact rfl) | apply S.nil | apply T.regs|(apply T.cT;exact rfl;assumption) | apply T.seq)
  all_goals exact ⟨.inr rfl, [.sl [], .i e], .cons (.tmp rfl) (.cons (.tmp rfl) .nil), .tup (.cons (.one (.lf _)) (.cons (.one (.lf _)) .nil))⟩
end Go.Proofs.YtlncmkafjjomgaaGreat
