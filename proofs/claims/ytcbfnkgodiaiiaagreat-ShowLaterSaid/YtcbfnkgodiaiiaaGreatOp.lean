/- Plain laws: the distance of two sets, as a curve. No conditions but those of each statement. -/
import Derived.Test.YtcbfnkgodiaiiaaGreatPa
import Derived.Test.YtcbfnkgodiaiiaaGreatOo
import Derived.Test.YtcbfnkgodiaiiaaGreatOg
import Derived.Test.YtcbfnkgodiaiiaaGreatOc
import Derived.Test.YtcbfnkgodiaiiaaGreatOm
set_option linter.unusedSimpArgs false
set_option linter.unusedVariables false
namespace Go.Proofs.YtcbfnkgodiaiiaaGreat
open Go Go.RowKit
def Aw (s : SetR) : Rat := (Bv s : Int)
theorem A6v (s : SetR) : frR (Aw s) = [.i (Bv s), .i 1] := by
 unfold frR Aw
 rw [Rat.num_intCast, Rat.den_intCast]
 rfl
theorem A95 {s : SetR} (hs : De s) : 0 <= Bv s /\ Bv s <= 1048576 := by
 rw [<- A2e]
 exact (Od hs).hang
theorem To {s : SetR} (hs : De s) : Fits (Aw s) := by
 have := A95 hs
 unfold Fits Aw
 rw [Rat.num_intCast, Rat.den_intCast]
 omega
def sbL (x y : List PcQ) : List PcQ := (Af x y).map (jP (· - ·) x y)
def lwE (x y : List PcQ) (by_ : Rat) : Int := if Eg (· - ·) x y = 0 then (if ∀ p ∈ sbL x y, Fits (p.a - by_) then 0 else 5) else Eg (· - ·) x y
def lwL (x y : List PcQ) (by_ : Rat) : List PcQ := if lwE x y by_ = 0 then (sbL x y).map (Cr by_) else []
def dsE (ha hb : Rat) (x y : List PcQ) : Int :=
 if atE x 0 0 = 0 then (if atE y 0 0 = 0 then (if Fits (atQ x 0 - atQ y 0) then (if Fits (atQ x 0 - atQ y 0 - ha) then (if 0 <= atQ x 0 - atQ y 0 - ha then lwE x y ha else lwE y x hb) else 5) else 5) else atE y 0 0) else atE x 0 0
def dsL (ha hb : Rat) (x y : List PcQ) : List PcQ :=
 if atE x 0 0 = 0 then (if atE y 0 0 = 0 then (if Fits (atQ x 0 - atQ y 0) then (if Fits (atQ x 0 - atQ y 0 - ha) then (if 0 <= atQ x 0 - atQ y 0 - ha then lwL x y ha else lwL y x hb) else []) else []) else []) else []
def Ee (a b : SetR) (x y : List PcQ) (te : Rat) : AV := if Da a b /\ ¬ (Bv a = 0 /\ Bv b = 0) then (if dsE (Aw a) (Aw b) x y = 0 then B9 (dsL (Aw a) (Aw b) x y) 0 te else spE (dsE (Aw a) (Aw b) x y)) else spE 12
theorem Mo {op : Rat -> Rat -> Rat} {a b : List PcQ} (h : Eg op a b = 0) : ¬ 200 < (Af a b).length /\ jEs op a b (Af a b) = 0 := by
 unfold Eg at h
 split at h
 ·cases h
 ·exact ⟨by assumption, h⟩
theorem A5c {x y : List PcQ} (h : Eg (· - ·) x y = 0) : Sum (· - ·) x y (Af x y) (sbL x y) := ⟨rfl, rfl, (Mo h).2⟩
theorem Ad5 {by_ : Rat} {l : List PcQ} (h : okC l) (hf : ∀ p ∈ l, Fits (p.a - by_)) : okC (l.map (Cr by_)) := fun p hp => by
 obtain ⟨q, hq, rfl⟩ := List.mem_map.1 hp
 obtain ⟨h1, _, h3, h4⟩ := h q hq
 exact ⟨h1, hf q hq, h3, h4⟩
structure Dst (x y : List PcQ) (by_ : Rat) (l : List PcQ) : Prop where
 ok : okC l
 sort : Ah l
 ne : l ≠ []
 len : l.length <= 200
 val : ∀ t, vaX l t = vaX x t - vaX y t - by_
theorem A5w {x y : List PcQ} {by_ : Rat} (hx : okC x) (hy : okC y) (hx0 : x ≠ []) (hy0 : y ≠ []) (hsx : Ah x) (hsy : Ah y) (h : lwE x y by_ = 0) : Dst x y by_ (lwL x y by_) := by
 unfold lwL
 rw [if_pos h]
 unfold lwE at h
 split at h
 ·rename_i hj
  split at h
  ·rename_i hf
   have hS := A5c hj
   have hl := hS.len
   have hp := hS.pos hx0
   have h0 : sbL x y ≠ [] := fun e => by rw [e] at hl;simp at hl;omega
   refine ⟨Ad5 (hS.ok hx hy) hf, A8a hS.sort, fun e => h0 (List.map_eq_nil_iff.1 e), ?_, fun t => ?_⟩
   ·rw [List.length_map]
    have := (Mo hj).1
    omega
   ·rw [A7e h0, hS.value (c := (-1)) (fun p q => by grind) hsx hsy hx0 hy0 t]
  ·cases h
 ·rename_i hj
  exact absurd h hj
theorem A7f {ha hb : Rat} {x y : List PcQ} (hx : okC x) (hy : okC y) (hx0 : x ≠ []) (hy0 : y ≠ []) (hsx : Ah x) (hsy : Ah y) (h : dsE ha hb x y = 0) : Dst x y ha (dsL ha hb x y) \/ Dst y x hb (dsL ha hb x y) := by
 unfold dsL
 unfold dsE at h
 by_cases e1 : atE x 0 0 = 0
 ·rw [if_pos e1] at h ⊢
  by_cases e2 : atE y 0 0 = 0
  ·rw [if_pos e2] at h ⊢
   by_cases e3 : Fits (atQ x 0 - atQ y 0)
   ·rw [if_pos e3] at h ⊢
    by_cases e4 : Fits (atQ x 0 - atQ y 0 - ha)
    ·rw [if_pos e4] at h ⊢
     by_cases e5 : 0 <= atQ x 0 - atQ y 0 - ha
     ·rw [if_pos e5] at h ⊢
      exact .inl (A5w hx hy hx0 hy0 hsx hsy h)
     ·rw [if_neg e5] at h ⊢
      exact .inr (A5w hy hx hy0 hx0 hsy hsx h)
    ·rw [if_neg e4] at h;cases h
   ·rw [if_neg e3] at h;cases h
  ·rw [if_neg e2] at h;exact absurd h e2
 ·rw [if_neg e1] at h;exact absurd h e1
theorem Ad4 {ha hb : Rat} {x y : List PcQ} (hx : okC x) (hy : okC y) (hx0 : x ≠ []) (hy0 : y ≠ []) (hsx : Ah x) (hsy : Ah y) (h : dsE ha hb x y = 0) : okC (dsL ha hb x y) /\ Ah (dsL ha hb x y) /\ dsL ha hb x y ≠ [] /\ (dsL ha hb x y).length <= 200 := by
 rcases A7f hx hy hx0 hy0 hsx hsy h with h | h
 ·exact ⟨h.ok, h.sort, h.ne, h.len⟩
 ·exact ⟨h.ok, h.sort, h.ne, h.len⟩
theorem Ov : ∀ (l : List PcQ) (i : Nat) (x : PcQ), l[i]? = some x -> ((Bk l).drop (i * 8 + 2)).take 2 = [.i x.a.num, .i x.a.den]
 | [], i, x, h => by simp at h
 | y :: l, 0, x, h => by
  simp only [List.getElem?_cons_zero, Option.some.injEq] at h
  subst h
  rfl
 | y :: l, i + 1, x, h => by
  rw [Cf, show (i + 1) * 8 + 2 = (y.row.map AV.lf).length + (i * 8 + 2) by simp [PcQ.row];omega, List.drop_length_add_append]
  exact Ov l i x (by simpa using h)
theorem R4 : ∀ (l : List PcQ) (i : Nat) (x : PcQ) (v : Rat), l[i]? = some x -> Be (i * 8 + 2) [.i v.num, .i v.den] (Bk l) = Bk (l.set i ⟨x.f, v, x.b, x.c⟩)
 | [], i, x, v, h => by simp at h
 | y :: l, 0, x, v, h => by
  simp only [List.getElem?_cons_zero, Option.some.injEq] at h
  subst h
  rw [List.set_cons_zero, Cf, Cf]
  simp [PcQ.row, Be, Ew]
 | y :: l, i + 1, x, v, h => by
  rw [List.set_cons_succ, Cf, Cf, <- R4 l i x v (by simpa using h), show (i + 1) * 8 + 2 = (i * 8 + 2) + 8 by omega]
  simp [PcQ.row, Be]
def lwM (by_ : Rat) (c : List PcQ) (i : Nat) : List PcQ := (c.take i).map (Cr by_) ++ c.drop i
theorem A1x (by_ : Rat) (c : List PcQ) (i : Nat) (x : PcQ) (h : c[i]? = some x) : (lwM by_ c i)[i]? = some x := by
 have := (List.getElem?_eq_some_iff.1 h).1
 rw [lwM, List.getElem?_append_right (by simp;omega), List.getElem?_drop, List.length_map, List.length_take, show i + (i - min i c.length) = i by omega, h]
theorem Aay (by_ : Rat) (c : List PcQ) (i : Nat) (h : i <= c.length) : (lwM by_ c i).length = c.length := by
 rw [lwM, List.length_append, List.length_map, List.length_take, List.length_drop];omega
theorem Aca (by_ : Rat) (c : List PcQ) (i : Nat) (x : PcQ) (h : c[i]? = some x) : (lwM by_ c i).set i (Cr by_ x) = lwM by_ c (i + 1) := by
 have hi := (List.getElem?_eq_some_iff.1 h).1
 have hl : ((c.take i).map (Cr by_)).length = i := by rw [List.length_map, List.length_take];omega
 rw [lwM, lwM, List.set_append_right _ _ (by omega), hl, Nat.sub_self, List.take_add_one, h]
 rw [List.drop_eq_getElem_cons hi, List.set_cons_zero]
 simp
set_option maxHeartbeats 16000000 in
theorem Qp (x y : List PcQ) (by_ : Rat) (hx : okC x) (hy : okC y) (hx0 : x ≠ []) (hy0 : y ≠ []) (hxn : x.length <= 200) (hyn : y.length <= 200) (hf : Fits by_)
  (hu : Fn0 Tryz.prog 95 [.sl (x.map PcQ.row)] (.b true)) (hv : Fn0 Tryz.prog 95 [.sl (y.map PcQ.row)] (.b true)) :
  Fn0 Tryz.prog 99 [.sl (x.map PcQ.row), .sl (y.map PcQ.row), A1 (frR by_)] (.tup [.sl ((lwL x y by_).map PcQ.row), .i (lwE x y by_)]) := by
 by_cases hj : Eg (· - ·) x y = 0
 ·obtain ⟨h2, hz⟩ := Mo hj
  have c1 := A9q x y hx hy hx0 hy0 hxn hyn hu hv hz h2
  have hS := A5c hj
  have hok := hS.ok hx hy
  have hcl : (sbL x y).length <= 200 := by have := hS.len;omega
  unfold lwL lwE
  rw [if_pos hj]
  change FnOwnT _ _ _ ((sbL x y).map PcQ.row) _ _ at c1
  generalize sbL x y = c at c1 hok hcl ⊢
  clear hu hv hz h2 hS hj
  have hle : (c.map PcQ.row).length = c.length := List.length_map _
  skip
  refine Fn0.of Tryz.func99 Tryz.ntmps99 rfl rfl rfl ?_
  simp only [A2]
  repeat' (first | refine W ?_|(apply S.callOwnT 1 c1;(iterate 6 exact rfl);exact M2 _)|(apply T.drawAll A0 (by decide +kernel))|(apply S.lenO;exact rfl;exact rfl;exact rfl) | refine V ?_|(refine W2 ?_ ?_ <;> intro hc))
  refine T.loopS (fun i => i <= c.length /\ ∀ p ∈ c.take i, Fits (p.a - by_)) (fun i => c.length - i) (fun i => [(22, .i i), (21, .i (c.map PcQ.row).length), (8, .own 1 0 (c.map PcQ.row).length 8), (5, .ptr 0 0)]) (fun i => [.live [.i by_.num, .i by_.den], .live (Bk (lwM by_ c i))]) 0 ⟨Nat.zero_le _, by simp⟩ CW (.live rfl (.live (D0 _ c) .nil)) ?_
  rintro i ⟨hi, hfi⟩
  by_cases hlt : (i : Int) < ((c.map PcQ.row).length : Nat)
  ·obtain ⟨p, hp⟩ : ∃ p, c[i]? = some p := ⟨c[i]'(by omega), List.getElem?_eq_getElem _⟩
   have hmem := List.mem_of_getElem? hp
   have hld := Ov _ i p (A1x by_ c i p hp)
   have hll := Aay by_ c i hi
   have cs := Gc p.a by_ (hok p hmem).a hf
   unfold Dt at cs
   by_cases hF : Fits (p.a - by_)
   ·rw [if_pos hF] at cs
    have hst := R4 _ i p (p.a - by_) (A1x by_ c i p hp)
    have hsm := Aca by_ c i p hp
    unfold Cr at hsm
    rw [hsm] at hst
    have hf' : ∀ q ∈ c.take (i + 1), Fits (q.a - by_) := fun q hq => by
     rw [List.take_add_one, hp] at hq
     rcases List.mem_append.1 hq with hq | hq
     ·exact hfi q hq
     ·obtain rfl : q = p := by simpa using hq
      exact hF
    repeat' (first | refine W ?_|refine Za ?_|refine Zc cs ?_|(apply S.indexL (o2 := i * 8);exact rfl;exact rfl;exact rfl;decide +kernel;exact rfl;omega;omega)|(apply S.loadL;exact rfl;exact rfl;exact rfl;decide +kernel;exact rfl)|(apply S.fieldL;exact rfl;exact rfl;decide +kernel;exact rfl)|(apply S.loadLO;exact rfl;exact rfl;exact rfl;decide +kernel;exact rfl;exact hld;(rw [Ci];omega))|(apply S.storeLW;(iterate 6 exact rfl);(rw [Ci];omega);exact rfl)|(apply T.drawN 1 16 A0 (by decide +kernel);simp only [td])|(apply T.drawRN 1 16 A0 (by decide +kernel);simp only [td])|(apply T.drawAll A0 (by decide +kernel)) | refine V ?_|(refine W2 ?_ ?_ <;> intro hc))
    change Next _ _ _ _ _ _
    exact Next.go (i + 1) ⟨by omega, hf'⟩ (by omega) (.cons (by rw [show (((i + 1 : Nat) : Int)) = (i : Int) + 1 by omega];rfl) rfl CW) (.live rfl (CovH.liveE hst (D0 _ _) .nil))
   ·rw [if_neg hF] at cs
    have hno : ¬ ∀ p ∈ c, Fits (p.a - by_) := fun h => hF (h p hmem)
    rw [if_neg hno, if_neg (show ¬ (5 : Int) = 0 by decide)]
    repeat' (first | refine W ?_|refine Za ?_|refine Zc cs ?_|(apply S.indexL (o2 := i * 8);exact rfl;exact rfl;exact rfl;decide +kernel;exact rfl;omega;omega)|(apply S.loadL;exact rfl;exact rfl;exact rfl;decide +kernel;exact rfl)|(apply S.fieldL;exact rfl;exact rfl;decide +kernel;exact rfl)|(apply S.loadLO;exact rfl;exact rfl;exact rfl;decide +kernel;exact rfl;exact hld;(rw [Ci];omega))|(apply S.storeLW;(iterate 6 exact rfl);(rw [Ci];omega);exact rfl)|(apply T.drawN 1 16 A0 (by decide +kernel);simp only [td])|(apply T.drawRN 1 16 A0 (by decide +kernel);simp only [td])|(apply T.drawAll A0 (by decide +kernel))|(refine T.nilU 6 rfl ?_;apply T.ret;change C7 _ _ _ _ _) | refine V ?_|(refine W2 ?_ ?_ <;> intro hc))
    all_goals exact D2 rfl rfl rfl
  ·obtain rfl : i = c.length := by omega
   rw [List.take_length] at hfi
   rw [if_pos hfi, if_pos rfl]
   have hfin : lwM by_ c c.length = c.map (Cr by_) := by rw [lwM, List.take_length, List.drop_length, List.append_nil]
   have hown := Pu (c.map (Cr by_))
   rw [List.length_map, <- hle] at hown
   rw [hfin]
   repeat' (first | refine W ?_|(refine T.freeze 8 rfl rfl hown ?_)|refine Za ?_ | refine V ?_|(refine W2 ?_ ?_ <;> intro hc))
   exact D2 rfl rfl rfl
 ·have c1 := Abp x y hx hy hx0 hy0 hxn hyn hu hv
  have hl : lwE x y by_ = Eg (· - ·) x y := if_neg hj
  unfold lwL
  rw [hl, if_neg hj]
  generalize Eg (· - ·) x y = e at *
  generalize Wp (· - ·) x y = l at *
  refine Fn0.of Tryz.func99 Tryz.ntmps99 rfl rfl rfl ?_
  simp only [A2]
  repeat' (first | refine W ?_|refine Zc c1 ?_|(apply T.drawAll A0 (by decide +kernel))|(refine T.nilU 6 rfl ?_;apply T.ret;change C7 _ _ _ _ _) | refine V ?_|(refine W2 ?_ ?_ <;> intro hc))
  all_goals exact D2 rfl rfl rfl
end Go.Proofs.YtcbfnkgodiaiiaaGreat
