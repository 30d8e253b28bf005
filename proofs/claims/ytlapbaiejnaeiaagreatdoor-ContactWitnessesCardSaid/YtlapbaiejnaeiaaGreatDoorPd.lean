/- Lemmas of the proof. -/
import Derived.Test.YtlapbaiejnaeiaaGreatDoorMj
import Derived.Test.YtlapbaiejnaeiaaGreatDoorPc
import Derived.Test.YtlapbaiejnaeiaaGreatDoorNn
set_option linter.all false
set_option maxHeartbeats 64000000
namespace Go.Proofs.YtlapbaiejnaeiaaGreatDoor
open Go Go.RowKit
def a8a := @Tryz.ntmps118
def a8n := @Tryz.func118
theorem p4c {P : Program} {N : Nat} {c : Code} {Q : Exit -> St -> Prop} {tm : Tm} {H : AH} (q b : Nat) {n st : Nat} {rows : List (List Lf)} (hr : ∀ r ∈ rows, r.length = st) (hn : rows.length = n) (ht : tm.get q = some (rT b st n)) (hb : H.at b = rB (rows.flatten.map .lf) n) (h : T P N c ⟨(q, .sl rows) :: tm, H.put b .dead⟩ Q) : T P N c ⟨tm, H⟩ Q := by
 subst hn
 cases rows with
 | nil => exact p0z q ht (T.kill b h (by rw [hb];rfl))
 | cons r rows => exact T.freeze q ht hb (OwnRows.of _ hr rfl) h
theorem A02 {α : Type} (l : List α) (R : α -> List Lf) (p : α -> Prop) [DecidablePred p] (g : FuncId) (caps : List AV) (hR : ∀ x, (R x).length = 2) (hl : l.length <= 9223372036854775807) (hcaps : caps.all p1p = true) (hg : ∀ x ∈ l, Fn0 Tryz.prog g (.agg ((R x).map .lf) :: caps) (.b (decide (p x)))) :
  Fn0 Tryz.prog 247 [.sl (l.map R), .fn (.func g) [] caps] (.i (idx p l)) := by
 refine Fn0.of Tryz.func247 Tryz.ntmps247 rfl rfl rfl ?_
 simp only [A2]
 repeat' (first
  | refine W ?_

  | refine V ?_
  | (refine W2 ?_ ?_<;>intro hc))
 refine p0d (fun k => k <= l.length /\ ∀ x ∈ l.take k, ¬ p x) (fun k => l.length - k) (fun k => [(8, .i k), (7, .i (l.map R).length), (0, .sl (l.map R)), (1, .fn (.func g) [] caps)]) (fun _ => []) 0 ⟨a0o _, by simp⟩ (.cons rfl rfl (.cons rfl rfl (.cons rfl rfl (.cons rfl (Bg hcaps) .nil)))) .nil ?_
 rintro k ⟨hk, hno⟩
 have hle : (l.map R).length = l.length := a0a _
 by_cases hlt : k < l.length
 ·have h1 : (k : Int) < ((l.map R).length : Nat) := by omega
  obtain ⟨x, hx⟩ : ∃ x, l[k]? = some x := ⟨l[k], a0b hlt⟩
  have hb : (l.map R)[((k : Nat) : Int).toNat]? = some (R x) := by rw [a0v, a0e, hx];rfl
  have hx2 := hg x (a0c hx)
  repeat' (first|refine W ?_|(apply S.indexR;(iterate 3 exact rfl);exact hb;omega;exact hR x)|(apply p0k;(iterate 3 exact rfl);exact hR x)|(apply S.callF;exact rfl;exact rfl;exact hx2;exact F7 hcaps;exact rfl)|refine Za ?_|refine V ?_|(refine W2 ?_ ?_<;>intro hc))
  all_goals first
   | exact Next.go (k + 1) ⟨by omega, by rw [a0x, hx];intro y hy;rcases a0u.1 hy with hy | hy;exact hno y hy;obtain rfl : y = x := (by simpa using hy);assumption⟩ (by omega) (.cons rfl rfl (.cons rfl rfl (.cons rfl rfl (.cons rfl (Bg hcaps) .nil)))) .nil
   | exact A4 (by simp) Tryz.results247 rfl (by rw [G7 hx hno (by assumption)])
 ·have h1 : ¬ (k : Int) < ((l.map R).length : Nat) := by omega
  repeat' (first
   | refine W ?_

   | refine V ?_
   | (refine W2 ?_ ?_<;>intro hc))
  exact A4 (by simp) Tryz.results247 rfl (by rw [E1 (by rw [a0h (by omega)] at hno;exact hno)])
theorem A01 (l : List Int) (p : Int -> Prop) [DecidablePred p] (g : FuncId) (hl : l.length <= 9223372036854775807) (hg : ∀ x, Fn0 Tryz.prog g [.i x] (.b (decide (p x)))) :
  Fn0 Tryz.prog 222 [.sl (l.map A3), .fn (.func g) [] []] (.i (idx p l)) := by
 refine Fn0.of Tryz.func222 Tryz.ntmps222 rfl rfl rfl ?_
 simp only [A2]
 repeat' (first
  | refine W ?_

  | refine V ?_
  | (refine W2 ?_ ?_<;>intro hc))
 refine p0d (fun k => k <= l.length /\ ∀ x ∈ l.take k, ¬ p x) (fun k => l.length - k) (fun k => [(8, .i k), (7, .i (l.map A3).length), (0, .sl (l.map A3)), (1, .fn (.func g) [] [])]) (fun _ => []) 0 ⟨a0o _, by simp⟩ CW .nil ?_
 rintro k ⟨hk, hno⟩
 have hle : (l.map A3).length = l.length := a0a _
 by_cases hlt : k < l.length
 ·have h1 : (k : Int) < ((l.map A3).length : Nat) := by omega
  obtain ⟨x, hx⟩ : ∃ x, l[k]? = some x := ⟨l[k], a0b hlt⟩
  have hb : (l.map A3)[((k : Nat) : Int).toNat]? = some (A3 x) := by rw [a0v, a0e, hx];rfl
  have hx2 := hg x
  repeat' (first|refine W ?_|(apply S.indexR;(iterate 3 exact rfl);exact hb;omega;exact rfl)|(apply S.callF;exact rfl;exact rfl;exact hx2;exact rfl;exact rfl)|refine Za ?_|refine V ?_|(refine W2 ?_ ?_<;>intro hc))
  all_goals first
   | exact Next.go (k + 1) ⟨by omega, by rw [a0x, hx];intro y hy;rcases a0u.1 hy with hy | hy;exact hno y hy;obtain rfl : y = x := (by simpa using hy);assumption⟩ (by omega) CW .nil
   | exact A4 (by simp) Tryz.results222 rfl (by rw [G7 hx hno (by assumption)])
 ·have h1 : ¬ (k : Int) < ((l.map A3).length : Nat) := by omega
  repeat' (first
   | refine W ?_

   | refine V ?_
   | (refine W2 ?_ ?_<;>intro hc))
  exact A4 (by simp) Tryz.results222 rfl (by rw [E1 (by rw [a0h (by omega)] at hno;exact hno)])
theorem L2 (l : List Int) (p : Int -> Prop) [DecidablePred p] (g : FuncId) (hl : l.length <= 9223372036854775807) (hg : ∀ x, Fn0 Tryz.prog g [.i x] (.b (decide (p x)))) :
  Fn0 Tryz.prog 166 [.sl (l.map A3), .fn (.func g) [] []] (.b (decide (∃ x ∈ l, p x))) := by
 refine Fn0.of Tryz.func166 Tryz.ntmps166 rfl rfl rfl ?_
 simp only [A2]
 repeat' (first|refine W ?_|refine Zc (A01 l p g hl hg) ?_|refine V ?_|(refine W2 ?_ ?_<;>intro hc))
 all_goals exact A4 (by simp) Tryz.results166 rfl (by rw [Jl p l])
theorem Tt {α : Type} (l : List α) (R : α -> List Lf) (p : α -> Prop) [DecidablePred p] (g : FuncId) (caps : List AV) (hR : ∀ x, (R x).length = 2) (hl : l.length <= 9223372036854775807) (hcaps : caps.all p1p = true) (hg : ∀ x ∈ l, Fn0 Tryz.prog g (.agg ((R x).map .lf) :: caps) (.b (decide (p x)))) :
  Fn0 Tryz.prog 220 [.sl (l.map R), .fn (.func g) [] caps] (.b (decide (∃ x ∈ l, p x))) := by
 refine Fn0.of Tryz.func220 Tryz.ntmps220 rfl rfl rfl ?_
 simp only [A2]
 repeat' (first|refine W ?_|(apply S.call;exact rfl;exact Ou hcaps;exact A02 l R p g caps hR hl hcaps hg;exact rfl)|refine V ?_|(refine W2 ?_ ?_<;>intro hc))
 all_goals exact A4 (by simp) Tryz.results220 rfl (by rw [Jl p l])
theorem A03 (n : ByteArray) (q : CueR) : Fn0 Tryz.prog 225 [A1 q.row, .rop [.s n]] (.b (decide (q.name = n))) := by
 refine Fn0.of Tryz.func225 Tryz.ntmps225 rfl rfl rfl ?_
 simp only [A2]
 repeat' (first
  | refine W ?_

  | refine V ?_
  | (refine W2 ?_ ?_<;>intro hc))
 all_goals exact A4 (by simp) Tryz.results225 rfl (by rfl)
theorem Ft (c : SheetR) (n : ByteArray) (hs : c.cues.length <= 9223372036854775807) : Fn0 Tryz.prog 168 [A1 c.row, .s n] (.i (Cd c.cues n)) := by
 have hc : Fn0 Tryz.prog 224 [.sl (c.cues.map CueR.row), .fn (.func 225) [] [.rop [.s n]]] (.i (Cd c.cues n)) :=
  Np c.cues CueR.row (fun q => q.name = n) _ _ (fun _ => rfl) hs rfl fun q _ => A03 n q
 refine Fn0.of Tryz.func168 Tryz.ntmps168 rfl rfl rfl ?_
 simp only [A2]
 repeat' (first|refine W ?_|(apply S.callV;exact rfl;exact hc;exact .cons (.one (.lf _)) (.cons (.fn (.cons (.ptr0 (cs := [.s n]) rfl) .nil)) .nil);exact rfl;exact rfl)|refine V ?_|(refine W2 ?_ ?_<;>intro hc))
 all_goals exact A4 (by simp) Tryz.results168 rfl (by rfl)
theorem Si (n : Int) : Fn0 Tryz.prog 165 [.i n] (.b (decide (0 <= n /\ n <= 2147483648))) := by
 refine Fn0.of Tryz.func165 Tryz.ntmps165 rfl rfl rfl ?_
 simp only [A2]
 repeat' (first
  | refine W ?_

  | refine V ?_
  | (refine W2 ?_ ?_<;>intro hc))
 all_goals exact A4 (by simp) Tryz.results165 rfl (by simp [*])
theorem Qb (n : Int) : Fn0 Tryz.prog 164 [.i n] (.b (decide (Fk n))) := by
 have c1 := Si n
 refine Fn0.of Tryz.func164 Tryz.ntmps164 rfl rfl rfl ?_
 simp only [A2]
 repeat' (first|refine W ?_|refine Zc c1 ?_|refine V ?_|(refine W2 ?_ ?_<;>intro hc))
 all_goals exact A4 (by simp) Tryz.results164 rfl (by simp [Fk])
def Lm (c : SheetR) (p : ByteArray × ByteArray) : Prop := p.1 = p.2 \/ Cd c.cues p.1 < 0 \/ Cd c.cues p.2 < 0
instance (c : SheetR) (p : ByteArray × ByteArray) : Decidable (Lm c p) := by unfold Lm;exact inferInstance
theorem Y2 (c : SheetR) (p : ByteArray × ByteArray) (hs : c.cues.length <= 9223372036854775807) : Fn0 Tryz.prog 221 [.agg ((Ac p).map .lf), .rop c.row] (.b (decide (Lm c p))) := by
 have c1 := Ft c p.1 hs
 have c2 := Ft c p.2 hs
 refine Fn0.of Tryz.func221 Tryz.ntmps221 rfl rfl rfl ?_
 simp only [A2]
 repeat' (first|refine W ?_|refine Zc c1 ?_|refine Zc c2 ?_|(apply S.idxAP;(iterate 4 exact rfl);exact ⟨by decide, by decide⟩;exact rfl)|refine V ?_|(refine W2 ?_ ?_<;>intro hc))
 all_goals exact A4 (by simp) Tryz.results221 rfl (congrArg Value.bool (by simp only [Lm];simp [*]))
theorem Y4 (h : HouseR) (c : SheetR) (v : validP h c) (hc : c.fits) : Fn0 Tryz.prog 163 [A1 c.row] (.b true) := by
 obtain ⟨hc1, hc2, _⟩ := hc
 have lk := v.lk
 have h60 := v.2.1
 obtain ⟨hp1, hp2⟩ := v.2.2.2
 have hle : (c.cues.map CueR.row).length = c.cues.length := a0a _
 have hle2 : (c.apart.map Ac).length = c.apart.length := a0a _
 have hno : ¬ ∃ x ∈ c.apart, Lm c x := by
  rintro ⟨x, hx, hb⟩
  obtain ⟨i, hi⟩ := a2y hx
  obtain ⟨⟨g1, g2⟩, g3, _⟩ := hp2 i x hi
  rcases hb with hb | hb | hb
  ·exact g3 hb
  ·omega
  ·omega
 have hcf : Fn0 Tryz.prog 220 [.sl (c.apart.map Ac), .fn (.func 221) [] [.rop c.row]] (.b (decide (∃ x ∈ c.apart, Lm c x))) :=
  Tt c.apart Ac (Lm c) _ _ (fun _ => rfl) hc2 rfl fun p _ => Y2 c p hc1
 rw [decide_eq_false hno] at hcf
 refine Fn0.of Tryz.func163 Tryz.ntmps163 rfl rfl rfl ?_
 simp only [A2]
 repeat' (first
  | refine W ?_

  | refine V ?_
  | (refine W2 ?_ ?_<;>intro hc))
 all_goals first
  | (exfalso;omega)
  | skip
 refine p0d (fun k => k <= c.cues.length) (fun k => c.cues.length - k) (fun k => [(19, .i k), (18, .i (c.cues.map CueR.row).length), (17, .sl (c.cues.map CueR.row)), (1, .ptr 0 0)]) (fun _ => [.live (c.row.map .lf)]) 0 (a0o _) CW (.live rfl .nil) ?_
 intro k hk
 by_cases hlt : k < c.cues.length
 ·have h1 : (k : Int) < ((c.cues.map CueR.row).length : Nat) := by omega
  obtain ⟨q, hq⟩ := Aa hlt
  have hb := Ab (R := CueR.row) hq
  obtain ⟨q1, q2, q3, q4, q5, q6⟩ := lk k q hq
  have ci := Cs q.name
  have cf := Ft c q.name hc1
  have ct := Si q.delay
  have ca := Ft c q.after hc1
  rw [q1] at ci
  rw [q2] at cf
  rw [decide_eq_true q3] at ct
  repeat' (first|refine W ?_|(apply S.indexR;(iterate 3 exact rfl);exact hb;omega;exact rfl)|refine Zc ci ?_|refine Zc cf ?_|refine Zc ct ?_|refine Zc ca ?_|refine Za ?_|refine V ?_|(refine W2 ?_ ?_<;>intro hc))
  all_goals (try change Next _ _ _ _ _ _)
  all_goals first
   | exact Next.go (k + 1) (by omega) (by omega) CW (.live rfl .nil)
   | (exfalso;first | contradiction | omega|(have := q6 (by assumption);omega)|(have := q5 (by assumption);contradiction)|(have := q6 (by omega);omega))
 ·have h1 : ¬ (k : Int) < ((c.cues.map CueR.row).length : Nat) := by omega
  repeat' (first|refine W ?_|(apply S.callV;exact rfl;exact hcf;exact .cons (.one (.lf _)) (.cons (.fn (.cons (.ptr0 (cs := c.row) rfl) .nil)) .nil);exact rfl;exact rfl)|refine V ?_|(refine W2 ?_ ?_<;>intro hc))
  all_goals exact A4 (by simp) Tryz.results163 rfl rfl
theorem A5k {l : List CueR} {k : Nat} {q : CueR} (hq : l[k]? = some q) : (hgL l)[k]? = some (hgI l q) := by
 unfold hgL
 rw [a0e, hq];rfl
theorem Y3 (c : SheetR) (h60 : c.cues.length <= 60) : Fn0 Tryz.prog 223 [A1 c.row] (.sl ((hgL c.cues).map A3)) := by
 have hle : (c.cues.map CueR.row).length = c.cues.length := a0a _
 have hgl : (hgL c.cues).length = c.cues.length := by unfold hgL;rw [a0a]
 refine Fn0.of Tryz.func223 Tryz.ntmps223 rfl rfl rfl ?_
 simp only [A2]
 repeat' (first
  | refine W ?_

  | refine V ?_
  | (refine W2 ?_ ?_<;>intro hc))
 refine T.kill 1 ?_
 refine p0d (fun k => k <= c.cues.length) (fun k => c.cues.length - k) (fun k => [(10, .i k), (9, .i (c.cues.map CueR.row).length), (8, .sl (c.cues.map CueR.row)), (3, rT 1 1 k), (1, .ptr 0 0)]) (fun k => [.live (c.row.map .lf), rB (Ad ((hgL c.cues).take k)) k]) 0 (a0o _) CW CG ?_
 intro k hk
 by_cases hlt : k < c.cues.length
 ·have h1 : (k : Int) < ((c.cues.map CueR.row).length : Nat) := by omega
  obtain ⟨q, hq⟩ := Aa hlt
  have hb := Ab (R := CueR.row) hq
  have ca := Ft c q.after (by omega)
  have hS : Ad ((hgL c.cues).take (k + 1)) = Ad ((hgL c.cues).take k) ++ ([A3 (hgI c.cues q)].flatten).map AV.lf := by rw [B8 (A5k hq)];simp [Ad]
  cases k with
  | zero =>
   repeat' (first|refine W ?_|(apply S.indexR;(iterate 3 exact rfl);exact hb;omega;exact rfl)|refine Zc ca ?_|(apply p0c;(iterate 7 exact rfl))|(apply p0u 1 (rows := []);(iterate 8 exact rfl);exact Af rfl;exact rfl;exact a0d rfl;exact a0d rfl)|refine Za ?_|refine V ?_|(refine W2 ?_ ?_<;>intro hc))
   all_goals (try change Next _ _ _ _ _ _)
   all_goals exact Next.go 1 (by omega) (by omega) CW (by
    show CovH _ _ [_, .live (Ad ((hgL c.cues).take (0 + 1)))]
    rw [hS]
    first
     | (rw [show hgI c.cues q = -1 from if_pos (by first | assumption|(apply a2l.1;assumption) | omega)];exact .live rfl (.live rfl .nil))
     | (rw [show hgI c.cues q = Cd c.cues q.after from if_neg (by first | assumption|(apply a2l.1;assumption) | omega)];exact .live rfl (.live rfl .nil)))
  | succ k =>
   have hcl : (Ad ((hgL c.cues).take (k + 1))).length = (k + 1) * 1 := by rw [Ds, a0t];omega
   repeat' (first|refine W ?_|(apply S.indexR;(iterate 3 exact rfl);exact hb;omega;exact rfl)|refine Zc ca ?_|(apply p0c;(iterate 7 exact rfl))|(apply p0p;(iterate 8 exact rfl);exact hcl;exact Af rfl;exact rfl;exact B6 _ _;simp only [a0i, a0n];omega;simp only [a0i, a0n];omega)|refine Za ?_|refine V ?_|(refine W2 ?_ ?_<;>intro hc))
   all_goals (try change Next _ _ _ _ _ _)
   all_goals exact Next.go (k + 2) (by omega) (by omega) CW (by
    show CovH _ _ [_, .live (Ad ((hgL c.cues).take (k + 1 + 1)))]
    rw [hS]
    first
     | (rw [show hgI c.cues q = -1 from if_pos (by first | assumption|(apply a2l.1;assumption) | omega)];exact .live rfl (.live (by rw [<- a1u];exact Aj _ _) .nil))
     | (rw [show hgI c.cues q = Cd c.cues q.after from if_neg (by first | assumption|(apply a2l.1;assumption) | omega)];exact .live rfl (.live (by rw [<- a1u];exact Aj _ _) .nil)))
 ·have h1 : ¬ (k : Int) < ((c.cues.map CueR.row).length : Nat) := by omega
  have ht : (hgL c.cues).take k = hgL c.cues := a0h (by omega)
  rw [ht]
  refine p4c 3 1 (rows := (hgL c.cues).map A3) (D0 _) (by rw [a0a];omega) rfl rfl ?_
  repeat' (first
   | refine W ?_

   | refine V ?_
   | (refine W2 ?_ ?_<;>intro hc))
  exact H6 (by simp) Tryz.results223 rfl (.one (.one (.lf _)))
/-! ### Own slices of Booleans and of integers -/
abbrev bA (l : List Bool) : List AV := l.map fun b => .val (.bool b)
abbrev iA (l : List Int) : List AV := l.map fun x => .val (.int .i64 x)
theorem A24 {l : List Bool} {i : Nat} {b : Bool} (h : l[i]? = some b) : (bA l)[i]? = some (.val (.bool b)) := by rw [a0e, h];rfl
theorem Aaq {l : List Int} {i : Nat} {x : Int} (h : l[i]? = some x) : (iA l)[i]? = some (.val (.int .i64 x)) := by rw [a0e, h];rfl
theorem A8v (l : List Int) : iA l = Ad l := by
 induction l with
 | nil => rfl
 | cons x l ih =>
  show _ :: iA l = _
  rw [ih];rfl
theorem Adi (l : List Int) : OwnRows (iA l) 0 l.length 1 (l.map A3) := by
 have := OwnRows.of (l.map A3).flatten (D0 l) rfl
 rw [a0a] at this
 rw [A8v]
 exact this
theorem Gl (n : Nat) (l : List Bool) : (bA l).all (AV.under n) = true := by
 rw [a0k]
 intro x hx
 obtain ⟨_, _, rfl⟩ := a1b.1 hx
 rfl
theorem Gp (n : Nat) (l : List Int) : (iA l).all (AV.under n) = true := by
 rw [a0k]
 intro x hx
 obtain ⟨_, _, rfl⟩ := a1b.1 hx
 rfl
section
variable {P : Program} {N : Nat} {ops : Array Oper} {m : Option Nat} {K : Tm -> AH -> Prop} {tm tm' : Tm} {H : AH} {rest : List Oper} {ty : TypeId} {pos : String} {af : Array Edge} {d : Nat} {t e : TypeId} {x y : Operand}
theorem p2o {b j : Nat} {v : Bool} {l : List Bool} [hi : HasS P t 1] (hx : evT tm x = some (.ptr b j)) (hy : evT tm y = some (.val (.bool v))) (hb : H.at b = .live (bA l)) (hl : j < l.length) (h : Reg none P N ops rest tm (H.put b (.live (bA (l.set j v)))) K) : Reg none P N ops (⟨none, .store t x y, ty, pos, af, none⟩ :: rest) tm H K := by
 refine p2a (r := .val (.bool v)) hx hy hb rfl rfl rfl (by rw [a0a];exact hl) ?_
 rw [show (AV.val (.bool v)).cells = [.val (.bool v)] from rfl, Mm, show (bA l).set j (.val (.bool v)) = bA (l.set j v) by rw [bA, bA, b1m]]
 exact h
theorem p3c {b j : Nat} {v : Int} {l : List Int} [hi : HasS P t 1] (hx : evT tm x = some (.ptr b j)) (hy : evT tm y = some (.val (.int .i64 v))) (hb : H.at b = .live (iA l)) (hl : j < l.length) (h : Reg none P N ops rest tm (H.put b (.live (iA (l.set j v)))) K) : Reg none P N ops (⟨none, .store t x y, ty, pos, af, none⟩ :: rest) tm H K := by
 refine p2a (r := .val (.int .i64 v)) hx hy hb rfl rfl rfl (by rw [a0a];exact hl) ?_
 rw [show (AV.val (.int .i64 v)).cells = [.val (.int .i64 v)] from rfl, Mm, show (iA l).set j (.val (.int .i64 v)) = iA (l.set j v) by rw [iA, iA, b1m]]
 exact h
end
def upL (n : Nat) : List Int := List.map (fun i : Nat => (i : Int)) (List.range n)
theorem Zf (n : Nat) : upL (n + 1) = upL n ++ [(n : Int)] := by simp [upL, a6y]
theorem Pm (n : Nat) : (upL n).length = n := by simp [upL]
theorem Adr {n k : Nat} (h : k < n) : (upL n)[k]? = some (k : Int) := by
 unfold upL
 rw [a0e, a3c h];rfl
theorem A7y (b : Nat) (l : List Bool) : (bA l).all (AV.clear b) = true := by
 rw [a0k]
 intro x hx
 obtain ⟨_, _, rfl⟩ := a1b.1 hx
 rfl
theorem Rx (X : List Lf) (l : List Bool) (Y : HB) (hY : AH.clear 2 2 [Y] = true) : AH.clear 2 0 [.live (X.map .lf), .live (bA l), Y] = true := by
 simp only [AH.clear, HB.clear, B6, A7y, b1j, a7w] at hY ⊢
theorem A04 (c : SheetR) (lk : LkP c.cues) (h60 : c.cues.length <= 60) : Fn0 Tryz.prog 167 [A1 c.row] (.sl ((upL c.cues.length).map A3)) := by
 have cb := Y3 c h60
 have hlen : ((hgL c.cues).map A3).length = c.cues.length := by rw [a0a, hgL, a0a]
 have hhg : ∀ i q, c.cues[i]? = some q -> ((hgL c.cues).map A3)[i]? = some (A3 (hgI c.cues q)) := fun i q hq => by rw [a0e, A5k hq];rfl
 have hd0 : List.replicate ((hgL c.cues).map A3).length (AV.val (.bool false)) = bA (Hu c.cues.length 0) := by rw [hlen];simp [Hu, bA]
 refine Fn0.of Tryz.func167 Tryz.ntmps167 rfl rfl rfl ?_
 simp only [A2]
 repeat' (first|refine W ?_|refine Zc cb ?_|(apply p3k (n := ((hgL c.cues).map A3).length);(iterate 3 exact rfl);omega;exact rfl;exact rfl)|refine V ?_|(refine W2 ?_ ?_<;>intro hc))
 rw [hd0]
 generalize (hgL c.cues).map A3 = hg at *
 refine T.kill 2 ?_
 refine p0d (fun k => k <= c.cues.length) (fun k => c.cues.length + 1 - k) (fun k => [(3, .sl hg), (4, .own 1 0 hg.length 1), (5, rT 2 1 k)]) (fun k => [.live (c.row.map .lf), .live (bA (Hu c.cues.length k)), rB (Ad (upL k)) k]) 0 (a0o _) CW (.live rfl (.live (Gl _ _) (.dead .nil))) ?_
 intro k hk
 repeat' (first
  | refine W ?_

  | refine V ?_
  | (refine W2 ?_ ?_<;>intro hc))
 refine p0d (fun i => i <= k) (fun i => k + 1 - i) (fun i => [(16, .i i), (15, .i hg.length), (14, .sl hg), (3, .sl hg), (4, .own 1 0 hg.length 1), (5, rT 2 1 k), (6, .i (-1))]) (fun _ => [.live (c.row.map .lf), .live (bA (Hu c.cues.length k)), rB (Ad (upL k)) k]) 0 (a0o _) (.cons rfl rfl (.cons rfl rfl (.cons rfl rfl (.cons rfl rfl (.cons rfl rfl (.cons rfl (Rd _ _ _ _ (a0l 3)) (.cons rfl rfl .nil))))))) (.live rfl (.live (Gl _ _) (p2h (Aj _ _) .nil _))) ?_
 intro i hi
 by_cases hik : i < k
 ·have h1 : (i : Int) < (hg.length : Nat) := by omega
  obtain ⟨q, hq⟩ := Aa (l := c.cues) (k := i) (by omega)
  have hb : hg[((i : Nat) : Int).toNat]? = some (A3 (hgI c.cues q)) := by rw [a0v];exact hhg i q hq
  have hd1 := A24 (Xf (n := c.cues.length) hik)
  repeat' (first|refine W ?_|(apply S.indexR;(iterate 3 exact rfl);exact hb;omega;exact rfl)|(apply S.indexO (o2 := i);(iterate 4 exact rfl);omega;omega)|(apply S.loadP;exact rfl;exact rfl;exact hd1;exact rfl)|refine Za ?_|refine V ?_|(refine W2 ?_ ?_<;>intro hc))
  all_goals (try change Next _ _ _ _ _ _)
  all_goals exact Next.go (i + 1) (by omega) (by omega) (.cons rfl rfl (.cons rfl rfl (.cons rfl rfl (.cons rfl rfl (.cons rfl rfl (.cons rfl (Rd _ _ _ _ (a0l 3)) (.cons rfl rfl .nil))))))) (.live rfl (.live (Gl _ _) (p2h (Aj _ _) .nil _)))
 ·obtain rfl : i = k := by omega
  by_cases hkn : i < c.cues.length
  ·have h1 : (i : Int) < (hg.length : Nat) := by omega
   obtain ⟨q, hq⟩ := Aa (l := c.cues) (k := i) hkn
   obtain ⟨_, _, _, _, _, q6⟩ := lk i q hq
   have hb : hg[((i : Nat) : Int).toNat]? = some (A3 (hgI c.cues q)) := by rw [a0v];exact hhg i q hq
   have hd1 := A24 (Ab3 (n := c.cues.length) hkn)
   have hdl := A8d (n := c.cues.length) (k := i) (by omega)
   by_cases hm : q.link = 1
   ·rw [show hgI c.cues q = -1 from if_pos hm] at hb
    have hni : ¬ (i : Int) < 0 := by omega
    have hneg : (-1 : Int) < 0 := by decide
    rcases a4j i with h0 | hpos
    ·try (exfalso;omega)
     all_goals rw [show rT 2 1 i = .val (.slice none 0 0) by rw [h0];rfl, show rB (Ad (upL i)) i = .dead by rw [h0];rfl]
     repeat' (first|refine W ?_|(apply S.indexR;(iterate 3 exact rfl);exact hb;omega;exact rfl)|(apply S.indexO (o2 := i);(iterate 4 exact rfl);omega;omega)|(apply S.loadP;exact rfl;exact rfl;exact hd1;exact rfl)|(apply p2o;(iterate 3 exact rfl);omega)|(apply p0c;(iterate 7 exact rfl))|(apply p0u 2 (rows := []);(iterate 4 exact rfl);exact Rx c.row _ .dead rfl;(iterate 3 exact rfl);exact Af rfl;exact rfl;exact a0d rfl;exact a0d rfl)|refine Za ?_|refine V ?_|(refine W2 ?_ ?_<;>intro hc))
     all_goals (try change Next _ _ _ _ _ _)
     all_goals exact Next.go (i + 1) (by omega) (by omega) (.cons rfl rfl (.cons rfl rfl (.cons (by rw [h0];rfl) rfl .nil))) (by rw [<- Lz hkn, h0];exact .live rfl (.live (Gl _ _) (.live rfl .nil)))
    ·rw [Jw hpos, Jv hpos]
     have hul : (Ad (upL i)).length = i * 1 := by rw [Ds, Pm, a5w]
     have hus : Ad (upL (i + 1)) = Ad (upL i) ++ ([A3 (i : Int)].flatten).map AV.lf := by rw [Zf];simp [Ad]
     repeat' (first|refine W ?_|(apply S.indexR;(iterate 3 exact rfl);exact hb;omega;exact rfl)|(apply S.indexO (o2 := i);(iterate 4 exact rfl);omega;omega)|(apply S.loadP;exact rfl;exact rfl;exact hd1;exact rfl)|(apply p2o;(iterate 3 exact rfl);omega)|(apply p0c;(iterate 7 exact rfl))|(apply p0p;(iterate 4 exact rfl);exact Rx c.row _ (.live _) rfl;(iterate 3 exact rfl);exact hul;exact Af rfl;exact rfl;exact B6 _ _;simp only [a0i, a0n];omega;simp only [a0i, a0n];omega)|refine Za ?_|refine V ?_|(refine W2 ?_ ?_<;>intro hc))
     all_goals (try change Next _ _ _ _ _ _)
     all_goals exact Next.go (i + 1) (by omega) (by omega) CW (by rw [<- Lz hkn];show CovH _ _ [_, _, .live (Ad (upL (i + 1)))];rw [hus];exact .live rfl (.live (Gl _ _) (.live (by rw [<- a1u];exact Aj _ _) .nil)))
   ·obtain ⟨a1, a2⟩ := q6 hm
    rw [show hgI c.cues q = _ from (if_neg hm).trans a1] at hb
    have hd2 := A24 (Xf (n := c.cues.length) a2)
    have hnn : ¬ (F0 c.cues q : Int) < 0 := by omega
    generalize F0 c.cues q = z at *
    have hni : ¬ (i : Int) < 0 := by omega
    have hneg : (-1 : Int) < 0 := by decide
    rcases a4j i with h0 | hpos
    ·try (exfalso;omega)
     all_goals rw [show rT 2 1 i = .val (.slice none 0 0) by rw [h0];rfl, show rB (Ad (upL i)) i = .dead by rw [h0];rfl]
     repeat' (first|refine W ?_|(apply S.indexR;(iterate 3 exact rfl);exact hb;omega;exact rfl)|(apply S.indexO (o2 := z);(iterate 4 exact rfl);omega;omega)|(apply S.indexO (o2 := i);(iterate 4 exact rfl);omega;omega)|(apply S.loadP;exact rfl;exact rfl;exact hd1;exact rfl)|(apply S.loadP;exact rfl;exact rfl;exact hd2;exact rfl)|(apply p2o;(iterate 3 exact rfl);omega)|(apply p0c;(iterate 7 exact rfl))|(apply p0u 2 (rows := []);(iterate 4 exact rfl);exact Rx c.row _ .dead rfl;(iterate 3 exact rfl);exact Af rfl;exact rfl;exact a0d rfl;exact a0d rfl)|refine Za ?_|refine V ?_|(refine W2 ?_ ?_<;>intro hc))
     all_goals (try change Next _ _ _ _ _ _)
     all_goals exact Next.go (i + 1) (by omega) (by omega) (.cons rfl rfl (.cons rfl rfl (.cons (by rw [h0];rfl) rfl .nil))) (by rw [<- Lz hkn, h0];exact .live rfl (.live (Gl _ _) (.live rfl .nil)))
    ·rw [Jw hpos, Jv hpos]
     have hul : (Ad (upL i)).length = i * 1 := by rw [Ds, Pm, a5w]
     have hus : Ad (upL (i + 1)) = Ad (upL i) ++ ([A3 (i : Int)].flatten).map AV.lf := by rw [Zf];simp [Ad]
     repeat' (first|refine W ?_|(apply S.indexR;(iterate 3 exact rfl);exact hb;omega;exact rfl)|(apply S.indexO (o2 := z);(iterate 4 exact rfl);omega;omega)|(apply S.indexO (o2 := i);(iterate 4 exact rfl);omega;omega)|(apply S.loadP;exact rfl;exact rfl;exact hd1;exact rfl)|(apply S.loadP;exact rfl;exact rfl;exact hd2;exact rfl)|(apply p2o;(iterate 3 exact rfl);omega)|(apply p0c;(iterate 7 exact rfl))|(apply p0p;(iterate 4 exact rfl);exact Rx c.row _ (.live _) rfl;(iterate 3 exact rfl);exact hul;exact Af rfl;exact rfl;exact B6 _ _;simp only [a0i, a0n];omega;simp only [a0i, a0n];omega)|refine Za ?_|refine V ?_|(refine W2 ?_ ?_<;>intro hc))
     all_goals (try change Next _ _ _ _ _ _)
     all_goals exact Next.go (i + 1) (by omega) (by omega) CW (by rw [<- Lz hkn];show CovH _ _ [_, _, .live (Ad (upL (i + 1)))];rw [hus];exact .live rfl (.live (Gl _ _) (.live (by rw [<- a1u];exact Aj _ _) .nil)))
  ·have h1 : ¬ (i : Int) < (hg.length : Nat) := by omega
   have hneg : (-1 : Int) < 0 := by decide
   obtain rfl : i = c.cues.length := by omega
   refine p4c 5 2 (rows := (upL c.cues.length).map A3) (D0 _) (by rw [a0a, Pm]) rfl rfl ?_
   repeat' (first
    | refine W ?_

    | refine V ?_
    | (refine W2 ?_ ?_<;>intro hc))
   exact H6 (by simp) Tryz.results167 rfl (.one (.one (.lf _)))
noncomputable def srL (l : List CueR) (L G : List Int) : List Int := if stE l L G = 0 then stK l L G l.length else []
theorem Y5 (h : HouseR) (c : SheetR) (v : validP h c) (hc : c.fits) (L G : List Int) (hL : L.length <= 1000) (hG : G.length <= 4611686018427387904) : Fn0 Tryz.prog 118 [A1 c.row, .sl (L.map A3), .sl (G.map A3)] (.tup [.sl ((srL c.cues L G).map A3), .i (stE c.cues L G)]) := by
 have cl := Y4 h c v hc
 have lk := v.lk
 have h60 : c.cues.length <= 60 := by have := v.2.1;omega
 have co := A04 c lk h60
 have hle : (c.cues.map CueR.row).length = c.cues.length := a0a _
 have hll : (L.map A3).length = L.length := a0a _
 have hlg : (G.map A3).length = G.length := a0a _
 have hlu : ((upL c.cues.length).map A3).length = c.cues.length := by rw [a0a, Pm]
 have w1 := L2 L Fk 164 (by omega) Qb
 have w2 := L2 G Fk 164 (by omega) Qb
 rw [show decide (∃ x ∈ L, Fk x) = decide (F1 L) from decide_eq_decide.2 Iff.rfl] at w1
 rw [show decide (∃ x ∈ G, Fk x) = decide (F1 G) from decide_eq_decide.2 Iff.rfl] at w2
 unfold srL stE
 by_cases e1 : L.length ≠ c.cues.length \/ G.length ≠ Bk c.cues
 ·rw [if_pos e1, if_neg (by decide)]
  skip
  refine Fn0.of a8n a8a rfl rfl rfl ?_
  simp only [A2]
  repeat' (first|refine W ?_|refine Zc cl ?_|refine V ?_|(refine W2 ?_ ?_<;>intro hc))
  refine p0d (fun k => k <= c.cues.length) (fun k => c.cues.length - k) (fun k => [(27, .i k), (26, .i (c.cues.map CueR.row).length), (25, .sl (c.cues.map CueR.row)), (8, .i (Bk (c.cues.take k))), (3, .ptr 0 0), (1, .sl (L.map A3)), (2, .sl (G.map A3))]) (fun _ => [.live (c.row.map .lf)]) 0 (a0o _) CW (.live rfl .nil) ?_
  intro k hk
  by_cases hlt : k < c.cues.length
  ·have h1 : (k : Int) < ((c.cues.map CueR.row).length : Nat) := by omega
   obtain ⟨q, hq⟩ := Aa hlt
   have hb := Ab (R := CueR.row) hq
   have hm60 : Bk (c.cues.take k) <= 60 := a1z (J7 _) (by rw [a0t];omega)
   repeat' (first|refine W ?_|(apply S.indexR;(iterate 3 exact rfl);exact hb;omega;exact rfl)|refine Za ?_|refine V ?_|(refine W2 ?_ ?_<;>intro hc))
   all_goals (try change Next _ _ _ _ _ _)
   all_goals first
    | exact Next.go (k + 1) (by omega) (by omega) (.cons rfl rfl (.cons rfl rfl (.cons rfl rfl (.cons (by rw [Gr hq (by assumption)];rfl) rfl CW)))) (.live rfl .nil)
    | exact Next.go (k + 1) (by omega) (by omega) (.cons rfl rfl (.cons rfl rfl (.cons rfl rfl (.cons (by rw [J8 hq (by assumption)];rfl) rfl CW)))) (.live rfl .nil)
  have h1 : ¬ (k : Int) < ((c.cues.map CueR.row).length : Nat) := by omega
  obtain rfl : k = c.cues.length := by omega
  rw [a1w]
  repeat' (first|refine W ?_|(refine p0z 6 rfl ?_;apply T.ret;change Bj _ _ _ _ _)|refine V ?_|(refine W2 ?_ ?_<;>intro hc))
  all_goals first
   | exact D2 rfl rfl rfl
   | (exfalso;omega)
   | skip
 ·rw [if_neg e1]
  by_cases e2 : F1 L \/ F1 G
  ·rw [if_pos e2, if_neg (by decide)]
   by_cases e3 : F1 L
   ·rw [decide_eq_true e3] at w1
    skip
    refine Fn0.of a8n a8a rfl rfl rfl ?_
    simp only [A2]
    repeat' (first|refine W ?_|refine Zc cl ?_|refine V ?_|(refine W2 ?_ ?_<;>intro hc))
    refine p0d (fun k => k <= c.cues.length) (fun k => c.cues.length - k) (fun k => [(27, .i k), (26, .i (c.cues.map CueR.row).length), (25, .sl (c.cues.map CueR.row)), (8, .i (Bk (c.cues.take k))), (3, .ptr 0 0), (1, .sl (L.map A3)), (2, .sl (G.map A3))]) (fun _ => [.live (c.row.map .lf)]) 0 (a0o _) CW (.live rfl .nil) ?_
    intro k hk
    by_cases hlt : k < c.cues.length
    ·have h1 : (k : Int) < ((c.cues.map CueR.row).length : Nat) := by omega
     obtain ⟨q, hq⟩ := Aa hlt
     have hb := Ab (R := CueR.row) hq
     have hm60 : Bk (c.cues.take k) <= 60 := a1z (J7 _) (by rw [a0t];omega)
     repeat' (first|refine W ?_|(apply S.indexR;(iterate 3 exact rfl);exact hb;omega;exact rfl)|refine Za ?_|refine V ?_|(refine W2 ?_ ?_<;>intro hc))
     all_goals (try change Next _ _ _ _ _ _)
     all_goals first
      | exact Next.go (k + 1) (by omega) (by omega) (.cons rfl rfl (.cons rfl rfl (.cons rfl rfl (.cons (by rw [Gr hq (by assumption)];rfl) rfl CW)))) (.live rfl .nil)
      | exact Next.go (k + 1) (by omega) (by omega) (.cons rfl rfl (.cons rfl rfl (.cons rfl rfl (.cons (by rw [J8 hq (by assumption)];rfl) rfl CW)))) (.live rfl .nil)
    have h1 : ¬ (k : Int) < ((c.cues.map CueR.row).length : Nat) := by omega
    obtain rfl : k = c.cues.length := by omega
    rw [a1w]
    repeat' (first|refine W ?_|refine Zc w1 ?_|(refine p0z 6 rfl ?_;apply T.ret;change Bj _ _ _ _ _)|refine V ?_|(refine W2 ?_ ?_<;>intro hc))
    all_goals first
     | exact D2 rfl rfl rfl
     | (exfalso;omega)
   ·rw [decide_eq_false e3] at w1
    rw [decide_eq_true (e2.resolve_left e3)] at w2
    skip
    refine Fn0.of a8n a8a rfl rfl rfl ?_
    simp only [A2]
    repeat' (first|refine W ?_|refine Zc cl ?_|refine V ?_|(refine W2 ?_ ?_<;>intro hc))
    refine p0d (fun k => k <= c.cues.length) (fun k => c.cues.length - k) (fun k => [(27, .i k), (26, .i (c.cues.map CueR.row).length), (25, .sl (c.cues.map CueR.row)), (8, .i (Bk (c.cues.take k))), (3, .ptr 0 0), (1, .sl (L.map A3)), (2, .sl (G.map A3))]) (fun _ => [.live (c.row.map .lf)]) 0 (a0o _) CW (.live rfl .nil) ?_
    intro k hk
    by_cases hlt : k < c.cues.length
    ·have h1 : (k : Int) < ((c.cues.map CueR.row).length : Nat) := by omega
     obtain ⟨q, hq⟩ := Aa hlt
     have hb := Ab (R := CueR.row) hq
     have hm60 : Bk (c.cues.take k) <= 60 := a1z (J7 _) (by rw [a0t];omega)
     repeat' (first|refine W ?_|(apply S.indexR;(iterate 3 exact rfl);exact hb;omega;exact rfl)|refine Za ?_|refine V ?_|(refine W2 ?_ ?_<;>intro hc))
     all_goals (try change Next _ _ _ _ _ _)
     all_goals first
      | exact Next.go (k + 1) (by omega) (by omega) (.cons rfl rfl (.cons rfl rfl (.cons rfl rfl (.cons (by rw [Gr hq (by assumption)];rfl) rfl CW)))) (.live rfl .nil)
      | exact Next.go (k + 1) (by omega) (by omega) (.cons rfl rfl (.cons rfl rfl (.cons rfl rfl (.cons (by rw [J8 hq (by assumption)];rfl) rfl CW)))) (.live rfl .nil)
    have h1 : ¬ (k : Int) < ((c.cues.map CueR.row).length : Nat) := by omega
    obtain rfl : k = c.cues.length := by omega
    rw [a1w]
    repeat' (first|refine W ?_|refine Zc w1 ?_|refine Zc w2 ?_|(refine p0z 6 rfl ?_;apply T.ret;change Bj _ _ _ _ _)|refine V ?_|(refine W2 ?_ ?_<;>intro hc))
    all_goals first
     | exact D2 rfl rfl rfl
     | (exfalso;omega)
  ·rw [if_neg e2, if_pos rfl]
   have e3 : ¬ F1 L := fun k => e2 (.inl k)
   have e4 : ¬ F1 G := fun k => e2 (.inr k)
   rw [decide_eq_false e3] at w1
   rw [decide_eq_false e4] at w2
   have g1 : ((L.map A3).length : Int) = ((c.cues.map CueR.row).length : Nat) := by omega
   have g2 : ((G.map A3).length : Int) = (Bk c.cues : Nat) := by omega
   have g3 : ¬ (((upL c.cues.length).map A3).length : Int) < ((c.cues.map CueR.row).length : Nat) := by omega
   have n1 : ¬ ¬ ((L.map A3).length : Int) = ((c.cues.map CueR.row).length : Nat) := fun k => k g1
   have n2 : ¬ ¬ ((G.map A3).length : Int) = (Bk c.cues : Nat) := fun k => k g2
   by_cases e5 : c.cues.length = 0
   ·have hs0 : stK c.cues L G c.cues.length = [] := by rw [e5];rfl
    rw [hs0]
    have z0 : (((upL c.cues.length).map A3).length : Int) = 0 := by omega
    skip
    refine Fn0.of a8n a8a rfl rfl rfl ?_
    simp only [A2]
    repeat' (first|refine W ?_|refine Zc cl ?_|refine V ?_|(refine W2 ?_ ?_<;>intro hc))
    refine p0d (fun k => k <= c.cues.length) (fun k => c.cues.length - k) (fun k => [(27, .i k), (26, .i (c.cues.map CueR.row).length), (25, .sl (c.cues.map CueR.row)), (8, .i (Bk (c.cues.take k))), (3, .ptr 0 0), (1, .sl (L.map A3)), (2, .sl (G.map A3))]) (fun _ => [.live (c.row.map .lf)]) 0 (a0o _) CW (.live rfl .nil) ?_
    intro k hk
    by_cases hlt : k < c.cues.length
    ·have h1 : (k : Int) < ((c.cues.map CueR.row).length : Nat) := by omega
     obtain ⟨q, hq⟩ := Aa hlt
     have hb := Ab (R := CueR.row) hq
     have hm60 : Bk (c.cues.take k) <= 60 := a1z (J7 _) (by rw [a0t];omega)
     repeat' (first|refine W ?_|(apply S.indexR;(iterate 3 exact rfl);exact hb;omega;exact rfl)|refine Za ?_|refine V ?_|(refine W2 ?_ ?_<;>intro hc))
     all_goals (try change Next _ _ _ _ _ _)
     all_goals first
      | exact Next.go (k + 1) (by omega) (by omega) (.cons rfl rfl (.cons rfl rfl (.cons rfl rfl (.cons (by rw [Gr hq (by assumption)];rfl) rfl CW)))) (.live rfl .nil)
      | exact Next.go (k + 1) (by omega) (by omega) (.cons rfl rfl (.cons rfl rfl (.cons rfl rfl (.cons (by rw [J8 hq (by assumption)];rfl) rfl CW)))) (.live rfl .nil)
    have h1 : ¬ (k : Int) < ((c.cues.map CueR.row).length : Nat) := by omega
    obtain rfl : k = c.cues.length := by omega
    rw [a1w]
    repeat' (first|refine W ?_|refine Zc w1 ?_|refine Zc w2 ?_|refine Zc co ?_|(refine p0z 6 rfl ?_;apply T.ret;change Bj _ _ _ _ _)|refine V ?_|(refine W2 ?_ ?_<;>intro hc))
    all_goals exact D2 rfl rfl rfl
   ·have z0 : ¬ (((upL c.cues.length).map A3).length : Int) = 0 := by omega
    have hrep : List.replicate ((upL c.cues.length).map A3).length (AV.val (.int .i64 0)) = iA (Gn c.cues G 0) := by
     rw [hlu];simp [Gn, fsK, iA]
    skip
    refine Fn0.of a8n a8a rfl rfl rfl ?_
    simp only [A2]
    repeat' (first|refine W ?_|refine Zc cl ?_|refine V ?_|(refine W2 ?_ ?_<;>intro hc))
    refine p0d (fun k => k <= c.cues.length) (fun k => c.cues.length - k) (fun k => [(27, .i k), (26, .i (c.cues.map CueR.row).length), (25, .sl (c.cues.map CueR.row)), (8, .i (Bk (c.cues.take k))), (3, .ptr 0 0), (1, .sl (L.map A3)), (2, .sl (G.map A3))]) (fun _ => [.live (c.row.map .lf)]) 0 (a0o _) CW (.live rfl .nil) ?_
    intro k hk
    by_cases hlt : k < c.cues.length
    ·have h1 : (k : Int) < ((c.cues.map CueR.row).length : Nat) := by omega
     obtain ⟨q, hq⟩ := Aa hlt
     have hb := Ab (R := CueR.row) hq
     have hm60 : Bk (c.cues.take k) <= 60 := a1z (J7 _) (by rw [a0t];omega)
     repeat' (first|refine W ?_|(apply S.indexR;(iterate 3 exact rfl);exact hb;omega;exact rfl)|refine Za ?_|refine V ?_|(refine W2 ?_ ?_<;>intro hc))
     all_goals (try change Next _ _ _ _ _ _)
     all_goals first
      | exact Next.go (k + 1) (by omega) (by omega) (.cons rfl rfl (.cons rfl rfl (.cons rfl rfl (.cons (by rw [Gr hq (by assumption)];rfl) rfl CW)))) (.live rfl .nil)
      | exact Next.go (k + 1) (by omega) (by omega) (.cons rfl rfl (.cons rfl rfl (.cons rfl rfl (.cons (by rw [J8 hq (by assumption)];rfl) rfl CW)))) (.live rfl .nil)
    have h1 : ¬ (k : Int) < ((c.cues.map CueR.row).length : Nat) := by omega
    obtain rfl : k = c.cues.length := by omega
    rw [a1w]
    repeat' (first|refine W ?_|refine Zc w1 ?_|refine Zc w2 ?_|refine Zc co ?_|(apply p3k (n := ((upL c.cues.length).map A3).length);(iterate 3 exact rfl);omega;exact rfl;exact rfl)|refine V ?_|(refine W2 ?_ ?_<;>intro hc))
    rw [hrep]
    refine p0d (fun k => k <= c.cues.length) (fun k => c.cues.length - k) (fun k => [(76, .i k), (75, .i (c.cues.map CueR.row).length), (74, .sl (c.cues.map CueR.row)), (13, .own 1 0 ((upL c.cues.length).map A3).length 1), (12, .sl ((upL c.cues.length).map A3)), (3, .ptr 0 0), (1, .sl (L.map A3)), (2, .sl (G.map A3)), (14, .i (Bk (c.cues.take k)))]) (fun k => [.live (c.row.map .lf), .live (iA (Gn c.cues G k))]) 0 (a0o _) CW (.live rfl (.live (Gp _ _) .nil)) ?_
    intro k hk
    by_cases hlt : k < c.cues.length
    ·have h1 : (k : Int) < ((c.cues.map CueR.row).length : Nat) := by omega
     obtain ⟨q, hq⟩ := Aa hlt
     have hb := Ab (R := CueR.row) hq
     have hfl := A8l c.cues G hk
     obtain ⟨_, _, q3, _, _, _⟩ := lk k q hq
     by_cases hm : q.link = 1
     ·have hml := Abi hq hm
      have hmg : Bk (c.cues.take k) < G.length := by omega
      have hml60 : Bk c.cues <= 60 := a1z (J7 _) h60
      obtain ⟨g, hg⟩ := Aa hmg
      have hbg := Ab (R := A3) hg
      have hgD : G.getD (Bk (c.cues.take k)) 0 = g := by rw [a0p, hg];rfl
      have hgr := Hb e4 (Bk (c.cues.take k))
      rw [hgD] at hgr
      have hset := A8m (G := G) hq hm
      rw [hgD] at hset
      have hmy := Gr hq hm
      generalize Bk (c.cues.take k) = mk at *
      repeat' (first|refine W ?_|(apply S.indexR;(iterate 3 exact rfl);exact hb;omega;exact rfl)|(apply S.indexR;(iterate 3 exact rfl);exact hbg;omega;exact rfl)|(apply p0e 10 A0 (by decide +kernel);simp only [td])|(apply p0f 10 A0 (by decide +kernel);simp only [td])|(apply S.indexO (o2 := k);(iterate 4 exact rfl);omega;omega)|(apply p3c;(iterate 3 exact rfl);first|omega|(rw [a6a];omega))|refine Za ?_|refine V ?_|(refine W2 ?_ ?_<;>intro hc))
      all_goals (try change Next _ _ _ _ _ _)
      all_goals exact Next.go (k + 1) (by omega) (by omega) (.cons rfl rfl (.cons rfl rfl (.cons rfl rfl (.cons rfl rfl (.cons rfl rfl (.cons rfl rfl (.cons rfl rfl (.cons rfl rfl (.cons (by rw [hmy];rfl) rfl .nil))))))))) (by rw [<- hset];exact .live rfl (.live (Gp _ _) .nil))
     ·repeat' (first|refine W ?_|(apply S.indexR;(iterate 3 exact rfl);exact hb;omega;exact rfl)|refine Za ?_|refine V ?_|(refine W2 ?_ ?_<;>intro hc))
      all_goals (try change Next _ _ _ _ _ _)
      all_goals exact Next.go (k + 1) (by omega) (by omega) (.cons rfl rfl (.cons rfl rfl (.cons rfl rfl (.cons rfl rfl (.cons rfl rfl (.cons rfl rfl (.cons rfl rfl (.cons rfl rfl (.cons (by rw [J8 hq hm];rfl) rfl .nil))))))))) (by rw [Ab8 hq hm];exact .live rfl (.live (Gp _ _) .nil))
    have h1 : ¬ (k : Int) < ((c.cues.map CueR.row).length : Nat) := by omega
    obtain rfl : k = c.cues.length := by omega
    rw [A5f c.cues L G]
    repeat' (first
     | refine W ?_

     | refine V ?_
     | (refine W2 ?_ ?_<;>intro hc))
    refine p0d (fun k => k <= c.cues.length) (fun k => c.cues.length - k) (fun k => [(99, .i k), (98, .i ((upL c.cues.length).map A3).length), (97, .sl ((upL c.cues.length).map A3)), (13, .own 1 0 ((upL c.cues.length).map A3).length 1), (3, .ptr 0 0), (1, .sl (L.map A3))]) (fun k => [.live (c.row.map .lf), .live (iA (E7 c.cues L G k))]) 0 (a0o _) CW (.live rfl (.live (Gp _ _) .nil)) ?_
    intro k hk
    by_cases hlt : k < c.cues.length
    ·have h1 : (k : Int) < (((upL c.cues.length).map A3).length : Nat) := by omega
     obtain ⟨q, hq⟩ := Aa hlt
     have hb := Ab (R := CueR.row) hq
     have hbu := Ab (R := A3) (Adr hlt)
     have hfl := A98 c.cues L G hk
     obtain ⟨_, _, q3, _, _, q6⟩ := lk k q hq
     by_cases hm : q.link = 1
     ·repeat' (first|refine W ?_|(apply S.indexR;(iterate 3 exact rfl);exact hbu;omega;exact rfl)|(apply S.indexR;(iterate 3 exact rfl);exact hb;omega;exact rfl)|refine Za ?_|refine V ?_|(refine W2 ?_ ?_<;>intro hc))
      all_goals (try change Next _ _ _ _ _ _)
      all_goals exact Next.go (k + 1) (by omega) (by omega) CW (by rw [A99 hq hm];exact .live rfl (.live (Gp _ _) .nil))
     ·obtain ⟨a1, a2⟩ := q6 hm
      have ca := Ft c q.after (by omega)
      rw [a1] at ca
      have hS := Aaq (Abj (l := c.cues) (L := L) (G := G) a2)
      have hbd := Oc lk e3 e4 k _ a2
      have hset := A9a c.cues L G hlt
      have hLr := Hb e3 (F0 c.cues q)
      obtain ⟨lz, hlz⟩ := Aa (l := L) (k := F0 c.cues q) (by omega)
      have hbl := Ab (R := A3) hlz
      have hLD : L.getD (F0 c.cues q) 0 = lz := by rw [a0p, hlz];rfl
      rw [hLD] at hLr
      have hk60 : (k : Int) * 4294967296 <= 60 * 4294967296 := by omega
      by_cases hf : q.link = 2
      ·have hv : stV c.cues L G (stK c.cues L G k) k = (stK c.cues L G k).getD (F0 c.cues q) 0 + q.delay + lz := by unfold stV;rw [hq];simp only [hm, hf, if_false, if_true, hLD];rfl
       rw [hv] at hset
       generalize (stK c.cues L G k).getD (F0 c.cues q) 0 = s0 at *
       generalize F0 c.cues q = z at *
       have hS2 := Aaq (a4e (l := E7 c.cues L G k) (i := k) (a := s0 + q.delay) (by omega))
       repeat' (first|refine W ?_|(apply S.indexR;(iterate 3 exact rfl);exact hbu;omega;exact rfl)|(apply S.indexR;(iterate 3 exact rfl);exact hb;omega;exact rfl)|(apply S.indexR;(iterate 3 exact rfl);exact hbl;omega;exact rfl)|refine Zc ca ?_|(apply p0e 10 A0 (by decide +kernel);simp only [td])|(apply p0f 10 A0 (by decide +kernel);simp only [td])|(apply S.indexO (o2 := z);(iterate 4 exact rfl);omega;omega)|(apply S.indexO (o2 := k);(iterate 4 exact rfl);omega;omega)|(apply S.loadP;exact rfl;exact rfl;exact hS;exact rfl)|(apply S.loadP;exact rfl;exact rfl;exact hS2;exact rfl)|(apply p3c;(iterate 3 exact rfl);first|omega|(rw [a6a];omega))|refine Za ?_|refine V ?_|(refine W2 ?_ ?_<;>intro hc))
       all_goals (try change Next _ _ _ _ _ _)
       all_goals exact Next.go (k + 1) (by omega) (by omega) CW (by rw [show E7 c.cues L G (k + 1) = ((E7 c.cues L G k).set k (s0 + q.delay)).set k (s0 + q.delay + lz) by rw [List.set_set, hset]];exact .live rfl (.live (Gp _ _) .nil))
      ·have hv : stV c.cues L G (stK c.cues L G k) k = (stK c.cues L G k).getD (F0 c.cues q) 0 + q.delay := by unfold stV;rw [hq];simp only [hm, hf, if_false]
       rw [hv] at hset
       generalize (stK c.cues L G k).getD (F0 c.cues q) 0 = s0 at *
       generalize F0 c.cues q = z at *
       repeat' (first|refine W ?_|(apply S.indexR;(iterate 3 exact rfl);exact hbu;omega;exact rfl)|(apply S.indexR;(iterate 3 exact rfl);exact hb;omega;exact rfl)|refine Zc ca ?_|(apply p0e 10 A0 (by decide +kernel);simp only [td])|(apply p0f 10 A0 (by decide +kernel);simp only [td])|(apply S.indexO (o2 := z);(iterate 4 exact rfl);omega;omega)|(apply S.indexO (o2 := k);(iterate 4 exact rfl);omega;omega)|(apply S.loadP;exact rfl;exact rfl;exact hS;exact rfl)|(apply p3c;(iterate 3 exact rfl);first|omega|(rw [a6a];omega))|refine Za ?_|refine V ?_|(refine W2 ?_ ?_<;>intro hc))
       all_goals (try change Next _ _ _ _ _ _)
       all_goals exact Next.go (k + 1) (by omega) (by omega) CW (by rw [<- hset];exact .live rfl (.live (Gp _ _) .nil))
    have h1 : ¬ (k : Int) < (((upL c.cues.length).map A3).length : Nat) := by omega
    obtain rfl : k = c.cues.length := by omega
    rw [A5x c.cues L G]
    have hown : OwnRows (iA (stK c.cues L G c.cues.length)) 0 ((upL c.cues.length).map A3).length 1 ((stK c.cues L G c.cues.length).map A3) := by
     have := Adi (stK c.cues L G c.cues.length)
     rw [Dp] at this
     rw [hlu]
     exact this
    refine T.freeze 13 rfl rfl hown ?_
    repeat' (first
     | refine W ?_

     | refine V ?_
     | (refine W2 ?_ ?_<;>intro hc))
    exact D2 rfl rfl rfl
end Go.Proofs.YtlapbaiejnaeiaaGreatDoor
