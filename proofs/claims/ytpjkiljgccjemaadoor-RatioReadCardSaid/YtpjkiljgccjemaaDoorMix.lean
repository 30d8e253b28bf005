/- A region that draws its order: reads and calls that only make memory come first, then allocations, then stores in a forced order: one walk serves every order. Plain theory over any program; conditions: the Bool over the region. -/
import Derived.Lib.QuietBelow
import Derived.StillTail
import Derived.OneCell
namespace Go.Proofs.YtpjkiljgccjemaaDoor
set_option linter.unusedVariables false
open Go Go.Sort Go.RowKit

/-- Nothing that was there has turned. -/
def Tr (w w' : World) : Prop := Below w.heap.size w w'
theorem Tr.refl (w : World) : Tr w w := Below.refl _ _
theorem Tr.trans {a b c : World} (h : Tr a b) (k : Tr b c) : Tr a c := Below.trans h (Below.mono k (Below.size h))
theorem Tr.alloc (w : World) (o : Obj) : Tr w (w.alloc o) := (Below.refl _ _).alloc (Nat.le_refl _) o
theorem Tr.drew (w : World) : Tr w { w with drawn := w.drawn + 1 } := (Below.refl _ w).drew
/-- The class of worlds in the form that the walk sees through. -/
def Cl (w : World) : World → Prop := fun w' => ∃ p : Regrown, w' = grow (redrawn w p.d) p.os
theorem Cl.tr {w w' : World} (h : Cl w w') : Tr w w' := by obtain ⟨p, rfl⟩ := h; exact below_regrown w p.d p.os
theorem Tr.cl {w w' : World} (h : Tr w w') : Cl w w' := regrown_of_below h

section
variable {P : Program} {ops : Array Oper} {md : Region.Mode}

/-! ### One outcome -/
def stopFrame (P : Program) : Frame := { fn := P.funcs.size, tmps := #[], todo := [], defers := [], mode := .returning, kind := .report }
theorem stop_step (w : World) : ∃ o w', step P (lone (stopFrame P) [] w) = .ended o w' := by
  refine ⟨_, _, step_lone_ended (by simp [stepG, unwind, stopFrame, doReturn]; exact ⟨rfl, rfl⟩)⟩
theorem runN_add (n m : Nat) (x y : Machine) (h : runN P n x = .next y) : runN P (n + m) x = runN P m y := by
  induction n generalizing x with
  | zero => simp [runN] at h; subst h; simp
  | succ n ih =>
    rw [show n + 1 + m = (n + m) + 1 by omega]
    simp only [runN] at h ⊢
    cases hs : step P x <;> simp [hs] at h ⊢
    exact ih _ h
theorem calls_unique {f : FuncId} {args : Array Value} {w : World} {R R' : World → Prop} {v v' : Value}
    (h : Calls P f args w fun e w' => e = .returned v ∧ R w') (h' : Calls P f args w fun e w' => e = .returned v' ∧ R' w') : v = v' := by
  obtain ⟨e, w1, fr, ⟨rfl, _⟩, hc, _, hl⟩ := h [stopFrame P]
  obtain ⟨e', w2, fr', ⟨rfl, _⟩, hc', _, hl'⟩ := h' [stopFrame P]
  obtain ⟨n, hn⟩ := hc
  obtain ⟨n', hn'⟩ := hc'
  have key : ∀ (n n' : Nat) (fr fr' : Frame) (w1 w2 : World) (v : Value), fr.leaving P w1 (.returned v) → n ≤ n' →
      runN P n (lone (Frame.enter P f args .normal) [stopFrame P] w) = .next (lone fr [stopFrame P] w1) → runN P n' (lone (Frame.enter P f args .normal) [stopFrame P] w) = .next (lone fr' [stopFrame P] w2) →
      fr = fr' ∧ w1 = w2 := by
    intro n n' fr fr' w1 w2 v hl hle h1 h2
    obtain ⟨d, rfl⟩ := Nat.exists_eq_add_of_le hle
    rw [runN_add _ d _ _ h1] at h2
    have s1 : step P (lone fr [stopFrame P] w1) = .next (lone (stopFrame P) [] w1) := step_leave_returned hl
    match d, h2 with
    | 0, h2 =>
      simp only [runN, lone] at h2
      injection h2 with h2
      injection h2 with hw hg
      simp at hg
      exact ⟨hg, hw⟩
    | 1, h2 =>
      simp only [runN, s1] at h2
      injection h2 with h2
      injection h2 with hw hg
      simp at hg
    | d + 2, h2 =>
      obtain ⟨o, w', he⟩ := stop_step (P := P) w1
      simp [runN, s1, he] at h2
  have hfr : fr = fr' ∧ w1 = w2 := by
    rcases Nat.le_total n n' with hle | hle
    · exact key n n' fr fr' w1 w2 v hl hle hn hn'
    · obtain ⟨a, b⟩ := key n' n fr' fr w2 w1 v' hl' hle hn' hn
      exact ⟨a.symm, b.symm⟩
  obtain ⟨rfl, rfl⟩ := hfr
  obtain ⟨_, _, _, fn, hf, hr⟩ := hl
  obtain ⟨_, _, _, fn', hf', hr'⟩ := hl'
  rw [hf] at hf'
  obtain rfl := Option.some.inj hf'
  rw [hr] at hr'
  injection hr'

theorem quietAt_unique {o : Oper} {a : Act} {C C' : World → Prop} {w : World} {v v' : Value} (h : o.quietAt P a C w v) (h' : o.quietAt P a C' w v') : v = v' := by
  unfold Oper.quietAt at h h'
  generalize (execOp a.eval o).run P w = r at *
  cases r with
  | ok n w' =>
    cases n <;> simp only [Oper.quietUpon] at h h'
    case value u => rw [← h.2, ← h'.2]
    case skip => rw [h.2, h'.2]
    case enter f args => exact calls_unique h.2 h'.2
  | halt x w' => simp only [Oper.quietUpon] at h

/-! ### The quiet head, in every world that is reached -/
/-- In every world reached from w the operation yields v and leaves a world reached from the one that it got. -/
def YF (P : Program) (ops : Array Oper) (o : Oper) (v : Value) (a : Act) (w : World) : Prop :=
  (Region.wanted o (yielded ops a.tmps) = true ∧ ∀ w1, Tr w w1 → o.quietAt P a (Tr w1) w1 v) ∨ (Region.wanted o (yielded ops a.tmps) = false ∧ v = undef)
theorem YF.later {o : Oper} {v : Value} {a : Act} {w w' : World} (h : YF P ops o v a w) (ht : Tr w w') : YF P ops o v a w' :=
  h.imp (fun ⟨x, y⟩ => ⟨x, fun w1 h1 => y w1 (ht.trans h1)⟩) id
theorem quietAt_cl {o : Oper} {a : Act} {w w1 : World} {v : Value} (h : o.quietAt P a (Cl w) w1 v) : o.quietAt P a (Tr w) w1 v := by
  unfold Oper.quietAt at *
  generalize (execOp a.eval o).run P w1 = r at *
  cases r with
  | ok n w' =>
    cases n <;> simp only [Oper.quietUpon] at h ⊢ <;> first | exact h | exact ⟨h.1, h.2.mono fun _ _ hh => ⟨hh.1, hh.2.tr⟩⟩
  | halt x w' => simp only [Oper.quietUpon] at h
theorem family_step {Q : Act → Prop} {o : Oper} {rest : List Oper} {a : Act} {w : World} (h : ∀ w1, Tr w w1 → wpQuiet P ops (Cl w1) Q (o :: rest) a) :
    ∃ v, YF P ops o v a w ∧ ∀ w1, Tr w w1 → wpQuiet P ops (Cl w1) Q rest (a.put o.dst v) := by
  by_cases hw : Region.wanted o (yielded ops a.tmps) = true
  · have h' : ∀ w1, Tr w w1 → o.quiet P a (Cl w1) (wpQuiet P ops (Cl w1) Q rest) := fun w1 h1 => by
      have := h w1 h1
      simp only [wpQuiet, hw, if_true] at this
      exact this
    obtain ⟨v, hv, _⟩ := h' w (Tr.refl w)
    have e : ∀ w1, Tr w w1 → o.quietAt P a (Cl w1) w1 v ∧ wpQuiet P ops (Cl w1) Q rest (a.put o.dst v) := fun w1 h1 => by
      obtain ⟨v1, hv1, hn1⟩ := h' w1 h1
      have := quietAt_unique (hv w1 h1.cl) (hv1 w1 (Tr.refl w1).cl)
      subst this
      exact ⟨hv1 w1 (Tr.refl w1).cl, hn1⟩
    exact ⟨v, .inl ⟨hw, fun w1 h1 => quietAt_cl (e w1 h1).1⟩, fun w1 h1 => (e w1 h1).2⟩
  · have hw' : Region.wanted o (yielded ops a.tmps) = false := by simpa using hw
    refine ⟨undef, .inr ⟨hw', rfl⟩, fun w1 h1 => ?_⟩
    have := h w1 h1
    simp only [wpQuiet, hw', Bool.false_eq_true, if_false] at this
    exact this

/-! ### One operation that does not panic -/
def nUpon (P : Program) (o : Oper) (a : Act) (K : Act → World → Prop) : Result Next → Prop
  | .ok (.value v) w' => K (a.put o.dst v) w'
  | .ok .skip w' => K (a.put o.dst undef) w'
  | .ok (.enter f args) w' => Calls P f args w' fun e w'' => ∃ v, e = .returned v ∧ K (a.put o.dst v) w''
  | _ => False
def wpN (P : Program) (ops : Array Oper) (i : Nat) (K : Act → World → Prop) (a : Act) (w : World) : Prop :=
  match ops[i]? with
  | none => False
  | some o => if Region.wanted o (yielded ops a.tmps) then nUpon P o a K ((execOp a.eval o).run P w) else K (a.put o.dst undef) w
theorem nUpon_mono {o : Oper} {a : Act} {K K' : Act → World → Prop} (h : ∀ v w, K (a.put o.dst v) w → K' (a.put o.dst v) w) {r : Result Next} (hh : nUpon P o a K r) : nUpon P o a K' r := by
  cases r with
  | ok n w' =>
    cases n <;> simp only [nUpon] at hh ⊢ <;> first | exact h _ _ hh | exact hh.mono fun _ _ ⟨v, he, hk⟩ => ⟨v, he, h _ _ hk⟩
  | halt x w' => simp only [nUpon] at hh
theorem wpN_mono {i : Nat} {a : Act} {w : World} {K K' : Act → World → Prop} (h : ∀ o v w, ops[i]? = some o → K (a.put o.dst v) w → K' (a.put o.dst v) w) (hh : wpN P ops i K a w) : wpN P ops i K' a w := by
  unfold wpN at *
  split
  · rename_i ho; simp only [ho] at hh
  · rename_i o ho
    simp only [ho] at hh
    split
    · rename_i hw; simp only [hw, if_true] at hh; exact nUpon_mono (fun v w => h o v w ho) hh
    · rename_i hw; simp only [hw] at hh; exact h o _ _ ho hh
theorem wpOp_of_wpN {i : Nat} {a : Act} {w : World} {K : Act → World → Prop} {Q : Exit → Act → World → Prop} (hh : wpN P ops i K a w) : wpOp P ops Q i K a w := by
  unfold wpN at hh
  unfold wpOp
  split
  · rename_i ho; simp only [ho] at hh
  · rename_i o ho
    simp only [ho] at hh
    split
    · rename_i hw
      simp only [hw, if_true] at hh
      refine .inl ?_
      unfold Oper.wp
      generalize (execOp a.eval o).run P w = r at *
      cases r with
      | ok n w' =>
        cases n <;> simp only [nUpon] at hh <;> simp only [Oper.upon] <;> first | exact hh | exact hh.mono fun _ _ ⟨v, he, hk⟩ => by subst he; exact hk
      | halt x w' => simp only [nUpon] at hh
    · rename_i hw; simp only [hw] at hh; exact hh
/-- Operation j, apart from oi: whether oi's value is already in its temporary makes no difference to it. -/
theorem wpN_put {j : Nat} {oi oj : Oper} {v : Value} (hj : ops[j]? = some oj) (hap : oi.apart ops oj = true) (hsj : ∀ cs b, oj.op ≠ .select cs b) {K : Act → World → Prop} {a : Act} {w : World}
    (h : wpN P ops j K (a.put oi.dst v) w) : wpN P ops j (fun a1 w1 => K (a1.put oi.dst v) w1) a w := by
  obtain ⟨h1, h2, h3⟩ := Oper.apart_spec hap
  unfold wpN at *
  simp only [hj] at *
  rw [wanted_put oj a oi.dst v h1] at h
  split
  · rename_i hw
    simp only [hw, if_true] at h
    rw [execOp_put oj hsj a oi.dst v h1] at h
    generalize (execOp a.eval oj).run P w = r at *
    cases r with
    | ok n w' =>
      cases n <;> simp only [nUpon] at h ⊢
      case value u => rw [← Act.put_comm a v u h2]; exact h
      case skip => rw [← Act.put_comm a v undef h2]; exact h
      case enter f args => exact h.mono fun _ _ ⟨u, he, hk⟩ => ⟨u, he, by rw [← Act.put_comm a v u h2]; exact hk⟩
    | halt x w' => simp only [nUpon] at h
  · rename_i hw
    simp only [hw] at h
    rw [← Act.put_comm a v undef h2]; exact h
theorem YF.put {oi oj : Oper} {v : Value} (hap : oi.apart ops oj = true) (hsi : ∀ cs b, oi.op ≠ .select cs b) {a : Act} {w : World} (hy : YF P ops oi v a w) (u : Value) : YF P ops oi v (a.put oj.dst u) w := by
  obtain ⟨h1, h2, h3⟩ := Oper.apart_spec hap
  unfold YF Oper.quietAt at *
  rw [execOp_put oi hsi a oj.dst u h3, wanted_put oi a oj.dst u h3]
  exact hy
theorem YF.wpN {i : Nat} {o : Oper} {v : Value} {a : Act} {w : World} (hi : ops[i]? = some o) (hy : YF P ops o v a w) {K : Act → World → Prop} (h : ∀ w1, Tr w w1 → K (a.put o.dst v) w1) : wpN P ops i K a w := by
  unfold Go.Proofs.YtpjkiljgccjemaaDoor.wpN
  simp only [hi]
  rcases hy with ⟨hw, hv⟩ | ⟨hw, rfl⟩
  · simp only [hw, if_true]
    have := hv w (Tr.refl w)
    unfold Oper.quietAt at this
    generalize (execOp a.eval o).run P w = r at *
    cases r with
    | ok n w' =>
      cases n <;> simp only [Oper.quietUpon] at this <;> simp only [nUpon]
      case value u => obtain ⟨rfl, rfl⟩ := this; exact h _ (Tr.refl _)
      case skip => obtain ⟨rfl, rfl⟩ := this; exact h _ (Tr.refl _)
      case enter f args =>
        obtain ⟨rfl, hc⟩ := this
        exact hc.mono fun _ _ ⟨he, ht⟩ => ⟨v, he, h _ ht⟩
    | halt x w' => simp only [Oper.quietUpon] at this
  · simp only [hw, Bool.false_eq_true, if_false]; exact h _ (Tr.refl _)

/-! ### Whatever order; as long as one of the first m operations has not come up, the world may grow in between -/
def Opn (m : Nat) (listed : Array Bool) : Prop := ∃ k, k < m ∧ listed.getD k true = false
def wpT (P : Program) (md : Region.Mode) (ops : Array Oper) (Q : Exit → Act → World → Prop) (m : Nat) : Nat → Array Bool → Act → World → Prop
  | 0, listed, a, w => ∀ w', Tr w w' → wpAny P md ops Q 0 listed a w'
  | f + 1, listed, a, w =>
    (¬ Opn m listed → ∀ w', Tr w w' → wpAny P md ops Q (f + 1) listed a w') ∧
    (Opn m listed → ∀ w', Tr w w' → Region.ready md ops listed ≠ [] ∧ ∀ i ∈ Region.ready md ops listed, wpN P ops i (fun a1 w1 => Tr w' w1 ∧ wpT P md ops Q m f (listed.setIfInBounds i true) a1 w1) a w')
theorem wpT_later {Q : Exit → Act → World → Prop} {m f : Nat} {listed : Array Bool} {a : Act} {w w' : World} (h : wpT P md ops Q m f listed a w) (ht : Tr w w') : wpT P md ops Q m f listed a w' := by
  cases f with
  | zero => exact fun w1 h1 => h w1 (ht.trans h1)
  | succ f => exact ⟨fun ho w1 h1 => h.1 ho w1 (ht.trans h1), fun ho w1 h1 => h.2 ho w1 (ht.trans h1)⟩
theorem wpAny_of_wpT {Q : Exit → Act → World → Prop} {m : Nat} : ∀ (f : Nat) (listed : Array Bool) (a : Act) (w : World), wpT P md ops Q m f listed a w → wpAny P md ops Q f listed a w
  | 0, _, _, w, h => h w (Tr.refl w)
  | f + 1, listed, a, w, h => by
    by_cases ho : Opn m listed
    · obtain ⟨hne, hall⟩ := h.2 ho w (Tr.refl w)
      exact ⟨fun h0 => absurd h0 hne, fun i hi => wpOp_of_wpN (wpN_mono (fun o v w1 _ hk => wpAny_of_wpT f _ _ _ hk.2) (hall i hi))⟩
    · exact h.1 ho w (Tr.refl w)

theorem wpT_first {m i : Nat} {oi : Oper} {v : Value} {Q : Exit → Act → World → Prop} (hi : ops[i]? = some oi) (hsel : ∀ (j : Nat) (o : Oper) cs b, ops[j]? = some o → o.op ≠ .select cs b)
    (htail : ∀ listed, HeadInv md ops m listed → ∀ k, k < m → listed.getD k true = false → ∀ t, m ≤ t → t ∉ Region.ready md ops listed) (him : i < m) :
    ∀ (f : Nat) (listed : Array Bool) (a : Act) (w : World), HeadInv md ops m listed →
      (∀ j oj, ops[j]? = some oj → j ≠ i → listed.getD j true = false → (∀ e ∈ oj.after, Region.binds md e = true → e.on ≠ i) → oi.apart ops oj = true) →
      i ∈ Region.ready md ops listed → YF P ops oi v a w →
      wpT P md ops Q m f (listed.setIfInBounds i true) (a.put oi.dst v) w → wpT P md ops Q m (f + 1) listed a w := by
  intro f
  induction f with
  | zero =>
    intro listed a w inv _ hr hy H
    have hun := (mem_ready.1 hr).1
    refine ⟨fun ho => absurd ⟨i, him, hun⟩ ho, fun _ w' ht => ⟨fun h => (by rw [h] at hr; cases hr), fun j hj => ?_⟩⟩
    by_cases hji : j = i
    · subst hji
      exact YF.wpN hi (hy.later ht) fun w1 h1 => ⟨h1, wpT_later H (ht.trans h1)⟩
    · have := (H w (Tr.refl w)).1
      have h2 := ready_mono hj hji
      rw [this] at h2; cases h2
  | succ f ih =>
    intro listed a w inv hfree hr hy H
    have hun := (mem_ready.1 hr).1
    refine ⟨fun ho => absurd ⟨i, him, hun⟩ ho, fun _ w' ht => ⟨fun h => (by rw [h] at hr; cases hr), fun j hj => ?_⟩⟩
    by_cases hji : j = i
    · subst hji
      exact YF.wpN hi (hy.later ht) fun w1 h1 => ⟨h1, wpT_later H (ht.trans h1)⟩
    · have hjm : j < m := by
        rcases Nat.lt_or_ge j m with h | h
        · exact h
        · exact absurd hj (htail listed inv i him hun j h)
      obtain ⟨hjun, oj, hoj, hall⟩ := mem_ready.1 hj
      have ho' : Opn m (listed.setIfInBounds i true) := ⟨j, hjm, by rw [getD_set_ne true (Ne.symm hji)]; exact hjun⟩
      have h1 := (H.2 ho' w' ht).2 j (ready_mono hj hji)
      have hnot : ∀ e ∈ oj.after, Region.binds md e = true → e.on ≠ i := fun e he hb heq => by
        have h1 := hall e he hb
        rw [heq, getD_both hun] at h1
        cases h1
      have hap := hfree j oj hoj hji hjun hnot
      have h2 := wpN_put hoj hap (fun cs b => hsel j oj cs b hoj) h1
      have hfree' : ∀ k ok, ops[k]? = some ok → k ≠ i → (listed.setIfInBounds j true).getD k true = false →
          (∀ e ∈ ok.after, Region.binds md e = true → e.on ≠ i) → oi.apart ops ok = true := fun k ok hk hki hun hno => by
        refine hfree k ok hk hki ?_ hno
        by_cases hjk : j = k
        · subst hjk; exact hjun
        · rw [getD_set_ne true hjk] at hun; exact hun
      refine wpN_mono (fun o u w1 ho h3 => ⟨h3.1, ?_⟩) h2
      have : o = oj := Option.some.inj (ho.symm.trans hoj)
      subst this
      refine ih (listed.setIfInBounds j true) _ w1 (inv.set hj hjm) hfree' (ready_mono hr (Ne.symm hji)) ((hy.later (ht.trans h3.1)).put hap (fun cs b => hsel i oi cs b hi) u) ?_
      rw [Array.setIfInBounds_comm _ _ hji]
      exact h3.2

/-! ### The head in the order of the text -/
def headB (md : Region.Mode) (ops : Array Oper) (fin : Array Bool → Bool) : Nat → Nat → Array Bool → Bool
  | 0, _, listed => fin listed
  | f + 1, k, listed => (Region.ready md ops listed).contains k && Region.free md ops listed k && headB md ops fin f (k + 1) (listed.setIfInBounds k true)
theorem wpT_lex {m g : Nat} {Q : Exit → Act → World → Prop} {Lq : Act → Prop} {fin : Array Bool → Bool} {w : World} (hsel : Region.noSelect ops = true)
    (htail : ∀ listed, HeadInv md ops m listed → ∀ k, k < m → listed.getD k true = false → ∀ t, m ≤ t → t ∉ Region.ready md ops listed)
    (hfin : ∀ listed a, fin listed = true → Lq a → wpT P md ops Q m g listed a w) :
    ∀ (l : List Oper) (k : Nat) (listed : Array Bool) (a : Act), (∀ j, j < l.length → l[j]? = ops[k + j]?) → k + l.length ≤ m → HeadInv md ops m listed →
    headB md ops fin l.length k listed = true → (∀ w1, Tr w w1 → wpQuiet P ops (Cl w1) Lq l a) → wpT P md ops Q m (l.length + g) listed a w
  | [], k, listed, a, _, _, _, hB, h => by
    simp only [List.length_nil, Nat.zero_add]
    exact hfin listed a hB (h w (Tr.refl w))
  | o :: l, k, listed, a, hl, hk, inv, hB, h => by
    have h0 : ops[k]? = some o := by simpa using (hl 0 (by simp)).symm
    simp only [List.length_cons, headB, Bool.and_eq_true] at hB
    obtain ⟨⟨hr, hf⟩, hB'⟩ := hB
    have hkm : k < m := by simp only [List.length_cons] at hk; omega
    have hr' : k ∈ Region.ready md ops listed := by simpa using hr
    obtain ⟨v, hy, hK⟩ := family_step h
    rw [show (o :: l).length + g = (l.length + g) + 1 by simp only [List.length_cons]; omega]
    exact wpT_first h0 (Region.noSelect_spec hsel) htail hkm _ listed a w inv (Region.free_spec h0 hf) hr' hy
      (wpT_lex hsel htail hfin l (k + 1) _ _ (fun j hj => by have := hl (j + 1) (by simp; omega); simpa [Nat.add_assoc, Nat.add_comm 1 j] using this) (by simp only [List.length_cons] at hk; omega) (inv.set hr' hkm) hB' hK)

def allListed (m : Nat) (listed : Array Bool) : Bool := (List.range m).all fun k => listed.getD k true
theorem not_opn {m : Nat} {listed : Array Bool} (h : allListed m listed = true) : ¬ Opn m listed := fun ⟨k, hk, hf⟩ => by
  have := List.all_eq_true.1 h k (List.mem_range.2 hk)
  rw [hf] at this; cases this
/-- All of the first m have come up: the rest is forced. -/
def fin0 (md : Region.Mode) (ops : Array Oper) (m : Nat) (listed : Array Bool) : Bool := allListed m listed && Region.seqB md ops (ops.size - m) m listed
def fin1 (md : Region.Mode) (ops : Array Oper) (n : Nat) (listed : Array Bool) : Bool :=
  decide (Region.ready md ops listed = [n]) && fin0 md ops (n + 1) (listed.setIfInBounds n true)
def fin2 (md : Region.Mode) (ops : Array Oper) (n : Nat) (listed : Array Bool) : Bool :=
  decide (Region.ready md ops listed = [n, n + 1]) && decide (Region.ready md ops (listed.setIfInBounds n true) = [n + 1]) && decide (Region.ready md ops (listed.setIfInBounds (n + 1) true) = [n]) &&
  fin0 md ops (n + 2) ((listed.setIfInBounds n true).setIfInBounds (n + 1) true) && fin0 md ops (n + 2) ((listed.setIfInBounds (n + 1) true).setIfInBounds n true)
def mixB (md : Region.Mode) (ops : Array Oper) (n m : Nat) (fin : Array Bool → Bool) : Bool :=
  Region.noSelect ops && decide (n ≤ m) && (decide (m = ops.size) || (decide (m < ops.size) && Region.sinkB md ops m && Region.chainB md ops m)) && headB md ops fin n 0 (Array.replicate ops.size false)
theorem mix_tail {n m : Nat} {fin : Array Bool → Bool} (h : mixB md ops n m fin = true) : ∀ listed, HeadInv md ops m listed → ∀ k, k < m → listed.getD k true = false → ∀ t, m ≤ t → t ∉ Region.ready md ops listed := by
  intro listed inv k hk hun t ht
  simp only [mixB, Bool.and_eq_true, Bool.or_eq_true, decide_eq_true_eq] at h
  rcases h.1.2 with h1 | ⟨⟨h1, hs⟩, hc⟩
  · intro hr
    obtain ⟨_, ot, hot, _⟩ := mem_ready.1 hr
    have := (Array.getElem?_eq_some_iff.1 hot).1
    omega
  · exact tail_waits hs hc h1 inv _ k rfl hk hun t ht

/-- An operation that makes a block of zeros. -/
def MakesBlock (P : Program) (o : Oper) (z : Array Value) (t : TypeId) : Prop :=
  o.guard = none ∧ ∀ (a : Act) (w : World), (execOp a.eval o).run P w = .ok (.value (.pointer (some ⟨w.heap.size, 0, none⟩))) (w.alloc (.cells z t))
theorem MakesBlock.wpN {o : Oper} {z : Array Value} {t : TypeId} {i : Nat} (h : MakesBlock P o z t) (hi : ops[i]? = some o) {K : Act → World → Prop} {a : Act} {w : World}
    (hk : K (a.put o.dst (.pointer (some ⟨w.heap.size, 0, none⟩))) (w.alloc (.cells z t))) : wpN P ops i K a w := by
  unfold Go.Proofs.YtpjkiljgccjemaaDoor.wpN
  simp only [hi]
  have : Region.wanted o (yielded ops a.tmps) = true := by unfold Region.wanted; rw [h.1]
  rw [if_pos this, h.2 a w]
  exact hk
theorem heap_new (w : World) (o : Obj) : (w.alloc o).heap[w.heap.size]? = some o := by
  show (w.heap.push o)[w.heap.size]? = _
  simp
theorem Tr.at {w w' : World} (h : Tr w w') {b : Nat} {o : Obj} (hb : w.heap[b]? = some o) : w'.heap[b]? = some o := by
  rw [Below.block h b (Array.getElem?_eq_some_iff.1 hb).1]; exact hb
end

section
variable {P : Program} {Q : Exit → Act → World → Prop} {a : Act} {w : World} {l : List Oper} {id : Nat}
theorem inv_start (m : Nat) (hm : m ≤ l.toArray.size) : HeadInv .any l.toArray m (Array.replicate l.toArray.size false) :=
  ⟨by simp, fun j oj _ hl => (by rw [getD_replicate_false] at hl; cases hl), fun t _ ht => getD_in (by simpa using ht) (getD_replicate_false _ _)⟩
theorem wpT_fin0 {m : Nat} {listed : Array Bool} {w0 : World} (h : fin0 .any l.toArray m listed = true) (hm : m ≤ l.length)
    (hk : ∀ w', Tr w0 w' → wpList P l.toArray Q (l.drop m) a w') : wpT P .any l.toArray Q m (l.toArray.size - m) listed a w0 := by
  simp only [fin0, Bool.and_eq_true] at h
  have hdl : (l.drop m).length = l.toArray.size - m := by simp
  have key : ∀ w', Tr w0 w' → wpAny P .any l.toArray Q (l.toArray.size - m) listed a w' := fun w' ht => by
    have := wpAny_of_seq (md := .any) (Q' := Q) (l.drop m) m listed a w' (fun j => by simp [List.getElem?_drop]) (by rw [hdl]; exact h.2) (hk w' ht)
    rwa [hdl] at this
  generalize l.toArray.size - m = g at *
  cases g with
  | zero => exact key
  | succ g => exact ⟨fun _ => key, fun ho => absurd ho (not_opn h.1)⟩
/-- READS AND CALLS FIRST (n of them), the rest in a forced order (it may be empty). -/
theorem wp_region_mix0 (n : Nat) (hm : P.follows .mixedOrders = true) (hB : mixB .any l.toArray n n (fin0 .any l.toArray n) = true)
    (h : ∀ w1, Tr w w1 → wpQuiet P l.toArray (fun w' => ∃ p : Regrown, w' = grow (redrawn w1 p.d) p.os) (fun a' => ∀ w', Tr w w' → wpList P l.toArray Q (l.drop n) a' w') (l.take n) a) : (Code.region id l.toArray true).wp P Q a w := by
  have hB0 := hB
  simp only [mixB, Bool.and_eq_true, Bool.or_eq_true, decide_eq_true_eq] at hB
  obtain ⟨⟨⟨hsel, _⟩, hsz⟩, hhead⟩ := hB
  have hn : n ≤ l.length := by rcases hsz with h | h <;> simp at h <;> omega
  have htl : (l.take n).length = n := by simp; omega
  refine wp_region_any hm (wpAny_of_wpT (m := n) _ _ _ _ ?_)
  have H := wpT_lex (md := .any) (P := P) (Q := Q) (g := l.toArray.size - n) (w := { w with drawn := w.drawn + 1 }) (fin := fin0 .any l.toArray n) (Lq := fun a' => ∀ w', Tr w w' → wpList P l.toArray Q (l.drop n) a' w') hsel (mix_tail hB0) (fun listed a' hf hL => wpT_fin0 hf hn fun w' ht => hL w' ((Tr.drew w).trans ht)) (l.take n) 0 _ a
    (fun j hj => by rw [htl] at hj; simp [hj]) (by omega) (inv_start n (by simpa using hn)) (by rw [htl]; exact hhead)
    (fun w1 h1 => by
      have := h w1 ((Tr.drew w).trans h1)
      exact this)
  rw [htl, show n + (l.toArray.size - n) = l.toArray.size by simp; omega] at H
  exact H
/-- .. one allocation in between. -/
theorem wp_region_mix1 (n : Nat) (z : Array Value) (t : TypeId) (o : Oper) (hm : P.follows .mixedOrders = true) (hB : mixB .any l.toArray n (n + 1) (fin1 .any l.toArray n) = true) (ho : l[n]? = some o) (hz : MakesBlock P o z t)
    (h : ∀ w1, Tr w w1 → wpQuiet P l.toArray (fun w' => ∃ p : Regrown, w' = grow (redrawn w1 p.d) p.os) (fun a' => ∀ (b : Nat) (w' : World), w.heap.size ≤ b → Tr w w' → w'.heap[b]? = some (.cells z t) →
      wpList P l.toArray Q (l.drop (n + 1)) (a'.put o.dst (.pointer (some ⟨b, 0, none⟩))) w') (l.take n) a) : (Code.region id l.toArray true).wp P Q a w := by
  have hB0 := hB
  simp only [mixB, Bool.and_eq_true, Bool.or_eq_true, decide_eq_true_eq] at hB
  obtain ⟨⟨⟨hsel, _⟩, hsz⟩, hhead⟩ := hB
  have hn : n + 1 ≤ l.length := by rcases hsz with h | h <;> simp at h <;> omega
  have htl : (l.take n).length = n := by simp; omega
  refine wp_region_any hm (wpAny_of_wpT (m := n + 1) _ _ _ _ ?_)
  have H := wpT_lex (md := .any) (P := P) (Q := Q) (m := n + 1) (g := (l.toArray.size - (n + 1)) + 1) (w := { w with drawn := w.drawn + 1 }) (fin := fin1 .any l.toArray n) (Lq := fun a' => ∀ (b : Nat) (w' : World), w.heap.size ≤ b → Tr w w' → w'.heap[b]? = some (.cells z t) →
      wpList P l.toArray Q (l.drop (n + 1)) (a'.put o.dst (.pointer (some ⟨b, 0, none⟩))) w') hsel (mix_tail hB0) (fun listed a' hf hL => by
      simp only [fin1, Bool.and_eq_true, decide_eq_true_eq] at hf
      obtain ⟨hr, hf⟩ := hf
      refine ⟨fun hno => absurd ⟨n, by omega, (mem_ready.1 (by rw [hr]; simp : n ∈ Region.ready .any l.toArray listed)).1⟩ hno, fun _ w' ht => ⟨by rw [hr]; simp, fun i hi => ?_⟩⟩
      rw [hr] at hi
      obtain rfl : i = n := by simpa using hi
      exact hz.wpN (by simpa using ho) ⟨Tr.alloc _ _, wpT_fin0 hf hn fun w'' ht'' =>
        hL _ w'' ht.size (((Tr.drew w).trans ht).trans ((Tr.alloc _ _).trans ht'')) (ht''.at (heap_new _ _))⟩) (l.take n) 0 _ a
    (fun j hj => by rw [htl] at hj; simp [hj]) (by omega) (inv_start (n + 1) (by simpa using hn)) (by rw [htl]; exact hhead)
    (fun w1 h1 => by
      have := h w1 ((Tr.drew w).trans h1)
      exact this)
  rw [htl, show n + ((l.toArray.size - (n + 1)) + 1) = l.toArray.size by simp; omega] at H
  exact H
/-- .. two allocations in between. -/
theorem wp_region_mix2 (n : Nat) (z : Array Value) (t : TypeId) (o : Oper) (z' : Array Value) (t' : TypeId) (o' : Oper) (hm : P.follows .mixedOrders = true) (hB : mixB .any l.toArray n (n + 2) (fin2 .any l.toArray n) = true)
    (ho : l[n]? = some o) (hz : MakesBlock P o z t) (ho' : l[n + 1]? = some o') (hz' : MakesBlock P o' z' t') (hd : ∀ d, o.dst = some d → o'.dst ≠ some d)
    (h : ∀ w1, Tr w w1 → wpQuiet P l.toArray (fun w' => ∃ p : Regrown, w' = grow (redrawn w1 p.d) p.os) (fun a' => ∀ (b b' : Nat) (w' : World), w.heap.size ≤ b → w.heap.size ≤ b' → b ≠ b' → Tr w w' → w'.heap[b]? = some (.cells z t) → w'.heap[b']? = some (.cells z' t') →
      wpList P l.toArray Q (l.drop (n + 2)) ((a'.put o.dst (.pointer (some ⟨b, 0, none⟩))).put o'.dst (.pointer (some ⟨b', 0, none⟩))) w') (l.take n) a) : (Code.region id l.toArray true).wp P Q a w := by
  have hB0 := hB
  simp only [mixB, Bool.and_eq_true, Bool.or_eq_true, decide_eq_true_eq] at hB
  obtain ⟨⟨⟨hsel, _⟩, hsz⟩, hhead⟩ := hB
  have hn : n + 2 ≤ l.length := by rcases hsz with h | h <;> simp at h <;> omega
  have htl : (l.take n).length = n := by simp; omega
  refine wp_region_any hm (wpAny_of_wpT (m := n + 2) _ _ _ _ ?_)
  have hon : l.toArray[n]? = some o := by simpa using ho
  have hon' : l.toArray[n + 1]? = some o' := by simpa using ho'
  have H := wpT_lex (md := .any) (P := P) (Q := Q) (m := n + 2) (g := (l.toArray.size - (n + 2)) + 1 + 1) (w := { w with drawn := w.drawn + 1 }) (fin := fin2 .any l.toArray n) (Lq := fun a' => ∀ (b b' : Nat) (w' : World), w.heap.size ≤ b → w.heap.size ≤ b' → b ≠ b' → Tr w w' → w'.heap[b]? = some (.cells z t) → w'.heap[b']? = some (.cells z' t') →
      wpList P l.toArray Q (l.drop (n + 2)) ((a'.put o.dst (.pointer (some ⟨b, 0, none⟩))).put o'.dst (.pointer (some ⟨b', 0, none⟩))) w') hsel (mix_tail hB0) (fun listed a' hf hL => by
      simp only [fin2, Bool.and_eq_true, decide_eq_true_eq] at hf
      obtain ⟨⟨⟨⟨hr, hr1⟩, hr2⟩, hf1⟩, hf2⟩ := hf
      have hun : listed.getD n true = false := (mem_ready.1 (by rw [hr]; simp : n ∈ Region.ready .any l.toArray listed)).1
      have hun' : listed.getD (n + 1) true = false := (mem_ready.1 (by rw [hr]; simp : n + 1 ∈ Region.ready .any l.toArray listed)).1
      refine ⟨fun hno => absurd ⟨n, by omega, hun⟩ hno, fun _ w' ht => ⟨by rw [hr]; simp, fun i hi => ?_⟩⟩
      rw [hr] at hi
      have hi' : i = n ∨ i = n + 1 := by simpa using hi
      rcases hi' with rfl | rfl
      · refine hz.wpN hon ⟨Tr.alloc _ _, fun hno => absurd ⟨i + 1, by omega, by rw [getD_set_ne true (by omega)]; exact hun'⟩ hno, fun _ w2 ht2 => ⟨by rw [hr1]; simp, fun j hj => ?_⟩⟩
        rw [hr1] at hj
        obtain rfl : j = i + 1 := by simpa using hj
        have hlt : w'.heap.size < w2.heap.size := by have := Below.size ht2; simp at this; omega
        exact hz'.wpN hon' ⟨Tr.alloc _ _, wpT_fin0 hf1 hn fun w3 ht3 =>
          hL _ _ w3 ht.size (Nat.le_trans ht.size (by omega)) (by omega) (((Tr.drew w).trans ht).trans ((Tr.alloc _ _).trans (ht2.trans ((Tr.alloc _ _).trans ht3)))) (((Tr.alloc _ _).trans ht3).at (ht2.at (heap_new _ _))) (ht3.at (heap_new _ _))⟩
      · refine hz'.wpN hon' ⟨Tr.alloc _ _, fun hno => absurd ⟨n, by omega, by rw [getD_set_ne true (by omega)]; exact hun⟩ hno, fun _ w2 ht2 => ⟨by rw [hr2]; simp, fun j hj => ?_⟩⟩
        rw [hr2] at hj
        obtain rfl : j = n := by simpa using hj
        have hlt : w'.heap.size < w2.heap.size := by have := Below.size ht2; simp at this; omega
        refine hz.wpN hon ⟨Tr.alloc _ _, wpT_fin0 hf2 hn fun w3 ht3 => ?_⟩
        rw [← Act.put_comm _ _ _ hd]
        exact hL _ _ w3 (Nat.le_trans ht.size (by omega)) ht.size (by omega) (((Tr.drew w).trans ht).trans ((Tr.alloc _ _).trans (ht2.trans ((Tr.alloc _ _).trans ht3)))) (ht3.at (heap_new _ _)) (((Tr.alloc _ _).trans ht3).at (ht2.at (heap_new _ _)))) (l.take n) 0 _ a
    (fun j hj => by rw [htl] at hj; simp [hj]) (by omega) (inv_start (n + 2) (by simpa using hn)) (by rw [htl]; exact hhead)
    (fun w1 h1 => by
      have := h w1 ((Tr.drew w).trans h1)
      exact this)
  rw [htl, show n + ((l.toArray.size - (n + 2)) + 1 + 1) = l.toArray.size by simp; omega] at H
  exact H
end

/-! ### Small words for the walks -/
theorem Tr.al {w w1 : World} (h : Tr w w1) (o : Obj) : Tr w (w1.alloc o) := h.trans (Tr.alloc _ _)
theorem Tr.dr {w w1 : World} (h : Tr w w1) : Tr w w1.drew := Below.drew h
theorem Tr.drN {w w1 : World} (h : Tr w w1) (n : Nat) : Tr w (w1.drewN n) := h.trans ⟨rfl, rfl, rfl, Nat.le_refl _, fun _ _ => rfl⟩
theorem Tr.set {w w1 : World} (h : Tr w w1) {p : Addr} (hp : w.heap.size ≤ p.block) (u : Value) : Tr w (w1.setCell p u) := Below.setCell h hp u
theorem Tr.cells {w w1 : World} (h : Tr w w1) : (∀ b o, b < w.heap.size → w1.cell? ⟨b, o, none⟩ = w.cell? ⟨b, o, none⟩) ∧ (∀ b o, b < w.heap.size → w1.frozen? ⟨b, o, none⟩ = w.frozen? ⟨b, o, none⟩) :=
  ⟨fun b o hb => Below.cell (p := ⟨b, o, none⟩) h hb, fun b o hb => Below.frozen (p := ⟨b, o, none⟩) h hb⟩
theorem Tr.cell {w w1 : World} (h : Tr w w1) {a : Addr} {v : Value} (hc : w.cell? a = some v) : w1.cell? a = some v := by
  rw [Below.cell h (block_lt_of_cell hc)]; exact hc
/-- A cell, in every world of the class. -/
theorem held {w w1 : World} (h : Tr w w1) {a : Addr} {v : Value} (hc : w.cell? a = some v) : ∀ d os, (grow (redrawn w1 d) os).cell? a = some v :=
  fun d os => cell_regrown (h.cell hc) d os
theorem calls_cl {P : Program} {f : FuncId} {args : Array Value} {w : World} {d : Nat} {os : Array Obj} {v : Value}
    (h : Calls P f args (grow (redrawn w d) os) fun e w' => e = .returned v ∧ Tr (grow (redrawn w d) os) w') : Calls P f args (grow (redrawn w d) os) fun e w'' => e = .returned v ∧ ∃ p : Regrown, w'' = grow (redrawn w p.d) p.os :=
  Calls.regrown_of h
theorem calls_cl_same {P : Program} {f : FuncId} {args : Array Value} {w : World} {d : Nat} {os : Array Obj} {v : Value}
    (h : Calls P f args (grow (redrawn w d) os) fun e w' => e = .returned v ∧ grow (redrawn w d) os = w') : Calls P f args (grow (redrawn w d) os) fun e w'' => e = .returned v ∧ ∃ p : Regrown, w'' = grow (redrawn w p.d) p.os :=
  calls_cl (h.mono fun _ _ ⟨he, hw⟩ => ⟨he, hw ▸ Tr.refl _⟩)
theorem calls_cl_drew {P : Program} {f : FuncId} {args : Array Value} {w : World} {d : Nat} {os : Array Obj} {v : Value}
    (h : Calls P f args (grow (redrawn w d) os) fun e w' => e = .returned v ∧ ∃ n, w' = (grow (redrawn w d) os).drewN n) : Calls P f args (grow (redrawn w d) os) fun e w'' => e = .returned v ∧ ∃ p : Regrown, w'' = grow (redrawn w p.d) p.os :=
  calls_cl (h.mono fun _ _ ⟨he, n, hw⟩ => ⟨he, hw ▸ (Tr.refl _).drN n⟩)
/-- Cells that hold what they should, and may be written. -/
def Keep (w : World) : List (Addr × Value) → Prop
  | [] => True
  | p :: l => (w.cell? p.1 = some p.2 ∧ w.frozen? p.1 = false ∧ p.1.block < w.heap.size) ∧ Keep w l
theorem Keep.tr {w w1 : World} : ∀ {l : List (Addr × Value)}, Keep w l → Tr w w1 → Keep w1 l
  | [], _, _ => trivial
  | p :: _, h, ht => ⟨⟨ht.cell h.1.1, by rw [Below.frozen ht (block_lt_of_cell h.1.1)]; exact h.1.2.1, Nat.lt_of_lt_of_le h.1.2.2 (Below.size ht)⟩, Keep.tr h.2 ht⟩
/-- .. in every world of the class. -/
def KeepCl (w : World) : List (Addr × Value) → Prop
  | [] => True
  | p :: l => (∀ d os, (grow (redrawn w d) os).cell? p.1 = some p.2) ∧ KeepCl w l
theorem Keep.cl {w w1 : World} : ∀ {l : List (Addr × Value)}, Keep w l → Tr w w1 → KeepCl w1 l
  | [], _, _ => trivial
  | p :: _, h, ht => ⟨held ht h.1.1, Keep.cl h.2 ht⟩
theorem Keep.block {w : World} {b : Nat} {c : Array Value} {t : TypeId} (h : w.heap[b]? = some (.cells c t)) : ∀ {l : List (Addr × Value)}, (∀ p ∈ l, p.1.block = b ∧ p.1.spot = none ∧ c[p.1.off]? = some p.2) → Keep w l
  | [], _ => trivial
  | p :: l, hl => by
    obtain ⟨rfl, h2, h3⟩ := hl p (by simp)
    exact ⟨⟨by simp [World.cell?, h, h2, h3], by simp [World.frozen?, h], lt_of_block h⟩, Keep.block h fun q hq => hl q (by simp [hq])⟩
theorem Keep.at2 {w : World} {b : Nat} {u v : Value} {t : TypeId} (h : w.heap[b]? = some (.cells #[u, v] t)) : Keep w [(⟨b, 0, none⟩, u), (⟨b, 1, none⟩, v)] :=
  Keep.block h (by simp)
theorem cell_far (w : World) (b o b' o' : Nat) (v : Value) (h : b ≠ b') : (w.setCell ⟨b, o, none⟩ v).cell? ⟨b', o', none⟩ = w.cell? ⟨b', o', none⟩ :=
  by rw [World.cell?_setCell_other]; intro e; injection e with e1 e2; exact h (by assumption)
theorem cell_off (w : World) (b o o' : Nat) (v : Value) (h : o ≠ o') : (w.setCell ⟨b, o, none⟩ v).cell? ⟨b, o', none⟩ = w.cell? ⟨b, o', none⟩ :=
  by rw [World.cell?_setCell_other]; intro e; injection e with e1 e2; exact h (by assumption)
theorem frozen_new (w : World) (b o : Nat) (h : w.heap.size ≤ b) : w.frozen? ⟨b, o, none⟩ = false := by
  unfold World.frozen?
  rw [Array.getElem?_eq_none h]
/-- Forget how the world came about; keep what is known of some cells. -/
theorem wp_forget {P : Program} {c : Code} {Q : Exit → Act → World → Prop} {a : Act} {w0 W : World} (l : List (Addr × Value)) (hK : Keep W l) (hT : Tr w0 W)
    (h : ∀ w2, W.heap.size = w2.heap.size → Keep w2 l → Tr w0 w2 → c.wp P Q a w2) : c.wp P Q a W := h W rfl hK hT
end Go.Proofs.YtpjkiljgccjemaaDoor
