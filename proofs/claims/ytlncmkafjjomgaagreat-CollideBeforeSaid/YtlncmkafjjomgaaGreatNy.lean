/- Plain theory of the model's machine: a run draws no less than it had drawn. Any program, any goroutines. No conditions but those of each statement. | DERIVED: THE SHELF's CONTRACTS AT THIS DUMP, IN PLAIN WORDS (tools/lay-plain.mjs out of 'TryzShelf3.lean', which tools/lay-shelf.mjs wrote): THE SAME DECLARATIONS UNDER THE SAME NAMES: 'import', 'namespace', 'open', 'def', 'theorem' AND NOTHING ELSE: no command of the shelf's: FOR A HAND-IN. Each laying: the table of numbers ('.._ren') and one theorem, a field a fact of the dump's own or the kernel's comparison;each contract: ONE APPLICATION. -/
import Derived.Calls
import Derived.Shelf.SlSortCmp.WholeK
import Derived.Shelf.Spec.SlicesGrow
import Derived.Test.YtlncmkafjjomgaaGreatProg
namespace Go.Proofs.YtlncmkafjjomgaaGreat.Up
set_option linter.unusedVariables false
set_option linter.unusedSimpArgs false
open Go
theorem ask_up {α : Type} : ∀ (x : Ask α) (w : World), w.drawn ≤ (w.ask x).2.drawn
 | .done a, w => by unfold World.ask;exact Nat.le_refl _
 | .ask what range k, w => by
  unfold World.ask
  simp only []
  split
  ·exact ask_up (k 0) w
  ·exact Nat.le_trans (Nat.le_succ _) (ask_up (k _) { w with drawn := w.drawn + 1 })
theorem sys_up (w : World) (c : Sys) : w.drawn ≤ (w.sys c).2.drawn := by
 unfold World.sys
 have := ask_up (Kernel.perform c w.os) w
 split
 ·exact Nat.le_refl _
 ·rename_i h
  rw [h] at this
  exact this
theorem bind_ok {ε α β : Type} {x : Except ε α} {f : α → Except ε β} {b : β} (h : (x >>= f) = .ok b) : ∃ a, x = .ok a ∧ f a = .ok b := by
 cases x with
 | error e => cases h
 | ok a => exact ⟨a, rfl, h⟩
theorem viewStore_up {p : Program} {w : World} {at_ : Addr} {u : TypeId} {k : Addr} {v : Value} {atomic : Bool} {r : World × List Addr} (h : w.viewStore p at_ u k v atomic = .ok r) : r.1.drawn = w.drawn := by
 unfold World.viewStore at h
 simp only [] at h
 repeat' (first|(split at h)|(obtain ⟨_, _, h⟩ := bind_ok h))
 all_goals first
  | (cases h;done)
  | (injection h with h;rw [← h])
theorem farStore_up {p : Program} {w : World} {a : Addr} {v : Value} {b : Bool} {r : World × List Addr} (h : w.farStore p a v b = .ok r) : r.1.drawn = w.drawn := by
 unfold World.farStore at h
 split at h
 ·split at h
  ·rename_i h2
   injection h with h
   rw [← h]
   exact viewStore_up h2
  ·cases h
 ·cases h
def rw_ {α : Type} : Result α → World
 | .ok _ w => w
 | .halt _ w => w
theorem run_up {α : Type} (p : Program) : ∀ (s : Sem α) (w : World), w.drawn ≤ (rw_ (s.run p w)).drawn := by
 intro s
 induction s with
 | pure a => intro w;exact Nat.le_refl _
 | load m a k ih =>
  intro w
  rw [Sem.run]
  split
  ·exact ih _ _
  ·split
   ·exact ih _ _
   ·exact Nat.le_refl _
 | store m a v k ih =>
  intro w
  cases v <;> rw [Sem.run] <;> first | exact Nat.le_refl _ | skip
  all_goals first
   | (intro _ h;cases h;done)
   | (split
      ·split
       ·exact Nat.le_refl _
       ·exact ih (w.setCell a _)
      ·split
       ·rename_i h
        have := farStore_up h
        exact Nat.le_trans (Nat.le_of_eq this.symm) (ih _)
       ·exact Nat.le_refl _)
 | new o k ih => intro w;rw [Sem.run];exact ih _ { w with heap := w.heap.push o }
 | shape r k ih => intro w;rw [Sem.run];exact ih _ _
 | freeze a n k ih => intro w;rw [Sem.run];have := ih (w.freeze a n);unfold World.freeze at this ⊢;split <;> simp_all
 | frozen a k ih => intro w;rw [Sem.run];exact ih _ _
 | getObj r k ih => intro w;rw [Sem.run];split <;> first | exact ih _ _ | exact Nat.le_refl _
 | setObj r o k ih => intro w;rw [Sem.run];split <;> first | exact ih { w with heap := w.heap.setIfInBounds r o } | exact Nat.le_refl _
 | choose q k ih =>
  intro w
  rw [Sem.run]
  split
  ·exact ih _ _
  ·exact Nat.le_trans (Nat.le_succ _) (ih _ { w with drawn := w.drawn + 1 })
 | sys c k ih => intro w;rw [Sem.run];exact Nat.le_trans (sys_up w c) (ih _ _)
 | program k ih => intro w;rw [Sem.run];exact ih _ _
 | mark m k ih => intro w;rw [Sem.run];exact ih _
 | halt h => intro w;exact Nat.le_refl _
theorem runT_up {α : Type} (p : Program) : ∀ (s : Sem α) (w : World) (es : Array Event), w.drawn ≤ (rw_ (s.runT p w es).1).drawn := by
 intro s
 induction s with
 | pure a => intro w es;exact Nat.le_refl _
 | load m a k ih =>
  intro w es
  rw [Sem.runT]
  split
  ·exact ih _ _ _
  ·split
   ·exact ih _ _ _
   ·exact Nat.le_refl _
 | store m a v k ih =>
  intro w es
  cases v <;> rw [Sem.runT] <;> first | exact Nat.le_refl _ | skip
  all_goals first
   | (intro _ h;cases h;done)
   | (split
      ·split
       ·exact Nat.le_refl _
       ·exact ih (w.setCell a _) _
      ·split
       ·rename_i h
        have := farStore_up h
        exact Nat.le_trans (Nat.le_of_eq this.symm) (ih _ _)
       ·exact Nat.le_refl _)
 | new o k ih => intro w es;rw [Sem.runT];exact ih _ { w with heap := w.heap.push o } _
 | shape r k ih => intro w es;rw [Sem.runT];exact ih _ _ _
 | freeze a n k ih => intro w es;rw [Sem.runT];have := ih (w.freeze a n) es;unfold World.freeze at this ⊢;split <;> simp_all
 | frozen a k ih => intro w es;rw [Sem.runT];exact ih _ _ _
 | getObj r k ih => intro w es;rw [Sem.runT];split <;> first | exact ih _ _ _ | exact Nat.le_refl _
 | setObj r o k ih => intro w es;rw [Sem.runT];split <;> first | exact ih { w with heap := w.heap.setIfInBounds r o } _ | exact Nat.le_refl _
 | choose q k ih =>
  intro w es
  rw [Sem.runT]
  split
  ·exact ih _ _ _
  ·exact Nat.le_trans (Nat.le_succ _) (ih _ { w with drawn := w.drawn + 1 } _)
 | sys c k ih => intro w es;rw [Sem.runT];exact Nat.le_trans (sys_up w c) (ih _ _ _)
 | program k ih => intro w es;rw [Sem.runT];exact ih _ _ _
 | mark m k ih => intro w es;rw [Sem.runT];exact ih _ _
 | halt h => intro w es;exact Nat.le_refl _

/-! ### Steps -/
def UpG (n : Nat) : GStep → Prop
 | .go _ w _ => n ≤ w.drawn
 | .comm _ _ _ _ w _ => n ≤ w.drawn
 | .spawn _ _ w _ => n ≤ w.drawn
 | .count _ w _ => n ≤ w.drawn
 | .timer _ _ w _ => n ≤ w.drawn
 | .alone _ _ w _ => n ≤ w.drawn
 | .newcoro _ _ _ w _ => n ≤ w.drawn
 | .coroswitch _ _ _ w _ => n ≤ w.drawn
 | .collect _ w _ => n ≤ w.drawn
 | .watch _ w _ => n ≤ w.drawn
 | .ended _ _ _ => True
theorem UpG.after {n : Nat} {es : Array Event} {s : GStep} (h : UpG n s) : UpG n (s.after es) := by
 cases s <;> exact h
theorem endThrow_up {n : Nat} {fr : Frame} {m : String} {w : World} (h : n ≤ w.drawn) : UpG n (endThrow fr m w) := h
theorem endPrinting_up {n : Nat} {p : Program} {fr : Frame} {v : Value} {w : World} (h : n ≤ w.drawn) : UpG n (endPrinting p fr v w) := by
 unfold endPrinting
 simp only []
 split
 ·exact h
 ·trivial
theorem endWith_up {n : Nat} {w : World} {fd : Nat} {t : ByteArray} {o : Outcome} : UpG n (endWith w fd t o) := by
 unfold endWith
 simp only []
 split
 ·split <;> trivial
 ·trivial
 ·trivial
theorem rw_ok {α : Type} {p : Program} {s : Sem α} {w w' : World} {a : α} (h : s.run p w = .ok a w') : w.drawn ≤ w'.drawn := by
 have := run_up p s w
 rw [h] at this;exact this
theorem rw_halt {α : Type} {p : Program} {s : Sem α} {w w' : World} {a : Halt} (h : s.run p w = .halt a w') : w.drawn ≤ w'.drawn := by
 have := run_up p s w
 rw [h] at this;exact this
theorem endFatal_up {n : Nat} {p : Program} {fr : Frame} {cs : List Frame} {d : Option Dying} {m : String} {w : World} (h : n ≤ w.drawn) : UpG n (endFatal p fr cs d m w) := by
 unfold endFatal
 simp only []
 split
 ·rename_i h2
  exact Nat.le_trans h (rw_ok h2)
 ·trivial
 ·trivial
theorem rwT_ok {α : Type} {p : Program} {s : Sem α} {w w' : World} {a : α} {es es' : Array Event} (h : s.runT p w es = (.ok a w', es')) : w.drawn ≤ w'.drawn := by
 have := runT_up p s w es
 rw [h] at this;exact this
theorem rwT_halt {α : Type} {p : Program} {s : Sem α} {w w' : World} {a : Halt} {es es' : Array Event} (h : s.runT p w es = (.halt a w', es')) : w.drawn ≤ w'.drawn := by
 have := runT_up p s w es
 rw [h] at this;exact this
theorem writeOn_up {n : Nat} {p : Program} {fr : Frame} {d : Dying} {f : Fatal} {w : World} (h : n ≤ w.drawn) : UpG n (writeOn p fr d f w) := by
 unfold writeOn
 simp only []
 split
 ·trivial
 ·split
  ·rename_i h2;exact Nat.le_trans h (rwT_ok h2)
  ·rename_i h2;exact Nat.le_trans h (rwT_halt h2)
  ·trivial
  ·trivial
theorem rwT_ok1 {α : Type} {p : Program} {s : Sem α} {w w' : World} {a : α} {es : Array Event} (h : (s.runT p w es).1 = .ok a w') : w.drawn ≤ w'.drawn := by
 have := runT_up p s w es
 rw [h] at this;exact this
theorem rwT_halt1 {α : Type} {p : Program} {s : Sem α} {w w' : World} {a : Halt} {es : Array Event} (h : (s.runT p w es).1 = .halt a w') : w.drawn ≤ w'.drawn := by
 have := runT_up p s w es
 rw [h] at this;exact this
theorem die_up {n : Nat} {p : Program} {fr : Frame} {d : Dying} {w : World} (h : n ≤ w.drawn) : UpG n (die p fr d w) := by
 unfold die
 simp only []
 split
 ·exact writeOn_up h
 ·split
  ·split
   ·exact h
   ·exact endWith_up
  ·split
   ·exact h
   ·split
    ·rename_i h2;exact Nat.le_trans h (rw_ok h2)
    ·trivial
   ·apply UpG.after
    split
    ·rename_i h2;exact Nat.le_trans h (rwT_ok1 h2)
    ·rename_i h2;exact Nat.le_trans h (rwT_ok1 h2)
    ·trivial
    ·rename_i h2;exact endPrinting_up (Nat.le_trans h (rwT_halt1 h2))
    ·trivial
   ·trivial
theorem doReturn_up {n : Nat} {p : Program} {b : Bool} {fr : Frame} {cs : List Frame} {d : Option Dying} {v : Value} {w : World} (h : n ≤ w.drawn) : UpG n (doReturn p b fr cs d v w) := by
 unfold doReturn
 simp only []
 repeat' split
 all_goals first | exact h | trivial
theorem ite_up {n : Nat} {c : Prop} [Decidable c] {a b : GStep} (h : UpG n a) (k : UpG n b) : UpG n (if c then a else b) := by
 split <;> assumption
theorem callDeferred_up {n : Nat} {p : Program} {fr : Frame} {cs : List Frame} {dy : Option Dying} {d : Deferred} {w : World} (h : n ≤ w.drawn) : UpG n (callDeferred p fr cs dy d w) := by
 unfold callDeferred
 simp only []
 refine ite_up trivial ?_
 ·apply UpG.after
  split
  all_goals rename_i h2
  all_goals first
   | trivial
   | exact Nat.le_trans h (rwT_ok1 h2)
   | exact Nat.le_trans h (rwT_halt1 h2)
   | exact endFatal_up (Nat.le_trans h (rwT_halt1 h2))
   | exact endThrow_up (Nat.le_trans h (rwT_halt1 h2))
   | (split <;> first | exact Nat.le_trans h (rwT_ok1 h2) | trivial)
   | (exfalso;assumption)
   | skip
theorem unwind_up {n : Nat} {p : Program} {b : Bool} {fr : Frame} {cs : List Frame} {dy : Option Dying} {w : World} (h : n ≤ w.drawn) : UpG n (unwind p b fr cs dy w) := by
 unfold unwind
 simp only []
 split
 ·apply UpG.after
  split
  ·rename_i h2;exact Nat.le_trans h (rwT_ok1 h2)
  ·trivial
 ·exact callDeferred_up h
 ·split
  ·trivial
  ·split
   ·trivial
   ·split
    ·exact h
    ·split
     ·split
      ·exact h
      ·split
       ·rename_i h2;exact Nat.le_trans h (rw_ok h2)
       ·trivial
       ·trivial
     ·split
      ·exact endPrinting_up h
      ·trivial
  ·split
   ·exact doReturn_up h
   ·apply UpG.after
    split
    ·rename_i h2;exact doReturn_up (Nat.le_trans h (rwT_ok1 h2))
    ·trivial
    ·trivial

theorem rwI_ok {α : Type} {p : Program} {s : Sem α} {b : Bool} {w w' : World} {a : α} (h : (if b = true then s.runT p w #[] else (s.run p w, #[])).1 = .ok a w') : w.drawn ≤ w'.drawn := by
 cases b
 ·exact rw_ok h
 ·exact rwT_ok1 h
theorem rwI_halt {α : Type} {p : Program} {s : Sem α} {b : Bool} {w w' : World} {a : Halt} (h : (if b = true then s.runT p w #[] else (s.run p w, #[])).1 = .halt a w') : w.drawn ≤ w'.drawn := by
 cases b
 ·exact rw_halt h
 ·exact rwT_halt1 h
theorem early_up {n : Nat} {p : Program} {fr : Frame} {cs : List Frame} {dy : Option Dying} {g : Nat} {w : World} (h : n ≤ w.drawn) : UpG n (early p fr cs dy g w) := by
 unfold early
 simp only []
 have ny : ∀ w : World, n ≤ w.drawn → UpG n (match w.heap[g]? with
  | some (.pending c elem) => .go { frame := fr, callers := cs, status := .running, dying := dy } { w with heap := w.heap.setIfInBounds g (.cells c elem) }
  | _ => .ended (.stuck "early: the variable does not wait" (fr.pos p)) w) := fun w h => by
  split
  ·exact h
  ·trivial
 refine ite_up (ny w h) ?_
 split
 ·trivial
 ·refine ite_up (ny w h) ?_
  refine ite_up (ny w h) ?_
  split
  ·trivial
  ·exact h
  ·trivial
  ·exact ny w h
  ·refine ite_up h ?_
   refine ite_up (ny w h) ?_
   split
   ·rename_i h2;exact ny _ (Nat.le_trans h (rw_ok h2))
   ·rename_i h2;exact Nat.le_trans h (rw_ok h2)
   ·trivial
theorem apply_up {n : Nat} {p : Program} {b : Bool} {fr : Frame} {cs : List Frame} {dy : Option Dying} {s : Sem Next} {w : World} (h : n ≤ w.drawn) : UpG n (stepG.apply p b fr cs dy s w) := by
 unfold stepG.apply
 simp only []
 apply UpG.after
 split
 all_goals (try rename_i h2)
 all_goals first
  | trivial
  | exact Nat.le_trans h (rwI_ok h2)
  | exact Nat.le_trans h (rwI_halt h2)
  | exact endFatal_up (Nat.le_trans h (rwI_halt h2))
  | exact endThrow_up (Nat.le_trans h (rwI_halt h2))
  | exact early_up (Nat.le_trans h (rwI_halt h2))
  | (refine ite_up (endThrow_up (Nat.le_trans h (rwI_ok h2))) ?_;exact Nat.le_trans h (rwI_ok h2))
  | (have h3 := Nat.le_trans h (rwI_ok h2);clear h2;split <;> exact h3)
theorem oper_up {n : Nat} {p : Program} {b : Bool} {fr : Frame} {cs : List Frame} {dy : Option Dying} {w : World} (h : n ≤ w.drawn) : UpG n (stepG.oper p b fr cs dy w) := by
 unfold stepG.oper
 split
 ·trivial
 ·split
  ·exact apply_up h
  ·exact apply_up h
theorem elim_up {n : Nat} {α : Type} {o : Option α} {a : GStep} {f : α → GStep} (h : UpG n a) (k : ∀ x, UpG n (f x)) : UpG n (o.elim a f) := by
 cases o
 ·exact h
 ·exact k _
theorem exec_up {n : Nat} {p : Program} {main b : Bool} {fr : Frame} {cs : List Frame} {dy : Option Dying} {w : World} (h : n ≤ w.drawn) : UpG n (stepG.exec p main b fr cs dy w) := by
 unfold stepG.exec
 simp only []
 split
 all_goals first
  | exact h
  | trivial
  | exact apply_up h
  | (split
     ·refine ite_up h trivial
     ·apply UpG.after
      split
      ·rename_i h2;exact doReturn_up (Nat.le_trans h (rwT_ok1 h2))
      ·trivial)
  | (split <;> first | exact h | trivial)
  | (refine elim_up ?_ (fun _ => h)
     split
     ·refine ite_up h trivial
     ·apply UpG.after
      split
      ·rename_i h2;exact doReturn_up (Nat.le_trans h (rwT_ok1 h2))
      ·trivial)
  | (apply UpG.after
     split
     ·rename_i h2;exact apply_up (Nat.le_trans h (rwT_ok1 h2))
     ·trivial)
  | (apply UpG.after
     split
     ·rename_i h2;exact Nat.le_trans h (rwT_ok1 h2)
     ·rename_i h2;exact Nat.le_trans h (rwT_halt1 h2)
     ·trivial)
  | (refine elim_up trivial (fun _ => apply_up h))
  | (refine ite_up h ?_
     split
     ·rename_i h2;exact Nat.le_trans h (rw_ok h2)
     ·trivial)
  | (refine ite_up (oper_up h) h)
  | skip
theorem stepG_up {n : Nat} {p : Program} {main b : Bool} {g : Goroutine} {w : World} (h : n ≤ w.drawn) : UpG n (stepG p main g w b) := by
 unfold stepG
 simp only []
 split
 ·exact die_up h
 ·exact exec_up h
 ·exact unwind_up h

/-! ### The machine -/
def UpS (n : Nat) : Stepped → Prop
 | .next m => n ≤ m.world.drawn
 | .ended _ _ => True
def UpM (n : Nat) : Move → Prop
 | .goroutine m _ => n ≤ m.world.drawn
 | .machine s _ => UpS n s
theorem iteS_up {n : Nat} {c : Prop} [Decidable c] {a b : Stepped} (h : UpS n a) (k : UpS n b) : UpS n (if c then a else b) := by
 split <;> assumption
theorem iteP_up {n : Nat} {c : Prop} [Decidable c] {a b : Stepped × Array MemOp} (h : UpS n a.1) (k : UpS n b.1) : UpS n (if c then a else b).1 := by
 split <;> assumption
theorem waitingAt_up {rest : Rest} {cs : Array CommCase} {w w' : World} (h : waitingAt rest cs w = some w') : w'.drawn = w.drawn := by
 unfold waitingAt at h
 split at h
 ·split at h
  ·injection h with h;rw [← h]
  ·cases h
 ·injection h with h;rw [h]
theorem communicate_up {n : Nat} {p : Program} {rest : Rest} {gs : Array Goroutine} {i : Nat} {g : Goroutine} {cs : Array CommCase} {b : Bool} {sh : CommShape} {w : World} (h : n ≤ w.drawn) : UpS n (communicate p rest gs i g cs b sh w).1 := by
 unfold communicate
 simp only []
 refine iteP_up trivial ?_
 refine iteP_up ?_ ?_
 ·refine iteP_up ?_ h
  split
  ·rename_i h2
   have := waitingAt_up h2
   show n ≤ _
   rw [this];exact h
  ·trivial
 ·split
  ·trivial
  ·rename_i h2
   have h3 := Nat.le_trans h (rw_ok h2)
   clear h2 h
   split
   ·split
    ·rename_i h4;exact Nat.le_trans h3 (rw_halt h4)
    ·trivial
   ·exact h3
   ·exact h3
   ·split
    ·exact h3
    ·split
     ·rename_i h4
      have h5 := rw_ok h4
      exact Nat.le_trans h3 h5
     ·trivial
   ·exact h3
   ·exact h3
   ·trivial
theorem look_up {n : Nat} {p : Program} {gs : Array Goroutine} {rest : Rest} {w : World} (h : n ≤ w.drawn) : UpS n (look p gs rest w) := by
 unfold look
 simp only []
 split
 ·refine iteS_up trivial ?_
  split
  ·trivial
  ·split
   ·rename_i h2
    have h5 := rw_ok h2
    exact Nat.le_trans h h5
   ·trivial
   ·trivial
 ·trivial
theorem drain_up (w : World) (c : Nat) : (drain w c).2.drawn = w.drawn := by
 unfold drain
 split <;> rfl
theorem retime_up (m : Machine) (k : Nat) (t : Timer) (a b : Nat) : (retime m k t a b).2.world.drawn = m.world.drawn := by
 unfold retime
 simp only []
 split
 ·exact drain_up _ _
 ·rfl
theorem named_up {m : Machine} {var : Addr} {f : Nat → Timer → Value × Machine} {r : Value × Machine} {n : Nat} (hf : ∀ k t, (f k t).2.world.drawn = n) (h : timerOp.named m var f = .ok r) : r.2.world.drawn = n := by
 unfold timerOp.named at h
 split at h
 ·injection h with h;rw [← h];exact hf _ _
 ·cases h
theorem opened_up {m m' : Machine} {var : Addr} (h : timerOp.opened m var = some m') : m'.world.drawn = m.world.drawn := by
 unfold timerOp.opened at h
 split at h
 ·split at h
  ·injection h with h;rw [← h]
  ·cases h
 ·injection h with h;rw [h]
theorem timerOp_up {m : Machine} {op : TimerOp} {r : Value × Machine} (h : timerOp m op = .ok r) : r.2.world.drawn = m.world.drawn := by
 unfold timerOp at h
 split at h
 ·split at h
  ·injection h with h;rw [← h];rfl
  ·split at h
   ·split at h
    ·cases h
    ·injection h with h;rw [← h]
   ·cases h
 ·exact named_up (fun k t => retime_up _ _ _ _ _) h
 ·split at h
  ·rename_i h2
   have := opened_up h2
   exact named_up (fun k t => (retime_up _ _ _ _ _).trans this) h
  ·cases h
 ·injection h with h;rw [← h];rfl
theorem serve_up {n : Nat} {p : Program} {m : Machine} {k : Nat} (h : n ≤ m.world.drawn) : UpS n (serve p m k) := by
 unfold serve
 simp only []
 split
 ·trivial
 ·exact h
 ·split
  ·trivial
  ·exact h
theorem runT_step_up {n : Nat} {p : Program} {m : Machine} {i : Nat} {b : Bool} (h : n ≤ m.world.drawn) : UpS n (runT p m i b).1 := by
 unfold runT
 simp only []
 have key := stepG_up (n := n) (p := p) (main := i == 0) (b := b) (g := (m.gs.swapAt! i { (default : Goroutine) with status := .finished }).1) (w := m.world) h
 split
 all_goals (rename_i h2;rw [h2] at key)
 all_goals first
  | trivial
  | exact key
  | exact communicate_up key
  | exact look_up key
  | (exact iteS_up trivial key)
  | (dsimp only [endThrow, dieOf]
     split <;> first | exact key | trivial)
  | (dsimp only [endThrow, dieOf]
     split
     ·rename_i h4
      have := timerOp_up h4
      show n ≤ _
      rw [this]
      exact key
     all_goals first | exact key | trivial)
theorem pick_up {n : Nat} {p : Program} {m : Machine} {rs : List Nat} (h : n ≤ m.world.drawn) : UpM n (match (choose (.sched rs.length)).run p m.world with
   | .halt _ w => .machine (.ended (.stuck "sched" "") w)
   | .ok k world =>
    if rs.length ≤ 1 then .goroutine { m with world } (rs.getD k 0) else
    match (choose (.extern "sched.slice" 65536)).run p world with
    | .halt _ w => .machine (.ended (.stuck "sched.slice" "") w)
    | .ok n world => .goroutine { m with world, rest := { m.rest with slice := if n = 0 then none else some (rs.getD k 0, n) } } (rs.getD k 0)) := by
 split
 ·trivial
 ·rename_i h2
  have h3 := Nat.le_trans h (rw_ok h2)
  split
  ·exact h3
  ·split
   ·trivial
   ·rename_i h4
    have h5 := rw_ok h4
    exact Nat.le_trans h3 h5
theorem askOn_up {n : Nat} {p : Program} {m : Machine} (h : n ≤ m.world.drawn) : UpM n (askOn p m) := by
 unfold askOn
 simp only []
 split
 ·trivial
 ·rename_i h2
  have h3 := Nat.le_trans h (rw_ok h2)
  split
  ·exact serve_up h3
  ·split
   ·split
    ·exact h3
    ·split
     ·exact h3
     ·split <;> trivial
   ·split
    ·exact pick_up (m := { m with world := _ }) h3
    ·split
     ·trivial
     ·rename_i h4
      have h5 := Nat.le_trans h3 (rw_ok h4)
      exact pick_up (m := { m with world := _ }) h5
     ·rename_i h4
      have h5 := Nat.le_trans h3 (rw_ok h4)
      exact h5
     ·rename_i h4
      have h5 := Nat.le_trans h3 (rw_ok h4)
      exact pick_up (m := Machine.advanceTo { m with world := _ } _) h5
theorem ask_up' {n : Nat} {p : Program} {m : Machine} (h : n ≤ m.world.drawn) : UpM n (ask p m) := by
 unfold ask
 split
 ·split
  ·trivial
  ·rename_i h2
   have h3 := Nat.le_trans h (rw_ok h2)
   have h4 := look_up (p := p) (gs := m.gs) (rest := m.rest) h3
   split
   ·rename_i h5
    rw [h5] at h4
    exact askOn_up h4
   ·exact h4
  ·rename_i h2
   exact askOn_up (m := { m with world := _ }) (Nat.le_trans h (rw_ok h2))
 ·exact askOn_up h
theorem move_up {n : Nat} {p : Program} {m : Machine} (h : n ≤ m.world.drawn) : UpM n (move p m) := by
 unfold move
 split
 ·split
  ·exact h
  ·trivial
 ·split
  ·split
   ·exact h
   ·exact ask_up' h
  ·exact ask_up' h
theorem step_up {n : Nat} {p : Program} {m : Machine} (h : n ≤ m.world.drawn) : UpS n (step p m) := by
 unfold step stepT
 have := move_up (p := p) h
 split
 ·rename_i h2
  rw [h2] at this
  exact runT_step_up this
 ·rename_i h2
  rw [h2] at this
  exact this
theorem runN_up {p : Program} : ∀ (k : Nat) {n : Nat} {m m' : Machine}, n ≤ m.world.drawn → runN p k m = .next m' → n ≤ m'.world.drawn
 | 0, n, m, m', h, hr => by
  rw [runN] at hr
  injection hr with hr
  rw [← hr];exact h
 | k + 1, n, m, m', h, hr => by
  rw [runN] at hr
  have := step_up (p := p) h
  cases hs : step p m with
  | next m2 =>
   rw [hs] at hr this
   exact runN_up k this hr
  | ended o w => rw [hs] at hr;cases hr
theorem calls_up {P : Program} {f : FuncId} {args : Array Value} {w : World} {v : Value} {R : World → Prop} (h : Calls P f args w fun e w' => e = .returned v ∧ R w') : Calls P f args w fun e w' => e = .returned v ∧ R w' ∧ w.drawn ≤ w'.drawn := by
 intro cs
 obtain ⟨e, w', fr, ⟨rfl, hR⟩, hc, hf, hl⟩ := h cs
 refine ⟨_, w', fr, ⟨rfl, hR, ?_⟩, hc, hf, hl⟩
 obtain ⟨k, hk⟩ := hc
 exact runN_up k (n := w.drawn) (Nat.le_refl _) hk
end Go.Proofs.YtlncmkafjjomgaaGreat.Up
namespace Go.Proofs
open Go.Shelf
def Tryz.srt_ren : Go.Shelf.Ren := ⟨fun | 6 => 147 | 15 => 157 | 14 => 156 | 28 => 168 | 29 => 159 | 20 => 160 | 21 => 161 | 22 => 162 | 23 => 163 | 24 => 164 | 25 => 165 | 26 => 166 | 27 => 167 | 46 => 169 | 47 => 170 | 48 => 171 | 49 => 172 | 50 => 173 | 57 => 174 | n => n, fun | 22 => 44 | 24 => 30 | 25 => 41 | 3 => 3 | 39 => 134 | 0 => 0 | 53 => 181 | 55 => 76 | 4 => 4 | 46 => 203 | 45 => 202 | 50 => 156 | 5 => 5 | 9 => 9 | 66 => 209 | 70 => 213 | 76 => 215 | 77 => 216 | n => n, fun | n => n⟩
theorem Tryz.srt : Go.Proofs.SlLaysF0.n6 Tryz.prog Tryz.srt_ren := {
 mixed := by kernel_rfl
 f6 := ⟨Tryz.f147.name, by decide, Tryz.func147.trans (congrArg some (by kernel_rfl))⟩
 f14 := ⟨Tryz.f156.name, by decide, Tryz.func156.trans (congrArg some (by kernel_rfl))⟩
 f15 := Tryz.func157.trans (congrArg some (by kernel_rfl))
 f20 := ⟨Tryz.f160.name, by decide, Tryz.func160.trans (congrArg some (by kernel_rfl))⟩
 f21 := ⟨Tryz.f161.name, by decide, Tryz.func161.trans (congrArg some (by kernel_rfl))⟩
 f22 := ⟨Tryz.f162.name, by decide, Tryz.func162.trans (congrArg some (by kernel_rfl))⟩
 f23 := ⟨Tryz.f163.name, by decide, Tryz.func163.trans (congrArg some (by kernel_rfl))⟩
 f24 := ⟨Tryz.f164.name, by decide, Tryz.func164.trans (congrArg some (by kernel_rfl))⟩
 f25 := ⟨Tryz.f165.name, by decide, Tryz.func165.trans (congrArg some (by kernel_rfl))⟩
 f26 := ⟨Tryz.f166.name, by decide, Tryz.func166.trans (congrArg some (by kernel_rfl))⟩
 f27 := ⟨Tryz.f167.name, by decide, Tryz.func167.trans (congrArg some (by kernel_rfl))⟩
 f28 := Tryz.func168.trans (congrArg some (by kernel_rfl))
 f29 := Tryz.func159.trans (congrArg some (by kernel_rfl))
 f46 := ⟨Tryz.f169.name, by decide, Tryz.func169.trans (congrArg some (by kernel_rfl))⟩
 f47 := Tryz.func170.trans (congrArg some (by kernel_rfl))
 f48 := Tryz.func171.trans (congrArg some (by kernel_rfl))
 f49 := ⟨Tryz.f172.name, by decide, Tryz.func172.trans (congrArg some (by kernel_rfl))⟩
 f50 := ⟨Tryz.f173.name, by decide, Tryz.func173.trans (congrArg some (by kernel_rfl))⟩
 f57 := ⟨Tryz.f174.name, by decide, Tryz.func174.trans (congrArg some (by kernel_rfl))⟩
 t0 := Tryz.underlying0
 a0 := Tryz.isAgg0
 z0 := Tryz.sizeOf0
 v0 := Tryz.zeroValue0
 t3 := Tryz.underlying3
 a3 := Tryz.isAgg3
 z3 := Tryz.sizeOf3
 v3 := Tryz.zeroValue3
 t4 := Tryz.underlying4
 a4 := Tryz.isAgg4
 z4 := Tryz.sizeOf4
 v4 := Tryz.zeroValue4
 t5 := Tryz.underlying5
 a5 := Tryz.isAgg5
 z5 := Tryz.sizeOf5
 v5 := Tryz.zeroValue5
 t9 := Tryz.underlying9
 a9 := Tryz.isAgg9
 z9 := Tryz.sizeOf9
 v9 := Tryz.zeroValue9
 t22 := Tryz.underlying44
 a22 := Tryz.isAgg44
 z22 := Tryz.sizeOf44
 v22 := Tryz.zeroValue44
 t25 := Tryz.underlying41
 a25 := Tryz.isAgg41
 z25 := Tryz.sizeOf41
 v25 := Tryz.zeroValue41
 t39 := Tryz.underlying134
 a39 := Tryz.isAgg134
 z39 := Tryz.sizeOf134
 v39 := Tryz.zeroValue134
 t45 := Tryz.underlying202
 a45 := Tryz.isAgg202
 z45 := Tryz.sizeOf202
 v45 := Tryz.zeroValue202
 t46 := Tryz.underlying203
 a46 := Tryz.isAgg203
 z46 := Tryz.sizeOf203
 v46 := Tryz.zeroValue203
 t50 := Tryz.underlying156
 a50 := Tryz.isAgg156
 z50 := Tryz.sizeOf156
 v50 := Tryz.zeroValue156
 t53 := Tryz.underlying181
 a53 := Tryz.isAgg181
 z53 := Tryz.sizeOf181
 v53 := Tryz.zeroValue181
 t55 := Tryz.underlying76
 a55 := Tryz.isAgg76
 z55 := Tryz.sizeOf76
 v55 := Tryz.zeroValue76
 t66 := Tryz.underlying209
 a66 := Tryz.isAgg209
 z66 := Tryz.sizeOf209
 v66 := Tryz.zeroValue209
 t70 := Tryz.underlying213
 a70 := Tryz.isAgg213
 z70 := Tryz.sizeOf213
 v70 := Tryz.zeroValue213
 t76 := Tryz.underlying215
 a76 := Tryz.isAgg215
 z76 := Tryz.sizeOf215
 v76 := Tryz.zeroValue215
 t77 := Tryz.underlying216
 a77 := Tryz.isAgg216
 z77 := Tryz.sizeOf216
 v77 := Tryz.zeroValue216 }
def Tryz.grow_ren : Go.Shelf.Ren := ⟨fun | 4 => 155 | n => n, fun | 22 => 28 | 25 => 94 | 3 => 3 | 4 => 4 | 9 => 9 | 20 => 20 | 0 => 0 | n => n, fun | n => n⟩
theorem Tryz.grow : Go.Proofs.Lays8.n4 Tryz.prog Tryz.grow_ren := {
 mixed := by kernel_rfl
 f4 := ⟨Tryz.f155.name, by decide, Tryz.func155.trans (congrArg some (by kernel_rfl))⟩
 t0 := Tryz.underlying0
 a0 := Tryz.isAgg0
 z0 := Tryz.sizeOf0
 v0 := Tryz.zeroValue0
 t3 := Tryz.underlying3
 a3 := Tryz.isAgg3
 z3 := Tryz.sizeOf3
 v3 := Tryz.zeroValue3
 t4 := Tryz.underlying4
 a4 := Tryz.isAgg4
 z4 := Tryz.sizeOf4
 v4 := Tryz.zeroValue4
 t9 := Tryz.underlying9
 a9 := Tryz.isAgg9
 z9 := Tryz.sizeOf9
 v9 := Tryz.zeroValue9
 t20 := Tryz.underlying20
 a20 := Tryz.isAgg20
 z20 := Tryz.sizeOf20
 v20 := Tryz.zeroValue20
 t22 := Tryz.underlying28
 a22 := Tryz.isAgg28
 z22 := Tryz.sizeOf28
 v22 := Tryz.zeroValue28 }
end Go.Proofs
