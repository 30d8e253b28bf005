/- Plain theory of the model's machine: a run draws no less than it had drawn. Any program, any goroutines. No conditions but those of each statement. -/
import Derived.Calls
import Derived.Shelf.SlSortCmp.WholeK
import Derived.Shelf.Spec.SlicesGrow
import Derived.Test.YtcbfnkgodiaiiaaGreatProg
set_option linter.unusedSimpArgs false
set_option linter.unusedVariables false
namespace Go.Proofs.YtcbfnkgodiaiiaaGreat.Up
open Go
theorem X1 {α : Type} : ∀ (x : Ask α) (w : World), w.drawn <= (w.ask x).2.drawn
 | .done a, w => by unfold World.ask;exact Nat.le_refl _
 | .ask what range k, w => by
  unfold World.ask
  simp only []
  split
  ·exact X1 (k 0) w
  ·exact Nat.le_trans (Nat.le_succ _) (X1 (k _) { w with drawn := w.drawn + 1 })
theorem A5e (w : World) (c : Sys) : w.drawn <= (w.sys c).2.drawn := by
 unfold World.sys
 have := X1 (Kernel.perform c w.os) w
 split
 ·exact Nat.le_refl _
 ·rename_i h
  rw [h] at this
  exact this
theorem Aao {ε α β : Type} {x : Except ε α} {f : α -> Except ε β} {b : β} (h : (x >>= f) = .ok b) : ∃ a, x = .ok a /\ f a = .ok b := by
 cases x with
 | error e => cases h
 | ok a => exact ⟨a, rfl, h⟩
theorem X8 {p : Program} {w : World} {at_ : Addr} {u : TypeId} {k : Addr} {v : Value} {atomic : Bool} {r : World × List Addr} (h : w.viewStore p at_ u k v atomic = .ok r) : r.1.drawn = w.drawn := by
 unfold World.viewStore at h
 simp only [] at h
 repeat' (first|(split at h)|(obtain ⟨_, _, h⟩ := Aao h))
 all_goals first
  | (cases h;done)
  | (injection h with h;rw [<- h])
theorem Qo {p : Program} {w : World} {a : Addr} {v : Value} {b : Bool} {r : World × List Addr} (h : w.farStore p a v b = .ok r) : r.1.drawn = w.drawn := by
 unfold World.farStore at h
 split at h
 ·split at h
  ·rename_i h2
   injection h with h
   rw [<- h]
   exact X8 h2
  ·cases h
 ·cases h
def rw_ {α : Type} : Result α -> World
 | .ok _ w => w
 | .halt _ w => w
theorem A68 {α : Type} (p : Program) : ∀ (s : Sem α) (w : World), w.drawn <= (rw_ (s.run p w)).drawn := by
 intro s
 induction s with
 | pure a => intro w;exact Nat.le_refl _
 | load m a k ih =>
  intro w
  rw [Sem.run]
  split
  ·exact ih _ _
  ·split
   ·exact ih _ _
   ·exact Nat.le_refl _
 | store m a v k ih =>
  intro w
  cases v <;> rw [Sem.run] <;> first | exact Nat.le_refl _ | skip
  all_goals first
   | (intro _ h;cases h;done)
   | (split
      ·split
       ·exact Nat.le_refl _
       ·exact ih (w.setCell a _)
      ·split
       ·rename_i h
        have := Qo h
        exact Nat.le_trans (Nat.le_of_eq this.symm) (ih _)
       ·exact Nat.le_refl _)
 | new o k ih => intro w;rw [Sem.run];exact ih _ { w with heap := w.heap.push o }
 | shape r k ih => intro w;rw [Sem.run];exact ih _ _
 | freeze a n k ih => intro w;rw [Sem.run];have := ih (w.freeze a n);unfold World.freeze at this ⊢;split <;> simp_all
 | frozen a k ih => intro w;rw [Sem.run];exact ih _ _
 | getObj r k ih => intro w;rw [Sem.run];split <;> first | exact ih _ _ | exact Nat.le_refl _
 | setObj r o k ih => intro w;rw [Sem.run];split <;> first | exact ih { w with heap := w.heap.setIfInBounds r o } | exact Nat.le_refl _
 | choose q k ih =>
  intro w
  rw [Sem.run]
  split
  ·exact ih _ _
  ·exact Nat.le_trans (Nat.le_succ _) (ih _ { w with drawn := w.drawn + 1 })
 | sys c k ih => intro w;rw [Sem.run];exact Nat.le_trans (A5e w c) (ih _ _)
 | program k ih => intro w;rw [Sem.run];exact ih _ _
 | mark m k ih => intro w;rw [Sem.run];exact ih _
 | halt h => intro w;exact Nat.le_refl _
theorem Pj {α : Type} (p : Program) : ∀ (s : Sem α) (w : World) (es : Array Event), w.drawn <= (rw_ (s.runT p w es).1).drawn := by
 intro s
 induction s with
 | pure a => intro w es;exact Nat.le_refl _
 | load m a k ih =>
  intro w es
  rw [Sem.runT]
  split
  ·exact ih _ _ _
  ·split
   ·exact ih _ _ _
   ·exact Nat.le_refl _
 | store m a v k ih =>
  intro w es
  cases v <;> rw [Sem.runT] <;> first | exact Nat.le_refl _ | skip
  all_goals first
   | (intro _ h;cases h;done)
   | (split
      ·split
       ·exact Nat.le_refl _
       ·exact ih (w.setCell a _) _
      ·split
       ·rename_i h
        have := Qo h
        exact Nat.le_trans (Nat.le_of_eq this.symm) (ih _ _)
       ·exact Nat.le_refl _)
 | new o k ih => intro w es;rw [Sem.runT];exact ih _ { w with heap := w.heap.push o } _
 | shape r k ih => intro w es;rw [Sem.runT];exact ih _ _ _
 | freeze a n k ih => intro w es;rw [Sem.runT];have := ih (w.freeze a n) es;unfold World.freeze at this ⊢;split <;> simp_all
 | frozen a k ih => intro w es;rw [Sem.runT];exact ih _ _ _
 | getObj r k ih => intro w es;rw [Sem.runT];split <;> first | exact ih _ _ _ | exact Nat.le_refl _
 | setObj r o k ih => intro w es;rw [Sem.runT];split <;> first | exact ih { w with heap := w.heap.setIfInBounds r o } _ | exact Nat.le_refl _
 | choose q k ih =>
  intro w es
  rw [Sem.runT]
  split
  ·exact ih _ _ _
  ·exact Nat.le_trans (Nat.le_succ _) (ih _ { w with drawn := w.drawn + 1 } _)
 | sys c k ih => intro w es;rw [Sem.runT];exact Nat.le_trans (A5e w c) (ih _ _ _)
 | program k ih => intro w es;rw [Sem.runT];exact ih _ _ _
 | mark m k ih => intro w es;rw [Sem.runT];exact ih _ _
 | halt h => intro w es;exact Nat.le_refl _

/-! ### Steps -/
def UpG (n : Nat) : GStep -> Prop
 | .go _ w _ => n <= w.drawn
 | .comm _ _ _ _ w _ => n <= w.drawn
 | .spawn _ _ w _ => n <= w.drawn
 | .count _ w _ => n <= w.drawn
 | .timer _ _ w _ => n <= w.drawn
 | .alone _ _ w _ => n <= w.drawn
 | .newcoro _ _ _ w _ => n <= w.drawn
 | .coroswitch _ _ _ w _ => n <= w.drawn
 | .collect _ w _ => n <= w.drawn
 | .watch _ w _ => n <= w.drawn
 | .ended _ _ _ => True
theorem UpG.after {n : Nat} {es : Array Event} {s : GStep} (h : UpG n s) : UpG n (s.after es) := by
 cases s <;> exact h
theorem La {n : Nat} {fr : Frame} {m : String} {w : World} (h : n <= w.drawn) : UpG n (endThrow fr m w) := h
theorem M7 {n : Nat} {p : Program} {fr : Frame} {v : Value} {w : World} (h : n <= w.drawn) : UpG n (endPrinting p fr v w) := by
 unfold endPrinting
 simp only []
 split
 ·exact h
 ·trivial
theorem A3x {n : Nat} {w : World} {fd : Nat} {t : ByteArray} {o : Outcome} : UpG n (endWith w fd t o) := by
 unfold endWith
 simp only []
 split
 ·split <;> trivial
 ·trivial
 ·trivial
theorem Dq {α : Type} {p : Program} {s : Sem α} {w w' : World} {a : α} (h : s.run p w = .ok a w') : w.drawn <= w'.drawn := by
 have := A68 p s w
 rw [h] at this;exact this
theorem A16 {α : Type} {p : Program} {s : Sem α} {w w' : World} {a : Halt} (h : s.run p w = .halt a w') : w.drawn <= w'.drawn := by
 have := A68 p s w
 rw [h] at this;exact this
theorem R2 {n : Nat} {p : Program} {fr : Frame} {cs : List Frame} {d : Option Dying} {m : String} {w : World} (h : n <= w.drawn) : UpG n (endFatal p fr cs d m w) := by
 unfold endFatal
 simp only []
 split
 ·rename_i h2
  exact Nat.le_trans h (Dq h2)
 ·trivial
 ·trivial
theorem Ade {α : Type} {p : Program} {s : Sem α} {w w' : World} {a : α} {es es' : Array Event} (h : s.runT p w es = (.ok a w', es')) : w.drawn <= w'.drawn := by
 have := Pj p s w es
 rw [h] at this;exact this
theorem A90 {α : Type} {p : Program} {s : Sem α} {w w' : World} {a : Halt} {es es' : Array Event} (h : s.runT p w es = (.halt a w', es')) : w.drawn <= w'.drawn := by
 have := Pj p s w es
 rw [h] at this;exact this
theorem A2k {n : Nat} {p : Program} {fr : Frame} {d : Dying} {f : Fatal} {w : World} (h : n <= w.drawn) : UpG n (writeOn p fr d f w) := by
 unfold writeOn
 simp only []
 split
 ·trivial
 ·split
  ·rename_i h2;exact Nat.le_trans h (Ade h2)
  ·rename_i h2;exact Nat.le_trans h (A90 h2)
  ·trivial
  ·trivial
theorem Eh {α : Type} {p : Program} {s : Sem α} {w w' : World} {a : α} {es : Array Event} (h : (s.runT p w es).1 = .ok a w') : w.drawn <= w'.drawn := by
 have := Pj p s w es
 rw [h] at this;exact this
theorem Ho {α : Type} {p : Program} {s : Sem α} {w w' : World} {a : Halt} {es : Array Event} (h : (s.runT p w es).1 = .halt a w') : w.drawn <= w'.drawn := by
 have := Pj p s w es
 rw [h] at this;exact this
theorem Adb {n : Nat} {p : Program} {fr : Frame} {d : Dying} {w : World} (h : n <= w.drawn) : UpG n (die p fr d w) := by
 unfold die
 simp only []
 split
 ·exact A2k h
 ·split
  ·split
   ·exact h
   ·exact A3x
  ·split
   ·exact h
   ·split
    ·rename_i h2;exact Nat.le_trans h (Dq h2)
    ·trivial
   ·apply UpG.after
    split
    ·rename_i h2;exact Nat.le_trans h (Eh h2)
    ·rename_i h2;exact Nat.le_trans h (Eh h2)
    ·trivial
    ·rename_i h2;exact M7 (Nat.le_trans h (Ho h2))
    ·trivial
   ·trivial
theorem Ix {n : Nat} {p : Program} {b : Bool} {fr : Frame} {cs : List Frame} {d : Option Dying} {v : Value} {w : World} (h : n <= w.drawn) : UpG n (doReturn p b fr cs d v w) := by
 unfold doReturn
 simp only []
 repeat' split
 all_goals first | exact h | trivial
theorem Fp {n : Nat} {c : Prop} [Decidable c] {a b : GStep} (h : UpG n a) (k : UpG n b) : UpG n (if c then a else b) := by
 split <;> assumption
theorem T0 {n : Nat} {p : Program} {fr : Frame} {cs : List Frame} {dy : Option Dying} {d : Deferred} {w : World} (h : n <= w.drawn) : UpG n (callDeferred p fr cs dy d w) := by
 unfold callDeferred
 simp only []
 refine Fp trivial ?_
 ·apply UpG.after
  split
  all_goals rename_i h2
  all_goals first
   | trivial
   | exact Nat.le_trans h (Eh h2)
   | exact Nat.le_trans h (Ho h2)
   | exact R2 (Nat.le_trans h (Ho h2))
   | exact La (Nat.le_trans h (Ho h2))
   | (split <;> first | exact Nat.le_trans h (Eh h2) | trivial)
   | (exfalso;assumption)
   | skip
theorem A65 {n : Nat} {p : Program} {b : Bool} {fr : Frame} {cs : List Frame} {dy : Option Dying} {w : World} (h : n <= w.drawn) : UpG n (unwind p b fr cs dy w) := by
 unfold unwind
 simp only []
 split
 ·apply UpG.after
  split
  ·rename_i h2;exact Nat.le_trans h (Eh h2)
  ·trivial
 ·exact T0 h
 ·split
  ·trivial
  ·split
   ·trivial
   ·split
    ·exact h
    ·split
     ·split
      ·exact h
      ·split
       ·rename_i h2;exact Nat.le_trans h (Dq h2)
       ·trivial
       ·trivial
     ·split
      ·exact M7 h
      ·trivial
  ·split
   ·exact Ix h
   ·apply UpG.after
    split
    ·rename_i h2;exact Ix (Nat.le_trans h (Eh h2))
    ·trivial
    ·trivial

theorem Tf {α : Type} {p : Program} {s : Sem α} {b : Bool} {w w' : World} {a : α} (h : (if b = true then s.runT p w #[] else (s.run p w, #[])).1 = .ok a w') : w.drawn <= w'.drawn := by
 cases b
 ·exact Dq h
 ·exact Eh h
theorem Mf {α : Type} {p : Program} {s : Sem α} {b : Bool} {w w' : World} {a : Halt} (h : (if b = true then s.runT p w #[] else (s.run p w, #[])).1 = .halt a w') : w.drawn <= w'.drawn := by
 cases b
 ·exact A16 h
 ·exact Ho h
theorem A7n {n : Nat} {p : Program} {fr : Frame} {cs : List Frame} {dy : Option Dying} {g : Nat} {w : World} (h : n <= w.drawn) : UpG n (early p fr cs dy g w) := by
 unfold early
 simp only []
 have ny : ∀ w : World, n <= w.drawn -> UpG n (match w.heap[g]? with
  | some (.pending c elem) => .go { frame := fr, callers := cs, status := .running, dying := dy } { w with heap := w.heap.setIfInBounds g (.cells c elem) }
  | _ => .ended (.stuck "early: the variable does not wait" (fr.pos p)) w) := fun w h => by
  split
  ·exact h
  ·trivial
 refine Fp (ny w h) ?_
 split
 ·trivial
 ·refine Fp (ny w h) ?_
  refine Fp (ny w h) ?_
  split
  ·trivial
  ·exact h
  ·trivial
  ·exact ny w h
  ·refine Fp h ?_
   refine Fp (ny w h) ?_
   split
   ·rename_i h2;exact ny _ (Nat.le_trans h (Dq h2))
   ·rename_i h2;exact Nat.le_trans h (Dq h2)
   ·trivial
theorem K6 {n : Nat} {p : Program} {b : Bool} {fr : Frame} {cs : List Frame} {dy : Option Dying} {s : Sem Next} {w : World} (h : n <= w.drawn) : UpG n (stepG.apply p b fr cs dy s w) := by
 unfold stepG.apply
 simp only []
 apply UpG.after
 split
 all_goals (try rename_i h2)
 all_goals first
  | trivial
  | exact Nat.le_trans h (Tf h2)
  | exact Nat.le_trans h (Mf h2)
  | exact R2 (Nat.le_trans h (Mf h2))
  | exact La (Nat.le_trans h (Mf h2))
  | exact A7n (Nat.le_trans h (Mf h2))
  | (refine Fp (La (Nat.le_trans h (Tf h2))) ?_;exact Nat.le_trans h (Tf h2))
  | (have h3 := Nat.le_trans h (Tf h2);clear h2;split <;> exact h3)
theorem Ac5 {n : Nat} {p : Program} {b : Bool} {fr : Frame} {cs : List Frame} {dy : Option Dying} {w : World} (h : n <= w.drawn) : UpG n (stepG.oper p b fr cs dy w) := by
 unfold stepG.oper
 split
 ·trivial
 ·split
  ·exact K6 h
  ·exact K6 h
theorem A1h {n : Nat} {α : Type} {o : Option α} {a : GStep} {f : α -> GStep} (h : UpG n a) (k : ∀ x, UpG n (f x)) : UpG n (o.elim a f) := by
 cases o
 ·exact h
 ·exact k _
theorem Abw {n : Nat} {p : Program} {main b : Bool} {fr : Frame} {cs : List Frame} {dy : Option Dying} {w : World} (h : n <= w.drawn) : UpG n (stepG.exec p main b fr cs dy w) := by
 unfold stepG.exec
 simp only []
 split
 all_goals first
  | exact h
  | trivial
  | exact K6 h
  | (split
     ·refine Fp h trivial
     ·apply UpG.after
      split
      ·rename_i h2;exact Ix (Nat.le_trans h (Eh h2))
      ·trivial)
  | (split <;> first | exact h | trivial)
  | (refine A1h ?_ (fun _ => h)
     split
     ·refine Fp h trivial
     ·apply UpG.after
      split
      ·rename_i h2;exact Ix (Nat.le_trans h (Eh h2))
      ·trivial)
  | (apply UpG.after
     split
     ·rename_i h2;exact K6 (Nat.le_trans h (Eh h2))
     ·trivial)
  | (apply UpG.after
     split
     ·rename_i h2;exact Nat.le_trans h (Eh h2)
     ·rename_i h2;exact Nat.le_trans h (Ho h2)
     ·trivial)
  | (refine A1h trivial (fun _ => K6 h))
  | (refine Fp h ?_
     split
     ·rename_i h2;exact Nat.le_trans h (Dq h2)
     ·trivial)
  | (refine Fp (Ac5 h) h)
  | skip
theorem A92 {n : Nat} {p : Program} {main b : Bool} {g : Goroutine} {w : World} (h : n <= w.drawn) : UpG n (stepG p main g w b) := by
 unfold stepG
 simp only []
 split
 ·exact Adb h
 ·exact Abw h
 ·exact A65 h

/-! ### The machine -/
def UpS (n : Nat) : Stepped -> Prop
 | .next m => n <= m.world.drawn
 | .ended _ _ => True
def UpM (n : Nat) : Move -> Prop
 | .goroutine m _ => n <= m.world.drawn
 | .machine s _ => UpS n s
theorem A1o {n : Nat} {c : Prop} [Decidable c] {a b : Stepped} (h : UpS n a) (k : UpS n b) : UpS n (if c then a else b) := by
 split <;> assumption
theorem Ty {n : Nat} {c : Prop} [Decidable c] {a b : Stepped × Array MemOp} (h : UpS n a.1) (k : UpS n b.1) : UpS n (if c then a else b).1 := by
 split <;> assumption
theorem Z8 {rest : Rest} {cs : Array CommCase} {w w' : World} (h : waitingAt rest cs w = some w') : w'.drawn = w.drawn := by
 unfold waitingAt at h
 split at h
 ·split at h
  ·injection h with h;rw [<- h]
  ·cases h
 ·injection h with h;rw [h]
theorem U5 {n : Nat} {p : Program} {rest : Rest} {gs : Array Goroutine} {i : Nat} {g : Goroutine} {cs : Array CommCase} {b : Bool} {sh : CommShape} {w : World} (h : n <= w.drawn) : UpS n (communicate p rest gs i g cs b sh w).1 := by
 unfold communicate
 simp only []
 refine Ty trivial ?_
 refine Ty ?_ ?_
 ·refine Ty ?_ h
  split
  ·rename_i h2
   have := Z8 h2
   show n <= _
   rw [this];exact h
  ·trivial
 ·split
  ·trivial
  ·rename_i h2
   have h3 := Nat.le_trans h (Dq h2)
   clear h2 h
   split
   ·split
    ·rename_i h4;exact Nat.le_trans h3 (A16 h4)
    ·trivial
   ·exact h3
   ·exact h3
   ·split
    ·exact h3
    ·split
     ·rename_i h4
      have h5 := Dq h4
      exact Nat.le_trans h3 h5
     ·trivial
   ·exact h3
   ·exact h3
   ·trivial
theorem A19 {n : Nat} {p : Program} {gs : Array Goroutine} {rest : Rest} {w : World} (h : n <= w.drawn) : UpS n (look p gs rest w) := by
 unfold look
 simp only []
 split
 ·refine A1o trivial ?_
  split
  ·trivial
  ·split
   ·rename_i h2
    have h5 := Dq h2
    exact Nat.le_trans h h5
   ·trivial
   ·trivial
 ·trivial
theorem A9j (w : World) (c : Nat) : (drain w c).2.drawn = w.drawn := by
 unfold drain
 split <;> rfl
theorem Vs (m : Machine) (k : Nat) (t : Timer) (a b : Nat) : (retime m k t a b).2.world.drawn = m.world.drawn := by
 unfold retime
 simp only []
 split
 ·exact A9j _ _
 ·rfl
theorem Xw {m : Machine} {var : Addr} {f : Nat -> Timer -> Value × Machine} {r : Value × Machine} {n : Nat} (hf : ∀ k t, (f k t).2.world.drawn = n) (h : timerOp.named m var f = .ok r) : r.2.world.drawn = n := by
 unfold timerOp.named at h
 split at h
 ·injection h with h;rw [<- h];exact hf _ _
 ·cases h
theorem A6d {m m' : Machine} {var : Addr} (h : timerOp.opened m var = some m') : m'.world.drawn = m.world.drawn := by
 unfold timerOp.opened at h
 split at h
 ·split at h
  ·injection h with h;rw [<- h]
  ·cases h
 ·injection h with h;rw [h]
theorem A28 {m : Machine} {op : TimerOp} {r : Value × Machine} (h : timerOp m op = .ok r) : r.2.world.drawn = m.world.drawn := by
 unfold timerOp at h
 split at h
 ·split at h
  ·injection h with h;rw [<- h];rfl
  ·split at h
   ·split at h
    ·cases h
    ·injection h with h;rw [<- h]
   ·cases h
 ·exact Xw (fun k t => Vs _ _ _ _ _) h
 ·split at h
  ·rename_i h2
   have := A6d h2
   exact Xw (fun k t => (Vs _ _ _ _ _).trans this) h
  ·cases h
 ·injection h with h;rw [<- h];rfl
theorem A8j {n : Nat} {p : Program} {m : Machine} {k : Nat} (h : n <= m.world.drawn) : UpS n (serve p m k) := by
 unfold serve
 simp only []
 split
 ·trivial
 ·exact h
 ·split
  ·trivial
  ·exact h
theorem Wt {n : Nat} {p : Program} {m : Machine} {i : Nat} {b : Bool} (h : n <= m.world.drawn) : UpS n (runT p m i b).1 := by
 unfold runT
 simp only []
 have key := A92 (n := n) (p := p) (main := i == 0) (b := b) (g := (m.gs.swapAt! i { (default : Goroutine) with status := .finished }).1) (w := m.world) h
 split
 all_goals (rename_i h2;rw [h2] at key)
 all_goals first
  | trivial
  | exact key
  | exact U5 key
  | exact A19 key
  | (exact A1o trivial key)
  | (dsimp only [endThrow, dieOf]
     split <;> first | exact key | trivial)
  | (dsimp only [endThrow, dieOf]
     split
     ·rename_i h4
      have := A28 h4
      show n <= _
      rw [this]
      exact key
     all_goals first | exact key | trivial)
theorem Ut {n : Nat} {p : Program} {m : Machine} {rs : List Nat} (h : n <= m.world.drawn) : UpM n (match (choose (.sched rs.length)).run p m.world with
   | .halt _ w => .machine (.ended (.stuck "sched" "") w)
   | .ok k world =>
    if rs.length <= 1 then .goroutine { m with world } (rs.getD k 0) else
    match (choose (.extern "sched.slice" 65536)).run p world with
    | .halt _ w => .machine (.ended (.stuck "sched.slice" "") w)
    | .ok n world => .goroutine { m with world, rest := { m.rest with slice := if n = 0 then none else some (rs.getD k 0, n) } } (rs.getD k 0)) := by
 split
 ·trivial
 ·rename_i h2
  have h3 := Nat.le_trans h (Dq h2)
  split
  ·exact h3
  ·split
   ·trivial
   ·rename_i h4
    have h5 := Dq h4
    exact Nat.le_trans h3 h5
theorem Ri {n : Nat} {p : Program} {m : Machine} (h : n <= m.world.drawn) : UpM n (askOn p m) := by
 unfold askOn
 simp only []
 split
 ·trivial
 ·rename_i h2
  have h3 := Nat.le_trans h (Dq h2)
  split
  ·exact A8j h3
  ·split
   ·split
    ·exact h3
    ·split
     ·exact h3
     ·split <;> trivial
   ·split
    ·exact Ut (m := { m with world := _ }) h3
    ·split
     ·trivial
     ·rename_i h4
      have h5 := Nat.le_trans h3 (Dq h4)
      exact Ut (m := { m with world := _ }) h5
     ·rename_i h4
      have h5 := Nat.le_trans h3 (Dq h4)
      exact h5
     ·rename_i h4
      have h5 := Nat.le_trans h3 (Dq h4)
      exact Ut (m := Machine.advanceTo { m with world := _ } _) h5
theorem A0t {n : Nat} {p : Program} {m : Machine} (h : n <= m.world.drawn) : UpM n (ask p m) := by
 unfold ask
 split
 ·split
  ·trivial
  ·rename_i h2
   have h3 := Nat.le_trans h (Dq h2)
   have h4 := A19 (p := p) (gs := m.gs) (rest := m.rest) h3
   split
   ·rename_i h5
    rw [h5] at h4
    exact Ri h4
   ·exact h4
  ·rename_i h2
   exact Ri (m := { m with world := _ }) (Nat.le_trans h (Dq h2))
 ·exact Ri h
theorem Abc {n : Nat} {p : Program} {m : Machine} (h : n <= m.world.drawn) : UpM n (move p m) := by
 unfold move
 split
 ·split
  ·exact h
  ·trivial
 ·split
  ·split
   ·exact h
   ·exact A0t h
  ·exact A0t h
theorem Aaz {n : Nat} {p : Program} {m : Machine} (h : n <= m.world.drawn) : UpS n (step p m) := by
 unfold step stepT
 have := Abc (p := p) h
 split
 ·rename_i h2
  rw [h2] at this
  exact Wt this
 ·rename_i h2
  rw [h2] at this
  exact this
theorem A1m {p : Program} : ∀ (k : Nat) {n : Nat} {m m' : Machine}, n <= m.world.drawn -> runN p k m = .next m' -> n <= m'.world.drawn
 | 0, n, m, m', h, hr => by
  rw [runN] at hr
  injection hr with hr
  rw [<- hr];exact h
 | k + 1, n, m, m', h, hr => by
  rw [runN] at hr
  have := Aaz (p := p) h
  cases hs : step p m with
  | next m2 =>
   rw [hs] at hr this
   exact A1m k this hr
  | ended o w => rw [hs] at hr;cases hr
theorem calls_up {P : Program} {f : FuncId} {args : Array Value} {w : World} {v : Value} {R : World -> Prop} (h : Calls P f args w fun e w' => e = .returned v /\ R w') : Calls P f args w fun e w' => e = .returned v /\ R w' /\ w.drawn <= w'.drawn := by
 intro cs
 obtain ⟨e, w', fr, ⟨rfl, hR⟩, hc, hf, hl⟩ := h cs
 refine ⟨_, w', fr, ⟨rfl, hR, ?_⟩, hc, hf, hl⟩
 obtain ⟨k, hk⟩ := hc
 exact A1m k (n := w.drawn) (Nat.le_refl _) hk
end Go.Proofs.YtcbfnkgodiaiiaaGreat.Up
namespace Go.Proofs
open Go.Shelf
def Tryz.srt_ren : Go.Shelf.Ren := ⟨fun | 6 => 285 | 15 => 300 | 14 => 299 | 28 => 311 | 29 => 302 | 20 => 303 | 21 => 304 | 22 => 305 | 23 => 306 | 24 => 307 | 25 => 308 | 26 => 309 | 27 => 310 | 46 => 312 | 47 => 313 | 48 => 314 | 49 => 315 | 50 => 316 | 57 => 317 | n => n, fun | 22 => 289 | 24 => 58 | 25 => 115 | 3 => 3 | 39 => 264 | 0 => 0 | 53 => 324 | 55 => 145 | 4 => 4 | 46 => 357 | 45 => 356 | 50 => 277 | 5 => 5 | 9 => 9 | 66 => 363 | 70 => 367 | 76 => 369 | 77 => 52 | n => n, fun | n => n⟩
theorem Tryz.srt : Go.Proofs.SlLaysF0.n6 Tryz.prog Tryz.srt_ren := {
 mixed := by kernel_rfl
 f6 := ⟨Tryz.f285.name, by decide, Tryz.func285.trans (congrArg some (by kernel_rfl))⟩
 f14 := ⟨Tryz.f299.name, by decide, Tryz.func299.trans (congrArg some (by kernel_rfl))⟩
 f15 := Tryz.func300.trans (congrArg some (by kernel_rfl))
 f20 := ⟨Tryz.f303.name, by decide, Tryz.func303.trans (congrArg some (by kernel_rfl))⟩
 f21 := ⟨Tryz.f304.name, by decide, Tryz.func304.trans (congrArg some (by kernel_rfl))⟩
 f22 := ⟨Tryz.f305.name, by decide, Tryz.func305.trans (congrArg some (by kernel_rfl))⟩
 f23 := ⟨Tryz.f306.name, by decide, Tryz.func306.trans (congrArg some (by kernel_rfl))⟩
 f24 := ⟨Tryz.f307.name, by decide, Tryz.func307.trans (congrArg some (by kernel_rfl))⟩
 f25 := ⟨Tryz.f308.name, by decide, Tryz.func308.trans (congrArg some (by kernel_rfl))⟩
 f26 := ⟨Tryz.f309.name, by decide, Tryz.func309.trans (congrArg some (by kernel_rfl))⟩
 f27 := ⟨Tryz.f310.name, by decide, Tryz.func310.trans (congrArg some (by kernel_rfl))⟩
 f28 := Tryz.func311.trans (congrArg some (by kernel_rfl))
 f29 := Tryz.func302.trans (congrArg some (by kernel_rfl))
 f46 := ⟨Tryz.f312.name, by decide, Tryz.func312.trans (congrArg some (by kernel_rfl))⟩
 f47 := Tryz.func313.trans (congrArg some (by kernel_rfl))
 f48 := Tryz.func314.trans (congrArg some (by kernel_rfl))
 f49 := ⟨Tryz.f315.name, by decide, Tryz.func315.trans (congrArg some (by kernel_rfl))⟩
 f50 := ⟨Tryz.f316.name, by decide, Tryz.func316.trans (congrArg some (by kernel_rfl))⟩
 f57 := ⟨Tryz.f317.name, by decide, Tryz.func317.trans (congrArg some (by kernel_rfl))⟩
 t0 := Tryz.underlying0
 a0 := Tryz.isAgg0
 z0 := Tryz.sizeOf0
 v0 := Tryz.zeroValue0
 t3 := Tryz.underlying3
 a3 := Tryz.isAgg3
 z3 := Tryz.sizeOf3
 v3 := Tryz.zeroValue3
 t4 := Tryz.underlying4
 a4 := Tryz.isAgg4
 z4 := Tryz.sizeOf4
 v4 := Tryz.zeroValue4
 t5 := Tryz.underlying5
 a5 := Tryz.isAgg5
 z5 := Tryz.sizeOf5
 v5 := Tryz.zeroValue5
 t9 := Tryz.underlying9
 a9 := Tryz.isAgg9
 z9 := Tryz.sizeOf9
 v9 := Tryz.zeroValue9
 t22 := Tryz.underlying289
 a22 := Tryz.isAgg289
 z22 := Tryz.sizeOf289
 v22 := Tryz.zeroValue289
 t25 := Tryz.underlying115
 a25 := Tryz.isAgg115
 z25 := Tryz.sizeOf115
 v25 := Tryz.zeroValue115
 t39 := Tryz.underlying264
 a39 := Tryz.isAgg264
 z39 := Tryz.sizeOf264
 v39 := Tryz.zeroValue264
 t45 := Tryz.underlying356
 a45 := Tryz.isAgg356
 z45 := Tryz.sizeOf356
 v45 := Tryz.zeroValue356
 t46 := Tryz.underlying357
 a46 := Tryz.isAgg357
 z46 := Tryz.sizeOf357
 v46 := Tryz.zeroValue357
 t50 := Tryz.underlying277
 a50 := Tryz.isAgg277
 z50 := Tryz.sizeOf277
 v50 := Tryz.zeroValue277
 t53 := Tryz.underlying324
 a53 := Tryz.isAgg324
 z53 := Tryz.sizeOf324
 v53 := Tryz.zeroValue324
 t55 := Tryz.underlying145
 a55 := Tryz.isAgg145
 z55 := Tryz.sizeOf145
 v55 := Tryz.zeroValue145
 t66 := Tryz.underlying363
 a66 := Tryz.isAgg363
 z66 := Tryz.sizeOf363
 v66 := Tryz.zeroValue363
 t70 := Tryz.underlying367
 a70 := Tryz.isAgg367
 z70 := Tryz.sizeOf367
 v70 := Tryz.zeroValue367
 t76 := Tryz.underlying369
 a76 := Tryz.isAgg369
 z76 := Tryz.sizeOf369
 v76 := Tryz.zeroValue369
 t77 := Tryz.underlying52
 a77 := Tryz.isAgg52
 z77 := Tryz.sizeOf52
 v77 := Tryz.zeroValue52 }
def Tryz.grow_ren : Go.Shelf.Ren := ⟨fun | 4 => 298 | n => n, fun | 22 => 76 | 25 => 195 | 3 => 3 | 4 => 4 | 9 => 9 | 20 => 20 | 0 => 0 | n => n, fun | n => n⟩
theorem Tryz.grow : Go.Proofs.Lays8.n4 Tryz.prog Tryz.grow_ren := {
 mixed := by kernel_rfl
 f4 := ⟨Tryz.f298.name, by decide, Tryz.func298.trans (congrArg some (by kernel_rfl))⟩
 t0 := Tryz.underlying0
 a0 := Tryz.isAgg0
 z0 := Tryz.sizeOf0
 v0 := Tryz.zeroValue0
 t3 := Tryz.underlying3
 a3 := Tryz.isAgg3
 z3 := Tryz.sizeOf3
 v3 := Tryz.zeroValue3
 t4 := Tryz.underlying4
 a4 := Tryz.isAgg4
 z4 := Tryz.sizeOf4
 v4 := Tryz.zeroValue4
 t9 := Tryz.underlying9
 a9 := Tryz.isAgg9
 z9 := Tryz.sizeOf9
 v9 := Tryz.zeroValue9
 t20 := Tryz.underlying20
 a20 := Tryz.isAgg20
 z20 := Tryz.sizeOf20
 v20 := Tryz.zeroValue20
 t22 := Tryz.underlying76
 a22 := Tryz.isAgg76
 z22 := Tryz.sizeOf76
 v22 := Tryz.zeroValue76 }
end Go.Proofs
