/- Plain theory of the model's machine: a run draws no less than it had drawn. Any program, any goroutines. No conditions but those of each statement. -/
import Derived.Calls
import Derived.Shelf.SlSortCmp.WholeK
import Derived.Shelf.Spec.SlicesGrow
import Derived.Test.YtocoehahhohpgaaGreatProg
set_option linter.unusedSimpArgs false
set_option linter.unusedVariables false
namespace Go.Proofs.YtocoehahhohpgaaGreat.Up
open Go
theorem Xa {α : Type} : ∀ (x : Ask α) (w : World), w.drawn <= (w.ask x).2.drawn
 | .done a, w => by unfold World.ask;exact Nat.le_refl _
 | .ask what range k, w => by
  unfold World.ask
  simp only []
  split
  ·exact Xa (k 0) w
  ·exact Nat.le_trans (Nat.le_succ _) (Xa (k _) { w with drawn := w.drawn + 1 })
theorem A5o (w : World) (c : Sys) : w.drawn <= (w.sys c).2.drawn := by
 unfold World.sys
 have := Xa (Kernel.perform c w.os) w
 split
 ·exact Nat.le_refl _
 ·rename_i h
  rw [h] at this
  exact this
theorem Aax {ε α β : Type} {x : Except ε α} {f : α -> Except ε β} {b : β} (h : (x >>= f) = .ok b) : ∃ a, x = .ok a /\ f a = .ok b := by
 cases x with
 | error e => cases h
 | ok a => exact ⟨a, rfl, h⟩
theorem Xf {p : Program} {w : World} {at_ : Addr} {u : TypeId} {k : Addr} {v : Value} {atomic : Bool} {r : World × List Addr} (h : w.viewStore p at_ u k v atomic = .ok r) : r.1.drawn = w.drawn := by
 unfold World.viewStore at h
 simp only [] at h
 repeat' (first|(split at h)|(obtain ⟨_, _, h⟩ := Aax h))
 all_goals first
  | (cases h;done)
  | (injection h with h;rw [<- h])
theorem Q7 {p : Program} {w : World} {a : Addr} {v : Value} {b : Bool} {r : World × List Addr} (h : w.farStore p a v b = .ok r) : r.1.drawn = w.drawn := by
 unfold World.farStore at h
 split at h
 ·split at h
  ·rename_i h2
   injection h with h
   rw [<- h]
   exact Xf h2
  ·cases h
 ·cases h
def rw_ {α : Type} : Result α -> World
 | .ok _ w => w
 | .halt _ w => w
theorem A3f {α : Type} (p : Program) : ∀ (s : Sem α) (w : World), w.drawn <= (rw_ (s.run p w)).drawn := by
 intro s
 induction s with
 | pure a => intro w;exact Nat.le_refl _
 | load m a k ih =>
  intro w
  rw [Sem.run]
  split
  ·exact ih _ _
  ·split
   ·exact ih _ _
   ·exact Nat.le_refl _
 | store m a v k ih =>
  intro w
  cases v <;> rw [Sem.run] <;> first | exact Nat.le_refl _ | skip
  all_goals first
   | (intro _ h;cases h;done)
   | (split
      ·split
       ·exact Nat.le_refl _
       ·exact ih (w.setCell a _)
      ·split
       ·rename_i h
        have := Q7 h
        exact Nat.le_trans (Nat.le_of_eq this.symm) (ih _)
       ·exact Nat.le_refl _)
 | new o k ih => intro w;rw [Sem.run];exact ih _ { w with heap := w.heap.push o }
 | shape r k ih => intro w;rw [Sem.run];exact ih _ _
 | freeze a n k ih => intro w;rw [Sem.run];have := ih (w.freeze a n);unfold World.freeze at this ⊢;split <;> simp_all
 | frozen a k ih => intro w;rw [Sem.run];exact ih _ _
 | getObj r k ih => intro w;rw [Sem.run];split <;> first | exact ih _ _ | exact Nat.le_refl _
 | setObj r o k ih => intro w;rw [Sem.run];split <;> first | exact ih { w with heap := w.heap.setIfInBounds r o } | exact Nat.le_refl _
 | choose q k ih =>
  intro w
  rw [Sem.run]
  split
  ·exact ih _ _
  ·exact Nat.le_trans (Nat.le_succ _) (ih _ { w with drawn := w.drawn + 1 })
 | sys c k ih => intro w;rw [Sem.run];exact Nat.le_trans (A5o w c) (ih _ _)
 | program k ih => intro w;rw [Sem.run];exact ih _ _
 | mark m k ih => intro w;rw [Sem.run];exact ih _
 | halt h => intro w;exact Nat.le_refl _
theorem Pf {α : Type} (p : Program) : ∀ (s : Sem α) (w : World) (es : Array Event), w.drawn <= (rw_ (s.runT p w es).1).drawn := by
 intro s
 induction s with
 | pure a => intro w es;exact Nat.le_refl _
 | load m a k ih =>
  intro w es
  rw [Sem.runT]
  split
  ·exact ih _ _ _
  ·split
   ·exact ih _ _ _
   ·exact Nat.le_refl _
 | store m a v k ih =>
  intro w es
  cases v <;> rw [Sem.runT] <;> first | exact Nat.le_refl _ | skip
  all_goals first
   | (intro _ h;cases h;done)
   | (split
      ·split
       ·exact Nat.le_refl _
       ·exact ih (w.setCell a _) _
      ·split
       ·rename_i h
        have := Q7 h
        exact Nat.le_trans (Nat.le_of_eq this.symm) (ih _ _)
       ·exact Nat.le_refl _)
 | new o k ih => intro w es;rw [Sem.runT];exact ih _ { w with heap := w.heap.push o } _
 | shape r k ih => intro w es;rw [Sem.runT];exact ih _ _ _
 | freeze a n k ih => intro w es;rw [Sem.runT];have := ih (w.freeze a n) es;unfold World.freeze at this ⊢;split <;> simp_all
 | frozen a k ih => intro w es;rw [Sem.runT];exact ih _ _ _
 | getObj r k ih => intro w es;rw [Sem.runT];split <;> first | exact ih _ _ _ | exact Nat.le_refl _
 | setObj r o k ih => intro w es;rw [Sem.runT];split <;> first | exact ih { w with heap := w.heap.setIfInBounds r o } _ | exact Nat.le_refl _
 | choose q k ih =>
  intro w es
  rw [Sem.runT]
  split
  ·exact ih _ _ _
  ·exact Nat.le_trans (Nat.le_succ _) (ih _ { w with drawn := w.drawn + 1 } _)
 | sys c k ih => intro w es;rw [Sem.runT];exact Nat.le_trans (A5o w c) (ih _ _ _)
 | program k ih => intro w es;rw [Sem.runT];exact ih _ _ _
 | mark m k ih => intro w es;rw [Sem.runT];exact ih _ _
 | halt h => intro w es;exact Nat.le_refl _

/-! ### Steps -/
def UpG (n : Nat) : GStep -> Prop
 | .go _ w _ => n <= w.drawn
 | .comm _ _ _ _ w _ => n <= w.drawn
 | .spawn _ _ w _ => n <= w.drawn
 | .count _ w _ => n <= w.drawn
 | .timer _ _ w _ => n <= w.drawn
 | .alone _ _ w _ => n <= w.drawn
 | .newcoro _ _ _ w _ => n <= w.drawn
 | .coroswitch _ _ _ w _ => n <= w.drawn
 | .collect _ w _ => n <= w.drawn
 | .watch _ w _ => n <= w.drawn
 | .ended _ _ _ => True
theorem UpG.after {n : Nat} {es : Array Event} {s : GStep} (h : UpG n s) : UpG n (s.after es) := by
 cases s <;> exact h
theorem Kt {n : Nat} {fr : Frame} {m : String} {w : World} (h : n <= w.drawn) : UpG n (endThrow fr m w) := h
theorem L7 {n : Nat} {p : Program} {fr : Frame} {v : Value} {w : World} (h : n <= w.drawn) : UpG n (endPrinting p fr v w) := by
 unfold endPrinting
 simp only []
 split
 ·exact h
 ·trivial
theorem A2u {n : Nat} {w : World} {fd : Nat} {t : ByteArray} {o : Outcome} : UpG n (endWith w fd t o) := by
 unfold endWith
 simp only []
 split
 ·split <;> trivial
 ·trivial
 ·trivial
theorem Dm {α : Type} {p : Program} {s : Sem α} {w w' : World} {a : α} (h : s.run p w = .ok a w') : w.drawn <= w'.drawn := by
 have := A3f p s w
 rw [h] at this;exact this
theorem A06 {α : Type} {p : Program} {s : Sem α} {w w' : World} {a : Halt} (h : s.run p w = .halt a w') : w.drawn <= w'.drawn := by
 have := A3f p s w
 rw [h] at this;exact this
theorem Q2 {n : Nat} {p : Program} {fr : Frame} {cs : List Frame} {d : Option Dying} {m : String} {w : World} (h : n <= w.drawn) : UpG n (endFatal p fr cs d m w) := by
 unfold endFatal
 simp only []
 split
 ·rename_i h2
  exact Nat.le_trans h (Dm h2)
 ·trivial
 ·trivial
theorem Abw {α : Type} {p : Program} {s : Sem α} {w w' : World} {a : α} {es es' : Array Event} (h : s.runT p w es = (.ok a w', es')) : w.drawn <= w'.drawn := by
 have := Pf p s w es
 rw [h] at this;exact this
theorem A84 {α : Type} {p : Program} {s : Sem α} {w w' : World} {a : Halt} {es es' : Array Event} (h : s.runT p w es = (.halt a w', es')) : w.drawn <= w'.drawn := by
 have := Pf p s w es
 rw [h] at this;exact this
theorem A26 {n : Nat} {p : Program} {fr : Frame} {d : Dying} {f : Fatal} {w : World} (h : n <= w.drawn) : UpG n (writeOn p fr d f w) := by
 unfold writeOn
 simp only []
 split
 ·trivial
 ·split
  ·rename_i h2;exact Nat.le_trans h (Abw h2)
  ·rename_i h2;exact Nat.le_trans h (A84 h2)
  ·trivial
  ·trivial
theorem Ee {α : Type} {p : Program} {s : Sem α} {w w' : World} {a : α} {es : Array Event} (h : (s.runT p w es).1 = .ok a w') : w.drawn <= w'.drawn := by
 have := Pf p s w es
 rw [h] at this;exact this
theorem H2 {α : Type} {p : Program} {s : Sem α} {w w' : World} {a : Halt} {es : Array Event} (h : (s.runT p w es).1 = .halt a w') : w.drawn <= w'.drawn := by
 have := Pf p s w es
 rw [h] at this;exact this
theorem Abm {n : Nat} {p : Program} {fr : Frame} {d : Dying} {w : World} (h : n <= w.drawn) : UpG n (die p fr d w) := by
 unfold die
 simp only []
 split
 ·exact A26 h
 ·split
  ·split
   ·exact h
   ·exact A2u
  ·split
   ·exact h
   ·split
    ·rename_i h2;exact Nat.le_trans h (Dm h2)
    ·trivial
   ·apply UpG.after
    split
    ·rename_i h2;exact Nat.le_trans h (Ee h2)
    ·rename_i h2;exact Nat.le_trans h (Ee h2)
    ·trivial
    ·rename_i h2;exact L7 (Nat.le_trans h (H2 h2))
    ·trivial
   ·trivial
theorem Il {n : Nat} {p : Program} {b : Bool} {fr : Frame} {cs : List Frame} {d : Option Dying} {v : Value} {w : World} (h : n <= w.drawn) : UpG n (doReturn p b fr cs d v w) := by
 unfold doReturn
 simp only []
 repeat' split
 all_goals first | exact h | trivial
theorem Fg {n : Nat} {c : Prop} [Decidable c] {a b : GStep} (h : UpG n a) (k : UpG n b) : UpG n (if c then a else b) := by
 split <;> assumption
theorem Sy {n : Nat} {p : Program} {fr : Frame} {cs : List Frame} {dy : Option Dying} {d : Deferred} {w : World} (h : n <= w.drawn) : UpG n (callDeferred p fr cs dy d w) := by
 unfold callDeferred
 simp only []
 refine Fg trivial ?_
 ·apply UpG.after
  split
  all_goals rename_i h2
  all_goals first
   | trivial
   | exact Nat.le_trans h (Ee h2)
   | exact Nat.le_trans h (H2 h2)
   | exact Q2 (Nat.le_trans h (H2 h2))
   | exact Kt (Nat.le_trans h (H2 h2))
   | (split <;> first | exact Nat.le_trans h (Ee h2) | trivial)
   | (exfalso;assumption)
   | skip
theorem A69 {n : Nat} {p : Program} {b : Bool} {fr : Frame} {cs : List Frame} {dy : Option Dying} {w : World} (h : n <= w.drawn) : UpG n (unwind p b fr cs dy w) := by
 unfold unwind
 simp only []
 split
 ·apply UpG.after
  split
  ·rename_i h2;exact Nat.le_trans h (Ee h2)
  ·trivial
 ·exact Sy h
 ·split
  ·trivial
  ·split
   ·trivial
   ·split
    ·exact h
    ·split
     ·split
      ·exact h
      ·split
       ·rename_i h2;exact Nat.le_trans h (Dm h2)
       ·trivial
       ·trivial
     ·split
      ·exact L7 h
      ·trivial
  ·split
   ·exact Il h
   ·apply UpG.after
    split
    ·rename_i h2;exact Il (Nat.le_trans h (Ee h2))
    ·trivial
    ·trivial

theorem Sg {α : Type} {p : Program} {s : Sem α} {b : Bool} {w w' : World} {a : α} (h : (if b = true then s.runT p w #[] else (s.run p w, #[])).1 = .ok a w') : w.drawn <= w'.drawn := by
 cases b
 ·exact Dm h
 ·exact Ee h
theorem Mw {α : Type} {p : Program} {s : Sem α} {b : Bool} {w w' : World} {a : Halt} (h : (if b = true then s.runT p w #[] else (s.run p w, #[])).1 = .halt a w') : w.drawn <= w'.drawn := by
 cases b
 ·exact A06 h
 ·exact H2 h
theorem A6t {n : Nat} {p : Program} {fr : Frame} {cs : List Frame} {dy : Option Dying} {g : Nat} {w : World} (h : n <= w.drawn) : UpG n (early p fr cs dy g w) := by
 unfold early
 simp only []
 have ny : ∀ w : World, n <= w.drawn -> UpG n (match w.heap[g]? with
  | some (.pending c elem) => .go { frame := fr, callers := cs, status := .running, dying := dy } { w with heap := w.heap.setIfInBounds g (.cells c elem) }
  | _ => .ended (.stuck "early: the variable does not wait" (fr.pos p)) w) := fun w h => by
  split
  ·exact h
  ·trivial
 refine Fg (ny w h) ?_
 split
 ·trivial
 ·refine Fg (ny w h) ?_
  refine Fg (ny w h) ?_
  split
  ·trivial
  ·exact h
  ·trivial
  ·exact ny w h
  ·refine Fg h ?_
   refine Fg (ny w h) ?_
   split
   ·rename_i h2;exact ny _ (Nat.le_trans h (Dm h2))
   ·rename_i h2;exact Nat.le_trans h (Dm h2)
   ·trivial
theorem K9 {n : Nat} {p : Program} {b : Bool} {fr : Frame} {cs : List Frame} {dy : Option Dying} {s : Sem Next} {w : World} (h : n <= w.drawn) : UpG n (stepG.apply p b fr cs dy s w) := by
 unfold stepG.apply
 simp only []
 apply UpG.after
 split
 all_goals (try rename_i h2)
 all_goals first
  | trivial
  | exact Nat.le_trans h (Sg h2)
  | exact Nat.le_trans h (Mw h2)
  | exact Q2 (Nat.le_trans h (Mw h2))
  | exact Kt (Nat.le_trans h (Mw h2))
  | exact A6t (Nat.le_trans h (Mw h2))
  | (refine Fg (Kt (Nat.le_trans h (Sg h2))) ?_;exact Nat.le_trans h (Sg h2))
  | (have h3 := Nat.le_trans h (Sg h2);clear h2;split <;> exact h3)
theorem Aas {n : Nat} {p : Program} {b : Bool} {fr : Frame} {cs : List Frame} {dy : Option Dying} {w : World} (h : n <= w.drawn) : UpG n (stepG.oper p b fr cs dy w) := by
 unfold stepG.oper
 split
 ·trivial
 ·split
  ·exact K9 h
  ·exact K9 h
theorem A0w {n : Nat} {α : Type} {o : Option α} {a : GStep} {f : α -> GStep} (h : UpG n a) (k : ∀ x, UpG n (f x)) : UpG n (o.elim a f) := by
 cases o
 ·exact h
 ·exact k _
theorem Aa8 {n : Nat} {p : Program} {main b : Bool} {fr : Frame} {cs : List Frame} {dy : Option Dying} {w : World} (h : n <= w.drawn) : UpG n (stepG.exec p main b fr cs dy w) := by
 unfold stepG.exec
 simp only []
 split
 all_goals first
  | exact h
  | trivial
  | exact K9 h
  | (split
     ·refine Fg h trivial
     ·apply UpG.after
      split
      ·rename_i h2;exact Il (Nat.le_trans h (Ee h2))
      ·trivial)
  | (split <;> first | exact h | trivial)
  | (refine A0w ?_ (fun _ => h)
     split
     ·refine Fg h trivial
     ·apply UpG.after
      split
      ·rename_i h2;exact Il (Nat.le_trans h (Ee h2))
      ·trivial)
  | (apply UpG.after
     split
     ·rename_i h2;exact K9 (Nat.le_trans h (Ee h2))
     ·trivial)
  | (apply UpG.after
     split
     ·rename_i h2;exact Nat.le_trans h (Ee h2)
     ·rename_i h2;exact Nat.le_trans h (H2 h2)
     ·trivial)
  | (refine A0w trivial (fun _ => K9 h))
  | (refine Fg h ?_
     split
     ·rename_i h2;exact Nat.le_trans h (Dm h2)
     ·trivial)
  | (refine Fg (Aas h) h)
  | skip
theorem A7f {n : Nat} {p : Program} {main b : Bool} {g : Goroutine} {w : World} (h : n <= w.drawn) : UpG n (stepG p main g w b) := by
 unfold stepG
 simp only []
 split
 ·exact Abm h
 ·exact Aa8 h
 ·exact A69 h

/-! ### The machine -/
def UpS (n : Nat) : Stepped -> Prop
 | .next m => n <= m.world.drawn
 | .ended _ _ => True
def UpM (n : Nat) : Move -> Prop
 | .goroutine m _ => n <= m.world.drawn
 | .machine s _ => UpS n s
theorem A0z {n : Nat} {c : Prop} [Decidable c] {a b : Stepped} (h : UpS n a) (k : UpS n b) : UpS n (if c then a else b) := by
 split <;> assumption
theorem Td {n : Nat} {c : Prop} [Decidable c] {a b : Stepped × Array MemOp} (h : UpS n a.1) (k : UpS n b.1) : UpS n (if c then a else b).1 := by
 split <;> assumption
theorem Wb {rest : Rest} {cs : Array CommCase} {w w' : World} (h : waitingAt rest cs w = some w') : w'.drawn = w.drawn := by
 unfold waitingAt at h
 split at h
 ·split at h
  ·injection h with h;rw [<- h]
  ·cases h
 ·injection h with h;rw [h]
theorem Tl {n : Nat} {p : Program} {rest : Rest} {gs : Array Goroutine} {i : Nat} {g : Goroutine} {cs : Array CommCase} {b : Bool} {sh : CommShape} {w : World} (h : n <= w.drawn) : UpS n (communicate p rest gs i g cs b sh w).1 := by
 unfold communicate
 simp only []
 refine Td trivial ?_
 refine Td ?_ ?_
 ·refine Td ?_ h
  split
  ·rename_i h2
   have := Wb h2
   show n <= _
   rw [this];exact h
  ·trivial
 ·split
  ·trivial
  ·rename_i h2
   have h3 := Nat.le_trans h (Dm h2)
   clear h2 h
   split
   ·split
    ·rename_i h4;exact Nat.le_trans h3 (A06 h4)
    ·trivial
   ·exact h3
   ·exact h3
   ·split
    ·exact h3
    ·split
     ·rename_i h4
      have h5 := Dm h4
      exact Nat.le_trans h3 h5
     ·trivial
   ·exact h3
   ·exact h3
   ·trivial
theorem A0b {n : Nat} {p : Program} {gs : Array Goroutine} {rest : Rest} {w : World} (h : n <= w.drawn) : UpS n (look p gs rest w) := by
 unfold look
 simp only []
 split
 ·refine A0z trivial ?_
  split
  ·trivial
  ·split
   ·rename_i h2
    have h5 := Dm h2
    exact Nat.le_trans h h5
   ·trivial
   ·trivial
 ·trivial
theorem A8r (w : World) (c : Nat) : (drain w c).2.drawn = w.drawn := by
 unfold drain
 split <;> rfl
theorem Uv (m : Machine) (k : Nat) (t : Timer) (a b : Nat) : (retime m k t a b).2.world.drawn = m.world.drawn := by
 unfold retime
 simp only []
 split
 ·exact A8r _ _
 ·rfl
theorem Xg {m : Machine} {var : Addr} {f : Nat -> Timer -> Value × Machine} {r : Value × Machine} {n : Nat} (hf : ∀ k t, (f k t).2.world.drawn = n) (h : timerOp.named m var f = .ok r) : r.2.world.drawn = n := by
 unfold timerOp.named at h
 split at h
 ·injection h with h;rw [<- h];exact hf _ _
 ·cases h
theorem A3e {m m' : Machine} {var : Addr} (h : timerOp.opened m var = some m') : m'.world.drawn = m.world.drawn := by
 unfold timerOp.opened at h
 split at h
 ·split at h
  ·injection h with h;rw [<- h]
  ·cases h
 ·injection h with h;rw [h]
theorem A21 {m : Machine} {op : TimerOp} {r : Value × Machine} (h : timerOp m op = .ok r) : r.2.world.drawn = m.world.drawn := by
 unfold timerOp at h
 split at h
 ·split at h
  ·injection h with h;rw [<- h];rfl
  ·split at h
   ·split at h
    ·cases h
    ·injection h with h;rw [<- h]
   ·cases h
 ·exact Xg (fun k t => Uv _ _ _ _ _) h
 ·split at h
  ·rename_i h2
   have := A3e h2
   exact Xg (fun k t => (Uv _ _ _ _ _).trans this) h
  ·cases h
 ·injection h with h;rw [<- h];rfl
theorem A8j {n : Nat} {p : Program} {m : Machine} {k : Nat} (h : n <= m.world.drawn) : UpS n (serve p m k) := by
 unfold serve
 simp only []
 split
 ·trivial
 ·exact h
 ·split
  ·trivial
  ·exact h
theorem Yq {n : Nat} {p : Program} {m : Machine} {i : Nat} {b : Bool} (h : n <= m.world.drawn) : UpS n (runT p m i b).1 := by
 unfold runT
 simp only []
 have key := A7f (n := n) (p := p) (main := i == 0) (b := b) (g := (m.gs.swapAt! i { (default : Goroutine) with status := .finished }).1) (w := m.world) h
 split
 all_goals (rename_i h2;rw [h2] at key)
 all_goals first
  | trivial
  | exact key
  | exact Tl key
  | exact A0b key
  | (exact A0z trivial key)
  | (dsimp only [endThrow, dieOf]
     split <;> first | exact key | trivial)
  | (dsimp only [endThrow, dieOf]
     split
     ·rename_i h4
      have := A21 h4
      show n <= _
      rw [this]
      exact key
     all_goals first | exact key | trivial)
theorem Tx {n : Nat} {p : Program} {m : Machine} {rs : List Nat} (h : n <= m.world.drawn) : UpM n (match (choose (.sched rs.length)).run p m.world with
   | .halt _ w => .machine (.ended (.stuck "sched" "") w)
   | .ok k world =>
    if rs.length <= 1 then .goroutine { m with world } (rs.getD k 0) else
    match (choose (.extern "sched.slice" 65536)).run p world with
    | .halt _ w => .machine (.ended (.stuck "sched.slice" "") w)
    | .ok n world => .goroutine { m with world, rest := { m.rest with slice := if n = 0 then none else some (rs.getD k 0, n) } } (rs.getD k 0)) := by
 split
 ·trivial
 ·rename_i h2
  have h3 := Nat.le_trans h (Dm h2)
  split
  ·exact h3
  ·split
   ·trivial
   ·rename_i h4
    have h5 := Dm h4
    exact Nat.le_trans h3 h5
theorem Ql {n : Nat} {p : Program} {m : Machine} (h : n <= m.world.drawn) : UpM n (askOn p m) := by
 unfold askOn
 simp only []
 split
 ·trivial
 ·rename_i h2
  have h3 := Nat.le_trans h (Dm h2)
  split
  ·exact A8j h3
  ·split
   ·split
    ·exact h3
    ·split
     ·exact h3
     ·split <;> trivial
   ·split
    ·exact Tx (m := { m with world := _ }) h3
    ·split
     ·trivial
     ·rename_i h4
      have h5 := Nat.le_trans h3 (Dm h4)
      exact Tx (m := { m with world := _ }) h5
     ·rename_i h4
      have h5 := Nat.le_trans h3 (Dm h4)
      exact h5
     ·rename_i h4
      have h5 := Nat.le_trans h3 (Dm h4)
      exact Tx (m := Machine.advanceTo { m with world := _ } _) h5
theorem A07 {n : Nat} {p : Program} {m : Machine} (h : n <= m.world.drawn) : UpM n (ask p m) := by
 unfold ask
 split
 ·split
  ·trivial
  ·rename_i h2
   have h3 := Nat.le_trans h (Dm h2)
   have h4 := A0b (p := p) (gs := m.gs) (rest := m.rest) h3
   split
   ·rename_i h5
    rw [h5] at h4
    exact Ql h4
   ·exact h4
  ·rename_i h2
   exact Ql (m := { m with world := _ }) (Nat.le_trans h (Dm h2))
 ·exact Ql h
theorem Aaj {n : Nat} {p : Program} {m : Machine} (h : n <= m.world.drawn) : UpM n (move p m) := by
 unfold move
 split
 ·split
  ·exact h
  ·trivial
 ·split
  ·split
   ·exact h
   ·exact A07 h
  ·exact A07 h
theorem Aab {n : Nat} {p : Program} {m : Machine} (h : n <= m.world.drawn) : UpS n (step p m) := by
 unfold step stepT
 have := Aaj (p := p) h
 split
 ·rename_i h2
  rw [h2] at this
  exact Yq this
 ·rename_i h2
  rw [h2] at this
  exact this
theorem Zw {p : Program} : ∀ (k : Nat) {n : Nat} {m m' : Machine}, n <= m.world.drawn -> runN p k m = .next m' -> n <= m'.world.drawn
 | 0, n, m, m', h, hr => by
  rw [runN] at hr
  injection hr with hr
  rw [<- hr];exact h
 | k + 1, n, m, m', h, hr => by
  rw [runN] at hr
  have := Aab (p := p) h
  cases hs : step p m with
  | next m2 =>
   rw [hs] at hr this
   exact Zw k this hr
  | ended o w => rw [hs] at hr;cases hr
theorem calls_up {P : Program} {f : FuncId} {args : Array Value} {w : World} {v : Value} {R : World -> Prop} (h : Calls P f args w fun e w' => e = .returned v /\ R w') : Calls P f args w fun e w' => e = .returned v /\ R w' /\ w.drawn <= w'.drawn := by
 intro cs
 obtain ⟨e, w', fr, ⟨rfl, hR⟩, hc, hf, hl⟩ := h cs
 refine ⟨_, w', fr, ⟨rfl, hR, ?_⟩, hc, hf, hl⟩
 obtain ⟨k, hk⟩ := hc
 exact Zw k (n := w.drawn) (Nat.le_refl _) hk
end Go.Proofs.YtocoehahhohpgaaGreat.Up
namespace Go.Proofs
open Go.Shelf
def Tryz.srt_ren : Go.Shelf.Ren := ⟨fun | 6 => 297 | 15 => 309 | 14 => 308 | 28 => 319 | 29 => 303 | 20 => 311 | 21 => 312 | 22 => 313 | 23 => 314 | 24 => 315 | 25 => 316 | 26 => 317 | 27 => 318 | 46 => 320 | 47 => 321 | 48 => 322 | 49 => 323 | 50 => 324 | 57 => 325 | n => n, fun | 22 => 59 | 24 => 65 | 25 => 144 | 3 => 3 | 39 => 306 | 0 => 0 | 53 => 46 | 55 => 180 | 4 => 4 | 46 => 362 | 45 => 361 | 50 => 310 | 5 => 5 | 9 => 9 | 66 => 368 | 70 => 372 | 76 => 374 | 77 => 73 | n => n, fun | n => n⟩
theorem Tryz.srt : Go.Proofs.SlLaysF0.n6 Tryz.prog Tryz.srt_ren := {
 mixed := by kernel_rfl
 f6 := ⟨Tryz.f297.name, by decide, Tryz.func297.trans (congrArg some (by kernel_rfl))⟩
 f14 := ⟨Tryz.f308.name, by decide, Tryz.func308.trans (congrArg some (by kernel_rfl))⟩
 f15 := Tryz.func309.trans (congrArg some (by kernel_rfl))
 f20 := ⟨Tryz.f311.name, by decide, Tryz.func311.trans (congrArg some (by kernel_rfl))⟩
 f21 := ⟨Tryz.f312.name, by decide, Tryz.func312.trans (congrArg some (by kernel_rfl))⟩
 f22 := ⟨Tryz.f313.name, by decide, Tryz.func313.trans (congrArg some (by kernel_rfl))⟩
 f23 := ⟨Tryz.f314.name, by decide, Tryz.func314.trans (congrArg some (by kernel_rfl))⟩
 f24 := ⟨Tryz.f315.name, by decide, Tryz.func315.trans (congrArg some (by kernel_rfl))⟩
 f25 := ⟨Tryz.f316.name, by decide, Tryz.func316.trans (congrArg some (by kernel_rfl))⟩
 f26 := ⟨Tryz.f317.name, by decide, Tryz.func317.trans (congrArg some (by kernel_rfl))⟩
 f27 := ⟨Tryz.f318.name, by decide, Tryz.func318.trans (congrArg some (by kernel_rfl))⟩
 f28 := Tryz.func319.trans (congrArg some (by kernel_rfl))
 f29 := Tryz.func303.trans (congrArg some (by kernel_rfl))
 f46 := ⟨Tryz.f320.name, by decide, Tryz.func320.trans (congrArg some (by kernel_rfl))⟩
 f47 := Tryz.func321.trans (congrArg some (by kernel_rfl))
 f48 := Tryz.func322.trans (congrArg some (by kernel_rfl))
 f49 := ⟨Tryz.f323.name, by decide, Tryz.func323.trans (congrArg some (by kernel_rfl))⟩
 f50 := ⟨Tryz.f324.name, by decide, Tryz.func324.trans (congrArg some (by kernel_rfl))⟩
 f57 := ⟨Tryz.f325.name, by decide, Tryz.func325.trans (congrArg some (by kernel_rfl))⟩
 t0 := Tryz.underlying0
 a0 := Tryz.isAgg0
 z0 := Tryz.sizeOf0
 v0 := Tryz.zeroValue0
 t3 := Tryz.underlying3
 a3 := Tryz.isAgg3
 z3 := Tryz.sizeOf3
 v3 := Tryz.zeroValue3
 t4 := Tryz.underlying4
 a4 := Tryz.isAgg4
 z4 := Tryz.sizeOf4
 v4 := Tryz.zeroValue4
 t5 := Tryz.underlying5
 a5 := Tryz.isAgg5
 z5 := Tryz.sizeOf5
 v5 := Tryz.zeroValue5
 t9 := Tryz.underlying9
 a9 := Tryz.isAgg9
 z9 := Tryz.sizeOf9
 v9 := Tryz.zeroValue9
 t22 := Tryz.underlying59
 a22 := Tryz.isAgg59
 z22 := Tryz.sizeOf59
 v22 := Tryz.zeroValue59
 t25 := Tryz.underlying144
 a25 := Tryz.isAgg144
 z25 := Tryz.sizeOf144
 v25 := Tryz.zeroValue144
 t39 := Tryz.underlying306
 a39 := Tryz.isAgg306
 z39 := Tryz.sizeOf306
 v39 := Tryz.zeroValue306
 t45 := Tryz.underlying361
 a45 := Tryz.isAgg361
 z45 := Tryz.sizeOf361
 v45 := Tryz.zeroValue361
 t46 := Tryz.underlying362
 a46 := Tryz.isAgg362
 z46 := Tryz.sizeOf362
 v46 := Tryz.zeroValue362
 t50 := Tryz.underlying310
 a50 := Tryz.isAgg310
 z50 := Tryz.sizeOf310
 v50 := Tryz.zeroValue310
 t53 := Tryz.underlying46
 a53 := Tryz.isAgg46
 z53 := Tryz.sizeOf46
 v53 := Tryz.zeroValue46
 t55 := Tryz.underlying180
 a55 := Tryz.isAgg180
 z55 := Tryz.sizeOf180
 v55 := Tryz.zeroValue180
 t66 := Tryz.underlying368
 a66 := Tryz.isAgg368
 z66 := Tryz.sizeOf368
 v66 := Tryz.zeroValue368
 t70 := Tryz.underlying372
 a70 := Tryz.isAgg372
 z70 := Tryz.sizeOf372
 v70 := Tryz.zeroValue372
 t76 := Tryz.underlying374
 a76 := Tryz.isAgg374
 z76 := Tryz.sizeOf374
 v76 := Tryz.zeroValue374
 t77 := Tryz.underlying73
 a77 := Tryz.isAgg73
 z77 := Tryz.sizeOf73
 v77 := Tryz.zeroValue73 }
def Tryz.grow_ren : Go.Shelf.Ren := ⟨fun | 4 => 307 | n => n, fun | 22 => 99 | 25 => 185 | 3 => 3 | 4 => 4 | 9 => 9 | 20 => 20 | 0 => 0 | n => n, fun | n => n⟩
theorem Tryz.grow : Go.Proofs.Lays8.n4 Tryz.prog Tryz.grow_ren := {
 mixed := by kernel_rfl
 f4 := ⟨Tryz.f307.name, by decide, Tryz.func307.trans (congrArg some (by kernel_rfl))⟩
 t0 := Tryz.underlying0
 a0 := Tryz.isAgg0
 z0 := Tryz.sizeOf0
 v0 := Tryz.zeroValue0
 t3 := Tryz.underlying3
 a3 := Tryz.isAgg3
 z3 := Tryz.sizeOf3
 v3 := Tryz.zeroValue3
 t4 := Tryz.underlying4
 a4 := Tryz.isAgg4
 z4 := Tryz.sizeOf4
 v4 := Tryz.zeroValue4
 t9 := Tryz.underlying9
 a9 := Tryz.isAgg9
 z9 := Tryz.sizeOf9
 v9 := Tryz.zeroValue9
 t20 := Tryz.underlying20
 a20 := Tryz.isAgg20
 z20 := Tryz.sizeOf20
 v20 := Tryz.zeroValue20
 t22 := Tryz.underlying99
 a22 := Tryz.isAgg99
 z22 := Tryz.sizeOf99
 v22 := Tryz.zeroValue99 }
end Go.Proofs
