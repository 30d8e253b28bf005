/- Lemmas of the proof. -/
import Derived.Calls
import Derived.Shelf.SlSortCmp.WholeK
import Derived.Shelf.Spec.SlicesGrow
import Derived.Test.YtlapbaiejnaeiaaGreatDoorProg
set_option linter.all false
namespace Go.Proofs.YtlapbaiejnaeiaaGreatDoor
def a0z := @Nat.le_trans
def a2s := @Nat.le_refl
def b2p := @Nat.le_succ
end Go.Proofs.YtlapbaiejnaeiaaGreatDoor
namespace Go.Proofs.YtlapbaiejnaeiaaGreatDoor.Up
open Go
theorem Ws {α : Type} : ∀ (x : Ask α) (w : World), w.drawn <= (w.ask x).2.drawn
 | .done a, w => by unfold World.ask;exact a2s _
 | .ask what range k, w => by
  unfold World.ask
  simp only []
  split
  ·exact Ws (k 0) w
  ·exact a0z (b2p _) (Ws (k _) { w with drawn := w.drawn + 1 })
theorem A7b (w : World) (c : Sys) : w.drawn <= (w.sys c).2.drawn := by
 unfold World.sys
 have := Ws (Kernel.perform c w.os) w
 split
 ·exact a2s _
 ·rename_i h
  rw [h] at this
  exact this
theorem Aax {ε α β : Type} {x : Except ε α} {f : α -> Except ε β} {b : β} (h : (x >>= f) = .ok b) : ∃ a, x = .ok a /\ f a = .ok b := by
 cases x with
 | error e => cases h
 | ok a => exact ⟨a, rfl, h⟩
theorem Zj {p : Program} {w : World} {at_ : Addr} {u : TypeId} {k : Addr} {v : Value} {atomic : Bool} {r : World × List Addr} (h : w.viewStore p at_ u k v atomic = .ok r) : r.1.drawn = w.drawn := by
 unfold World.viewStore at h
 simp only [] at h
 repeat' (first|(split at h)|(obtain ⟨_, _, h⟩ := Aax h))
 all_goals first
  | (cases h;done)
  | (injection h with h;rw [<- h])
theorem Q7 {p : Program} {w : World} {a : Addr} {v : Value} {b : Bool} {r : World × List Addr} (h : w.farStore p a v b = .ok r) : r.1.drawn = w.drawn := by
 unfold World.farStore at h
 split at h
 ·split at h
  ·rename_i h2
   injection h with h
   rw [<- h]
   exact Zj h2
  ·cases h
 ·cases h
def rw_ {α : Type} : Result α -> World
 | .ok _ w => w
 | .halt _ w => w
theorem A6w {α : Type} (p : Program) : ∀ (s : Sem α) (w : World), w.drawn <= (rw_ (s.run p w)).drawn := by
 intro s
 induction s with
 | pure a => intro w;exact a2s _
 | load m a k ih =>
  intro w
  rw [Sem.run]
  split
  ·exact ih _ _
  ·split
   ·exact ih _ _
   ·exact a2s _
 | store m a v k ih =>
  intro w
  cases v <;> rw [Sem.run] <;> first | exact a2s _ | skip
  all_goals first
   | (intro _ h;cases h;done)
   | (split
      ·split
       ·exact a2s _
       ·exact ih (w.setCell a _)
      ·split
       ·rename_i h
        have := Q7 h
        exact a0z (Nat.le_of_eq this.symm) (ih _)
       ·exact a2s _)
 | new o k ih => intro w;rw [Sem.run];exact ih _ { w with heap := w.heap.push o }
 | shape r k ih => intro w;rw [Sem.run];exact ih _ _
 | freeze a n k ih => intro w;rw [Sem.run];have := ih (w.freeze a n);unfold World.freeze at this ⊢;split <;> simp_all
 | frozen a k ih => intro w;rw [Sem.run];exact ih _ _
 | getObj r k ih => intro w;rw [Sem.run];split <;> first | exact ih _ _ | exact a2s _
 | setObj r o k ih => intro w;rw [Sem.run];split <;> first | exact ih { w with heap := w.heap.setIfInBounds r o } | exact a2s _
 | choose q k ih =>
  intro w
  rw [Sem.run]
  split
  ·exact ih _ _
  ·exact a0z (b2p _) (ih _ { w with drawn := w.drawn + 1 })
 | sys c k ih => intro w;rw [Sem.run];exact a0z (A7b w c) (ih _ _)
 | program k ih => intro w;rw [Sem.run];exact ih _ _
 | mark m k ih => intro w;rw [Sem.run];exact ih _
 | halt h => intro w;exact a2s _
theorem Pe {α : Type} (p : Program) : ∀ (s : Sem α) (w : World) (es : Array Event), w.drawn <= (rw_ (s.runT p w es).1).drawn := by
 intro s
 induction s with
 | pure a => intro w es;exact a2s _
 | load m a k ih =>
  intro w es
  rw [Sem.runT]
  split
  ·exact ih _ _ _
  ·split
   ·exact ih _ _ _
   ·exact a2s _
 | store m a v k ih =>
  intro w es
  cases v <;> rw [Sem.runT] <;> first | exact a2s _ | skip
  all_goals first
   | (intro _ h;cases h;done)
   | (split
      ·split
       ·exact a2s _
       ·exact ih (w.setCell a _) _
      ·split
       ·rename_i h
        have := Q7 h
        exact a0z (Nat.le_of_eq this.symm) (ih _ _)
       ·exact a2s _)
 | new o k ih => intro w es;rw [Sem.runT];exact ih _ { w with heap := w.heap.push o } _
 | shape r k ih => intro w es;rw [Sem.runT];exact ih _ _ _
 | freeze a n k ih => intro w es;rw [Sem.runT];have := ih (w.freeze a n) es;unfold World.freeze at this ⊢;split <;> simp_all
 | frozen a k ih => intro w es;rw [Sem.runT];exact ih _ _ _
 | getObj r k ih => intro w es;rw [Sem.runT];split <;> first | exact ih _ _ _ | exact a2s _
 | setObj r o k ih => intro w es;rw [Sem.runT];split <;> first | exact ih { w with heap := w.heap.setIfInBounds r o } _ | exact a2s _
 | choose q k ih =>
  intro w es
  rw [Sem.runT]
  split
  ·exact ih _ _ _
  ·exact a0z (b2p _) (ih _ { w with drawn := w.drawn + 1 } _)
 | sys c k ih => intro w es;rw [Sem.runT];exact a0z (A7b w c) (ih _ _ _)
 | program k ih => intro w es;rw [Sem.runT];exact ih _ _ _
 | mark m k ih => intro w es;rw [Sem.runT];exact ih _ _
 | halt h => intro w es;exact a2s _

/-! ### Steps -/
def UpG (n : Nat) : GStep -> Prop
 | .go _ w _ => n <= w.drawn
 | .comm _ _ _ _ w _ => n <= w.drawn
 | .spawn _ _ w _ => n <= w.drawn
 | .count _ w _ => n <= w.drawn
 | .timer _ _ w _ => n <= w.drawn
 | .alone _ _ w _ => n <= w.drawn
 | .newcoro _ _ _ w _ => n <= w.drawn
 | .coroswitch _ _ _ w _ => n <= w.drawn
 | .collect _ w _ => n <= w.drawn
 | .watch _ w _ => n <= w.drawn
 | .ended _ _ _ => True
theorem UpG.after {n : Nat} {es : Array Event} {s : GStep} (h : UpG n s) : UpG n (s.after es) := by
 cases s <;> exact h
theorem Kn {n : Nat} {fr : Frame} {m : String} {w : World} (h : n <= w.drawn) : UpG n (endThrow fr m w) := h
theorem L4 {n : Nat} {p : Program} {fr : Frame} {v : Value} {w : World} (h : n <= w.drawn) : UpG n (endPrinting p fr v w) := by
 unfold endPrinting
 simp only []
 split
 ·exact h
 ·trivial
theorem A2u {n : Nat} {w : World} {fd : Nat} {t : ByteArray} {o : Outcome} : UpG n (endWith w fd t o) := by
 unfold endWith
 simp only []
 split
 ·split <;> trivial
 ·trivial
 ·trivial
theorem Dl {α : Type} {p : Program} {s : Sem α} {w w' : World} {a : α} (h : s.run p w = .ok a w') : w.drawn <= w'.drawn := by
 have := A6w p s w
 rw [h] at this;exact this
theorem A1r {α : Type} {p : Program} {s : Sem α} {w w' : World} {a : Halt} (h : s.run p w = .halt a w') : w.drawn <= w'.drawn := by
 have := A6w p s w
 rw [h] at this;exact this
theorem Q6 {n : Nat} {p : Program} {fr : Frame} {cs : List Frame} {d : Option Dying} {m : String} {w : World} (h : n <= w.drawn) : UpG n (endFatal p fr cs d m w) := by
 unfold endFatal
 simp only []
 split
 ·rename_i h2
  exact a0z h (Dl h2)
 ·trivial
 ·trivial
theorem Adp {α : Type} {p : Program} {s : Sem α} {w w' : World} {a : α} {es es' : Array Event} (h : s.runT p w es = (.ok a w', es')) : w.drawn <= w'.drawn := by
 have := Pe p s w es
 rw [h] at this;exact this
theorem Aa3 {α : Type} {p : Program} {s : Sem α} {w w' : World} {a : Halt} {es es' : Array Event} (h : s.runT p w es = (.halt a w', es')) : w.drawn <= w'.drawn := by
 have := Pe p s w es
 rw [h] at this;exact this
theorem A44 {n : Nat} {p : Program} {fr : Frame} {d : Dying} {f : Fatal} {w : World} (h : n <= w.drawn) : UpG n (writeOn p fr d f w) := by
 unfold writeOn
 simp only []
 split
 ·trivial
 ·split
  ·rename_i h2;exact a0z h (Adp h2)
  ·rename_i h2;exact a0z h (Aa3 h2)
  ·trivial
  ·trivial
theorem Ea {α : Type} {p : Program} {s : Sem α} {w w' : World} {a : α} {es : Array Event} (h : (s.runT p w es).1 = .ok a w') : w.drawn <= w'.drawn := by
 have := Pe p s w es
 rw [h] at this;exact this
theorem H2 {α : Type} {p : Program} {s : Sem α} {w w' : World} {a : Halt} {es : Array Event} (h : (s.runT p w es).1 = .halt a w') : w.drawn <= w'.drawn := by
 have := Pe p s w es
 rw [h] at this;exact this
theorem Adb {n : Nat} {p : Program} {fr : Frame} {d : Dying} {w : World} (h : n <= w.drawn) : UpG n (die p fr d w) := by
 unfold die
 simp only []
 split
 ·exact A44 h
 ·split
  ·split
   ·exact h
   ·exact A2u
  ·split
   ·exact h
   ·split
    ·rename_i h2;exact a0z h (Dl h2)
    ·trivial
   ·apply UpG.after
    split
    ·rename_i h2;exact a0z h (Ea h2)
    ·rename_i h2;exact a0z h (Ea h2)
    ·trivial
    ·rename_i h2;exact L4 (a0z h (H2 h2))
    ·trivial
   ·trivial
theorem I9 {n : Nat} {p : Program} {b : Bool} {fr : Frame} {cs : List Frame} {d : Option Dying} {v : Value} {w : World} (h : n <= w.drawn) : UpG n (doReturn p b fr cs d v w) := by
 unfold doReturn
 simp only []
 repeat' split
 all_goals first | exact h | trivial
theorem F9 {n : Nat} {c : Prop} [Decidable c] {a b : GStep} (h : UpG n a) (k : UpG n b) : UpG n (if c then a else b) := by
 split <;> assumption
theorem Rs {n : Nat} {p : Program} {fr : Frame} {cs : List Frame} {dy : Option Dying} {d : Deferred} {w : World} (h : n <= w.drawn) : UpG n (callDeferred p fr cs dy d w) := by
 unfold callDeferred
 simp only []
 refine F9 trivial ?_
 ·apply UpG.after
  split
  all_goals rename_i h2
  all_goals first
   | trivial
   | exact a0z h (Ea h2)
   | exact a0z h (H2 h2)
   | exact Q6 (a0z h (H2 h2))
   | exact Kn (a0z h (H2 h2))
   | (split <;> first | exact a0z h (Ea h2) | trivial)
   | (exfalso;assumption)
   | skip
theorem A7n {n : Nat} {p : Program} {b : Bool} {fr : Frame} {cs : List Frame} {dy : Option Dying} {w : World} (h : n <= w.drawn) : UpG n (unwind p b fr cs dy w) := by
 unfold unwind
 simp only []
 split
 ·apply UpG.after
  split
  ·rename_i h2;exact a0z h (Ea h2)
  ·trivial
 ·exact Rs h
 ·split
  ·trivial
  ·split
   ·trivial
   ·split
    ·exact h
    ·split
     ·split
      ·exact h
      ·split
       ·rename_i h2;exact a0z h (Dl h2)
       ·trivial
       ·trivial
     ·split
      ·exact L4 h
      ·trivial
  ·split
   ·exact I9 h
   ·apply UpG.after
    split
    ·rename_i h2;exact I9 (a0z h (Ea h2))
    ·trivial
    ·trivial

theorem T6 {α : Type} {p : Program} {s : Sem α} {b : Bool} {w w' : World} {a : α} (h : (if b = true then s.runT p w #[] else (s.run p w, #[])).1 = .ok a w') : w.drawn <= w'.drawn := by
 cases b
 ·exact Dl h
 ·exact Ea h
theorem Mk {α : Type} {p : Program} {s : Sem α} {b : Bool} {w w' : World} {a : Halt} (h : (if b = true then s.runT p w #[] else (s.run p w, #[])).1 = .halt a w') : w.drawn <= w'.drawn := by
 cases b
 ·exact A1r h
 ·exact H2 h
theorem A8f {n : Nat} {p : Program} {fr : Frame} {cs : List Frame} {dy : Option Dying} {g : Nat} {w : World} (h : n <= w.drawn) : UpG n (early p fr cs dy g w) := by
 unfold early
 simp only []
 have ny : ∀ w : World, n <= w.drawn -> UpG n (match w.heap[g]? with
  | some (.pending c elem) => .go { frame := fr, callers := cs, status := .running, dying := dy } { w with heap := w.heap.setIfInBounds g (.cells c elem) }
  | _ => .ended (.stuck "early: the variable does not wait" (fr.pos p)) w) := fun w h => by
  split
  ·exact h
  ·trivial
 refine F9 (ny w h) ?_
 split
 ·trivial
 ·refine F9 (ny w h) ?_
  refine F9 (ny w h) ?_
  split
  ·trivial
  ·exact h
  ·trivial
  ·exact ny w h
  ·refine F9 h ?_
   refine F9 (ny w h) ?_
   split
   ·rename_i h2;exact ny _ (a0z h (Dl h2))
   ·rename_i h2;exact a0z h (Dl h2)
   ·trivial
theorem Jc {n : Nat} {p : Program} {b : Bool} {fr : Frame} {cs : List Frame} {dy : Option Dying} {s : Sem Next} {w : World} (h : n <= w.drawn) : UpG n (stepG.apply p b fr cs dy s w) := by
 unfold stepG.apply
 simp only []
 apply UpG.after
 split
 all_goals (try rename_i h2)
 all_goals first
  | trivial
  | exact a0z h (T6 h2)
  | exact a0z h (Mk h2)
  | exact Q6 (a0z h (Mk h2))
  | exact Kn (a0z h (Mk h2))
  | exact A8f (a0z h (Mk h2))
  | (refine F9 (Kn (a0z h (T6 h2))) ?_;exact a0z h (T6 h2))
  | (have h3 := a0z h (T6 h2);clear h2;split <;> exact h3)
theorem Abw {n : Nat} {p : Program} {b : Bool} {fr : Frame} {cs : List Frame} {dy : Option Dying} {w : World} (h : n <= w.drawn) : UpG n (stepG.oper p b fr cs dy w) := by
 unfold stepG.oper
 split
 ·trivial
 ·split
  ·exact Jc h
  ·exact Jc h
theorem A10 {n : Nat} {α : Type} {o : Option α} {a : GStep} {f : α -> GStep} (h : UpG n a) (k : ∀ x, UpG n (f x)) : UpG n (o.elim a f) := by
 cases o
 ·exact h
 ·exact k _
theorem Ab5 {n : Nat} {p : Program} {main b : Bool} {fr : Frame} {cs : List Frame} {dy : Option Dying} {w : World} (h : n <= w.drawn) : UpG n (stepG.exec p main b fr cs dy w) := by
 unfold stepG.exec
 simp only []
 split
 all_goals first
  | exact h
  | trivial
  | exact Jc h
  | (split
     ·refine F9 h trivial
     ·apply UpG.after
      split
      ·rename_i h2;exact I9 (a0z h (Ea h2))
      ·trivial)
  | (split <;> first | exact h | trivial)
  | (refine A10 ?_ (fun _ => h)
     split
     ·refine F9 h trivial
     ·apply UpG.after
      split
      ·rename_i h2;exact I9 (a0z h (Ea h2))
      ·trivial)
  | (apply UpG.after
     split
     ·rename_i h2;exact Jc (a0z h (Ea h2))
     ·trivial)
  | (apply UpG.after
     split
     ·rename_i h2;exact a0z h (Ea h2)
     ·rename_i h2;exact a0z h (H2 h2)
     ·trivial)
  | (refine A10 trivial (fun _ => Jc h))
  | (refine F9 h ?_
     split
     ·rename_i h2;exact a0z h (Dl h2)
     ·trivial)
  | (refine F9 (Abw h) h)
  | skip
theorem Aa9 {n : Nat} {p : Program} {main b : Bool} {g : Goroutine} {w : World} (h : n <= w.drawn) : UpG n (stepG p main g w b) := by
 unfold stepG
 simp only []
 split
 ·exact Adb h
 ·exact Ab5 h
 ·exact A7n h

/-! ### The machine -/
def UpS (n : Nat) : Stepped -> Prop
 | .next m => n <= m.world.drawn
 | .ended _ _ => True
def UpM (n : Nat) : Move -> Prop
 | .goroutine m _ => n <= m.world.drawn
 | .machine s _ => UpS n s
theorem A18 {n : Nat} {c : Prop} [Decidable c] {a b : Stepped} (h : UpS n a) (k : UpS n b) : UpS n (if c then a else b) := by
 split <;> assumption
theorem U0 {n : Nat} {c : Prop} [Decidable c] {a b : Stepped × Array MemOp} (h : UpS n a.1) (k : UpS n b.1) : UpS n (if c then a else b).1 := by
 split <;> assumption
theorem Zk {rest : Rest} {cs : Array CommCase} {w w' : World} (h : waitingAt rest cs w = some w') : w'.drawn = w.drawn := by
 unfold waitingAt at h
 split at h
 ·split at h
  ·injection h with h;rw [<- h]
  ·cases h
 ·injection h with h;rw [h]
theorem Tn {n : Nat} {p : Program} {rest : Rest} {gs : Array Goroutine} {i : Nat} {g : Goroutine} {cs : Array CommCase} {b : Bool} {sh : CommShape} {w : World} (h : n <= w.drawn) : UpS n (communicate p rest gs i g cs b sh w).1 := by
 unfold communicate
 simp only []
 refine U0 trivial ?_
 refine U0 ?_ ?_
 ·refine U0 ?_ h
  split
  ·rename_i h2
   have := Zk h2
   show n <= _
   rw [this];exact h
  ·trivial
 ·split
  ·trivial
  ·rename_i h2
   have h3 := a0z h (Dl h2)
   clear h2 h
   split
   ·split
    ·rename_i h4;exact a0z h3 (A1r h4)
    ·trivial
   ·exact h3
   ·exact h3
   ·split
    ·exact h3
    ·split
     ·rename_i h4
      have h5 := Dl h4
      exact a0z h3 h5
     ·trivial
   ·exact h3
   ·exact h3
   ·trivial
theorem A1e {n : Nat} {p : Program} {gs : Array Goroutine} {rest : Rest} {w : World} (h : n <= w.drawn) : UpS n (look p gs rest w) := by
 unfold look
 simp only []
 split
 ·refine A18 trivial ?_
  split
  ·trivial
  ·split
   ·rename_i h2
    have h5 := Dl h2
    exact a0z h h5
   ·trivial
   ·trivial
 ·trivial
theorem A8e (w : World) (c : Nat) : (drain w c).2.drawn = w.drawn := by
 unfold drain
 split <;> rfl
theorem Vq (m : Machine) (k : Nat) (t : Timer) (a b : Nat) : (retime m k t a b).2.world.drawn = m.world.drawn := by
 unfold retime
 simp only []
 split
 ·exact A8e _ _
 ·rfl
theorem Y9 {m : Machine} {var : Addr} {f : Nat -> Timer -> Value × Machine} {r : Value × Machine} {n : Nat} (hf : ∀ k t, (f k t).2.world.drawn = n) (h : timerOp.named m var f = .ok r) : r.2.world.drawn = n := by
 unfold timerOp.named at h
 split at h
 ·injection h with h;rw [<- h];exact hf _ _
 ·cases h
theorem A64 {m m' : Machine} {var : Addr} (h : timerOp.opened m var = some m') : m'.world.drawn = m.world.drawn := by
 unfold timerOp.opened at h
 split at h
 ·split at h
  ·injection h with h;rw [<- h]
  ·cases h
 ·injection h with h;rw [h]
theorem A3w {m : Machine} {op : TimerOp} {r : Value × Machine} (h : timerOp m op = .ok r) : r.2.world.drawn = m.world.drawn := by
 unfold timerOp at h
 split at h
 ·split at h
  ·injection h with h;rw [<- h];rfl
  ·split at h
   ·split at h
    ·cases h
    ·injection h with h;rw [<- h]
   ·cases h
 ·exact Y9 (fun k t => Vq _ _ _ _ _) h
 ·split at h
  ·rename_i h2
   have := A64 h2
   exact Y9 (fun k t => (Vq _ _ _ _ _).trans this) h
  ·cases h
 ·injection h with h;rw [<- h];rfl
theorem Aa5 {n : Nat} {p : Program} {m : Machine} {k : Nat} (h : n <= m.world.drawn) : UpS n (serve p m k) := by
 unfold serve
 simp only []
 split
 ·trivial
 ·exact h
 ·split
  ·trivial
  ·exact h
theorem Yt {n : Nat} {p : Program} {m : Machine} {i : Nat} {b : Bool} (h : n <= m.world.drawn) : UpS n (runT p m i b).1 := by
 unfold runT
 simp only []
 have key := Aa9 (n := n) (p := p) (main := i == 0) (b := b) (g := (m.gs.swapAt! i { (default : Goroutine) with status := .finished }).1) (w := m.world) h
 split
 all_goals (rename_i h2;rw [h2] at key)
 all_goals first
  | trivial
  | exact key
  | exact Tn key
  | exact A1e key
  | (exact A18 trivial key)
  | (dsimp only [endThrow, dieOf]
     split <;> first | exact key | trivial)
  | (dsimp only [endThrow, dieOf]
     split
     ·rename_i h4
      have := A3w h4
      show n <= _
      rw [this]
      exact key
     all_goals first | exact key | trivial)
theorem U9 {n : Nat} {p : Program} {m : Machine} {rs : List Nat} (h : n <= m.world.drawn) : UpM n (match (choose (.sched rs.length)).run p m.world with
   | .halt _ w => .machine (.ended (.stuck "sched" "") w)
   | .ok k world =>
    if rs.length <= 1 then .goroutine { m with world } (rs.getD k 0) else
    match (choose (.extern "sched.slice" 65536)).run p world with
    | .halt _ w => .machine (.ended (.stuck "sched.slice" "") w)
    | .ok n world => .goroutine { m with world, rest := { m.rest with slice := if n = 0 then none else some (rs.getD k 0, n) } } (rs.getD k 0)) := by
 split
 ·trivial
 ·rename_i h2
  have h3 := a0z h (Dl h2)
  split
  ·exact h3
  ·split
   ·trivial
   ·rename_i h4
    have h5 := Dl h4
    exact a0z h3 h5
theorem Ql {n : Nat} {p : Program} {m : Machine} (h : n <= m.world.drawn) : UpM n (askOn p m) := by
 unfold askOn
 simp only []
 split
 ·trivial
 ·rename_i h2
  have h3 := a0z h (Dl h2)
  split
  ·exact Aa5 h3
  ·split
   ·split
    ·exact h3
    ·split
     ·exact h3
     ·split <;> trivial
   ·split
    ·exact U9 (m := { m with world := _ }) h3
    ·split
     ·trivial
     ·rename_i h4
      have h5 := a0z h3 (Dl h4)
      exact U9 (m := { m with world := _ }) h5
     ·rename_i h4
      have h5 := a0z h3 (Dl h4)
      exact h5
     ·rename_i h4
      have h5 := a0z h3 (Dl h4)
      exact U9 (m := Machine.advanceTo { m with world := _ } _) h5
theorem A0o {n : Nat} {p : Program} {m : Machine} (h : n <= m.world.drawn) : UpM n (ask p m) := by
 unfold ask
 split
 ·split
  ·trivial
  ·rename_i h2
   have h3 := a0z h (Dl h2)
   have h4 := A1e (p := p) (gs := m.gs) (rest := m.rest) h3
   split
   ·rename_i h5
    rw [h5] at h4
    exact Ql h4
   ·exact h4
  ·rename_i h2
   exact Ql (m := { m with world := _ }) (a0z h (Dl h2))
 ·exact Ql h
theorem Abm {n : Nat} {p : Program} {m : Machine} (h : n <= m.world.drawn) : UpM n (move p m) := by
 unfold move
 split
 ·split
  ·exact h
  ·trivial
 ·split
  ·split
   ·exact h
   ·exact A0o h
  ·exact A0o h
theorem Acb {n : Nat} {p : Program} {m : Machine} (h : n <= m.world.drawn) : UpS n (step p m) := by
 unfold step stepT
 have := Abm (p := p) h
 split
 ·rename_i h2
  rw [h2] at this
  exact Yt this
 ·rename_i h2
  rw [h2] at this
  exact this
theorem A1q {p : Program} : ∀ (k : Nat) {n : Nat} {m m' : Machine}, n <= m.world.drawn -> runN p k m = .next m' -> n <= m'.world.drawn
 | 0, n, m, m', h, hr => by
  rw [runN] at hr
  injection hr with hr
  rw [<- hr];exact h
 | k + 1, n, m, m', h, hr => by
  rw [runN] at hr
  have := Acb (p := p) h
  cases hs : step p m with
  | next m2 =>
   rw [hs] at hr this
   exact A1q k this hr
  | ended o w => rw [hs] at hr;cases hr
theorem calls_up {P : Program} {f : FuncId} {args : Array Value} {w : World} {v : Value} {R : World -> Prop} (h : Calls P f args w fun e w' => e = .returned v /\ R w') : Calls P f args w fun e w' => e = .returned v /\ R w' /\ w.drawn <= w'.drawn := by
 intro cs
 obtain ⟨e, w', fr, ⟨rfl, hR⟩, hc, hf, hl⟩ := h cs
 refine ⟨_, w', fr, ⟨rfl, hR, ?_⟩, hc, hf, hl⟩
 obtain ⟨k, hk⟩ := hc
 exact A1q k (n := w.drawn) (a2s _) hk
end Go.Proofs.YtlapbaiejnaeiaaGreatDoor.Up
namespace Go.Proofs
open Go.Shelf
def Tryz.srt_ren : Go.Shelf.Ren := ⟨fun | 6 => 250 | 15 => 260 | 14 => 259 | 28 => 270 | 29 => 240 | 20 => 262 | 21 => 263 | 22 => 264 | 23 => 265 | 24 => 266 | 25 => 267 | 26 => 268 | 27 => 269 | 46 => 271 | 47 => 272 | 48 => 273 | 49 => 274 | 50 => 275 | 57 => 276 | n => n, fun | 22 => 96 | 24 => 107 | 25 => 212 | 3 => 3 | 39 => 173 | 0 => 0 | 53 => 238 | 55 => 155 | 4 => 4 | 46 => 330 | 45 => 329 | 50 => 82 | 5 => 5 | 9 => 9 | 66 => 335 | 70 => 339 | 76 => 341 | 77 => 342 | n => n, fun | n => n⟩
theorem Tryz.srt : Go.Proofs.SlLaysF0.n6 Tryz.prog Tryz.srt_ren := {
 mixed := by kernel_rfl
 f6 := ⟨Tryz.f250.name, by decide, Tryz.func250.trans (congrArg some (by kernel_rfl))⟩
 f14 := ⟨Tryz.f259.name, by decide, Tryz.func259.trans (congrArg some (by kernel_rfl))⟩
 f15 := Tryz.func260.trans (congrArg some (by kernel_rfl))
 f20 := ⟨Tryz.f262.name, by decide, Tryz.func262.trans (congrArg some (by kernel_rfl))⟩
 f21 := ⟨Tryz.f263.name, by decide, Tryz.func263.trans (congrArg some (by kernel_rfl))⟩
 f22 := ⟨Tryz.f264.name, by decide, Tryz.func264.trans (congrArg some (by kernel_rfl))⟩
 f23 := ⟨Tryz.f265.name, by decide, Tryz.func265.trans (congrArg some (by kernel_rfl))⟩
 f24 := ⟨Tryz.f266.name, by decide, Tryz.func266.trans (congrArg some (by kernel_rfl))⟩
 f25 := ⟨Tryz.f267.name, by decide, Tryz.func267.trans (congrArg some (by kernel_rfl))⟩
 f26 := ⟨Tryz.f268.name, by decide, Tryz.func268.trans (congrArg some (by kernel_rfl))⟩
 f27 := ⟨Tryz.f269.name, by decide, Tryz.func269.trans (congrArg some (by kernel_rfl))⟩
 f28 := Tryz.func270.trans (congrArg some (by kernel_rfl))
 f29 := Tryz.func240.trans (congrArg some (by kernel_rfl))
 f46 := ⟨Tryz.f271.name, by decide, Tryz.func271.trans (congrArg some (by kernel_rfl))⟩
 f47 := Tryz.func272.trans (congrArg some (by kernel_rfl))
 f48 := Tryz.func273.trans (congrArg some (by kernel_rfl))
 f49 := ⟨Tryz.f274.name, by decide, Tryz.func274.trans (congrArg some (by kernel_rfl))⟩
 f50 := ⟨Tryz.f275.name, by decide, Tryz.func275.trans (congrArg some (by kernel_rfl))⟩
 f57 := ⟨Tryz.f276.name, by decide, Tryz.func276.trans (congrArg some (by kernel_rfl))⟩
 t0 := Tryz.underlying0
 a0 := Tryz.isAgg0
 z0 := Tryz.sizeOf0
 v0 := Tryz.zeroValue0
 t3 := Tryz.underlying3
 a3 := Tryz.isAgg3
 z3 := Tryz.sizeOf3
 v3 := Tryz.zeroValue3
 t4 := Tryz.underlying4
 a4 := Tryz.isAgg4
 z4 := Tryz.sizeOf4
 v4 := Tryz.zeroValue4
 t5 := Tryz.underlying5
 a5 := Tryz.isAgg5
 z5 := Tryz.sizeOf5
 v5 := Tryz.zeroValue5
 t9 := Tryz.underlying9
 a9 := Tryz.isAgg9
 z9 := Tryz.sizeOf9
 v9 := Tryz.zeroValue9
 t22 := Tryz.underlying96
 a22 := Tryz.isAgg96
 z22 := Tryz.sizeOf96
 v22 := Tryz.zeroValue96
 t25 := Tryz.underlying212
 a25 := Tryz.isAgg212
 z25 := Tryz.sizeOf212
 v25 := Tryz.zeroValue212
 t39 := Tryz.underlying173
 a39 := Tryz.isAgg173
 z39 := Tryz.sizeOf173
 v39 := Tryz.zeroValue173
 t45 := Tryz.underlying329
 a45 := Tryz.isAgg329
 z45 := Tryz.sizeOf329
 v45 := Tryz.zeroValue329
 t46 := Tryz.underlying330
 a46 := Tryz.isAgg330
 z46 := Tryz.sizeOf330
 v46 := Tryz.zeroValue330
 t50 := Tryz.underlying82
 a50 := Tryz.isAgg82
 z50 := Tryz.sizeOf82
 v50 := Tryz.zeroValue82
 t53 := Tryz.underlying238
 a53 := Tryz.isAgg238
 z53 := Tryz.sizeOf238
 v53 := Tryz.zeroValue238
 t55 := Tryz.underlying155
 a55 := Tryz.isAgg155
 z55 := Tryz.sizeOf155
 v55 := Tryz.zeroValue155
 t66 := Tryz.underlying335
 a66 := Tryz.isAgg335
 z66 := Tryz.sizeOf335
 v66 := Tryz.zeroValue335
 t70 := Tryz.underlying339
 a70 := Tryz.isAgg339
 z70 := Tryz.sizeOf339
 v70 := Tryz.zeroValue339
 t76 := Tryz.underlying341
 a76 := Tryz.isAgg341
 z76 := Tryz.sizeOf341
 v76 := Tryz.zeroValue341
 t77 := Tryz.underlying342
 a77 := Tryz.isAgg342
 z77 := Tryz.sizeOf342
 v77 := Tryz.zeroValue342 }
def Tryz.grow_ren : Go.Shelf.Ren := ⟨fun | 4 => 258 | n => n, fun | 22 => 109 | 25 => 191 | 3 => 3 | 4 => 4 | 9 => 9 | 20 => 20 | 0 => 0 | n => n, fun | n => n⟩
theorem Tryz.grow : Go.Proofs.Lays8.n4 Tryz.prog Tryz.grow_ren := {
 mixed := by kernel_rfl
 f4 := ⟨Tryz.f258.name, by decide, Tryz.func258.trans (congrArg some (by kernel_rfl))⟩
 t0 := Tryz.underlying0
 a0 := Tryz.isAgg0
 z0 := Tryz.sizeOf0
 v0 := Tryz.zeroValue0
 t3 := Tryz.underlying3
 a3 := Tryz.isAgg3
 z3 := Tryz.sizeOf3
 v3 := Tryz.zeroValue3
 t4 := Tryz.underlying4
 a4 := Tryz.isAgg4
 z4 := Tryz.sizeOf4
 v4 := Tryz.zeroValue4
 t9 := Tryz.underlying9
 a9 := Tryz.isAgg9
 z9 := Tryz.sizeOf9
 v9 := Tryz.zeroValue9
 t20 := Tryz.underlying20
 a20 := Tryz.isAgg20
 z20 := Tryz.sizeOf20
 v20 := Tryz.zeroValue20
 t22 := Tryz.underlying109
 a22 := Tryz.isAgg109
 z22 := Tryz.sizeOf109
 v22 := Tryz.zeroValue109 }
end Go.Proofs
