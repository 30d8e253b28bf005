/- DERIVED: THE SHELF's CONTRACTS AT THIS DUMP, IN PLAIN WORDS (tools/lay-plain.mjs out of 'TryzShelf.lean', which tools/lay-shelf.mjs wrote): THE SAME DECLARATIONS UNDER THE SAME NAMES: 'import', 'namespace', 'open', 'def', 'theorem' AND NOTHING ELSE: no command of the shelf's: FOR A HAND-IN. Each laying: the table of numbers ('.._ren') and one theorem, a field a fact of the dump's own or the kernel's comparison;each contract: ONE APPLICATION. -/
import Derived.Shelf.Small.Bits
import Derived.Shelf.Strconv.Itoa0
import Derived.Shelf.Bits.Mul64
import Derived.Test.YtbceahipbdmocaaGreatProg
import Derived.WalkKit
import Derived.WalkSpells
import Derived.Deep.QuietTactic
import Derived.BigQuiet
import Derived.Lib.Hide
import Derived.RowKit3
import Derived.Lib.QuietBelow
import Derived.StillTail
import Derived.OneCell
import Derived.Laws.Externs
import Derived.Shelf.Spec.BitsCarry
import Derived.Laws.BitsLemmas
import Derived.Lib.ItoaNum
import Derived.Deep.DeepCutAuto
import Derived.Deep.CutBlock
set_option linter.unusedSimpArgs false
set_option linter.unusedVariables false
namespace Go.Proofs
open Go.Shelf
def Tryz.lays134_ren : Go.Shelf.Ren := ⟨fun | 134 => 284 | 129 => 307 | n => n, fun | 53 => 183 | 3 => 3 | 4 => 4 | 46 => 309 | 5 => 5 | 9 => 9 | n => n, fun | n => n⟩
theorem Tryz.lays134 : Go.Proofs.Lays.n134 Tryz.prog Tryz.lays134_ren := {
 mixed := by kernel_rfl
 f129 := Tryz.func307.trans (congrArg some (by kernel_rfl))
 f134 := Tryz.func284.trans (congrArg some (by kernel_rfl))
 t3 := Tryz.underlying3
 a3 := Tryz.isAgg3
 z3 := Tryz.sizeOf3
 v3 := Tryz.zeroValue3
 t4 := Tryz.underlying4
 a4 := Tryz.isAgg4
 z4 := Tryz.sizeOf4
 v4 := Tryz.zeroValue4
 t5 := Tryz.underlying5
 a5 := Tryz.isAgg5
 z5 := Tryz.sizeOf5
 v5 := Tryz.zeroValue5
 t9 := Tryz.underlying9
 a9 := Tryz.isAgg9
 z9 := Tryz.sizeOf9
 v9 := Tryz.zeroValue9
 t46 := Tryz.underlying309
 a46 := Tryz.isAgg309
 z46 := Tryz.sizeOf309
 v46 := Tryz.zeroValue309
 t53 := Tryz.underlying183
 a53 := Tryz.isAgg183
 z53 := Tryz.sizeOf183
 v53 := Tryz.zeroValue183 }
theorem Tryz.bits_LeadingZeros64 (x : Int) (w : World) (h0 : 0 <= x) (h1 : x <= 18446744073709551615) :
  Calls Tryz.prog 284 #[.int .u64 x] w fun e w' => e = .returned (.int .i64 (64 - (Lib.bitLen x.toNat : Int))) /\ w' = w := Any.bits_LeadingZeros64 Tryz.lays134 x w h0 h1
def Tryz.lays264_ren : Go.Shelf.Ren := ⟨fun | 264 => 186 | n => n, fun | 53 => 183 | 46 => 309 | n => n, fun | n => n⟩
theorem Tryz.lays264 : Go.Proofs.Lays.n264 Tryz.prog Tryz.lays264_ren := {
 mixed := by kernel_rfl
 f264 := Tryz.func186.trans (congrArg some (by kernel_rfl))
 t46 := Tryz.underlying309
 a46 := Tryz.isAgg309
 z46 := Tryz.sizeOf309
 v46 := Tryz.zeroValue309
 t53 := Tryz.underlying183
 a53 := Tryz.isAgg183
 z53 := Tryz.sizeOf183
 v53 := Tryz.zeroValue183 }
open Go.RowKit Go.Lib in
theorem Tryz.bits_Mul64 (x y : Nat) (hx : x < 18446744073709551616) (hy : y < 18446744073709551616) (w : World) :
  Calls Tryz.prog 186 #[.int .u64 x, .int .u64 y] w fun e w' => e = .returned (.tuple #[.int .u64 ((x * y / 18446744073709551616 : Nat) : Int), .int .u64 ((x * y % 18446744073709551616 : Nat) : Int)]) /\ w' = w := Any.bits_Mul64 Tryz.lays264 x y hx hy w
end Go.Proofs
namespace Go.Proofs.YtbceahipbdmocaaGreat
open Go.RowKit
theorem Pk {k : IntKind} {a b : Int} (h : a = b) : Ending.returned (.int k a) = .returned (.int k b) := by rw [h]
theorem Cp (n : Int) : IntKind.u64.wrap n = n % 18446744073709551616 := by
 simp [IntKind.wrap, IntKind.signed, IntKind.bits]
theorem Xf (x y : Int) : Int.gcd y (x % y) = Int.gcd x y := by
 rw [Int.gcd_comm, Int.emod_def, Int.mul_comm];exact Int.gcd_sub_mul_right_left y x (x / y)

theorem Ge (n : Int) (h1 : -9223372036854775808 <= n) (h2 : n <= 9223372036854775807) (w : World) :
  Calls Tryz.prog 94 #[.int .i64 n] w fun e w' => e = .returned (.int .u64 (n.natAbs : Int)) /\ w = w' := by
 by_cases hn : n < 0
 ·go_enter Tryz.func94, Tryz.ntmps94
  go_wp2
  go_ret
  refine ⟨Pk ?_, rfl⟩
  rw [Cp, Cp]
  omega
 ·have e : (n.natAbs : Int) = n := by omega
  rw [e]
  go_enter Tryz.func94, Tryz.ntmps94
  go_wp2
  go_ret
  exact ⟨rfl, rfl⟩

theorem Jc (a b : Int) (w : World) (ha : 0 <= a) (ha' : a < 18446744073709551616) (hb : 0 <= b) (hb' : b < 18446744073709551616) :
  Calls Tryz.prog 95 #[.int .u64 a, .int .u64 b] w fun e w' => e = .returned (.int .u64 (Int.gcd a b : Int)) /\ ∃ n, w' = w.drewN n := by
 go_enter Tryz.func95, Tryz.ntmps95
 go_wp2
 go_loopw [0, 1] (fun s t wr => ∃ (x y : Int) (n : Nat), 0 <= x /\ x < 18446744073709551616 /\ 0 <= y /\ y < 18446744073709551616 /\ s = .int .u64 x /\ t = .int .u64 y /\ Int.gcd x y = Int.gcd a b /\ wr = w.drewN n) (fun _ t _ => (intOf t).toNat)
 case atStart => exact ⟨a, b, 0, ha, ha', hb, hb', rfl, rfl, rfl, rfl⟩
 case round =>
  obtain ⟨x, y, n, hx, hx', hy, hy', rfl, rfl, hg, rfl⟩ := hrel
  have HG := Lib.hid hg
  clear hg
  by_cases h0 : y = 0
  ·subst h0
   go_wp2
   go_ret
   exact ⟨Pk (by rw [<- HG.out];simp;omega), _, rfl⟩
  ·have h1 : (y != 0) = true := by simp [h0]
   have h2 : 1 <= y := by omega
   go_wp2
   go_quiet (fail)
   go_wp2
   go_roundw
   case rel => exact ⟨y, x % y, n + nq, by omega, by omega, Int.emod_nonneg _ h0, by have := Int.emod_lt_of_pos x (b := y) (by omega);omega, rfl, rfl, by rw [<- HG.out];exact Xf x y, by rw [World.drewN_drewN]⟩
   case measure =>
    have := Int.emod_lt_of_pos x (b := y) (by omega)
    have := Int.emod_nonneg x h0
    simp [intOf];omega
end Go.Proofs.YtbceahipbdmocaaGreat
namespace Go.Proofs.YtbceahipbdmocaaGreat
open Go Go.Sort Go.RowKit
def Tr (w w' : World) : Prop := Below w.heap.size w w'
theorem Tr.refl (w : World) : Tr w w := Below.refl _ _
theorem Tr.trans {a b c : World} (h : Tr a b) (k : Tr b c) : Tr a c := Below.trans h (Below.mono k (Below.size h))
theorem Tr.alloc (w : World) (o : Obj) : Tr w (w.alloc o) := (Below.refl _ _).alloc (Nat.le_refl _) o
theorem Tr.drew (w : World) : Tr w { w with drawn := w.drawn + 1 } := (Below.refl _ w).drew
def Cl (w : World) : World -> Prop := fun w' => ∃ p : Regrown, w' = grow (redrawn w p.d) p.os
theorem Cl.tr {w w' : World} (h : Cl w w') : Tr w w' := by obtain ⟨p, rfl⟩ := h;exact below_regrown w p.d p.os
theorem Tr.cl {w w' : World} (h : Tr w w') : Cl w w' := regrown_of_below h

section
variable {P : Program} {ops : Array Oper} {md : Region.Mode}

/-! ### One outcome -/
def D0 (P : Program) : Frame := { fn := P.funcs.size, tmps := #[], todo := [], defers := [], mode := .returning, kind := .report }
theorem A3w (w : World) : ∃ o w', step P (lone (D0 P) [] w) = .ended o w' := by
 refine ⟨_, _, step_lone_ended (by simp [stepG, unwind, D0, doReturn];exact ⟨rfl, rfl⟩)⟩
theorem A8v (n m : Nat) (x y : Machine) (h : runN P n x = .next y) : runN P (n + m) x = runN P m y := by
 induction n generalizing x with
 | zero => simp [runN] at h;subst h;simp
 | succ n ih =>
  rw [show n + 1 + m = (n + m) + 1 by omega]
  simp only [runN] at h ⊢
  cases hs : step P x <;> simp [hs] at h ⊢
  exact ih _ h
theorem Wz {f : FuncId} {args : Array Value} {w : World} {R R' : World -> Prop} {v v' : Value}
  (h : Calls P f args w fun e w' => e = .returned v /\ R w') (h' : Calls P f args w fun e w' => e = .returned v' /\ R' w') : v = v' := by
 obtain ⟨e, w1, fr, ⟨rfl, _⟩, hc, _, hl⟩ := h [D0 P]
 obtain ⟨e', w2, fr', ⟨rfl, _⟩, hc', _, hl'⟩ := h' [D0 P]
 obtain ⟨n, hn⟩ := hc
 obtain ⟨n', hn'⟩ := hc'
 have key : ∀ (n n' : Nat) (fr fr' : Frame) (w1 w2 : World) (v : Value), fr.leaving P w1 (.returned v) -> n <= n' ->
   runN P n (lone (Frame.enter P f args .normal) [D0 P] w) = .next (lone fr [D0 P] w1) -> runN P n' (lone (Frame.enter P f args .normal) [D0 P] w) = .next (lone fr' [D0 P] w2) ->
   fr = fr' /\ w1 = w2 := by
  intro n n' fr fr' w1 w2 v hl hle h1 h2
  obtain ⟨d, rfl⟩ := Nat.exists_eq_add_of_le hle
  rw [A8v _ d _ _ h1] at h2
  have s1 : step P (lone fr [D0 P] w1) = .next (lone (D0 P) [] w1) := step_leave_returned hl
  match d, h2 with
  | 0, h2 =>
   simp only [runN, lone] at h2
   injection h2 with h2
   injection h2 with hw hg
   simp at hg
   exact ⟨hg, hw⟩
  | 1, h2 =>
   simp only [runN, s1] at h2
   injection h2 with h2
   injection h2 with hw hg
   simp at hg
  | d + 2, h2 =>
   obtain ⟨o, w', he⟩ := A3w (P := P) w1
   simp [runN, s1, he] at h2
 have hfr : fr = fr' /\ w1 = w2 := by
  rcases Nat.le_total n n' with hle | hle
  ·exact key n n' fr fr' w1 w2 v hl hle hn hn'
  ·obtain ⟨a, b⟩ := key n' n fr' fr w2 w1 v' hl' hle hn' hn
   exact ⟨a.symm, b.symm⟩
 obtain ⟨rfl, rfl⟩ := hfr
 obtain ⟨_, _, _, fn, hf, hr⟩ := hl
 obtain ⟨_, _, _, fn', hf', hr'⟩ := hl'
 rw [hf] at hf'
 obtain rfl := Option.some.inj hf'
 rw [hr] at hr'
 injection hr'

theorem U4 {o : Oper} {a : Act} {C C' : World -> Prop} {w : World} {v v' : Value} (h : o.quietAt P a C w v) (h' : o.quietAt P a C' w v') : v = v' := by
 unfold Oper.quietAt at h h'
 generalize (execOp a.eval o).run P w = r at *
 cases r with
 | ok n w' =>
  cases n <;> simp only [Oper.quietUpon] at h h'
  case value u => rw [<- h.2, <- h'.2]
  case skip => rw [h.2, h'.2]
  case enter f args => exact Wz h.2 h'.2
 | halt x w' => simp only [Oper.quietUpon] at h

/-! ### The quiet head, in every world that is reached -/
def YF (P : Program) (ops : Array Oper) (o : Oper) (v : Value) (a : Act) (w : World) : Prop :=
 (Region.wanted o (yielded ops a.tmps) = true /\ ∀ w1, Tr w w1 -> o.quietAt P a (Tr w1) w1 v) \/ (Region.wanted o (yielded ops a.tmps) = false /\ v = undef)
theorem YF.later {o : Oper} {v : Value} {a : Act} {w w' : World} (h : YF P ops o v a w) (ht : Tr w w') : YF P ops o v a w' :=
 h.imp (fun ⟨x, y⟩ => ⟨x, fun w1 h1 => y w1 (ht.trans h1)⟩) id
theorem A3c {o : Oper} {a : Act} {w w1 : World} {v : Value} (h : o.quietAt P a (Cl w) w1 v) : o.quietAt P a (Tr w) w1 v := by
 unfold Oper.quietAt at *
 generalize (execOp a.eval o).run P w1 = r at *
 cases r with
 | ok n w' =>
  cases n <;> simp only [Oper.quietUpon] at h ⊢ <;> first | exact h | exact ⟨h.1, h.2.mono fun _ _ hh => ⟨hh.1, hh.2.tr⟩⟩
 | halt x w' => simp only [Oper.quietUpon] at h
theorem Zh {Q : Act -> Prop} {o : Oper} {rest : List Oper} {a : Act} {w : World} (h : ∀ w1, Tr w w1 -> wpQuiet P ops (Cl w1) Q (o :: rest) a) :
  ∃ v, YF P ops o v a w /\ ∀ w1, Tr w w1 -> wpQuiet P ops (Cl w1) Q rest (a.put o.dst v) := by
 by_cases hw : Region.wanted o (yielded ops a.tmps) = true
 ·have h' : ∀ w1, Tr w w1 -> o.quiet P a (Cl w1) (wpQuiet P ops (Cl w1) Q rest) := fun w1 h1 => by
   have := h w1 h1
   simp only [wpQuiet, hw, if_true] at this
   exact this
  obtain ⟨v, hv, _⟩ := h' w (Tr.refl w)
  have e : ∀ w1, Tr w w1 -> o.quietAt P a (Cl w1) w1 v /\ wpQuiet P ops (Cl w1) Q rest (a.put o.dst v) := fun w1 h1 => by
   obtain ⟨v1, hv1, hn1⟩ := h' w1 h1
   have := U4 (hv w1 h1.cl) (hv1 w1 (Tr.refl w1).cl)
   subst this
   exact ⟨hv1 w1 (Tr.refl w1).cl, hn1⟩
  exact ⟨v, .inl ⟨hw, fun w1 h1 => A3c (e w1 h1).1⟩, fun w1 h1 => (e w1 h1).2⟩
 ·have hw' : Region.wanted o (yielded ops a.tmps) = false := by simpa using hw
  refine ⟨undef, .inr ⟨hw', rfl⟩, fun w1 h1 => ?_⟩
  have := h w1 h1
  simp only [wpQuiet, hw', Bool.false_eq_true, if_false] at this
  exact this

/-! ### One operation that does not panic -/
def I5 (P : Program) (o : Oper) (a : Act) (K : Act -> World -> Prop) : Result Next -> Prop
 | .ok (.value v) w' => K (a.put o.dst v) w'
 | .ok .skip w' => K (a.put o.dst undef) w'
 | .ok (.enter f args) w' => Calls P f args w' fun e w'' => ∃ v, e = .returned v /\ K (a.put o.dst v) w''
 | _ => False
def wpN (P : Program) (ops : Array Oper) (i : Nat) (K : Act -> World -> Prop) (a : Act) (w : World) : Prop :=
 match ops[i]? with
 | none => False
 | some o => if Region.wanted o (yielded ops a.tmps) then I5 P o a K ((execOp a.eval o).run P w) else K (a.put o.dst undef) w
theorem A2v {o : Oper} {a : Act} {K K' : Act -> World -> Prop} (h : ∀ v w, K (a.put o.dst v) w -> K' (a.put o.dst v) w) {r : Result Next} (hh : I5 P o a K r) : I5 P o a K' r := by
 cases r with
 | ok n w' =>
  cases n <;> simp only [I5] at hh ⊢ <;> first | exact h _ _ hh | exact hh.mono fun _ _ ⟨v, he, hk⟩ => ⟨v, he, h _ _ hk⟩
 | halt x w' => simp only [I5] at hh
theorem Xg {i : Nat} {a : Act} {w : World} {K K' : Act -> World -> Prop} (h : ∀ o v w, ops[i]? = some o -> K (a.put o.dst v) w -> K' (a.put o.dst v) w) (hh : wpN P ops i K a w) : wpN P ops i K' a w := by
 unfold wpN at *
 split
 ·rename_i ho;simp only [ho] at hh
 ·rename_i o ho
  simp only [ho] at hh
  split
  ·rename_i hw;simp only [hw, if_true] at hh;exact A2v (fun v w => h o v w ho) hh
  ·rename_i hw;simp only [hw] at hh;exact h o _ _ ho hh
theorem Zx {i : Nat} {a : Act} {w : World} {K : Act -> World -> Prop} {Q : Exit -> Act -> World -> Prop} (hh : wpN P ops i K a w) : wpOp P ops Q i K a w := by
 unfold wpN at hh
 unfold wpOp
 split
 ·rename_i ho;simp only [ho] at hh
 ·rename_i o ho
  simp only [ho] at hh
  split
  ·rename_i hw
   simp only [hw, if_true] at hh
   refine .inl ?_
   unfold Oper.wp
   generalize (execOp a.eval o).run P w = r at *
   cases r with
   | ok n w' =>
    cases n <;> simp only [I5] at hh <;> simp only [Oper.upon] <;> first | exact hh | exact hh.mono fun _ _ ⟨v, he, hk⟩ => by subst he;exact hk
   | halt x w' => simp only [I5] at hh
  ·rename_i hw;simp only [hw] at hh;exact hh
theorem Aaw {j : Nat} {oi oj : Oper} {v : Value} (hj : ops[j]? = some oj) (hap : oi.apart ops oj = true) (hsj : ∀ cs b, oj.op ≠ .select cs b) {K : Act -> World -> Prop} {a : Act} {w : World}
  (h : wpN P ops j K (a.put oi.dst v) w) : wpN P ops j (fun a1 w1 => K (a1.put oi.dst v) w1) a w := by
 obtain ⟨h1, h2, h3⟩ := Oper.apart_spec hap
 unfold wpN at *
 simp only [hj] at *
 rw [wanted_put oj a oi.dst v h1] at h
 split
 ·rename_i hw
  simp only [hw, if_true] at h
  rw [execOp_put oj hsj a oi.dst v h1] at h
  generalize (execOp a.eval oj).run P w = r at *
  cases r with
  | ok n w' =>
   cases n <;> simp only [I5] at h ⊢
   case value u => rw [<- Act.put_comm a v u h2];exact h
   case skip => rw [<- Act.put_comm a v undef h2];exact h
   case enter f args => exact h.mono fun _ _ ⟨u, he, hk⟩ => ⟨u, he, by rw [<- Act.put_comm a v u h2];exact hk⟩
  | halt x w' => simp only [I5] at h
 ·rename_i hw
  simp only [hw] at h
  rw [<- Act.put_comm a v undef h2];exact h
theorem YF.put {oi oj : Oper} {v : Value} (hap : oi.apart ops oj = true) (hsi : ∀ cs b, oi.op ≠ .select cs b) {a : Act} {w : World} (hy : YF P ops oi v a w) (u : Value) : YF P ops oi v (a.put oj.dst u) w := by
 obtain ⟨h1, h2, h3⟩ := Oper.apart_spec hap
 unfold YF Oper.quietAt at *
 rw [execOp_put oi hsi a oj.dst u h3, wanted_put oi a oj.dst u h3]
 exact hy
theorem YF.wpN {i : Nat} {o : Oper} {v : Value} {a : Act} {w : World} (hi : ops[i]? = some o) (hy : YF P ops o v a w) {K : Act -> World -> Prop} (h : ∀ w1, Tr w w1 -> K (a.put o.dst v) w1) : wpN P ops i K a w := by
 unfold Go.Proofs.YtbceahipbdmocaaGreat.wpN
 simp only [hi]
 rcases hy with ⟨hw, hv⟩ | ⟨hw, rfl⟩
 ·simp only [hw, if_true]
  have := hv w (Tr.refl w)
  unfold Oper.quietAt at this
  generalize (execOp a.eval o).run P w = r at *
  cases r with
  | ok n w' =>
   cases n <;> simp only [Oper.quietUpon] at this <;> simp only [I5]
   case value u => obtain ⟨rfl, rfl⟩ := this;exact h _ (Tr.refl _)
   case skip => obtain ⟨rfl, rfl⟩ := this;exact h _ (Tr.refl _)
   case enter f args =>
    obtain ⟨rfl, hc⟩ := this
    exact hc.mono fun _ _ ⟨he, ht⟩ => ⟨v, he, h _ ht⟩
  | halt x w' => simp only [Oper.quietUpon] at this
 ·simp only [hw, Bool.false_eq_true, if_false];exact h _ (Tr.refl _)

/-! ### Whatever order;as long as one of the first m operations has not come up, the world may grow in between -/
def Opn (m : Nat) (listed : Array Bool) : Prop := ∃ k, k < m /\ listed.getD k true = false
def wpT (P : Program) (md : Region.Mode) (ops : Array Oper) (Q : Exit -> Act -> World -> Prop) (m : Nat) : Nat -> Array Bool -> Act -> World -> Prop
 | 0, listed, a, w => ∀ w', Tr w w' -> wpAny P md ops Q 0 listed a w'
 | f + 1, listed, a, w =>
  (¬ Opn m listed -> ∀ w', Tr w w' -> wpAny P md ops Q (f + 1) listed a w') /\
  (Opn m listed -> ∀ w', Tr w w' -> Region.ready md ops listed ≠ [] /\ ∀ i ∈ Region.ready md ops listed, wpN P ops i (fun a1 w1 => Tr w' w1 /\ wpT P md ops Q m f (listed.setIfInBounds i true) a1 w1) a w')
theorem Vh {Q : Exit -> Act -> World -> Prop} {m f : Nat} {listed : Array Bool} {a : Act} {w w' : World} (h : wpT P md ops Q m f listed a w) (ht : Tr w w') : wpT P md ops Q m f listed a w' := by
 cases f with
 | zero => exact fun w1 h1 => h w1 (ht.trans h1)
 | succ f => exact ⟨fun ho w1 h1 => h.1 ho w1 (ht.trans h1), fun ho w1 h1 => h.2 ho w1 (ht.trans h1)⟩
theorem Gw {Q : Exit -> Act -> World -> Prop} {m : Nat} : ∀ (f : Nat) (listed : Array Bool) (a : Act) (w : World), wpT P md ops Q m f listed a w -> wpAny P md ops Q f listed a w
 | 0, _, _, w, h => h w (Tr.refl w)
 | f + 1, listed, a, w, h => by
  by_cases ho : Opn m listed
  ·obtain ⟨hne, hall⟩ := h.2 ho w (Tr.refl w)
   exact ⟨fun h0 => absurd h0 hne, fun i hi => Zx (Xg (fun o v w1 _ hk => Gw f _ _ _ hk.2) (hall i hi))⟩
  ·exact h.1 ho w (Tr.refl w)

theorem A53 {m i : Nat} {oi : Oper} {v : Value} {Q : Exit -> Act -> World -> Prop} (hi : ops[i]? = some oi) (hsel : ∀ (j : Nat) (o : Oper) cs b, ops[j]? = some o -> o.op ≠ .select cs b)
  (htail : ∀ listed, HeadInv md ops m listed -> ∀ k, k < m -> listed.getD k true = false -> ∀ t, m <= t -> t ∉ Region.ready md ops listed) (him : i < m) :
  ∀ (f : Nat) (listed : Array Bool) (a : Act) (w : World), HeadInv md ops m listed ->
   (∀ j oj, ops[j]? = some oj -> j ≠ i -> listed.getD j true = false -> (∀ e ∈ oj.after, Region.binds md e = true -> e.on ≠ i) -> oi.apart ops oj = true) ->
   i ∈ Region.ready md ops listed -> YF P ops oi v a w ->
   wpT P md ops Q m f (listed.setIfInBounds i true) (a.put oi.dst v) w -> wpT P md ops Q m (f + 1) listed a w := by
 intro f
 induction f with
 | zero =>
  intro listed a w inv _ hr hy H
  have hun := (mem_ready.1 hr).1
  refine ⟨fun ho => absurd ⟨i, him, hun⟩ ho, fun _ w' ht => ⟨fun h => (by rw [h] at hr;cases hr), fun j hj => ?_⟩⟩
  by_cases hji : j = i
  ·subst hji
   exact YF.wpN hi (hy.later ht) fun w1 h1 => ⟨h1, Vh H (ht.trans h1)⟩
  ·have := (H w (Tr.refl w)).1
   have h2 := ready_mono hj hji
   rw [this] at h2;cases h2
 | succ f ih =>
  intro listed a w inv hfree hr hy H
  have hun := (mem_ready.1 hr).1
  refine ⟨fun ho => absurd ⟨i, him, hun⟩ ho, fun _ w' ht => ⟨fun h => (by rw [h] at hr;cases hr), fun j hj => ?_⟩⟩
  by_cases hji : j = i
  ·subst hji
   exact YF.wpN hi (hy.later ht) fun w1 h1 => ⟨h1, Vh H (ht.trans h1)⟩
  ·have hjm : j < m := by
    rcases Nat.lt_or_ge j m with h | h
    ·exact h
    ·exact absurd hj (htail listed inv i him hun j h)
   obtain ⟨hjun, oj, hoj, hall⟩ := mem_ready.1 hj
   have ho' : Opn m (listed.setIfInBounds i true) := ⟨j, hjm, by rw [getD_set_ne true (Ne.symm hji)];exact hjun⟩
   have h1 := (H.2 ho' w' ht).2 j (ready_mono hj hji)
   have hnot : ∀ e ∈ oj.after, Region.binds md e = true -> e.on ≠ i := fun e he hb heq => by
    have h1 := hall e he hb
    rw [heq, getD_both hun] at h1
    cases h1
   have hap := hfree j oj hoj hji hjun hnot
   have h2 := Aaw hoj hap (fun cs b => hsel j oj cs b hoj) h1
   have hfree' : ∀ k ok, ops[k]? = some ok -> k ≠ i -> (listed.setIfInBounds j true).getD k true = false ->
     (∀ e ∈ ok.after, Region.binds md e = true -> e.on ≠ i) -> oi.apart ops ok = true := fun k ok hk hki hun hno => by
    refine hfree k ok hk hki ?_ hno
    by_cases hjk : j = k
    ·subst hjk;exact hjun
    ·rw [getD_set_ne true hjk] at hun;exact hun
   refine Xg (fun o u w1 ho h3 => ⟨h3.1, ?_⟩) h2
   have : o = oj := Option.some.inj (ho.symm.trans hoj)
   subst this
   refine ih (listed.setIfInBounds j true) _ w1 (inv.set hj hjm) hfree' (ready_mono hr (Ne.symm hji)) ((hy.later (ht.trans h3.1)).put hap (fun cs b => hsel i oi cs b hi) u) ?_
   rw [Array.setIfInBounds_comm _ _ hji]
   exact h3.2

/-! ### The head in the order of the text -/
def Wl (md : Region.Mode) (ops : Array Oper) (fin : Array Bool -> Bool) : Nat -> Nat -> Array Bool -> Bool
 | 0, _, listed => fin listed
 | f + 1, k, listed => (Region.ready md ops listed).contains k && Region.free md ops listed k && Wl md ops fin f (k + 1) (listed.setIfInBounds k true)
theorem Pd {m g : Nat} {Q : Exit -> Act -> World -> Prop} {Lq : Act -> Prop} {fin : Array Bool -> Bool} {w : World} (hsel : Region.noSelect ops = true)
  (htail : ∀ listed, HeadInv md ops m listed -> ∀ k, k < m -> listed.getD k true = false -> ∀ t, m <= t -> t ∉ Region.ready md ops listed)
  (hfin : ∀ listed a, fin listed = true -> Lq a -> wpT P md ops Q m g listed a w) :
  ∀ (l : List Oper) (k : Nat) (listed : Array Bool) (a : Act), (∀ j, j < l.length -> l[j]? = ops[k + j]?) -> k + l.length <= m -> HeadInv md ops m listed ->
  Wl md ops fin l.length k listed = true -> (∀ w1, Tr w w1 -> wpQuiet P ops (Cl w1) Lq l a) -> wpT P md ops Q m (l.length + g) listed a w
 | [], k, listed, a, _, _, _, hB, h => by
  simp only [List.length_nil, Nat.zero_add]
  exact hfin listed a hB (h w (Tr.refl w))
 | o :: l, k, listed, a, hl, hk, inv, hB, h => by
  have h0 : ops[k]? = some o := by simpa using (hl 0 (by simp)).symm
  simp only [List.length_cons, Wl, Bool.and_eq_true] at hB
  obtain ⟨⟨hr, hf⟩, hB'⟩ := hB
  have hkm : k < m := by simp only [List.length_cons] at hk;omega
  have hr' : k ∈ Region.ready md ops listed := by simpa using hr
  obtain ⟨v, hy, hK⟩ := Zh h
  rw [show (o :: l).length + g = (l.length + g) + 1 by simp only [List.length_cons];omega]
  exact A53 h0 (Region.noSelect_spec hsel) htail hkm _ listed a w inv (Region.free_spec h0 hf) hr' hy
   (Pd hsel htail hfin l (k + 1) _ _ (fun j hj => by have := hl (j + 1) (by simp;omega);simpa [Nat.add_assoc, Nat.add_comm 1 j] using this) (by simp only [List.length_cons] at hk;omega) (inv.set hr' hkm) hB' hK)

def V2 (m : Nat) (listed : Array Bool) : Bool := (List.range m).all fun k => listed.getD k true
theorem Aac {m : Nat} {listed : Array Bool} (h : V2 m listed = true) : ¬ Opn m listed := fun ⟨k, hk, hf⟩ => by
 have := List.all_eq_true.1 h k (List.mem_range.2 hk)
 rw [hf] at this;cases this
def Qx (md : Region.Mode) (ops : Array Oper) (m : Nat) (listed : Array Bool) : Bool := V2 m listed && Region.seqB md ops (ops.size - m) m listed
def A73 (md : Region.Mode) (ops : Array Oper) (n : Nat) (listed : Array Bool) : Bool :=
 decide (Region.ready md ops listed = [n]) && Qx md ops (n + 1) (listed.setIfInBounds n true)
def A7g (md : Region.Mode) (ops : Array Oper) (n : Nat) (listed : Array Bool) : Bool :=
 decide (Region.ready md ops listed = [n, n + 1]) && decide (Region.ready md ops (listed.setIfInBounds n true) = [n + 1]) && decide (Region.ready md ops (listed.setIfInBounds (n + 1) true) = [n]) &&
 Qx md ops (n + 2) ((listed.setIfInBounds n true).setIfInBounds (n + 1) true) && Qx md ops (n + 2) ((listed.setIfInBounds (n + 1) true).setIfInBounds n true)
def Ol (md : Region.Mode) (ops : Array Oper) (n m : Nat) (fin : Array Bool -> Bool) : Bool :=
 Region.noSelect ops && decide (n <= m) && (decide (m = ops.size) || (decide (m < ops.size) && Region.sinkB md ops m && Region.chainB md ops m)) && Wl md ops fin n 0 (Array.replicate ops.size false)
theorem R5 {n m : Nat} {fin : Array Bool -> Bool} (h : Ol md ops n m fin = true) : ∀ listed, HeadInv md ops m listed -> ∀ k, k < m -> listed.getD k true = false -> ∀ t, m <= t -> t ∉ Region.ready md ops listed := by
 intro listed inv k hk hun t ht
 simp only [Ol, Bool.and_eq_true, Bool.or_eq_true, decide_eq_true_eq] at h
 rcases h.1.2 with h1 | ⟨⟨h1, hs⟩, hc⟩
 ·intro hr
  obtain ⟨_, ot, hot, _⟩ := mem_ready.1 hr
  have := (Array.getElem?_eq_some_iff.1 hot).1
  omega
 ·exact tail_waits hs hc h1 inv _ k rfl hk hun t ht

def MakesBlock (P : Program) (o : Oper) (z : Array Value) (t : TypeId) : Prop :=
 o.guard = none /\ ∀ (a : Act) (w : World), (execOp a.eval o).run P w = .ok (.value (.pointer (some ⟨w.heap.size, 0, none⟩))) (w.alloc (.cells z t))
theorem MakesBlock.wpN {o : Oper} {z : Array Value} {t : TypeId} {i : Nat} (h : MakesBlock P o z t) (hi : ops[i]? = some o) {K : Act -> World -> Prop} {a : Act} {w : World}
  (hk : K (a.put o.dst (.pointer (some ⟨w.heap.size, 0, none⟩))) (w.alloc (.cells z t))) : wpN P ops i K a w := by
 unfold Go.Proofs.YtbceahipbdmocaaGreat.wpN
 simp only [hi]
 have : Region.wanted o (yielded ops a.tmps) = true := by unfold Region.wanted;rw [h.1]
 rw [if_pos this, h.2 a w]
 exact hk
theorem Je (w : World) (o : Obj) : (w.alloc o).heap[w.heap.size]? = some o := by
 show (w.heap.push o)[w.heap.size]? = _
 simp
theorem Tr.at {w w' : World} (h : Tr w w') {b : Nat} {o : Obj} (hb : w.heap[b]? = some o) : w'.heap[b]? = some o := by
 rw [Below.block h b (Array.getElem?_eq_some_iff.1 hb).1];exact hb
end

section
variable {P : Program} {Q : Exit -> Act -> World -> Prop} {a : Act} {w : World} {l : List Oper} {id : Nat}
theorem Od (m : Nat) (hm : m <= l.toArray.size) : HeadInv .any l.toArray m (Array.replicate l.toArray.size false) :=
 ⟨by simp, fun j oj _ hl => (by rw [getD_replicate_false] at hl;cases hl), fun t _ ht => getD_in (by simpa using ht) (getD_replicate_false _ _)⟩
theorem M5 {m : Nat} {listed : Array Bool} {w0 : World} (h : Qx .any l.toArray m listed = true) (hm : m <= l.length)
  (hk : ∀ w', Tr w0 w' -> wpList P l.toArray Q (l.drop m) a w') : wpT P .any l.toArray Q m (l.toArray.size - m) listed a w0 := by
 simp only [Qx, Bool.and_eq_true] at h
 have hdl : (l.drop m).length = l.toArray.size - m := by simp
 have key : ∀ w', Tr w0 w' -> wpAny P .any l.toArray Q (l.toArray.size - m) listed a w' := fun w' ht => by
  have := wpAny_of_seq (md := .any) (Q' := Q) (l.drop m) m listed a w' (fun j => by simp [List.getElem?_drop]) (by rw [hdl];exact h.2) (hk w' ht)
  rwa [hdl] at this
 generalize l.toArray.size - m = g at *
 cases g with
 | zero => exact key
 | succ g => exact ⟨fun _ => key, fun ho => absurd ho (Aac h.1)⟩
theorem Hx (n : Nat) (hm : P.follows .mixedOrders = true) (hB : Ol .any l.toArray n n (Qx .any l.toArray n) = true)
  (h : ∀ w1, Tr w w1 -> wpQuiet P l.toArray (fun w' => ∃ p : Regrown, w' = grow (redrawn w1 p.d) p.os) (fun a' => ∀ w', Tr w w' -> wpList P l.toArray Q (l.drop n) a' w') (l.take n) a) : (Code.region id l.toArray true).wp P Q a w := by
 have hB0 := hB
 simp only [Ol, Bool.and_eq_true, Bool.or_eq_true, decide_eq_true_eq] at hB
 obtain ⟨⟨⟨hsel, _⟩, hsz⟩, hhead⟩ := hB
 have hn : n <= l.length := by rcases hsz with h | h <;> simp at h <;> omega
 have htl : (l.take n).length = n := by simp;omega
 refine wp_region_any hm (Gw (m := n) _ _ _ _ ?_)
 have H := Pd (md := .any) (P := P) (Q := Q) (g := l.toArray.size - n) (w := { w with drawn := w.drawn + 1 }) (fin := Qx .any l.toArray n) (Lq := fun a' => ∀ w', Tr w w' -> wpList P l.toArray Q (l.drop n) a' w') hsel (R5 hB0) (fun listed a' hf hL => M5 hf hn fun w' ht => hL w' ((Tr.drew w).trans ht)) (l.take n) 0 _ a
  (fun j hj => by rw [htl] at hj;simp [hj]) (by omega) (Od n (by simpa using hn)) (by rw [htl];exact hhead)
  (fun w1 h1 => by
   have := h w1 ((Tr.drew w).trans h1)
   exact this)
 rw [htl, show n + (l.toArray.size - n) = l.toArray.size by simp;omega] at H
 exact H
theorem Ue (n : Nat) (z : Array Value) (t : TypeId) (o : Oper) (hm : P.follows .mixedOrders = true) (hB : Ol .any l.toArray n (n + 1) (A73 .any l.toArray n) = true) (ho : l[n]? = some o) (hz : MakesBlock P o z t)
  (h : ∀ w1, Tr w w1 -> wpQuiet P l.toArray (fun w' => ∃ p : Regrown, w' = grow (redrawn w1 p.d) p.os) (fun a' => ∀ (b : Nat) (w' : World), w.heap.size <= b -> Tr w w' -> w'.heap[b]? = some (.cells z t) ->
   wpList P l.toArray Q (l.drop (n + 1)) (a'.put o.dst (.pointer (some ⟨b, 0, none⟩))) w') (l.take n) a) : (Code.region id l.toArray true).wp P Q a w := by
 have hB0 := hB
 simp only [Ol, Bool.and_eq_true, Bool.or_eq_true, decide_eq_true_eq] at hB
 obtain ⟨⟨⟨hsel, _⟩, hsz⟩, hhead⟩ := hB
 have hn : n + 1 <= l.length := by rcases hsz with h | h <;> simp at h <;> omega
 have htl : (l.take n).length = n := by simp;omega
 refine wp_region_any hm (Gw (m := n + 1) _ _ _ _ ?_)
 have H := Pd (md := .any) (P := P) (Q := Q) (m := n + 1) (g := (l.toArray.size - (n + 1)) + 1) (w := { w with drawn := w.drawn + 1 }) (fin := A73 .any l.toArray n) (Lq := fun a' => ∀ (b : Nat) (w' : World), w.heap.size <= b -> Tr w w' -> w'.heap[b]? = some (.cells z t) ->
   wpList P l.toArray Q (l.drop (n + 1)) (a'.put o.dst (.pointer (some ⟨b, 0, none⟩))) w') hsel (R5 hB0) (fun listed a' hf hL => by
   simp only [A73, Bool.and_eq_true, decide_eq_true_eq] at hf
   obtain ⟨hr, hf⟩ := hf
   refine ⟨fun hno => absurd ⟨n, by omega, (mem_ready.1 (by rw [hr];simp : n ∈ Region.ready .any l.toArray listed)).1⟩ hno, fun _ w' ht => ⟨by rw [hr];simp, fun i hi => ?_⟩⟩
   rw [hr] at hi
   obtain rfl : i = n := by simpa using hi
   exact hz.wpN (by simpa using ho) ⟨Tr.alloc _ _, M5 hf hn fun w'' ht'' =>
    hL _ w'' ht.size (((Tr.drew w).trans ht).trans ((Tr.alloc _ _).trans ht'')) (ht''.at (Je _ _))⟩) (l.take n) 0 _ a
  (fun j hj => by rw [htl] at hj;simp [hj]) (by omega) (Od (n + 1) (by simpa using hn)) (by rw [htl];exact hhead)
  (fun w1 h1 => by
   have := h w1 ((Tr.drew w).trans h1)
   exact this)
 rw [htl, show n + ((l.toArray.size - (n + 1)) + 1) = l.toArray.size by simp;omega] at H
 exact H
theorem Fl (n : Nat) (z : Array Value) (t : TypeId) (o : Oper) (z' : Array Value) (t' : TypeId) (o' : Oper) (hm : P.follows .mixedOrders = true) (hB : Ol .any l.toArray n (n + 2) (A7g .any l.toArray n) = true)
  (ho : l[n]? = some o) (hz : MakesBlock P o z t) (ho' : l[n + 1]? = some o') (hz' : MakesBlock P o' z' t') (hd : ∀ d, o.dst = some d -> o'.dst ≠ some d)
  (h : ∀ w1, Tr w w1 -> wpQuiet P l.toArray (fun w' => ∃ p : Regrown, w' = grow (redrawn w1 p.d) p.os) (fun a' => ∀ (b b' : Nat) (w' : World), w.heap.size <= b -> w.heap.size <= b' -> b ≠ b' -> Tr w w' -> w'.heap[b]? = some (.cells z t) -> w'.heap[b']? = some (.cells z' t') ->
   wpList P l.toArray Q (l.drop (n + 2)) ((a'.put o.dst (.pointer (some ⟨b, 0, none⟩))).put o'.dst (.pointer (some ⟨b', 0, none⟩))) w') (l.take n) a) : (Code.region id l.toArray true).wp P Q a w := by
 have hB0 := hB
 simp only [Ol, Bool.and_eq_true, Bool.or_eq_true, decide_eq_true_eq] at hB
 obtain ⟨⟨⟨hsel, _⟩, hsz⟩, hhead⟩ := hB
 have hn : n + 2 <= l.length := by rcases hsz with h | h <;> simp at h <;> omega
 have htl : (l.take n).length = n := by simp;omega
 refine wp_region_any hm (Gw (m := n + 2) _ _ _ _ ?_)
 have hon : l.toArray[n]? = some o := by simpa using ho
 have hon' : l.toArray[n + 1]? = some o' := by simpa using ho'
 have H := Pd (md := .any) (P := P) (Q := Q) (m := n + 2) (g := (l.toArray.size - (n + 2)) + 1 + 1) (w := { w with drawn := w.drawn + 1 }) (fin := A7g .any l.toArray n) (Lq := fun a' => ∀ (b b' : Nat) (w' : World), w.heap.size <= b -> w.heap.size <= b' -> b ≠ b' -> Tr w w' -> w'.heap[b]? = some (.cells z t) -> w'.heap[b']? = some (.cells z' t') ->
   wpList P l.toArray Q (l.drop (n + 2)) ((a'.put o.dst (.pointer (some ⟨b, 0, none⟩))).put o'.dst (.pointer (some ⟨b', 0, none⟩))) w') hsel (R5 hB0) (fun listed a' hf hL => by
   simp only [A7g, Bool.and_eq_true, decide_eq_true_eq] at hf
   obtain ⟨⟨⟨⟨hr, hr1⟩, hr2⟩, hf1⟩, hf2⟩ := hf
   have hun : listed.getD n true = false := (mem_ready.1 (by rw [hr];simp : n ∈ Region.ready .any l.toArray listed)).1
   have hun' : listed.getD (n + 1) true = false := (mem_ready.1 (by rw [hr];simp : n + 1 ∈ Region.ready .any l.toArray listed)).1
   refine ⟨fun hno => absurd ⟨n, by omega, hun⟩ hno, fun _ w' ht => ⟨by rw [hr];simp, fun i hi => ?_⟩⟩
   rw [hr] at hi
   have hi' : i = n \/ i = n + 1 := by simpa using hi
   rcases hi' with rfl | rfl
   ·refine hz.wpN hon ⟨Tr.alloc _ _, fun hno => absurd ⟨i + 1, by omega, by rw [getD_set_ne true (by omega)];exact hun'⟩ hno, fun _ w2 ht2 => ⟨by rw [hr1];simp, fun j hj => ?_⟩⟩
    rw [hr1] at hj
    obtain rfl : j = i + 1 := by simpa using hj
    have hlt : w'.heap.size < w2.heap.size := by have := Below.size ht2;simp at this;omega
    exact hz'.wpN hon' ⟨Tr.alloc _ _, M5 hf1 hn fun w3 ht3 =>
     hL _ _ w3 ht.size (Nat.le_trans ht.size (by omega)) (by omega) (((Tr.drew w).trans ht).trans ((Tr.alloc _ _).trans (ht2.trans ((Tr.alloc _ _).trans ht3)))) (((Tr.alloc _ _).trans ht3).at (ht2.at (Je _ _))) (ht3.at (Je _ _))⟩
   ·refine hz'.wpN hon' ⟨Tr.alloc _ _, fun hno => absurd ⟨n, by omega, by rw [getD_set_ne true (by omega)];exact hun⟩ hno, fun _ w2 ht2 => ⟨by rw [hr2];simp, fun j hj => ?_⟩⟩
    rw [hr2] at hj
    obtain rfl : j = n := by simpa using hj
    have hlt : w'.heap.size < w2.heap.size := by have := Below.size ht2;simp at this;omega
    refine hz.wpN hon ⟨Tr.alloc _ _, M5 hf2 hn fun w3 ht3 => ?_⟩
    rw [<- Act.put_comm _ _ _ hd]
    exact hL _ _ w3 (Nat.le_trans ht.size (by omega)) ht.size (by omega) (((Tr.drew w).trans ht).trans ((Tr.alloc _ _).trans (ht2.trans ((Tr.alloc _ _).trans ht3)))) (ht3.at (Je _ _)) (((Tr.alloc _ _).trans ht3).at (ht2.at (Je _ _)))) (l.take n) 0 _ a
  (fun j hj => by rw [htl] at hj;simp [hj]) (by omega) (Od (n + 2) (by simpa using hn)) (by rw [htl];exact hhead)
  (fun w1 h1 => by
   have := h w1 ((Tr.drew w).trans h1)
   exact this)
 rw [htl, show n + ((l.toArray.size - (n + 2)) + 1 + 1) = l.toArray.size by simp;omega] at H
 exact H
end

/-! ### Small words for the walks -/
theorem Tr.al {w w1 : World} (h : Tr w w1) (o : Obj) : Tr w (w1.alloc o) := h.trans (Tr.alloc _ _)
theorem Tr.dr {w w1 : World} (h : Tr w w1) : Tr w w1.drew := Below.drew h
theorem Tr.drN {w w1 : World} (h : Tr w w1) (n : Nat) : Tr w (w1.drewN n) := h.trans ⟨rfl, rfl, rfl, Nat.le_refl _, fun _ _ => rfl⟩
theorem Tr.set {w w1 : World} (h : Tr w w1) {p : Addr} (hp : w.heap.size <= p.block) (u : Value) : Tr w (w1.setCell p u) := Below.setCell h hp u
theorem Tr.cells {w w1 : World} (h : Tr w w1) : (∀ b o, b < w.heap.size -> w1.cell? ⟨b, o, none⟩ = w.cell? ⟨b, o, none⟩) /\ (∀ b o, b < w.heap.size -> w1.frozen? ⟨b, o, none⟩ = w.frozen? ⟨b, o, none⟩) :=
 ⟨fun b o hb => Below.cell (p := ⟨b, o, none⟩) h hb, fun b o hb => Below.frozen (p := ⟨b, o, none⟩) h hb⟩
theorem Tr.cell {w w1 : World} (h : Tr w w1) {a : Addr} {v : Value} (hc : w.cell? a = some v) : w1.cell? a = some v := by
 rw [Below.cell h (block_lt_of_cell hc)];exact hc
theorem Np {w w1 : World} (h : Tr w w1) {a : Addr} {v : Value} (hc : w.cell? a = some v) : ∀ d os, (grow (redrawn w1 d) os).cell? a = some v :=
 fun d os => cell_regrown (h.cell hc) d os
theorem Dt {P : Program} {f : FuncId} {args : Array Value} {w : World} {d : Nat} {os : Array Obj} {v : Value}
  (h : Calls P f args (grow (redrawn w d) os) fun e w' => e = .returned v /\ Tr (grow (redrawn w d) os) w') : Calls P f args (grow (redrawn w d) os) fun e w'' => e = .returned v /\ ∃ p : Regrown, w'' = grow (redrawn w p.d) p.os :=
 Calls.regrown_of h
theorem El {P : Program} {f : FuncId} {args : Array Value} {w : World} {d : Nat} {os : Array Obj} {v : Value}
  (h : Calls P f args (grow (redrawn w d) os) fun e w' => e = .returned v /\ grow (redrawn w d) os = w') : Calls P f args (grow (redrawn w d) os) fun e w'' => e = .returned v /\ ∃ p : Regrown, w'' = grow (redrawn w p.d) p.os :=
 Dt (h.mono fun _ _ ⟨he, hw⟩ => ⟨he, hw ▸ Tr.refl _⟩)
theorem W9 {P : Program} {f : FuncId} {args : Array Value} {w : World} {d : Nat} {os : Array Obj} {v : Value}
  (h : Calls P f args (grow (redrawn w d) os) fun e w' => e = .returned v /\ ∃ n, w' = (grow (redrawn w d) os).drewN n) : Calls P f args (grow (redrawn w d) os) fun e w'' => e = .returned v /\ ∃ p : Regrown, w'' = grow (redrawn w p.d) p.os :=
 Dt (h.mono fun _ _ ⟨he, n, hw⟩ => ⟨he, hw ▸ (Tr.refl _).drN n⟩)
def Keep (w : World) : List (Addr × Value) -> Prop
 | [] => True
 | p :: l => (w.cell? p.1 = some p.2 /\ w.frozen? p.1 = false /\ p.1.block < w.heap.size) /\ Keep w l
theorem Keep.tr {w w1 : World} : ∀ {l : List (Addr × Value)}, Keep w l -> Tr w w1 -> Keep w1 l
 | [], _, _ => trivial
 | p :: _, h, ht => ⟨⟨ht.cell h.1.1, by rw [Below.frozen ht (block_lt_of_cell h.1.1)];exact h.1.2.1, Nat.lt_of_lt_of_le h.1.2.2 (Below.size ht)⟩, Keep.tr h.2 ht⟩
def Il (w : World) : List (Addr × Value) -> Prop
 | [] => True
 | p :: l => (∀ d os, (grow (redrawn w d) os).cell? p.1 = some p.2) /\ Il w l
theorem Keep.cl {w w1 : World} : ∀ {l : List (Addr × Value)}, Keep w l -> Tr w w1 -> Il w1 l
 | [], _, _ => trivial
 | p :: _, h, ht => ⟨Np ht h.1.1, Keep.cl h.2 ht⟩
theorem Keep.block {w : World} {b : Nat} {c : Array Value} {t : TypeId} (h : w.heap[b]? = some (.cells c t)) : ∀ {l : List (Addr × Value)}, (∀ p ∈ l, p.1.block = b /\ p.1.spot = none /\ c[p.1.off]? = some p.2) -> Keep w l
 | [], _ => trivial
 | p :: l, hl => by
  obtain ⟨rfl, h2, h3⟩ := hl p (by simp)
  exact ⟨⟨by simp [World.cell?, h, h2, h3], by simp [World.frozen?, h], lt_of_block h⟩, Keep.block h fun q hq => hl q (by simp [hq])⟩
theorem Keep.at2 {w : World} {b : Nat} {u v : Value} {t : TypeId} (h : w.heap[b]? = some (.cells #[u, v] t)) : Keep w [(⟨b, 0, none⟩, u), (⟨b, 1, none⟩, v)] :=
 Keep.block h (by simp)
theorem A5 (w : World) (b o b' o' : Nat) (v : Value) (h : b ≠ b') : (w.setCell ⟨b, o, none⟩ v).cell? ⟨b', o', none⟩ = w.cell? ⟨b', o', none⟩ :=
 by rw [World.cell?_setCell_other];intro e;injection e with e1 e2;exact h (by assumption)
theorem A6 (w : World) (b o o' : Nat) (v : Value) (h : o ≠ o') : (w.setCell ⟨b, o, none⟩ v).cell? ⟨b, o', none⟩ = w.cell? ⟨b, o', none⟩ :=
 by rw [World.cell?_setCell_other];intro e;injection e with e1 e2;exact h (by assumption)
theorem A4 (w : World) (b o : Nat) (h : w.heap.size <= b) : w.frozen? ⟨b, o, none⟩ = false := by
 unfold World.frozen?
 rw [Array.getElem?_eq_none h]
theorem Cz {P : Program} {c : Code} {Q : Exit -> Act -> World -> Prop} {a : Act} {w0 W : World} (l : List (Addr × Value)) (hK : Keep W l) (hT : Tr w0 W)
  (h : ∀ w2, W.heap.size = w2.heap.size -> Keep w2 l -> Tr w0 w2 -> c.wp P Q a w2) : c.wp P Q a W := h W rfl hK hT
end Go.Proofs.YtbceahipbdmocaaGreat
namespace Go.Proofs.YtbceahipbdmocaaGreat
open Go.RowKit Go.Sort
theorem A9a (x y c : Int) (hx : 0 <= x) (hy : 0 <= y) (hc0 : 0 <= c) (hc : c <= 1) (w : World) : (callFunc 248 #[.int .u64 x, .int .u64 y, .int .u64 c]).run Tryz.prog w =
  .ok (.value (.tuple #[.int .u64 ((x + y + c) % 18446744073709551616), .int .u64 ((x + y + c) / 18446744073709551616)])) w := by
 obtain ⟨x, rfl⟩ := Int.eq_ofNat_of_zero_le hx
 obtain ⟨y, rfl⟩ := Int.eq_ofNat_of_zero_le hy
 obtain ⟨c, rfl⟩ := Int.eq_ofNat_of_zero_le hc0
 rw [run_callFunc_extern Tryz.func248 (by kernel_rfl) (by kernel_rfl) (by kernel_rfl) (e := add64Entry) (by kernel_rfl), run_add64 x y c (by omega) (by omega) (by omega) (by omega)]
 simp only [Result.andThen]
 try (congr 5 <;> omega)
theorem A9h (x y b : Int) (hx : 0 <= x) (hy : 0 <= y) (hy' : y < 18446744073709551616) (hb0 : 0 <= b) (hb : b <= 1) (w : World) : (callFunc 249 #[.int .u64 x, .int .u64 y, .int .u64 b]).run Tryz.prog w =
  .ok (.value (.tuple #[.int .u64 ((x - y - b) % 18446744073709551616), .int .u64 (if x < y + b then 1 else 0)])) w := by
 obtain ⟨x, rfl⟩ := Int.eq_ofNat_of_zero_le hx
 obtain ⟨y, rfl⟩ := Int.eq_ofNat_of_zero_le hy
 obtain ⟨b, rfl⟩ := Int.eq_ofNat_of_zero_le hb0
 have e1 : (((x + 18446744073709551616 - y - b) % 18446744073709551616 : Nat) : Int) = ((x : Int) - y - b) % 18446744073709551616 := by omega
 have e2 : ((if x < y + b then 1 else 0 : Nat) : Int) = if (x : Int) < y + b then 1 else 0 := by split <;> split <;> omega
 rw [<- e1, <- e2]
 rw [run_callFunc_extern Tryz.func249 (by kernel_rfl) (by kernel_rfl) (by kernel_rfl) (e := sub64Entry) (by kernel_rfl), run_sub64 x y b (by omega)]
 rfl
theorem Aas (x y : Int) (hx : 0 <= x) (hy : 0 <= y) (w : World) : (callFunc 248 #[.int .u64 x, .int .u64 y, .int .u64 0]).run Tryz.prog w =
  .ok (.value (.tuple #[.int .u64 ((x + y) % 18446744073709551616), .int .u64 ((x + y) / 18446744073709551616)])) w := by
 simpa using A9a x y 0 hx hy (Int.le_refl 0) (by decide) w
theorem Tu (x y : Int) (hx : 0 <= x) (hy : 0 <= y) (hy' : y < 18446744073709551616) (w : World) : (callFunc 249 #[.int .u64 x, .int .u64 y, .int .u64 0]).run Tryz.prog w =
  .ok (.value (.tuple #[.int .u64 ((x - y) % 18446744073709551616), .int .u64 (if x < y then 1 else 0)])) w := by
 simpa using A9h x y 0 hx hy hy' (Int.le_refl 0) (by decide) w

theorem Fz (a b : Int) (w : World) (ha : 0 <= a) (ha' : a < 18446744073709551616) (hb : 0 <= b) (hb' : b < 18446744073709551616) :
  Calls Tryz.prog 109 #[.int .u64 a, .int .u64 b] w fun e w' => e = .returned (.agg #[.int .u64 (a * b / 18446744073709551616), .int .u64 (a * b % 18446744073709551616)]) /\ Tr w w' := by
 obtain ⟨a, rfl⟩ := Int.eq_ofNat_of_zero_le ha
 obtain ⟨b, rfl⟩ := Int.eq_ofNat_of_zero_le hb
 go_enter Tryz.func109, Tryz.ntmps109
 go_wp2_with (go_at_call 186;refine (Tryz.bits_Mul64 a b (by omega) (by omega) _).mono ?_;rintro e w' ⟨rfl, rfl⟩)
 simp [bodyPost, results, Tryz.results109, go_sem]
 exact (Tr.refl _).al _

theorem Aax (p q : Int) (hp : 0 <= p) (hq : 0 <= q) : (p / 18446744073709551616 < q / 18446744073709551616 \/ p / 18446744073709551616 = q / 18446744073709551616 /\ p % 18446744073709551616 < q % 18446744073709551616) ↔ p < q := by omega
theorem Jp {a b : Bool} (h : a = b) : Ending.returned (.bool a) = .returned (.bool b) := by rw [h]
theorem A7h (ah al bh bl : Int) (w : World) :
  Calls Tryz.prog 110 #[.agg #[.int .u64 ah, .int .u64 al], .agg #[.int .u64 bh, .int .u64 bl]] w fun e w' =>
   e = .returned (.bool (decide (ah < bh \/ ah = bh /\ al < bl))) /\ Tr w w' := by
 by_cases g1 : ah < bh
 ·go_enter Tryz.func110, Tryz.ntmps110
  go_wp2
  go_ret
  exact ⟨Jp (by simp [g1]), ((Tr.refl _).al _).al _⟩
 ·by_cases g2 : ah = bh
  ·subst g2
   by_cases g3 : al < bl
   all_goals
    go_enter Tryz.func110, Tryz.ntmps110
    go_wp2
    go_ret
    exact ⟨Jp (by simp [g3]), ((Tr.refl _).al _).al _⟩
  ·have g4 : (ah == bh) = false := by simp [g2]
   go_enter Tryz.func110, Tryz.ntmps110
   go_wp2
   go_ret
   exact ⟨Jp (by simp;omega), ((Tr.refl _).al _).al _⟩
theorem M6 (p q : Int) (hp : 0 <= p) (hq : 0 <= q) (w : World) :
  Calls Tryz.prog 110 #[.agg #[.int .u64 (p / 18446744073709551616), .int .u64 (p % 18446744073709551616)], .agg #[.int .u64 (q / 18446744073709551616), .int .u64 (q % 18446744073709551616)]] w fun e w' =>
   e = .returned (.bool (decide (p < q))) /\ Tr w w' :=
 (A7h _ _ _ _ w).mono fun e w' ⟨he, ht⟩ => ⟨by rw [he];exact Jp (decide_eq_decide.2 (Aax p q hp hq)), ht⟩

theorem Xn (p q : Int) (hp : 0 <= p) (hq : 0 <= q) (h : p + q < 340282366920938463463374607431768211456) (w : World) :
  Calls Tryz.prog 183 #[.agg #[.int .u64 (p / 18446744073709551616), .int .u64 (p % 18446744073709551616)], .agg #[.int .u64 (q / 18446744073709551616), .int .u64 (q % 18446744073709551616)]] w fun e w' =>
   e = .returned (.agg #[.int .u64 ((p + q) / 18446744073709551616), .int .u64 ((p + q) % 18446744073709551616)]) /\ Tr w w' := by
 have b1 : 0 <= p % 18446744073709551616 := by omega
 have d1 : 0 <= q % 18446744073709551616 := by omega
 have b2 : p % 18446744073709551616 < 18446744073709551616 := by omega
 have d2 : q % 18446744073709551616 < 18446744073709551616 := by omega
 have a1 : 0 <= p / 18446744073709551616 := by omega
 have c1 : 0 <= q / 18446744073709551616 := by omega
 have E1 : (p / 18446744073709551616 + q / 18446744073709551616 + (p % 18446744073709551616 + q % 18446744073709551616) / 18446744073709551616) % 18446744073709551616 = (p + q) / 18446744073709551616 := by omega
 have E2 : (p % 18446744073709551616 + q % 18446744073709551616) % 18446744073709551616 = (p + q) % 18446744073709551616 := by omega
 have H1 := Lib.hid E1
 have H2 := Lib.hid E2
 clear E1 E2
 generalize p / 18446744073709551616 = ah at *
 generalize p % 18446744073709551616 = al at *
 generalize q / 18446744073709551616 = bh at *
 generalize q % 18446744073709551616 = bl at *
 have k0 : 0 <= (al + bl) / 18446744073709551616 := by omega
 have k1 : (al + bl) / 18446744073709551616 <= 1 := by omega
 go_enter Tryz.func183, Tryz.ntmps183
 go_wp2_with (first | simp only [Aas al bl b1 d1] | simp only [A9a ah bh _ a1 c1 k0 k1])
 simp [bodyPost, results, Tryz.results183, go_sem]
 exact ⟨⟨H1.out, H2.out⟩, (((Tr.refl _).al _).al _).al _⟩
theorem Vr (p q : Int) (hq : 0 <= q) (hpq : q <= p) (h : p < 340282366920938463463374607431768211456) (w : World) :
  Calls Tryz.prog 184 #[.agg #[.int .u64 (p / 18446744073709551616), .int .u64 (p % 18446744073709551616)], .agg #[.int .u64 (q / 18446744073709551616), .int .u64 (q % 18446744073709551616)]] w fun e w' =>
   e = .returned (.agg #[.int .u64 ((p - q) / 18446744073709551616), .int .u64 ((p - q) % 18446744073709551616)]) /\ Tr w w' := by
 have b1 : 0 <= p % 18446744073709551616 := by omega
 have d1 : 0 <= q % 18446744073709551616 := by omega
 have b2 : p % 18446744073709551616 < 18446744073709551616 := by omega
 have d2 : q % 18446744073709551616 < 18446744073709551616 := by omega
 have a1 : 0 <= p / 18446744073709551616 := by omega
 have c1 : 0 <= q / 18446744073709551616 := by omega
 have c2 : q / 18446744073709551616 < 18446744073709551616 := by omega
 by_cases hb : p % 18446744073709551616 < q % 18446744073709551616
 ·have E1 : (p / 18446744073709551616 - q / 18446744073709551616 - 1) % 18446744073709551616 = (p - q) / 18446744073709551616 := by omega
  have E2 : (p % 18446744073709551616 - q % 18446744073709551616) % 18446744073709551616 = (p - q) % 18446744073709551616 := by omega
  have H1 := Lib.hid E1
  have H2 := Lib.hid E2
  clear E1 E2
  generalize p / 18446744073709551616 = ah at *
  generalize p % 18446744073709551616 = al at *
  generalize q / 18446744073709551616 = bh at *
  generalize q % 18446744073709551616 = bl at *
  go_enter Tryz.func184, Tryz.ntmps184
  go_wp2_with (first | simp only [Tu al bl b1 d1 d2, hb, if_true] | simp only [A9h ah bh 1 a1 c1 c2 (by decide) (by decide)])
  all_goals simp [bodyPost, results, Tryz.results184, go_sem]
  all_goals exact ⟨⟨H1.out, H2.out⟩, (((Tr.refl _).al _).al _).al _⟩
 ·have E1 : (p / 18446744073709551616 - q / 18446744073709551616) % 18446744073709551616 = (p - q) / 18446744073709551616 := by omega
  have E2 : (p % 18446744073709551616 - q % 18446744073709551616) % 18446744073709551616 = (p - q) % 18446744073709551616 := by omega
  have H1 := Lib.hid E1
  have H2 := Lib.hid E2
  clear E1 E2
  generalize p / 18446744073709551616 = ah at *
  generalize p % 18446744073709551616 = al at *
  generalize q / 18446744073709551616 = bh at *
  generalize q % 18446744073709551616 = bl at *
  go_enter Tryz.func184, Tryz.ntmps184
  go_wp2_with (first | simp only [Tu al bl b1 d1 d2, hb, if_false] | simp only [Tu ah bh a1 c1 c2])
  all_goals simp [bodyPost, results, Tryz.results184, go_sem]
  all_goals exact ⟨⟨H1.out, H2.out⟩, (((Tr.refl _).al _).al _).al _⟩

theorem N8 (neg : Bool) (num den : Int) (w : World) (h : 1152921504606846976 < num \/ 1152921504606846976 < den) :
  Calls Tryz.prog 96 #[.bool neg, .int .u64 num, .int .u64 den] w fun e w' =>
   e = .returned (.tuple #[.agg #[.int .i64 0, .int .i64 0], .int .i64 5]) /\ Tr w w' := by
 by_cases h1 : 1152921504606846976 < num
 ·go_enter Tryz.func96, Tryz.ntmps96
  go_wp2
  simp [bodyPost, results, Tryz.results96, go_sem]
  exact (Tr.refl _).al _
 ·have h2 : 1152921504606846976 < den := by omega
  clear h
  go_enter Tryz.func96, Tryz.ntmps96
  go_wp2
  simp [bodyPost, results, Tryz.results96, go_sem]
  exact (Tr.refl _).al _
theorem Kw (neg : Bool) (num den : Int) (w : World) (h0 : 0 <= num) (h1 : num <= 1152921504606846976) (h2 : 0 <= den) (h3 : den <= 1152921504606846976) :
  Calls Tryz.prog 96 #[.bool neg, .int .u64 num, .int .u64 den] w fun e w' =>
   e = .returned (.tuple #[.agg #[.int .i64 (if neg then -num else num), .int .i64 den], .int .i64 0]) /\ Tr w w' := by
 have g1 : ¬ 1152921504606846976 < num := by omega
 have g2 : ¬ 1152921504606846976 < den := by omega
 cases neg
 all_goals
  go_enter Tryz.func96, Tryz.ntmps96
  go_wp2
  simp [bodyPost, results, Tryz.results96, go_sem]
  exact (Tr.refl _).al _
end Go.Proofs.YtbceahipbdmocaaGreat
namespace Go.Proofs.YtbceahipbdmocaaGreat
def Ad (n d : Int) : Bool := decide (1 <= d) && decide (d <= 1152921504606846976) && decide (-1152921504606846976 <= n) && decide (n <= 1152921504606846976) && (Int.gcd n d == 1)
theorem validB_spec {n d : Int} : Ad n d = true ↔ 1 <= d /\ d <= 1152921504606846976 /\ -1152921504606846976 <= n /\ n <= 1152921504606846976 /\ Int.gcd n d = 1 := by
 unfold Ad
 simp only [Bool.and_eq_true, decide_eq_true_eq, beq_iff_eq, and_assoc]
theorem Is {n d : Int} (h : ¬ (1 <= d /\ d <= 1152921504606846976 /\ -1152921504606846976 <= n /\ n <= 1152921504606846976 /\ Int.gcd n d = 1)) : Ad n d = false := by
 rw [Bool.eq_false_iff];intro hh;exact h (validB_spec.1 hh)
end Go.Proofs.YtbceahipbdmocaaGreat
namespace Go.Proofs.YtbceahipbdmocaaGreat
open Go.RowKit Go.Sort
theorem A03 (n d : Int) (w : World) (h1 : 1 <= d) (h2 : d <= 1152921504606846976) (h3 : -1152921504606846976 <= n) (h4 : n <= 1152921504606846976) :
  Calls Tryz.prog 52 #[.agg #[.int .i64 n, .int .i64 d]] w fun e w' => e = .returned (.bool ((Int.gcd n.natAbs d : Int) == 1)) /\ Tr w w' := by
 go_enter Tryz.func52, Tryz.ntmps52
 go_wp2
 go_quiet (first
  | (go_at_call 94;refine Calls.quiet_of_same ((Ge n (by omega) (by omega) _).mono fun _ _ ⟨a, b⟩ => ⟨a, b.symm⟩))
  | (go_at_call 95;refine Calls.quiet_of (Jc _ _ _ (by omega) (by omega) (by omega) (by omega))))
 go_wp2
 go_ret
 exact ⟨rfl, ((Tr.refl _).al _).drN _⟩
theorem A1w (n d : Int) (w : World) (h1 : ¬ 1 <= d) :
  Calls Tryz.prog 52 #[.agg #[.int .i64 n, .int .i64 d]] w fun e w' => e = .returned (.bool false) /\ Tr w w' := by
 have g1 : decide (1 <= d) = false := by simpa using h1
 clear h1
 go_enter Tryz.func52, Tryz.ntmps52
 go_wp2
 go_quiet (fail)
 go_wp2
 go_ret
 exact ⟨rfl, ((Tr.refl _).al _).drN _⟩
theorem A31 (n d : Int) (w : World) (h1 : 1 <= d) (h2 : ¬ d <= 1152921504606846976) :
  Calls Tryz.prog 52 #[.agg #[.int .i64 n, .int .i64 d]] w fun e w' => e = .returned (.bool false) /\ Tr w w' := by
 have g1 : decide (d <= 1152921504606846976) = false := by simpa using h2
 clear h2
 go_enter Tryz.func52, Tryz.ntmps52
 go_wp2
 go_quiet (fail)
 go_wp2
 go_ret
 exact ⟨rfl, ((Tr.refl _).al _).drN _⟩
theorem A20 (n d : Int) (w : World) (h1 : 1 <= d) (h2 : d <= 1152921504606846976) (h3 : ¬ -1152921504606846976 <= n) :
  Calls Tryz.prog 52 #[.agg #[.int .i64 n, .int .i64 d]] w fun e w' => e = .returned (.bool false) /\ Tr w w' := by
 have g1 : decide (-1152921504606846976 <= n) = false := by simpa using h3
 clear h3
 go_enter Tryz.func52, Tryz.ntmps52
 go_wp2
 go_quiet (fail)
 go_wp2
 go_ret
 exact ⟨rfl, ((Tr.refl _).al _).drN _⟩
theorem A2d (n d : Int) (w : World) (h1 : 1 <= d) (h2 : d <= 1152921504606846976) (h3 : -1152921504606846976 <= n) (h4 : ¬ n <= 1152921504606846976) :
  Calls Tryz.prog 52 #[.agg #[.int .i64 n, .int .i64 d]] w fun e w' => e = .returned (.bool false) /\ Tr w w' := by
 have g1 : decide (n <= 1152921504606846976) = false := by simpa using h4
 clear h4
 go_enter Tryz.func52, Tryz.ntmps52
 go_wp2
 go_quiet (fail)
 go_wp2
 go_ret
 exact ⟨rfl, ((Tr.refl _).al _).drN _⟩
theorem Au (n d : Int) (w : World) :
  Calls Tryz.prog 52 #[.agg #[.int .i64 n, .int .i64 d]] w fun e w' => e = .returned (.bool (Ad n d)) /\ Tr w w' := by
 by_cases h1 : 1 <= d
 ·by_cases h2 : d <= 1152921504606846976
  ·by_cases h3 : -1152921504606846976 <= n
   ·by_cases h4 : n <= 1152921504606846976
    ·refine (A03 n d w h1 h2 h3 h4).mono fun e w' ⟨he, ht⟩ => ⟨?_, ht⟩
     rw [he]
     refine Jp ?_
     rw [Bool.eq_iff_iff, validB_spec]
     have : Int.gcd (n.natAbs : Int) d = Int.gcd n d := by simp [Int.gcd]
     rw [this]
     simp [h1, h2, h3, h4]
     omega
    ·rw [Is (fun h => h4 h.2.2.2.1)];exact A2d n d w h1 h2 h3 h4
   ·rw [Is (fun h => h3 h.2.2.1)];exact A20 n d w h1 h2 h3
  ·rw [Is (fun h => h2 h.2.1)];exact A31 n d w h1 h2
 ·rw [Is (fun h => h1 h.1)];exact A1w n d w h1
theorem Zg (lo y : Int) (w : World) (h1 : 0 <= lo) (h2 : lo < 18446744073709551616) (h3 : 1 <= y) (h4 : y < 18446744073709551616) :
  Calls Tryz.prog 250 #[.int .u64 0, .int .u64 lo, .int .u64 y] w fun e w' => e = .returned (.tuple #[.int .u64 (lo / y), .int .u64 (lo % y)]) /\ Tr w w' := by
 have g1 : (y == 0) = false := by simp;omega
 have g2 : ¬ y <= 0 := by omega
 go_enter Tryz.func250, Tryz.ntmps250
 go_wp2
 go_quiet (fail)
 go_wp2
 go_ret2
 exact ⟨rfl, (Tr.refl _).drN _⟩

theorem F1 (u y1 y0 n q r Y Q : Int) (hY : Y = y1 * 4294967296 + y0) (hq : q * y1 + r = u) (hQ : Q * Y <= u * 4294967296 + n) (hQ' : Q < 4294967296) (hY0 : 0 < Y)
  (ht : 4294967296 <= q \/ 4294967296 * r + n < q * y0) : Q <= q - 1 := by
 rcases ht with h | h
 ·omega
 ·have : u * 4294967296 + n < q * Y := by rw [hY, <- hq, Int.mul_add, <- Int.mul_assoc, Int.add_mul];omega
  have h2 : Q * Y < q * Y := by omega
  have := Int.lt_of_mul_lt_mul_right h2 (by omega)
  omega
theorem Ka (u y1 y0 n q r Y Q : Int) (hY : Y = y1 * 4294967296 + y0) (hq : q * y1 + r = u) (hQ : u * 4294967296 + n < (Q + 1) * Y) (hY0 : 0 < Y)
  (ht : q * y0 <= 4294967296 * r + n) : q <= Q := by
 have : q * Y <= u * 4294967296 + n := by rw [hY, <- hq, Int.mul_add, <- Int.mul_assoc, Int.add_mul];omega
 have h2 : q * Y < (Q + 1) * Y := by omega
 have := Int.lt_of_mul_lt_mul_right h2 (by omega)
 omega
theorem E9 (q y0 : Int) (h0 : 0 <= q) (h1 : q < 4294967296) (h2 : 0 <= y0) (h3 : y0 < 4294967296) : 0 <= q * y0 /\ q * y0 <= 18446744065119617025 := by
 refine ⟨Int.mul_nonneg h0 h2, ?_⟩
 have := Int.mul_le_mul (show q <= 4294967295 by omega) (show y0 <= 4294967295 by omega) h2 (by omega)
 omega
theorem E5 (u y1 y0 n q r Y Q : Int) (hY : Y = y1 * 4294967296 + y0) (hq : q * y1 + r = u) (hu : u < Y) (hQ : u * 4294967296 + n < (Q + 1) * Y) (hY0 : 0 < Y) (h0 : 0 <= q) (hy0 : 0 <= y0) (hy0' : y0 < 4294967296) (hy1 : 0 < y1) (hn : 0 <= n)
  (hr : 4294967296 <= r) : q <= Q := by
 have h1 : q < 4294967296 := by
  have : q * y1 < 4294967296 * y1 := by omega
  exact Int.lt_of_mul_lt_mul_right this (by omega)
 have h2 := E9 q y0 h0 h1 hy0 hy0'
 exact Ka u y1 y0 n q r Y Q hY hq hQ hY0 (by omega)
theorem Gk (q y1 r u : Int) (h : q * y1 + r = u) : (q - 1) * y1 + (r + y1) = u := by rw [Int.sub_mul];omega

set_option maxRecDepth 100000 in
set_option maxHeartbeats 4000000 in
theorem A2j (hi lo y s Y y1 y0 u32 u10 u1 u0 q0 m0 Q1 R1 q2 m2 Q0 R0 : Int) (w : World) (h0 : 1 <= hi) (h0' : hi < y) (h1 : 0 <= lo) (h2 : lo < 18446744073709551616) (h4 : y < 18446744073709551616)
  (hs0 : 0 <= s) (hs1 : s <= 63) (hs : (64 - (Lib.bitLen y.toNat : Int)) = s) (hY : IntKind.u64.wrap (y * 2 ^ s.toNat) = Y) (hY1 : 9223372036854775808 <= Y) (hY2 : Y < 18446744073709551616)
  (hy1 : Y / 4294967296 = y1) (hy0 : bits .and .u64 Y 4294967295 = y0) (b1 : 2147483648 <= y1) (b2 : y1 < 4294967296) (b3 : 0 <= y0) (b4 : y0 < 4294967296)
  (hu : bits .or .u64 (IntKind.u64.wrap (hi * 2 ^ s.toNat)) (lo / 2 ^ (64 - s).toNat) = u32) (b5 : 0 <= u32) (b6 : u32 < Y)
  (hl : IntKind.u64.wrap (lo * 2 ^ s.toNat) = u10) (hl1 : u10 / 4294967296 = u1) (hl0 : bits .and .u64 u10 4294967295 = u0) (b7 : 0 <= u10) (b7' : u10 < 18446744073709551616)
  (b8 : 0 <= u1) (b9 : u1 < 4294967296) (b10 : 0 <= u0) (b11 : u0 < 4294967296)
  (hq : u32 / y1 = q0) (c1 : 0 <= q0) (c2 : q0 <= 4294967297) (hm : q0 * y1 = m0) (c3 : 0 <= m0) (c4 : m0 <= u32) (c5 : u32 - m0 < 4294967296)
  (k1 : Hid (Y = y1 * 4294967296 + y0)) (k2 : Hid (Q1 * Y <= u32 * 4294967296 + u1)) (k3 : Hid (u32 * 4294967296 + u1 < (Q1 + 1) * Y)) (c6 : 0 <= Q1) (c7 : Q1 < 4294967296) (c8 : Q1 <= q0)
  (hR : IntKind.u64.wrap (IntKind.u64.wrap (IntKind.u64.wrap (u32 * 4294967296) + u1) - IntKind.u64.wrap (Q1 * Y)) = R1) (d1 : 0 <= R1) (d2 : R1 < Y)
  (hq2 : R1 / y1 = q2) (e1 : 0 <= q2) (e2 : q2 <= 4294967297) (hm2 : q2 * y1 = m2) (e3 : 0 <= m2) (e4 : m2 <= R1) (e5 : R1 - m2 < 4294967296)
  (l2 : Hid (Q0 * Y <= R1 * 4294967296 + u0)) (l3 : Hid (R1 * 4294967296 + u0 < (Q0 + 1) * Y)) (e6 : 0 <= Q0) (e7 : Q0 < 4294967296) (e8 : Q0 <= q2)
  (hR0 : IntKind.u64.wrap (IntKind.u64.wrap (IntKind.u64.wrap (R1 * 4294967296) + u0) - IntKind.u64.wrap (Q0 * Y)) = R0) (f1 : 0 <= R0) (f2 : R0 < 18446744073709551616) :
  Calls Tryz.prog 250 #[.int .u64 hi, .int .u64 lo, .int .u64 y] w fun e w' => e = .returned (.tuple #[.int .u64 (Q1 * 4294967296 + Q0), .int .u64 (R0 / 2 ^ s.toNat)]) /\ Tr w w' := by
 have g1 : (y == 0) = false := by simp;omega
 have g2 : ¬ y <= hi := by omega
 have g3 : (hi == 0) = false := by simp;omega
 have g4 : ¬ y1 = 0 := by omega
 have HS := Lib.hid hs
 clear hs
 go_enter Tryz.func250, Tryz.ntmps250
 go_wp2_with (go_at_call 284;refine (Tryz.bits_LeadingZeros64 y _ (by omega) (by omega)).mono ?_;rintro e w' ⟨rfl, rfl⟩;rw [HS.out])
 go_loop [15, 16] (fun a b => ∃ q r : Int, a = .int .u64 q /\ b = .int .u64 r /\ Hid (q * y1 + r = u32) /\ 0 <= q /\ q <= 4294967297 /\ 0 <= r /\ r < 4294967296 /\ Q1 <= q) (fun a _ => (intOf a).toNat)
 case atStart => exact ⟨q0, u32 - m0, by rw [hq], by first | rfl|(rw [hq, hm]), (by rw [hm];show m0 + _ = _;omega), c1, c2, by omega, by omega, c8⟩
 case round =>
  obtain ⟨q, r, rfl, rfl, hqr, a1, a2, a3, a4, a5⟩ := hrel
  by_cases t1 : 4294967296 <= q
  ·have p1 : Q1 <= q - 1 := F1 u32 y1 y0 u1 q r Y Q1 k1.out hqr.out k2.out c7 (by omega) (.inl t1)
   have hst : Hid ((q - 1) * y1 + (r + y1) = u32) := Gk q y1 r u32 hqr.out
   by_cases t3 : 4294967296 <= r + y1
   ·have p2 : q - 1 <= Q1 := E5 u32 y1 y0 u1 (q - 1) (r + y1) Y Q1 k1.out hst.out b6 k3.out (by omega) (by omega) b3 b4 (by omega) b8 t3
    have p3 : q - 1 = Q1 := by omega
    clear p1 p2
    go_wp2
    go_loop [18, 16] (fun a b => ∃ q r : Int, a = .int .u64 q /\ b = .int .u64 r /\ Hid (q * y1 + r = R1) /\ 0 <= q /\ q <= 4294967297 /\ 0 <= r /\ r < 4294967296 /\ Q0 <= q) (fun a _ => (intOf a).toNat)
    case atStart => exact ⟨q2, R1 - m2, by first | rfl|(rw [hq2]), by first | rfl|(rw [hq2, hm2]), (by rw [hm2];show m2 + _ = _;omega), e1, e2, by omega, by omega, e8⟩
    case round =>
     obtain ⟨q, r, rfl, rfl, hqr, a1, a2, a3, a4, a5⟩ := hrel
     by_cases t1 : 4294967296 <= q
     ·have p1 : Q0 <= q - 1 := F1 R1 y1 y0 u0 q r Y Q0 k1.out hqr.out l2.out e7 (by omega) (.inl t1)
      have hst : Hid ((q - 1) * y1 + (r + y1) = R1) := Gk q y1 r R1 hqr.out
      by_cases t3 : 4294967296 <= r + y1
      ·have p2 : q - 1 <= Q0 := E5 R1 y1 y0 u0 (q - 1) (r + y1) Y Q0 k1.out hst.out d2 l3.out (by omega) (by omega) b3 b4 (by omega) b10 t3
       have p3 : q - 1 = Q0 := by omega
       clear p1 p2
       go_wp2
       go_ret2
       exact ⟨rfl, Tr.refl _⟩
      ·go_wp2
       go_round
       case rel => exact ⟨q - 1, r + y1, rfl, rfl, hst, by omega, by omega, by omega, by omega, p1⟩
       case measure => simp [intOf];omega
     ·by_cases t2 : 4294967296 * r + u0 < q * y0
      ·have p1 : Q0 <= q - 1 := F1 R1 y1 y0 u0 q r Y Q0 k1.out hqr.out l2.out e7 (by omega) (.inr t2)
       have hst : Hid ((q - 1) * y1 + (r + y1) = R1) := Gk q y1 r R1 hqr.out
       obtain ⟨x1, x2⟩ := E9 q y0 a1 (by omega) b3 b4
       by_cases t3 : 4294967296 <= r + y1
       ·have p2 : q - 1 <= Q0 := E5 R1 y1 y0 u0 (q - 1) (r + y1) Y Q0 k1.out hst.out d2 l3.out (by omega) (by omega) b3 b4 (by omega) b10 t3
        have p3 : q - 1 = Q0 := by omega
        clear p1 p2
        go_wp2
        go_ret2
        exact ⟨rfl, Tr.refl _⟩
       ·go_wp2
        go_round
        case rel => exact ⟨q - 1, r + y1, rfl, rfl, hst, by omega, by omega, by omega, by omega, p1⟩
        case measure => simp [intOf];omega
      ·obtain ⟨x1, x2⟩ := E9 q y0 a1 (by omega) b3 b4
       have p2 : q <= Q0 := Ka R1 y1 y0 u0 q r Y Q0 k1.out hqr.out l3.out (by omega) (by omega)
       obtain rfl : Q0 = q := by omega
       clear p2
       go_wp2
       go_ret2
       exact ⟨rfl, Tr.refl _⟩
   ·go_wp2
    go_round
    case rel => exact ⟨q - 1, r + y1, rfl, rfl, hst, by omega, by omega, by omega, by omega, p1⟩
    case measure => simp [intOf];omega
  ·by_cases t2 : 4294967296 * r + u1 < q * y0
   ·have p1 : Q1 <= q - 1 := F1 u32 y1 y0 u1 q r Y Q1 k1.out hqr.out k2.out c7 (by omega) (.inr t2)
    have hst : Hid ((q - 1) * y1 + (r + y1) = u32) := Gk q y1 r u32 hqr.out
    obtain ⟨x1, x2⟩ := E9 q y0 a1 (by omega) b3 b4
    by_cases t3 : 4294967296 <= r + y1
    ·have p2 : q - 1 <= Q1 := E5 u32 y1 y0 u1 (q - 1) (r + y1) Y Q1 k1.out hst.out b6 k3.out (by omega) (by omega) b3 b4 (by omega) b8 t3
     have p3 : q - 1 = Q1 := by omega
     clear p1 p2
     go_wp2
     go_loop [18, 16] (fun a b => ∃ q r : Int, a = .int .u64 q /\ b = .int .u64 r /\ Hid (q * y1 + r = R1) /\ 0 <= q /\ q <= 4294967297 /\ 0 <= r /\ r < 4294967296 /\ Q0 <= q) (fun a _ => (intOf a).toNat)
     case atStart => exact ⟨q2, R1 - m2, by first | rfl|(rw [hq2]), by first | rfl|(rw [hq2, hm2]), (by rw [hm2];show m2 + _ = _;omega), e1, e2, by omega, by omega, e8⟩
     case round =>
      obtain ⟨q, r, rfl, rfl, hqr, a1, a2, a3, a4, a5⟩ := hrel
      by_cases t1 : 4294967296 <= q
      ·have p1 : Q0 <= q - 1 := F1 R1 y1 y0 u0 q r Y Q0 k1.out hqr.out l2.out e7 (by omega) (.inl t1)
       have hst : Hid ((q - 1) * y1 + (r + y1) = R1) := Gk q y1 r R1 hqr.out
       by_cases t3 : 4294967296 <= r + y1
       ·have p2 : q - 1 <= Q0 := E5 R1 y1 y0 u0 (q - 1) (r + y1) Y Q0 k1.out hst.out d2 l3.out (by omega) (by omega) b3 b4 (by omega) b10 t3
        have p3 : q - 1 = Q0 := by omega
        clear p1 p2
        go_wp2
        go_ret2
        exact ⟨rfl, Tr.refl _⟩
       ·go_wp2
        go_round
        case rel => exact ⟨q - 1, r + y1, rfl, rfl, hst, by omega, by omega, by omega, by omega, p1⟩
        case measure => simp [intOf];omega
      ·by_cases t2 : 4294967296 * r + u0 < q * y0
       ·have p1 : Q0 <= q - 1 := F1 R1 y1 y0 u0 q r Y Q0 k1.out hqr.out l2.out e7 (by omega) (.inr t2)
        have hst : Hid ((q - 1) * y1 + (r + y1) = R1) := Gk q y1 r R1 hqr.out
        obtain ⟨x1, x2⟩ := E9 q y0 a1 (by omega) b3 b4
        by_cases t3 : 4294967296 <= r + y1
        ·have p2 : q - 1 <= Q0 := E5 R1 y1 y0 u0 (q - 1) (r + y1) Y Q0 k1.out hst.out d2 l3.out (by omega) (by omega) b3 b4 (by omega) b10 t3
         have p3 : q - 1 = Q0 := by omega
         clear p1 p2
         go_wp2
         go_ret2
         exact ⟨rfl, Tr.refl _⟩
        ·go_wp2
         go_round
         case rel => exact ⟨q - 1, r + y1, rfl, rfl, hst, by omega, by omega, by omega, by omega, p1⟩
         case measure => simp [intOf];omega
       ·obtain ⟨x1, x2⟩ := E9 q y0 a1 (by omega) b3 b4
        have p2 : q <= Q0 := Ka R1 y1 y0 u0 q r Y Q0 k1.out hqr.out l3.out (by omega) (by omega)
        obtain rfl : Q0 = q := by omega
        clear p2
        go_wp2
        go_ret2
        exact ⟨rfl, Tr.refl _⟩
    ·go_wp2
     go_round
     case rel => exact ⟨q - 1, r + y1, rfl, rfl, hst, by omega, by omega, by omega, by omega, p1⟩
     case measure => simp [intOf];omega
   ·obtain ⟨x1, x2⟩ := E9 q y0 a1 (by omega) b3 b4
    have p2 : q <= Q1 := Ka u32 y1 y0 u1 q r Y Q1 k1.out hqr.out k3.out (by omega) (by omega)
    obtain rfl : Q1 = q := by omega
    clear p2
    go_wp2
    go_loop [18, 16] (fun a b => ∃ q r : Int, a = .int .u64 q /\ b = .int .u64 r /\ Hid (q * y1 + r = R1) /\ 0 <= q /\ q <= 4294967297 /\ 0 <= r /\ r < 4294967296 /\ Q0 <= q) (fun a _ => (intOf a).toNat)
    case atStart => exact ⟨q2, R1 - m2, by first | rfl|(rw [hq2]), by first | rfl|(rw [hq2, hm2]), (by rw [hm2];show m2 + _ = _;omega), e1, e2, by omega, by omega, e8⟩
    case round =>
     obtain ⟨q, r, rfl, rfl, hqr, a1, a2, a3, a4, a5⟩ := hrel
     by_cases t1 : 4294967296 <= q
     ·have p1 : Q0 <= q - 1 := F1 R1 y1 y0 u0 q r Y Q0 k1.out hqr.out l2.out e7 (by omega) (.inl t1)
      have hst : Hid ((q - 1) * y1 + (r + y1) = R1) := Gk q y1 r R1 hqr.out
      by_cases t3 : 4294967296 <= r + y1
      ·have p2 : q - 1 <= Q0 := E5 R1 y1 y0 u0 (q - 1) (r + y1) Y Q0 k1.out hst.out d2 l3.out (by omega) (by omega) b3 b4 (by omega) b10 t3
       have p3 : q - 1 = Q0 := by omega
       clear p1 p2
       go_wp2
       go_ret2
       exact ⟨rfl, Tr.refl _⟩
      ·go_wp2
       go_round
       case rel => exact ⟨q - 1, r + y1, rfl, rfl, hst, by omega, by omega, by omega, by omega, p1⟩
       case measure => simp [intOf];omega
     ·by_cases t2 : 4294967296 * r + u0 < q * y0
      ·have p1 : Q0 <= q - 1 := F1 R1 y1 y0 u0 q r Y Q0 k1.out hqr.out l2.out e7 (by omega) (.inr t2)
       have hst : Hid ((q - 1) * y1 + (r + y1) = R1) := Gk q y1 r R1 hqr.out
       obtain ⟨x1, x2⟩ := E9 q y0 a1 (by omega) b3 b4
       by_cases t3 : 4294967296 <= r + y1
       ·have p2 : q - 1 <= Q0 := E5 R1 y1 y0 u0 (q - 1) (r + y1) Y Q0 k1.out hst.out d2 l3.out (by omega) (by omega) b3 b4 (by omega) b10 t3
        have p3 : q - 1 = Q0 := by omega
        clear p1 p2
        go_wp2
        go_ret2
        exact ⟨rfl, Tr.refl _⟩
       ·go_wp2
        go_round
        case rel => exact ⟨q - 1, r + y1, rfl, rfl, hst, by omega, by omega, by omega, by omega, p1⟩
        case measure => simp [intOf];omega
      ·obtain ⟨x1, x2⟩ := E9 q y0 a1 (by omega) b3 b4
       have p2 : q <= Q0 := Ka R1 y1 y0 u0 q r Y Q0 k1.out hqr.out l3.out (by omega) (by omega)
       obtain rfl : Q0 = q := by omega
       clear p2
       go_wp2
       go_ret2
       exact ⟨rfl, Tr.refl _⟩
theorem A5k (a b Q : Int) (hb : 0 < b) (h : Q * b <= a) : Q <= a / b := (Int.le_ediv_iff_mul_le hb).2 h
theorem Oz (a b Q : Int) (hb : 0 < b) (h : a < Q * b) : a / b < Q := (Int.ediv_lt_iff_lt_mul hb).2 h
theorem Gu (a b : Int) (hb : 0 < b) : a = (a / b) * b + a % b /\ 0 <= a % b /\ a % b < b :=
 ⟨by have := Int.mul_ediv_add_emod a b;rw [Int.mul_comm] at this;omega, Int.emod_nonneg _ (by omega), Int.emod_lt_of_pos _ hb⟩
theorem J5 (U y q r : Int) (h : U = q * y + r) (h0 : 0 <= r) (h1 : r < y) : U / y = q /\ U % y = r := by
 constructor
 ·rw [h, Int.mul_comm, Int.mul_add_ediv_left _ _ (by omega), Int.ediv_eq_zero_of_lt h0 h1];omega
 ·rw [h, Int.add_comm, Int.mul_comm, Int.add_mul_emod_self_left];exact Int.emod_eq_of_lt h0 h1
theorem Qe (u y1 y0 n Y : Int) (hY : Y = y1 * 4294967296 + y0) (h1 : 2147483648 <= y1) (h3 : 0 <= y0) (h4 : y0 < 4294967296) (h5 : 0 <= u) (h6 : u < Y) (h7 : 0 <= n) (h8 : n < 4294967296) :
  0 <= u / y1 /\ u / y1 <= 4294967297 /\ 0 <= u / y1 * y1 /\ u / y1 * y1 <= u /\ u - u / y1 * y1 < y1 /\
  (u * 4294967296 + n) / Y * Y <= u * 4294967296 + n /\ u * 4294967296 + n < ((u * 4294967296 + n) / Y + 1) * Y /\ 0 <= (u * 4294967296 + n) / Y /\ (u * 4294967296 + n) / Y < 4294967296 /\ (u * 4294967296 + n) / Y <= u / y1 := by
 obtain ⟨e1, e2, e3⟩ := Gu u y1 (by omega)
 obtain ⟨f1, f2, f3⟩ := Gu (u * 4294967296 + n) Y (by omega)
 have q0 : 0 <= u / y1 := Int.ediv_nonneg h5 (by omega)
 have Q0 : 0 <= (u * 4294967296 + n) / Y := Int.ediv_nonneg (by omega) (by omega)
 refine ⟨q0, ?_, Int.mul_nonneg q0 (by omega), by omega, by omega, by omega, ?_, Q0, ?_, ?_⟩
 ·have : u / y1 < 4294967298 := Oz _ _ _ (by omega) (by omega)
  omega
 ·rw [Int.add_mul];omega
 ·exact Oz _ _ _ (by omega) (by omega)
 ·refine A5k _ _ _ (by omega) ?_
  have g : (u * 4294967296 + n) / Y * Y = (u * 4294967296 + n) / Y * y1 * 4294967296 + (u * 4294967296 + n) / Y * y0 := by
   conv => lhs;rw [hY]
   rw [Int.mul_add, Int.mul_assoc, <- hY]
  have g2 : 0 <= (u * 4294967296 + n) / Y * y0 := Int.mul_nonneg Q0 h3
  omega
theorem Kl (n : Int) (h₀ : 0 <= n) (h₁ : n < 2 ^ 64) : IntKind.u64.wrap n = n := by rw [Cp];omega
theorem Yd (u n Q Y R : Int) (h : u * 4294967296 + n = Q * Y + R) (h0 : 0 <= R) (h1 : R < 18446744073709551616) :
  IntKind.u64.wrap (IntKind.u64.wrap (IntKind.u64.wrap (u * 4294967296) + n) - IntKind.u64.wrap (Q * Y)) = R := by
 simp only [Cp]
 generalize Q * Y = z at *
 omega
theorem A6e (x : Int) (h0 : 0 <= x) (h1 : x < 18446744073709551616) : bits .and .u64 x 4294967295 = x % 4294967296 :=
 bits_mask .u64 64 (by decide) Kl 32 (by decide) x h0 (by simpa using h1)
set_option maxRecDepth 100000 in
theorem Vu (hi lo y : Int) (w : World) (h0 : 0 <= hi) (h0' : hi < y) (h1 : 0 <= lo) (h2 : lo < 18446744073709551616) (h4 : y < 18446744073709551616) :
  Calls Tryz.prog 250 #[.int .u64 hi, .int .u64 lo, .int .u64 y] w fun e w' => e = .returned (.tuple #[.int .u64 ((hi * 18446744073709551616 + lo) / y), .int .u64 ((hi * 18446744073709551616 + lo) % y)]) /\ Tr w w' := by
 by_cases hz : hi = 0
 ·subst hz
  rw [show (0 : Int) * 18446744073709551616 + lo = lo by omega]
  exact Zg lo y w h1 h2 (by omega) h4
 ·have hy0 : y.toNat ≠ 0 := by omega
  obtain ⟨B1, B2, B3⟩ := Lib.bitLenAux_bounds 64 y.toNat (by omega) hy0
  have B4 : Lib.bitLen y.toNat <= 64 := Lib.bitLen_le y.toNat 64 (by omega) (by omega)
  change 1 <= Lib.bitLen y.toNat at B1
  change 2 ^ (Lib.bitLen y.toNat - 1) <= y.toNat at B2
  change y.toNat < 2 ^ Lib.bitLen y.toNat at B3
  generalize hL : Lib.bitLen y.toNat = L at *
  obtain ⟨k, hk, hk'⟩ : ∃ k, L = 64 - k /\ k <= 63 := ⟨64 - L, by omega, by omega⟩
  have ht : (2 : Int) ^ k * 2 ^ L = 18446744073709551616 := by rw [<- Int.pow_add, show k + L = 64 by omega];decide
  have ht' : (2 : Int) ^ (L - 1) * 2 ^ k = 9223372036854775808 := by rw [<- Int.pow_add, show L - 1 + k = 63 by omega];decide
  have B2' : (2 : Int) ^ (L - 1) <= y := by
   have : ((2 ^ (L - 1) : Nat) : Int) <= y.toNat := by exact_mod_cast B2
   rw [Int.natCast_pow] at this
   have e : ((y.toNat : Nat) : Int) = y := by omega
   rw [e] at this;exact this
  have B3' : y < (2 : Int) ^ L := by
   have : (y.toNat : Int) < ((2 ^ L : Nat) : Int) := by exact_mod_cast B3
   rw [Int.natCast_pow] at this
   have e : ((y.toNat : Nat) : Int) = y := by omega
   rw [e] at this;exact this
  have tp : 0 < (2 : Int) ^ k := Int.pow_pos (by decide)
  have Tp : 0 < (2 : Int) ^ L := Int.pow_pos (by decide)
  have es : (k : Int).toNat = k := by omega
  have eL : (64 - (k : Int)).toNat = L := by omega
  have div := A2j hi lo y k (y * 2 ^ k)
  rw [es, eL] at div
  generalize (2 : Int) ^ (L - 1) = V at *
  have hTk : ∀ a : Int, 0 <= a -> a < 2 ^ k -> (a : Int) < 2 ^ k := fun _ _ h => h
  have hYlo : 9223372036854775808 <= y * 2 ^ k := by rw [<- ht'];exact Int.mul_le_mul_of_nonneg_right B2' (by omega)
  have hYhi : y * 2 ^ k < 18446744073709551616 := by rw [<- ht, Int.mul_comm (2 ^ k)];exact Int.mul_lt_mul_of_pos_right B3' tp
  obtain ⟨a1, a2, a3⟩ := Gu lo (2 ^ L) Tp
  have lt1 : lo / 2 ^ L < 2 ^ k := Oz _ _ _ Tp (by rw [ht];exact h2)
  have lt0 : 0 <= lo / 2 ^ L := Int.ediv_nonneg h1 (by omega)
  have hit : hi * 2 ^ k <= (y - 1) * 2 ^ k := Int.mul_le_mul_of_nonneg_right (by omega) (by omega)
  have hit' : (y - 1) * 2 ^ k = y * 2 ^ k - 2 ^ k := by rw [Int.sub_mul];omega
  have hit0 : 0 <= hi * 2 ^ k := Int.mul_nonneg h0 (by omega)
  have low0 : 0 <= lo % 2 ^ L * 2 ^ k := Int.mul_nonneg a2 (by omega)
  have low1 : lo % 2 ^ L * 2 ^ k < 18446744073709551616 := by rw [<- ht, Int.mul_comm (2 ^ k)];exact Int.mul_lt_mul_of_pos_right a3 tp
  have lowe : lo * 2 ^ k = lo / 2 ^ L * 18446744073709551616 + lo % 2 ^ L * 2 ^ k := by
   conv => lhs;rw [a1]
   rw [Int.add_mul, Int.mul_assoc, Int.mul_comm (2 ^ L), ht]
  have W1 : IntKind.u64.wrap (hi * 2 ^ k) = hi * 2 ^ k := Kl _ hit0 (by simpa using (by omega : hi * 2 ^ k < 18446744073709551616))
  have W2 : IntKind.u64.wrap (y * 2 ^ k) = y * 2 ^ k := Kl _ (by omega) (by simpa using hYhi)
  have W3 : IntKind.u64.wrap (lo * 2 ^ k) = lo % 2 ^ L * 2 ^ k := by rw [Cp, lowe];omega
  have W4 : bits .or .u64 (hi * 2 ^ k) (lo / 2 ^ L) = hi * 2 ^ k + lo / 2 ^ L :=
   bits_join .u64 64 (by decide) Kl k _ _ hit0 (by rw [Int.mul_emod_left]) (by simpa using (by omega : hi * 2 ^ k < 18446744073709551616)) lt0 lt1 (by simpa using (by omega : lo / 2 ^ L < 18446744073709551616))
  rw [W1, W2, W3, W4] at div
  have key : (hi * 18446744073709551616 + lo) * 2 ^ k = (hi * 2 ^ k + lo / 2 ^ L) * 18446744073709551616 + lo % 2 ^ L * 2 ^ k := by
   rw [Int.add_mul, lowe, Int.add_mul, Int.mul_assoc, Int.mul_comm 18446744073709551616, <- Int.mul_assoc];omega
  have ub : hi * 2 ^ k + lo / 2 ^ L < y * 2 ^ k := by omega
  have ub0 : 0 <= hi * 2 ^ k + lo / 2 ^ L := by omega
  clear W1 W2 W3 W4 lowe hit hit' a1 B2 B3
  generalize hi * 2 ^ k + lo / 2 ^ L = u32 at *
  generalize lo % 2 ^ L * 2 ^ k = u10 at *
  have hYd : y * 2 ^ k = (y * 2 ^ k) / 4294967296 * 4294967296 + (y * 2 ^ k) % 4294967296 := by omega
  obtain ⟨p1, p2, p3, p4, p5, p6, p7, p8, p9, p10⟩ := Qe u32 ((y * 2 ^ k) / 4294967296) ((y * 2 ^ k) % 4294967296) (u10 / 4294967296) (y * 2 ^ k) hYd (by omega) (by omega) (by omega) ub0 ub (by omega) (by omega)
  obtain ⟨r1, r2, r3⟩ := Gu (u32 * 4294967296 + u10 / 4294967296) (y * 2 ^ k) (by omega)
  obtain ⟨q1, q2, q3, q4, q5, q6, q7, q8, q9, q10⟩ := Qe ((u32 * 4294967296 + u10 / 4294967296) % (y * 2 ^ k)) ((y * 2 ^ k) / 4294967296) ((y * 2 ^ k) % 4294967296) (u10 % 4294967296) (y * 2 ^ k) hYd (by omega) (by omega) (by omega) r2 r3 (by omega) (by omega)
  obtain ⟨v1, v2, v3⟩ := Gu ((u32 * 4294967296 + u10 / 4294967296) % (y * 2 ^ k) * 4294967296 + u10 % 4294967296) (y * 2 ^ k) (by omega)
  have fin := div _ _ u32 u10 _ _ _ _ _ _ _ _ _ _ w (by omega) h0' h1 h2 h4 (by omega) (by omega) (by omega) rfl hYlo hYhi rfl (A6e _ (by omega) hYhi) (by omega) (by omega) (by omega) (by omega) rfl ub0 ub rfl rfl (A6e _ low0 low1) low0 low1 (by omega) (by omega) (by omega) (by omega)
   rfl p1 p2 rfl p3 p4 (by omega) hYd p6 p7 p8 p9 p10 (Yd _ _ _ _ _ r1 r2 (by omega)) r2 r3 rfl q1 q2 rfl q3 q4 (by omega) q6 q7 q8 q9 q10 (Yd _ _ _ _ _ v1 v2 (by omega)) v2 (by omega)
  refine fin.mono fun e w' ⟨he, htr⟩ => ⟨?_, htr⟩
  rw [he]
  clear fin div
  generalize (u32 * 4294967296 + u10 / 4294967296) / (y * 2 ^ k) = Q1 at *
  generalize (u32 * 4294967296 + u10 / 4294967296) % (y * 2 ^ k) = R1 at *
  generalize (R1 * 4294967296 + u10 % 4294967296) / (y * 2 ^ k) = Q0 at *
  generalize (R1 * 4294967296 + u10 % 4294967296) % (y * 2 ^ k) = R0 at *
  have e0 : R0 = (hi * 18446744073709551616 + lo - (Q1 * 4294967296 + Q0) * y) * 2 ^ k := by
   rw [Int.sub_mul, key, Int.mul_assoc, Int.add_mul, Int.mul_right_comm]
   omega
  have e1 : R0 / 2 ^ k = hi * 18446744073709551616 + lo - (Q1 * 4294967296 + Q0) * y := by rw [e0];exact Int.mul_ediv_cancel _ (by omega)
  have e2 : 0 <= hi * 18446744073709551616 + lo - (Q1 * 4294967296 + Q0) * y := by rw [<- e1];exact Int.ediv_nonneg v2 (by omega)
  have e3 : hi * 18446744073709551616 + lo - (Q1 * 4294967296 + Q0) * y < y := by
   refine Int.lt_of_mul_lt_mul_right (a := 2 ^ k) ?_ (by omega)
   rw [<- e0];exact v3
  obtain ⟨d1, d2⟩ := J5 (hi * 18446744073709551616 + lo) y (Q1 * 4294967296 + Q0) _ (by omega) e2 e3
  rw [d1, d2, e1]
theorem A3l (p b : Int) (hb : 1 <= b) (hp : 0 <= p) :
  p / 18446744073709551616 / b = p / b / 18446744073709551616 /\ (p / 18446744073709551616 % b * 18446744073709551616 + p % 18446744073709551616) / b = p / b % 18446744073709551616 /\ (p / 18446744073709551616 % b * 18446744073709551616 + p % 18446744073709551616) % b = p % b := by
 obtain ⟨e1, e2, e3⟩ := Gu (p / 18446744073709551616) b (by omega)
 obtain ⟨f1, f2, f3⟩ := Gu (p / 18446744073709551616 % b * 18446744073709551616 + p % 18446744073709551616) b (by omega)
 generalize p / 18446744073709551616 / b = H at *
 generalize p / 18446744073709551616 % b = R at *
 have hL0 : 0 <= (R * 18446744073709551616 + p % 18446744073709551616) / b := Int.ediv_nonneg (by omega) (by omega)
 have hL1 : (R * 18446744073709551616 + p % 18446744073709551616) / b < 18446744073709551616 := Oz _ _ _ (by omega) (by omega)
 generalize hL : (R * 18446744073709551616 + p % 18446744073709551616) / b = L at *
 generalize hS : (R * 18446744073709551616 + p % 18446744073709551616) % b = S at *
 have key : p = (H * 18446744073709551616 + L) * b + S := by
  rw [Int.add_mul, Int.mul_right_comm]
  generalize H * b = x at *
  generalize L * b = y at *
  omega
 obtain ⟨d1, d2⟩ := J5 p b (H * 18446744073709551616 + L) S key f2 f3
 rw [d1, d2]
 omega

theorem Xj (p b : Int) (w : World) (hp : 0 <= p) (hp' : p < 340282366920938463463374607431768211456) (hb : 1 <= b) (hb' : b < 18446744073709551616) :
  Calls Tryz.prog 185 #[.agg #[.int .u64 (p / 18446744073709551616), .int .u64 (p % 18446744073709551616)], .int .u64 b] w fun e w' =>
   e = .returned (.tuple #[.agg #[.int .u64 (p / b / 18446744073709551616), .int .u64 (p / b % 18446744073709551616)], .int .u64 (p % b)]) /\ Tr w w' := by
 obtain ⟨E1, E2, E3⟩ := A3l p b hb hp
 have H1 := Lib.hid E1
 have H2 := Lib.hid E2
 have H3 := Lib.hid E3
 clear E1 E2 E3
 have b1 : 0 <= p % 18446744073709551616 := by omega
 have b2 : p % 18446744073709551616 < 18446744073709551616 := by omega
 have a1 : 0 <= p / 18446744073709551616 := by omega
 have a2 : p / 18446744073709551616 < 18446744073709551616 := by omega
 generalize p / 18446744073709551616 = ph at *
 generalize p % 18446744073709551616 = pl at *
 have c1 : 0 <= ph % b := Int.emod_nonneg _ (by omega)
 have c2 : ph % b < b := Int.emod_lt_of_pos _ (by omega)
 have c3 : 0 <= ph / b := Int.ediv_nonneg a1 (by omega)
 have c4 : ph / b <= ph := Int.ediv_le_self _ a1
 go_enter Tryz.func185, Tryz.ntmps185
 go_wp2
 refine Hx 13 (by kernel_rfl) (by kernel_rfl) ?_
 intro w1 hw1
 have k0 := Np hw1 (a := ⟨w.heap.size, 0, none⟩) (v := .int .u64 ph) (by simp [go_sem])
 have k1 := Np hw1 (a := ⟨w.heap.size, 1, none⟩) (v := .int .u64 pl) (by simp [go_sem])
 simp only [List.take_succ_cons, List.take_zero, List.drop_succ_cons, List.drop_zero]
 repeat (go_big_quiet_step ((go_at_call 250;exact Dt (Vu _ _ _ _ c1 c2 b1 b2 hb'))))
 refine wpQuiet_nil ?_
 intro w' ht
 obtain ⟨hc, hf⟩ := ht.cells
 have hz := Below.size ht
 simp at hz
 go_wp2


 simp [bodyPost, results, Tryz.results185, go_sem, hc]
 exact ⟨⟨⟨H1.out, H2.out⟩, H3.out⟩, (((((Tr.refl _).al _).al _).trans ht).set (by simp) _).set (by simp) _⟩
theorem Dn (o : Oper) (hg : o.guard = none) (ho : o.op = .alloc 205) : MakesBlock Tryz.prog o #[.int .u64 0, .int .u64 0] 205 :=
 ⟨hg, fun a w => by unfold execOp;simp [ho, go_sem]⟩

theorem A44 (p b : Int) (w : World) (hp : 0 <= p) (hp' : p < 340282366920938463463374607431768211456) (hb : 1 <= b) (hb' : b < 18446744073709551616) (h0 : p / 18446744073709551616 = 0) :
  Calls Tryz.prog 185 #[.agg #[.int .u64 0, .int .u64 (p % 18446744073709551616)], .int .u64 b] w fun e w' =>
   e = .returned (.tuple #[.agg #[.int .u64 (p / b / 18446744073709551616), .int .u64 (p / b % 18446744073709551616)], .int .u64 (p % b)]) /\ Tr w w' := by
 have := Xj p b w hp hp' hb hb'
 rw [h0] at this;exact this
set_option maxRecDepth 100000 in
set_option maxHeartbeats 2000000 in
theorem A8u (an ad bn bd G bG aG X Y N R C NC bC D : Int) (neg : Bool) (w : World) (va : Ad an ad = true) (vb : Ad bn bd = true)
  (a1 : 1 <= ad) (a2 : ad <= 1152921504606846976) (a3 : -1152921504606846976 <= an) (a4 : an <= 1152921504606846976)
  (b1 : 1 <= bd) (b2 : bd <= 1152921504606846976) (b3 : -1152921504606846976 <= bn) (b4 : bn <= 1152921504606846976)
  (hG : (Int.gcd ad bd : Int) = G) (g1 : 1 <= G) (g2 : G <= 1152921504606846976) (hbG : bd / G = bG) (haG : ad / G = aG)
  (c1 : 1 <= bG) (c2 : bG <= 1152921504606846976) (c3 : 1 <= aG) (c4 : aG <= 1152921504606846976)
  (hX : (an.natAbs : Int) * bG = X) (hY : (bn.natAbs : Int) * aG = Y) (x1 : 0 <= X) (x2 : X <= 1329227995784915872903807060280344576) (y1 : 0 <= Y) (y2 : Y <= 1329227995784915872903807060280344576)
  (hpath : (decide (an < 0) = neg /\ decide (bn < 0) = neg /\ X + Y = N) \/ (decide (an < 0) = (!neg) /\ decide (bn < 0) = neg /\ decide (X < Y) = true /\ Y - X = N) \/ (decide (an < 0) = neg /\ decide (bn < 0) = (!neg) /\ decide (X < Y) = false /\ X - Y = N))
  (n1 : 1 <= N) (n2 : N <= 2658455991569831745807614120560689152) (hR : N % G = R) (r1 : 0 <= R) (r2 : R < G) (hC : (Int.gcd G R : Int) = C) (d1 : 1 <= C) (d2 : C <= 1152921504606846976)
  (hNC : N / C = NC) (n3 : 0 <= NC) (n4 : NC <= N) (hbC : bd / C = bC) (d3 : 1 <= bC) (d4 : bC <= 1152921504606846976) (hD : aG * bC = D) (d5 : 1 <= D) (d6 : D <= 1329227995784915872903807060280344576)
  (on od oe : Int) (hout : (0 < NC / 18446744073709551616 /\ Hid (on = 0 /\ od = 0 /\ oe = 5)) \/ (NC / 18446744073709551616 = 0 /\ 0 < D / 18446744073709551616 /\ Hid (on = 0 /\ od = 0 /\ oe = 5)) \/
   (NC / 18446744073709551616 = 0 /\ D / 18446744073709551616 = 0 /\ (1152921504606846976 < NC \/ 1152921504606846976 < D) /\ (NC % 18446744073709551616 = NC /\ D % 18446744073709551616 = D) /\ Hid (on = 0 /\ od = 0 /\ oe = 5)) \/
   (NC / 18446744073709551616 = 0 /\ D / 18446744073709551616 = 0 /\ NC <= 1152921504606846976 /\ D <= 1152921504606846976 /\ NC % 18446744073709551616 = NC /\ D % 18446744073709551616 = D /\ Hid (on = (if neg then -NC else NC) /\ od = D /\ oe = 0))) :
  Calls Tryz.prog 108 #[.agg #[.int .i64 an, .int .i64 ad], .agg #[.int .i64 bn, .int .i64 bd]] w fun e w' =>
   e = .returned (.tuple #[.agg #[.int .i64 on, .int .i64 od], .int .i64 oe]) /\ Tr w w' := by
 go_enter Tryz.func108, Tryz.ntmps108
 go_wp2_with (first
  | (go_at_call 52;(with_reducible refine (Au _ _ _).mono ?_);rintro e w1 ⟨rfl, ht1⟩;have T1 : Tr w w1 := Tr.trans (by repeat (first | exact Tr.refl _ | assumption | apply Tr.al | apply Tr.drN | apply Tr.dr|(refine Tr.set ?_ (by first | omega|(simp;done)|(simp;omega)) _))) ht1;have K1 := Keep.tr (l := [(⟨w.heap.size, 0, none⟩, .int .i64 an), (⟨w.heap.size, 1, none⟩, .int .i64 ad), (⟨w.heap.size + 1, 0, none⟩, .int .i64 bn), (⟨w.heap.size + 1, 1, none⟩, .int .i64 bd), (⟨w.heap.size + 1 + 1, 0, none⟩, .int .i64 0), (⟨w.heap.size + 1 + 1, 1, none⟩, .int .i64 0)]) (by first|(simp [Keep, go_sem, *];done)|(simp [Keep, go_sem, *];omega)|(simp (disch := first | omega|(simp;omega)|(simp;done)) [Keep, go_sem, A5, A6, RowKit.frozen?_alloc_cells, A4, *];done)|(simp (disch := first | omega|(simp;omega)|(simp;done)) [Keep, go_sem, A5, A6, RowKit.frozen?_alloc_cells, A4, *];omega)) ht1;have hz1 := Below.size ht1;(try simp at hz1);clear ht1;simp only [Keep] at K1)
  | (go_at_call 95;(with_reducible refine (Jc ad bd _ (by omega) (by omega) (by omega) (by omega)).mono ?_);rintro e w1 ⟨rfl, nn1, rfl⟩))
 refine Fl 18 #[.int .u64 0, .int .u64 0] 205 _ #[.int .u64 0, .int .u64 0] 205 _ (by kernel_rfl) (by kernel_rfl) rfl (Dn _ rfl rfl) rfl (Dn _ rfl rfl) (by decide) ?_
 intro w1 hw1
 have k1 := Keep.cl (l := [(⟨w.heap.size, 0, none⟩, .int .i64 an), (⟨w.heap.size, 1, none⟩, .int .i64 ad), (⟨w.heap.size + 1, 0, none⟩, .int .i64 bn), (⟨w.heap.size + 1, 1, none⟩, .int .i64 bd), (⟨w.heap.size + 1 + 1, 0, none⟩, .int .i64 0), (⟨w.heap.size + 1 + 1, 1, none⟩, .int .i64 0)]) (by simp [Keep, go_sem, *]) hw1
 simp only [Il] at k1
 simp only [List.take_succ_cons, List.take_zero, List.drop_succ_cons, List.drop_zero]
 repeat (go_big_quiet_step (first
  | (go_at_call 94;exact El (Ge _ (by omega) (by omega) _))
  | (go_at_call 109;exact Dt (Fz _ _ _ (by omega) (by omega) (by omega) (by omega)))))
 refine wpQuiet_nil ?_
 intro b b' w' hb hb' hne ht hz hz'
 have Kb := Keep.at2 hz
 have Kb' := Keep.at2 hz'
 have K0 := Keep.tr (l := [(⟨w.heap.size, 0, none⟩, .int .i64 an), (⟨w.heap.size, 1, none⟩, .int .i64 ad), (⟨w.heap.size + 1, 0, none⟩, .int .i64 bn), (⟨w.heap.size + 1, 1, none⟩, .int .i64 bd), (⟨w.heap.size + 1 + 1, 0, none⟩, .int .i64 0), (⟨w.heap.size + 1 + 1, 1, none⟩, .int .i64 0)]) (by first|(simp [Keep, go_sem, *];done)|(simp [Keep, go_sem, *];omega)|(simp (disch := first | omega|(simp;omega)|(simp;done)) [Keep, go_sem, A5, A6, RowKit.frozen?_alloc_cells, A4, *];done)|(simp (disch := first | omega|(simp;omega)|(simp;done)) [Keep, go_sem, A5, A6, RowKit.frozen?_alloc_cells, A4, *];omega)) ht
 have T0 : Tr w w' := Tr.trans (by repeat (first | exact Tr.refl _ | assumption | apply Tr.al | apply Tr.drN | apply Tr.dr|(refine Tr.set ?_ (by first | omega|(simp;done)|(simp;omega)) _))) ht
 have hs0 := Below.size ht
 have hbl := lt_of_block hz
 have hbl' := lt_of_block hz'
 simp at hb hb' hs0
 simp only [Keep] at Kb Kb' K0
 clear ht hz hz' hw1 k1
 simp only [Act.put, List.setIfInBounds_toArray, List.set_cons_succ, List.set_cons_zero]
 go_upto_region 5 with (fail)
 refine Cz (w0 := w) [(⟨w.heap.size, 0, none⟩, .int .i64 an), (⟨w.heap.size, 1, none⟩, .int .i64 ad), (⟨w.heap.size + 1, 0, none⟩, .int .i64 bn), (⟨w.heap.size + 1, 1, none⟩, .int .i64 bd), (⟨w.heap.size + 1 + 1, 0, none⟩, .int .i64 0), (⟨w.heap.size + 1 + 1, 1, none⟩, .int .i64 0), (⟨b, 0, none⟩, .int .u64 (X / 18446744073709551616)), (⟨b, 1, none⟩, .int .u64 (X % 18446744073709551616)), (⟨b', 0, none⟩, .int .u64 (Y / 18446744073709551616)), (⟨b', 1, none⟩, .int .u64 (Y % 18446744073709551616))] (by first|(simp [Keep, go_sem, *];done)|(simp [Keep, go_sem, *];omega)|(simp (disch := first | omega|(simp;omega)|(simp;done)) [Keep, go_sem, A5, A6, RowKit.frozen?_alloc_cells, A4, *];done)|(simp (disch := first | omega|(simp;omega)|(simp;done)) [Keep, go_sem, A5, A6, RowKit.frozen?_alloc_cells, A4, *];omega)) (by repeat (first | exact Tr.refl _ | assumption | apply Tr.al | apply Tr.drN | apply Tr.dr|(refine Tr.set ?_ (by first | omega|(simp;done)|(simp;omega)) _))) ?_;intro w2 hs2 K2 T2;(try simp at hs2);simp only [Keep] at K2
 clear Kb Kb' K0 T0
 clear K1 T1
 go_upto_block 0 with (fail)
 go_cut [9] (fun s9 wx => s9 = .bool neg /\ Keep wx [(⟨w.heap.size, 0, none⟩, .int .i64 (an)), (⟨w.heap.size, 1, none⟩, .int .i64 (ad)), (⟨w.heap.size + 1, 0, none⟩, .int .i64 (bn)), (⟨w.heap.size + 1, 1, none⟩, .int .i64 (bd)), (⟨w.heap.size + 1 + 1, 0, none⟩, .int .i64 (0)), (⟨w.heap.size + 1 + 1, 1, none⟩, .int .i64 (0)), (⟨w2.heap.size, 0, none⟩, .int .u64 (N / 18446744073709551616)), (⟨w2.heap.size, 1, none⟩, .int .u64 (N % 18446744073709551616))] /\ Tr w wx)
 case first =>
  rcases hpath with ⟨s1, s2, hN⟩ | ⟨s1, s2, s3, hN⟩ | ⟨s1, s2, s3, hN⟩ <;> cases neg <;> (try simp only [Bool.not_true, Bool.not_false] at s1 s2)
  all_goals
   go_wp2_with (first
    | (go_at_call 183;(with_reducible refine (Xn X Y x1 y1 (by omega) _).mono ?_);rintro e w1 ⟨rfl, ht1⟩;have T1 : Tr w w1 := Tr.trans (by repeat (first | exact Tr.refl _ | assumption | apply Tr.al | apply Tr.drN | apply Tr.dr|(refine Tr.set ?_ (by first | omega|(simp;done)|(simp;omega)) _))) ht1;have K1 := Keep.tr (l := [(⟨w.heap.size, 0, none⟩, .int .i64 (an)), (⟨w.heap.size, 1, none⟩, .int .i64 (ad)), (⟨w.heap.size + 1, 0, none⟩, .int .i64 (bn)), (⟨w.heap.size + 1, 1, none⟩, .int .i64 (bd)), (⟨w.heap.size + 1 + 1, 0, none⟩, .int .i64 (0)), (⟨w.heap.size + 1 + 1, 1, none⟩, .int .i64 (0)), (⟨b, 0, none⟩, .int .u64 (X / 18446744073709551616)), (⟨b, 1, none⟩, .int .u64 (X % 18446744073709551616)), (⟨b', 0, none⟩, .int .u64 (Y / 18446744073709551616)), (⟨b', 1, none⟩, .int .u64 (Y % 18446744073709551616)), (⟨w2.heap.size, 0, none⟩, .int .u64 (0)), (⟨w2.heap.size, 1, none⟩, .int .u64 (0))]) (by first|(simp [Keep, go_sem, *];done)|(simp [Keep, go_sem, *];omega)|(simp (disch := first | omega|(simp;omega)|(simp;done)) [Keep, go_sem, A5, A6, RowKit.frozen?_alloc_cells, A4, *];done)|(simp (disch := first | omega|(simp;omega)|(simp;done)) [Keep, go_sem, A5, A6, RowKit.frozen?_alloc_cells, A4, *];omega)) ht1;have hz1 := Below.size ht1;(try simp at hz1);clear ht1;simp only [Keep] at K1)
    | (go_at_call 110;(with_reducible refine (M6 X Y x1 y1 _).mono ?_);rintro e w1 ⟨rfl, ht1⟩;have T1 : Tr w w1 := Tr.trans (by repeat (first | exact Tr.refl _ | assumption | apply Tr.al | apply Tr.drN | apply Tr.dr|(refine Tr.set ?_ (by first | omega|(simp;done)|(simp;omega)) _))) ht1;have K1 := Keep.tr (l := [(⟨w.heap.size, 0, none⟩, .int .i64 (an)), (⟨w.heap.size, 1, none⟩, .int .i64 (ad)), (⟨w.heap.size + 1, 0, none⟩, .int .i64 (bn)), (⟨w.heap.size + 1, 1, none⟩, .int .i64 (bd)), (⟨w.heap.size + 1 + 1, 0, none⟩, .int .i64 (0)), (⟨w.heap.size + 1 + 1, 1, none⟩, .int .i64 (0)), (⟨b, 0, none⟩, .int .u64 (X / 18446744073709551616)), (⟨b, 1, none⟩, .int .u64 (X % 18446744073709551616)), (⟨b', 0, none⟩, .int .u64 (Y / 18446744073709551616)), (⟨b', 1, none⟩, .int .u64 (Y % 18446744073709551616)), (⟨w2.heap.size, 0, none⟩, .int .u64 (0)), (⟨w2.heap.size, 1, none⟩, .int .u64 (0))]) (by first|(simp [Keep, go_sem, *];done)|(simp [Keep, go_sem, *];omega)|(simp (disch := first | omega|(simp;omega)|(simp;done)) [Keep, go_sem, A5, A6, RowKit.frozen?_alloc_cells, A4, *];done)|(simp (disch := first | omega|(simp;omega)|(simp;done)) [Keep, go_sem, A5, A6, RowKit.frozen?_alloc_cells, A4, *];omega)) ht1;have hz1 := Below.size ht1;(try simp at hz1);clear ht1;simp only [Keep] at K1)
    | (go_at_call 184;(with_reducible refine (Vr _ _ (by omega) (by first | omega|(have := of_decide_eq_true s3;omega)|(have := of_decide_eq_false s3;omega)) (by omega) _).mono ?_);rintro e w1 ⟨rfl, ht1⟩;have T1 : Tr w w1 := Tr.trans (by repeat (first | exact Tr.refl _ | assumption | apply Tr.al | apply Tr.drN | apply Tr.dr|(refine Tr.set ?_ (by first | omega|(simp;done)|(simp;omega)) _))) ht1;have K1 := Keep.tr (l := [(⟨w.heap.size, 0, none⟩, .int .i64 (an)), (⟨w.heap.size, 1, none⟩, .int .i64 (ad)), (⟨w.heap.size + 1, 0, none⟩, .int .i64 (bn)), (⟨w.heap.size + 1, 1, none⟩, .int .i64 (bd)), (⟨w.heap.size + 1 + 1, 0, none⟩, .int .i64 (0)), (⟨w.heap.size + 1 + 1, 1, none⟩, .int .i64 (0)), (⟨b, 0, none⟩, .int .u64 (X / 18446744073709551616)), (⟨b, 1, none⟩, .int .u64 (X % 18446744073709551616)), (⟨b', 0, none⟩, .int .u64 (Y / 18446744073709551616)), (⟨b', 1, none⟩, .int .u64 (Y % 18446744073709551616)), (⟨w2.heap.size, 0, none⟩, .int .u64 (0)), (⟨w2.heap.size, 1, none⟩, .int .u64 (0))]) (by first|(simp [Keep, go_sem, *];done)|(simp [Keep, go_sem, *];omega)|(simp (disch := first | omega|(simp;omega)|(simp;done)) [Keep, go_sem, A5, A6, RowKit.frozen?_alloc_cells, A4, *];done)|(simp (disch := first | omega|(simp;omega)|(simp;done)) [Keep, go_sem, A5, A6, RowKit.frozen?_alloc_cells, A4, *];omega)) ht1;have hz1 := Below.size ht1;(try simp at hz1);clear ht1;simp only [Keep] at K1))
   go_meet
   exact ⟨rfl, (by first|(simp [Keep, go_sem, *];done)|(simp [Keep, go_sem, *];omega)|(simp (disch := first | omega|(simp;omega)|(simp;done)) [Keep, go_sem, A5, A6, RowKit.frozen?_alloc_cells, A4, *];done)|(simp (disch := first | omega|(simp;omega)|(simp;done)) [Keep, go_sem, A5, A6, RowKit.frozen?_alloc_cells, A4, *];omega)), (by repeat (first | exact Tr.refl _ | assumption | apply Tr.al | apply Tr.drN | apply Tr.dr|(refine Tr.set ?_ (by first | omega|(simp;done)|(simp;omega)) _)))⟩
 case rest =>
  obtain ⟨rfl, K3, T3⟩ := hcut
  simp only [Keep] at K3
  clear K2 T2 hpath
  go_upto_region 16 with (first
   | (go_at_call 185;(with_reducible refine (A44 N _ _ (by omega) (by omega) (by omega) (by omega) (by assumption)).mono ?_);rintro e w1 ⟨rfl, ht1⟩;have T1 : Tr w w1 := Tr.trans (by repeat (first | exact Tr.refl _ | assumption | apply Tr.al | apply Tr.drN | apply Tr.dr|(refine Tr.set ?_ (by first | omega|(simp;done)|(simp;omega)) _))) ht1;have K1 := Keep.tr (l := [(⟨w.heap.size, 0, none⟩, .int .i64 (an)), (⟨w.heap.size, 1, none⟩, .int .i64 (ad)), (⟨w.heap.size + 1, 0, none⟩, .int .i64 (bn)), (⟨w.heap.size + 1, 1, none⟩, .int .i64 (bd)), (⟨w.heap.size + 1 + 1, 0, none⟩, .int .i64 (0)), (⟨w.heap.size + 1 + 1, 1, none⟩, .int .i64 (0)), (⟨w2.heap.size, 0, none⟩, .int .u64 (N / 18446744073709551616)), (⟨w2.heap.size, 1, none⟩, .int .u64 (N % 18446744073709551616))]) (by first|(simp [Keep, go_sem, *];done)|(simp [Keep, go_sem, *];omega)|(simp (disch := first | omega|(simp;omega)|(simp;done)) [Keep, go_sem, A5, A6, RowKit.frozen?_alloc_cells, A4, *];done)|(simp (disch := first | omega|(simp;omega)|(simp;done)) [Keep, go_sem, A5, A6, RowKit.frozen?_alloc_cells, A4, *];omega)) ht1;have hz1 := Below.size ht1;(try simp at hz1);clear ht1;simp only [Keep] at K1)
   | (go_at_call 185;(with_reducible refine (Xj N _ _ (by omega) (by omega) (by omega) (by omega)).mono ?_);rintro e w1 ⟨rfl, ht1⟩;have T1 : Tr w w1 := Tr.trans (by repeat (first | exact Tr.refl _ | assumption | apply Tr.al | apply Tr.drN | apply Tr.dr|(refine Tr.set ?_ (by first | omega|(simp;done)|(simp;omega)) _))) ht1;have K1 := Keep.tr (l := [(⟨w.heap.size, 0, none⟩, .int .i64 (an)), (⟨w.heap.size, 1, none⟩, .int .i64 (ad)), (⟨w.heap.size + 1, 0, none⟩, .int .i64 (bn)), (⟨w.heap.size + 1, 1, none⟩, .int .i64 (bd)), (⟨w.heap.size + 1 + 1, 0, none⟩, .int .i64 (0)), (⟨w.heap.size + 1 + 1, 1, none⟩, .int .i64 (0)), (⟨w2.heap.size, 0, none⟩, .int .u64 (N / 18446744073709551616)), (⟨w2.heap.size, 1, none⟩, .int .u64 (N % 18446744073709551616))]) (by first|(simp [Keep, go_sem, *];done)|(simp [Keep, go_sem, *];omega)|(simp (disch := first | omega|(simp;omega)|(simp;done)) [Keep, go_sem, A5, A6, RowKit.frozen?_alloc_cells, A4, *];done)|(simp (disch := first | omega|(simp;omega)|(simp;done)) [Keep, go_sem, A5, A6, RowKit.frozen?_alloc_cells, A4, *];omega)) ht1;have hz1 := Below.size ht1;(try simp at hz1);clear ht1;simp only [Keep] at K1)
   | (go_at_call 95;(with_reducible refine (Jc G R _ (by omega) (by omega) (by omega) (by omega)).mono ?_);rintro e w1 ⟨rfl, nn1, rfl⟩))
  all_goals
   refine Cz (w0 := w) [(⟨w.heap.size, 0, none⟩, .int .i64 (an)), (⟨w.heap.size, 1, none⟩, .int .i64 (ad)), (⟨w.heap.size + 1, 0, none⟩, .int .i64 (bn)), (⟨w.heap.size + 1, 1, none⟩, .int .i64 (bd)), (⟨w.heap.size + 1 + 1, 0, none⟩, .int .i64 (0)), (⟨w.heap.size + 1 + 1, 1, none⟩, .int .i64 (0)), (⟨w2.heap.size, 0, none⟩, .int .u64 (NC / 18446744073709551616)), (⟨w2.heap.size, 1, none⟩, .int .u64 (NC % 18446744073709551616))] (by first|(simp [Keep, go_sem, *];done)|(simp [Keep, go_sem, *];omega)|(simp (disch := first | omega|(simp;omega)|(simp;done)) [Keep, go_sem, A5, A6, RowKit.frozen?_alloc_cells, A4, *];done)|(simp (disch := first | omega|(simp;omega)|(simp;done)) [Keep, go_sem, A5, A6, RowKit.frozen?_alloc_cells, A4, *];omega)) (by repeat (first | exact Tr.refl _ | assumption | apply Tr.al | apply Tr.drN | apply Tr.dr|(refine Tr.set ?_ (by first | omega|(simp;done)|(simp;omega)) _))) ?_;intro w5 hs5 K5 T5;(try simp at hs5);simp only [Keep] at K5
   clear K3 T3
   refine Ue 11 #[.int .u64 0, .int .u64 0] 205 _ (by kernel_rfl) (by kernel_rfl) rfl (Dn _ rfl rfl) ?_
   intro w6 hw6
   have k6 := Keep.cl (l := [(⟨w.heap.size, 0, none⟩, .int .i64 (an)), (⟨w.heap.size, 1, none⟩, .int .i64 (ad)), (⟨w.heap.size + 1, 0, none⟩, .int .i64 (bn)), (⟨w.heap.size + 1, 1, none⟩, .int .i64 (bd)), (⟨w.heap.size + 1 + 1, 0, none⟩, .int .i64 (0)), (⟨w.heap.size + 1 + 1, 1, none⟩, .int .i64 (0)), (⟨w2.heap.size, 0, none⟩, .int .u64 (NC / 18446744073709551616)), (⟨w2.heap.size, 1, none⟩, .int .u64 (NC % 18446744073709551616))]) (by first|(simp [Keep, go_sem, *];done)|(simp [Keep, go_sem, *];omega)|(simp (disch := first | omega|(simp;omega)|(simp;done)) [Keep, go_sem, A5, A6, RowKit.frozen?_alloc_cells, A4, *];done)|(simp (disch := first | omega|(simp;omega)|(simp;done)) [Keep, go_sem, A5, A6, RowKit.frozen?_alloc_cells, A4, *];omega)) hw6
   simp only [Il] at k6
   simp only [List.take_succ_cons, List.take_zero, List.drop_succ_cons, List.drop_zero]
   repeat (go_big_quiet_step ((go_at_call 109;exact Dt (Fz _ _ _ (by omega) (by omega) (by omega) (by omega)))))
   refine wpQuiet_nil ?_
   intro bb w7 hb7 ht7 hz7
   have Kb := Keep.at2 hz7
   have K7 := Keep.tr (l := [(⟨w.heap.size, 0, none⟩, .int .i64 (an)), (⟨w.heap.size, 1, none⟩, .int .i64 (ad)), (⟨w.heap.size + 1, 0, none⟩, .int .i64 (bn)), (⟨w.heap.size + 1, 1, none⟩, .int .i64 (bd)), (⟨w.heap.size + 1 + 1, 0, none⟩, .int .i64 (0)), (⟨w.heap.size + 1 + 1, 1, none⟩, .int .i64 (0)), (⟨w2.heap.size, 0, none⟩, .int .u64 (NC / 18446744073709551616)), (⟨w2.heap.size, 1, none⟩, .int .u64 (NC % 18446744073709551616))]) (by first|(simp [Keep, go_sem, *];done)|(simp [Keep, go_sem, *];omega)|(simp (disch := first | omega|(simp;omega)|(simp;done)) [Keep, go_sem, A5, A6, RowKit.frozen?_alloc_cells, A4, *];done)|(simp (disch := first | omega|(simp;omega)|(simp;done)) [Keep, go_sem, A5, A6, RowKit.frozen?_alloc_cells, A4, *];omega)) ht7
   have T7 : Tr w w7 := Tr.trans (by repeat (first | exact Tr.refl _ | assumption | apply Tr.al | apply Tr.drN | apply Tr.dr|(refine Tr.set ?_ (by first | omega|(simp;done)|(simp;omega)) _))) ht7
   have hs7 := Below.size ht7
   have hbl7 := lt_of_block hz7
   simp only [Keep] at Kb K7
   clear ht7 hz7 hw6 k6
   simp only [Act.put, List.setIfInBounds_toArray, List.set_cons_succ, List.set_cons_zero]
   go_upto_region 17 with (fail)
   refine Cz (w0 := w) [(⟨w.heap.size, 0, none⟩, .int .i64 (an)), (⟨w.heap.size, 1, none⟩, .int .i64 (ad)), (⟨w.heap.size + 1, 0, none⟩, .int .i64 (bn)), (⟨w.heap.size + 1, 1, none⟩, .int .i64 (bd)), (⟨w.heap.size + 1 + 1, 0, none⟩, .int .i64 (0)), (⟨w.heap.size + 1 + 1, 1, none⟩, .int .i64 (0)), (⟨w2.heap.size, 0, none⟩, .int .u64 (NC / 18446744073709551616)), (⟨w2.heap.size, 1, none⟩, .int .u64 (NC % 18446744073709551616)), (⟨bb, 0, none⟩, .int .u64 (D / 18446744073709551616)), (⟨bb, 1, none⟩, .int .u64 (D % 18446744073709551616))] (by first|(simp [Keep, go_sem, *];done)|(simp [Keep, go_sem, *];omega)|(simp (disch := first | omega|(simp;omega)|(simp;done)) [Keep, go_sem, A5, A6, RowKit.frozen?_alloc_cells, A4, *];done)|(simp (disch := first | omega|(simp;omega)|(simp;done)) [Keep, go_sem, A5, A6, RowKit.frozen?_alloc_cells, A4, *];omega)) (by repeat (first | exact Tr.refl _ | assumption | apply Tr.al | apply Tr.drN | apply Tr.dr|(refine Tr.set ?_ (by first | omega|(simp;done)|(simp;omega)) _))) ?_;intro w8 hs8 K8 T8;(try simp at hs8);simp only [Keep] at K8
   clear Kb K7 T7 K5 T5
   rcases hout with ⟨o1, o2⟩ | ⟨o1, o3, o2⟩ | ⟨o1, o3, o4, o5, o2⟩ | ⟨o1, o3, o4, o5, o6, o7, o2⟩
   all_goals first|(exfalso;omega) | skip
   all_goals
    go_wp2_with (first
     | (go_at_call 96;(with_reducible refine (N8 neg NC D _ o4).mono ?_);rintro e w1 ⟨rfl, ht1⟩;have T1 : Tr w w1 := Tr.trans (by repeat (first | exact Tr.refl _ | assumption | apply Tr.al | apply Tr.drN | apply Tr.dr|(refine Tr.set ?_ (by first | omega|(simp;done)|(simp;omega)) _))) ht1;have K1 := Keep.tr (l := [(⟨w.heap.size, 0, none⟩, .int .i64 (an)), (⟨w.heap.size, 1, none⟩, .int .i64 (ad)), (⟨w.heap.size + 1, 0, none⟩, .int .i64 (bn)), (⟨w.heap.size + 1, 1, none⟩, .int .i64 (bd)), (⟨w.heap.size + 1 + 1, 0, none⟩, .int .i64 (0)), (⟨w.heap.size + 1 + 1, 1, none⟩, .int .i64 (0)), (⟨w2.heap.size, 0, none⟩, .int .u64 (NC / 18446744073709551616)), (⟨w2.heap.size, 1, none⟩, .int .u64 (NC % 18446744073709551616)), (⟨bb, 0, none⟩, .int .u64 (D / 18446744073709551616)), (⟨bb, 1, none⟩, .int .u64 (D % 18446744073709551616))]) (by first|(simp [Keep, go_sem, *];done)|(simp [Keep, go_sem, *];omega)|(simp (disch := first | omega|(simp;omega)|(simp;done)) [Keep, go_sem, A5, A6, RowKit.frozen?_alloc_cells, A4, *];done)|(simp (disch := first | omega|(simp;omega)|(simp;done)) [Keep, go_sem, A5, A6, RowKit.frozen?_alloc_cells, A4, *];omega)) ht1;have hz1 := Below.size ht1;(try simp at hz1);clear ht1;simp only [Keep] at K1)
     | (go_at_call 96;(with_reducible refine (Kw neg NC D _ (by omega) (by omega) (by omega) (by omega)).mono ?_);rintro e w1 ⟨rfl, ht1⟩;have T1 : Tr w w1 := Tr.trans (by repeat (first | exact Tr.refl _ | assumption | apply Tr.al | apply Tr.drN | apply Tr.dr|(refine Tr.set ?_ (by first | omega|(simp;done)|(simp;omega)) _))) ht1;have K1 := Keep.tr (l := [(⟨w.heap.size, 0, none⟩, .int .i64 (an)), (⟨w.heap.size, 1, none⟩, .int .i64 (ad)), (⟨w.heap.size + 1, 0, none⟩, .int .i64 (bn)), (⟨w.heap.size + 1, 1, none⟩, .int .i64 (bd)), (⟨w.heap.size + 1 + 1, 0, none⟩, .int .i64 (0)), (⟨w.heap.size + 1 + 1, 1, none⟩, .int .i64 (0)), (⟨w2.heap.size, 0, none⟩, .int .u64 (NC / 18446744073709551616)), (⟨w2.heap.size, 1, none⟩, .int .u64 (NC % 18446744073709551616)), (⟨bb, 0, none⟩, .int .u64 (D / 18446744073709551616)), (⟨bb, 1, none⟩, .int .u64 (D % 18446744073709551616))]) (by first|(simp [Keep, go_sem, *];done)|(simp [Keep, go_sem, *];omega)|(simp (disch := first | omega|(simp;omega)|(simp;done)) [Keep, go_sem, A5, A6, RowKit.frozen?_alloc_cells, A4, *];done)|(simp (disch := first | omega|(simp;omega)|(simp;done)) [Keep, go_sem, A5, A6, RowKit.frozen?_alloc_cells, A4, *];omega)) ht1;have hz1 := Below.size ht1;(try simp at hz1);clear ht1;simp only [Keep] at K1))
   all_goals
    obtain ⟨rfl, rfl, rfl⟩ := o2.out
    simp [bodyPost, results, Tryz.results108, go_sem, *]
    exact (by repeat (first | exact Tr.refl _ | assumption | apply Tr.al | apply Tr.drN | apply Tr.dr|(refine Tr.set ?_ (by first | omega|(simp;done)|(simp;omega)) _)))
set_option maxRecDepth 100000 in
set_option maxHeartbeats 2000000 in
theorem add_zero (an ad bn bd G bG aG X Y N R C NC bC D : Int) (neg : Bool) (w : World) (va : Ad an ad = true) (vb : Ad bn bd = true)
  (a1 : 1 <= ad) (a2 : ad <= 1152921504606846976) (a3 : -1152921504606846976 <= an) (a4 : an <= 1152921504606846976)
  (b1 : 1 <= bd) (b2 : bd <= 1152921504606846976) (b3 : -1152921504606846976 <= bn) (b4 : bn <= 1152921504606846976)
  (hG : (Int.gcd ad bd : Int) = G) (g1 : 1 <= G) (g2 : G <= 1152921504606846976) (hbG : bd / G = bG) (haG : ad / G = aG)
  (c1 : 1 <= bG) (c2 : bG <= 1152921504606846976) (c3 : 1 <= aG) (c4 : aG <= 1152921504606846976)
  (hX : (an.natAbs : Int) * bG = X) (hY : (bn.natAbs : Int) * aG = Y) (x1 : 0 <= X) (x2 : X <= 1329227995784915872903807060280344576) (y1 : 0 <= Y) (y2 : Y <= 1329227995784915872903807060280344576)
  (hpath : (decide (an < 0) = neg /\ decide (bn < 0) = neg /\ X + Y = N) \/ (decide (an < 0) = (!neg) /\ decide (bn < 0) = neg /\ decide (X < Y) = true /\ Y - X = N) \/ (decide (an < 0) = neg /\ decide (bn < 0) = (!neg) /\ decide (X < Y) = false /\ X - Y = N))
  (hN0 : N = 0) :
  Calls Tryz.prog 108 #[.agg #[.int .i64 an, .int .i64 ad], .agg #[.int .i64 bn, .int .i64 bd]] w fun e w' =>
   e = .returned (.tuple #[.agg #[.int .i64 0, .int .i64 1], .int .i64 0]) /\ Tr w w' := by
 go_enter Tryz.func108, Tryz.ntmps108
 go_wp2_with (first
  | (go_at_call 52;(with_reducible refine (Au _ _ _).mono ?_);rintro e w1 ⟨rfl, ht1⟩;have T1 : Tr w w1 := Tr.trans (by repeat (first | exact Tr.refl _ | assumption | apply Tr.al | apply Tr.drN | apply Tr.dr|(refine Tr.set ?_ (by first | omega|(simp;done)|(simp;omega)) _))) ht1;have K1 := Keep.tr (l := [(⟨w.heap.size, 0, none⟩, .int .i64 an), (⟨w.heap.size, 1, none⟩, .int .i64 ad), (⟨w.heap.size + 1, 0, none⟩, .int .i64 bn), (⟨w.heap.size + 1, 1, none⟩, .int .i64 bd), (⟨w.heap.size + 1 + 1, 0, none⟩, .int .i64 0), (⟨w.heap.size + 1 + 1, 1, none⟩, .int .i64 0)]) (by first|(simp [Keep, go_sem, *];done)|(simp [Keep, go_sem, *];omega)|(simp (disch := first | omega|(simp;omega)|(simp;done)) [Keep, go_sem, A5, A6, RowKit.frozen?_alloc_cells, A4, *];done)|(simp (disch := first | omega|(simp;omega)|(simp;done)) [Keep, go_sem, A5, A6, RowKit.frozen?_alloc_cells, A4, *];omega)) ht1;have hz1 := Below.size ht1;(try simp at hz1);clear ht1;simp only [Keep] at K1)
  | (go_at_call 95;(with_reducible refine (Jc ad bd _ (by omega) (by omega) (by omega) (by omega)).mono ?_);rintro e w1 ⟨rfl, nn1, rfl⟩))
 refine Fl 18 #[.int .u64 0, .int .u64 0] 205 _ #[.int .u64 0, .int .u64 0] 205 _ (by kernel_rfl) (by kernel_rfl) rfl (Dn _ rfl rfl) rfl (Dn _ rfl rfl) (by decide) ?_
 intro w1 hw1
 have k1 := Keep.cl (l := [(⟨w.heap.size, 0, none⟩, .int .i64 an), (⟨w.heap.size, 1, none⟩, .int .i64 ad), (⟨w.heap.size + 1, 0, none⟩, .int .i64 bn), (⟨w.heap.size + 1, 1, none⟩, .int .i64 bd), (⟨w.heap.size + 1 + 1, 0, none⟩, .int .i64 0), (⟨w.heap.size + 1 + 1, 1, none⟩, .int .i64 0)]) (by simp [Keep, go_sem, *]) hw1
 simp only [Il] at k1
 simp only [List.take_succ_cons, List.take_zero, List.drop_succ_cons, List.drop_zero]
 repeat (go_big_quiet_step (first
  | (go_at_call 94;exact El (Ge _ (by omega) (by omega) _))
  | (go_at_call 109;exact Dt (Fz _ _ _ (by omega) (by omega) (by omega) (by omega)))))
 refine wpQuiet_nil ?_
 intro b b' w' hb hb' hne ht hz hz'
 have Kb := Keep.at2 hz
 have Kb' := Keep.at2 hz'
 have K0 := Keep.tr (l := [(⟨w.heap.size, 0, none⟩, .int .i64 an), (⟨w.heap.size, 1, none⟩, .int .i64 ad), (⟨w.heap.size + 1, 0, none⟩, .int .i64 bn), (⟨w.heap.size + 1, 1, none⟩, .int .i64 bd), (⟨w.heap.size + 1 + 1, 0, none⟩, .int .i64 0), (⟨w.heap.size + 1 + 1, 1, none⟩, .int .i64 0)]) (by first|(simp [Keep, go_sem, *];done)|(simp [Keep, go_sem, *];omega)|(simp (disch := first | omega|(simp;omega)|(simp;done)) [Keep, go_sem, A5, A6, RowKit.frozen?_alloc_cells, A4, *];done)|(simp (disch := first | omega|(simp;omega)|(simp;done)) [Keep, go_sem, A5, A6, RowKit.frozen?_alloc_cells, A4, *];omega)) ht
 have T0 : Tr w w' := Tr.trans (by repeat (first | exact Tr.refl _ | assumption | apply Tr.al | apply Tr.drN | apply Tr.dr|(refine Tr.set ?_ (by first | omega|(simp;done)|(simp;omega)) _))) ht
 have hs0 := Below.size ht
 have hbl := lt_of_block hz
 have hbl' := lt_of_block hz'
 simp at hb hb' hs0
 simp only [Keep] at Kb Kb' K0
 clear ht hz hz' hw1 k1
 simp only [Act.put, List.setIfInBounds_toArray, List.set_cons_succ, List.set_cons_zero]
 go_upto_region 5 with (fail)
 refine Cz (w0 := w) [(⟨w.heap.size, 0, none⟩, .int .i64 an), (⟨w.heap.size, 1, none⟩, .int .i64 ad), (⟨w.heap.size + 1, 0, none⟩, .int .i64 bn), (⟨w.heap.size + 1, 1, none⟩, .int .i64 bd), (⟨w.heap.size + 1 + 1, 0, none⟩, .int .i64 0), (⟨w.heap.size + 1 + 1, 1, none⟩, .int .i64 0), (⟨b, 0, none⟩, .int .u64 (X / 18446744073709551616)), (⟨b, 1, none⟩, .int .u64 (X % 18446744073709551616)), (⟨b', 0, none⟩, .int .u64 (Y / 18446744073709551616)), (⟨b', 1, none⟩, .int .u64 (Y % 18446744073709551616))] (by first|(simp [Keep, go_sem, *];done)|(simp [Keep, go_sem, *];omega)|(simp (disch := first | omega|(simp;omega)|(simp;done)) [Keep, go_sem, A5, A6, RowKit.frozen?_alloc_cells, A4, *];done)|(simp (disch := first | omega|(simp;omega)|(simp;done)) [Keep, go_sem, A5, A6, RowKit.frozen?_alloc_cells, A4, *];omega)) (by repeat (first | exact Tr.refl _ | assumption | apply Tr.al | apply Tr.drN | apply Tr.dr|(refine Tr.set ?_ (by first | omega|(simp;done)|(simp;omega)) _))) ?_;intro w2 hs2 K2 T2;(try simp at hs2);simp only [Keep] at K2
 clear Kb Kb' K0 T0
 clear K1 T1
 go_upto_block 0 with (fail)
 go_cut [9] (fun s9 wx => s9 = .bool neg /\ Keep wx [(⟨w.heap.size, 0, none⟩, .int .i64 (an)), (⟨w.heap.size, 1, none⟩, .int .i64 (ad)), (⟨w.heap.size + 1, 0, none⟩, .int .i64 (bn)), (⟨w.heap.size + 1, 1, none⟩, .int .i64 (bd)), (⟨w.heap.size + 1 + 1, 0, none⟩, .int .i64 (0)), (⟨w.heap.size + 1 + 1, 1, none⟩, .int .i64 (0)), (⟨w2.heap.size, 0, none⟩, .int .u64 (N / 18446744073709551616)), (⟨w2.heap.size, 1, none⟩, .int .u64 (N % 18446744073709551616))] /\ Tr w wx)
 case first =>
  rcases hpath with ⟨s1, s2, hN⟩ | ⟨s1, s2, s3, hN⟩ | ⟨s1, s2, s3, hN⟩ <;> cases neg <;> (try simp only [Bool.not_true, Bool.not_false] at s1 s2)
  all_goals
   go_wp2_with (first
    | (go_at_call 183;(with_reducible refine (Xn X Y x1 y1 (by omega) _).mono ?_);rintro e w1 ⟨rfl, ht1⟩;have T1 : Tr w w1 := Tr.trans (by repeat (first | exact Tr.refl _ | assumption | apply Tr.al | apply Tr.drN | apply Tr.dr|(refine Tr.set ?_ (by first | omega|(simp;done)|(simp;omega)) _))) ht1;have K1 := Keep.tr (l := [(⟨w.heap.size, 0, none⟩, .int .i64 (an)), (⟨w.heap.size, 1, none⟩, .int .i64 (ad)), (⟨w.heap.size + 1, 0, none⟩, .int .i64 (bn)), (⟨w.heap.size + 1, 1, none⟩, .int .i64 (bd)), (⟨w.heap.size + 1 + 1, 0, none⟩, .int .i64 (0)), (⟨w.heap.size + 1 + 1, 1, none⟩, .int .i64 (0)), (⟨b, 0, none⟩, .int .u64 (X / 18446744073709551616)), (⟨b, 1, none⟩, .int .u64 (X % 18446744073709551616)), (⟨b', 0, none⟩, .int .u64 (Y / 18446744073709551616)), (⟨b', 1, none⟩, .int .u64 (Y % 18446744073709551616)), (⟨w2.heap.size, 0, none⟩, .int .u64 (0)), (⟨w2.heap.size, 1, none⟩, .int .u64 (0))]) (by first|(simp [Keep, go_sem, *];done)|(simp [Keep, go_sem, *];omega)|(simp (disch := first | omega|(simp;omega)|(simp;done)) [Keep, go_sem, A5, A6, RowKit.frozen?_alloc_cells, A4, *];done)|(simp (disch := first | omega|(simp;omega)|(simp;done)) [Keep, go_sem, A5, A6, RowKit.frozen?_alloc_cells, A4, *];omega)) ht1;have hz1 := Below.size ht1;(try simp at hz1);clear ht1;simp only [Keep] at K1)
    | (go_at_call 110;(with_reducible refine (M6 X Y x1 y1 _).mono ?_);rintro e w1 ⟨rfl, ht1⟩;have T1 : Tr w w1 := Tr.trans (by repeat (first | exact Tr.refl _ | assumption | apply Tr.al | apply Tr.drN | apply Tr.dr|(refine Tr.set ?_ (by first | omega|(simp;done)|(simp;omega)) _))) ht1;have K1 := Keep.tr (l := [(⟨w.heap.size, 0, none⟩, .int .i64 (an)), (⟨w.heap.size, 1, none⟩, .int .i64 (ad)), (⟨w.heap.size + 1, 0, none⟩, .int .i64 (bn)), (⟨w.heap.size + 1, 1, none⟩, .int .i64 (bd)), (⟨w.heap.size + 1 + 1, 0, none⟩, .int .i64 (0)), (⟨w.heap.size + 1 + 1, 1, none⟩, .int .i64 (0)), (⟨b, 0, none⟩, .int .u64 (X / 18446744073709551616)), (⟨b, 1, none⟩, .int .u64 (X % 18446744073709551616)), (⟨b', 0, none⟩, .int .u64 (Y / 18446744073709551616)), (⟨b', 1, none⟩, .int .u64 (Y % 18446744073709551616)), (⟨w2.heap.size, 0, none⟩, .int .u64 (0)), (⟨w2.heap.size, 1, none⟩, .int .u64 (0))]) (by first|(simp [Keep, go_sem, *];done)|(simp [Keep, go_sem, *];omega)|(simp (disch := first | omega|(simp;omega)|(simp;done)) [Keep, go_sem, A5, A6, RowKit.frozen?_alloc_cells, A4, *];done)|(simp (disch := first | omega|(simp;omega)|(simp;done)) [Keep, go_sem, A5, A6, RowKit.frozen?_alloc_cells, A4, *];omega)) ht1;have hz1 := Below.size ht1;(try simp at hz1);clear ht1;simp only [Keep] at K1)
    | (go_at_call 184;(with_reducible refine (Vr _ _ (by omega) (by first | omega|(have := of_decide_eq_true s3;omega)|(have := of_decide_eq_false s3;omega)) (by omega) _).mono ?_);rintro e w1 ⟨rfl, ht1⟩;have T1 : Tr w w1 := Tr.trans (by repeat (first | exact Tr.refl _ | assumption | apply Tr.al | apply Tr.drN | apply Tr.dr|(refine Tr.set ?_ (by first | omega|(simp;done)|(simp;omega)) _))) ht1;have K1 := Keep.tr (l := [(⟨w.heap.size, 0, none⟩, .int .i64 (an)), (⟨w.heap.size, 1, none⟩, .int .i64 (ad)), (⟨w.heap.size + 1, 0, none⟩, .int .i64 (bn)), (⟨w.heap.size + 1, 1, none⟩, .int .i64 (bd)), (⟨w.heap.size + 1 + 1, 0, none⟩, .int .i64 (0)), (⟨w.heap.size + 1 + 1, 1, none⟩, .int .i64 (0)), (⟨b, 0, none⟩, .int .u64 (X / 18446744073709551616)), (⟨b, 1, none⟩, .int .u64 (X % 18446744073709551616)), (⟨b', 0, none⟩, .int .u64 (Y / 18446744073709551616)), (⟨b', 1, none⟩, .int .u64 (Y % 18446744073709551616)), (⟨w2.heap.size, 0, none⟩, .int .u64 (0)), (⟨w2.heap.size, 1, none⟩, .int .u64 (0))]) (by first|(simp [Keep, go_sem, *];done)|(simp [Keep, go_sem, *];omega)|(simp (disch := first | omega|(simp;omega)|(simp;done)) [Keep, go_sem, A5, A6, RowKit.frozen?_alloc_cells, A4, *];done)|(simp (disch := first | omega|(simp;omega)|(simp;done)) [Keep, go_sem, A5, A6, RowKit.frozen?_alloc_cells, A4, *];omega)) ht1;have hz1 := Below.size ht1;(try simp at hz1);clear ht1;simp only [Keep] at K1))
   go_meet
   exact ⟨rfl, (by first|(simp [Keep, go_sem, *];done)|(simp [Keep, go_sem, *];omega)|(simp (disch := first | omega|(simp;omega)|(simp;done)) [Keep, go_sem, A5, A6, RowKit.frozen?_alloc_cells, A4, *];done)|(simp (disch := first | omega|(simp;omega)|(simp;done)) [Keep, go_sem, A5, A6, RowKit.frozen?_alloc_cells, A4, *];omega)), (by repeat (first | exact Tr.refl _ | assumption | apply Tr.al | apply Tr.drN | apply Tr.dr|(refine Tr.set ?_ (by first | omega|(simp;done)|(simp;omega)) _)))⟩
 case rest =>
  obtain ⟨rfl, K3, T3⟩ := hcut
  simp only [Keep] at K3
  clear K2 T2 hpath
  subst hN0
  simp at K3
  go_wp2_with fail
  simp [bodyPost, results, Tryz.results108, go_sem, *]
  exact (by repeat (first | exact Tr.refl _ | assumption | apply Tr.al | apply Tr.drN | apply Tr.dr|(refine Tr.set ?_ (by first | omega|(simp;done)|(simp;omega)) _)))

theorem Aam (an ad bn bd : Int) (w : World) (va : Ad an ad = false) :
  Calls Tryz.prog 108 #[.agg #[.int .i64 an, .int .i64 ad], .agg #[.int .i64 bn, .int .i64 bd]] w fun e w' =>
   e = .returned (.tuple #[.agg #[.int .i64 0, .int .i64 0], .int .i64 1]) /\ Tr w w' := by
 go_enter Tryz.func108, Tryz.ntmps108
 go_wp2_with (go_at_call 52;(with_reducible refine (Au _ _ _).mono ?_);rintro e w1 ⟨rfl, ht1⟩;have T1 : Tr w w1 := Tr.trans (by repeat (first | exact Tr.refl _ | assumption | apply Tr.al | apply Tr.drN | apply Tr.dr|(refine Tr.set ?_ (by first | omega|(simp;done)|(simp;omega)) _))) ht1;have K1 := Keep.tr (l := [(⟨w.heap.size, 0, none⟩, .int .i64 an), (⟨w.heap.size, 1, none⟩, .int .i64 ad), (⟨w.heap.size + 1, 0, none⟩, .int .i64 bn), (⟨w.heap.size + 1, 1, none⟩, .int .i64 bd), (⟨w.heap.size + 1 + 1, 0, none⟩, .int .i64 0), (⟨w.heap.size + 1 + 1, 1, none⟩, .int .i64 0)]) (by first|(simp [Keep, go_sem, *];done)|(simp [Keep, go_sem, *];omega)|(simp (disch := first | omega|(simp;omega)|(simp;done)) [Keep, go_sem, A5, A6, RowKit.frozen?_alloc_cells, A4, *];done)|(simp (disch := first | omega|(simp;omega)|(simp;done)) [Keep, go_sem, A5, A6, RowKit.frozen?_alloc_cells, A4, *];omega)) ht1;have hz1 := Below.size ht1;(try simp at hz1);clear ht1;simp only [Keep] at K1)
 simp [bodyPost, results, Tryz.results108, go_sem, *]
 exact (by repeat (first | exact Tr.refl _ | assumption | apply Tr.al | apply Tr.drN | apply Tr.dr|(refine Tr.set ?_ (by first | omega|(simp;done)|(simp;omega)) _)))
theorem A9z (an ad bn bd : Int) (w : World) (va : Ad an ad = true) (vb : Ad bn bd = false) :
  Calls Tryz.prog 108 #[.agg #[.int .i64 an, .int .i64 ad], .agg #[.int .i64 bn, .int .i64 bd]] w fun e w' =>
   e = .returned (.tuple #[.agg #[.int .i64 0, .int .i64 0], .int .i64 1]) /\ Tr w w' := by
 go_enter Tryz.func108, Tryz.ntmps108
 go_wp2_with (go_at_call 52;(with_reducible refine (Au _ _ _).mono ?_);rintro e w1 ⟨rfl, ht1⟩;have T1 : Tr w w1 := Tr.trans (by repeat (first | exact Tr.refl _ | assumption | apply Tr.al | apply Tr.drN | apply Tr.dr|(refine Tr.set ?_ (by first | omega|(simp;done)|(simp;omega)) _))) ht1;have K1 := Keep.tr (l := [(⟨w.heap.size, 0, none⟩, .int .i64 an), (⟨w.heap.size, 1, none⟩, .int .i64 ad), (⟨w.heap.size + 1, 0, none⟩, .int .i64 bn), (⟨w.heap.size + 1, 1, none⟩, .int .i64 bd), (⟨w.heap.size + 1 + 1, 0, none⟩, .int .i64 0), (⟨w.heap.size + 1 + 1, 1, none⟩, .int .i64 0)]) (by first|(simp [Keep, go_sem, *];done)|(simp [Keep, go_sem, *];omega)|(simp (disch := first | omega|(simp;omega)|(simp;done)) [Keep, go_sem, A5, A6, RowKit.frozen?_alloc_cells, A4, *];done)|(simp (disch := first | omega|(simp;omega)|(simp;done)) [Keep, go_sem, A5, A6, RowKit.frozen?_alloc_cells, A4, *];omega)) ht1;have hz1 := Below.size ht1;(try simp at hz1);clear ht1;simp only [Keep] at K1)
 simp [bodyPost, results, Tryz.results108, go_sem, *]
 exact (by repeat (first | exact Tr.refl _ | assumption | apply Tr.al | apply Tr.drN | apply Tr.dr|(refine Tr.set ?_ (by first | omega|(simp;done)|(simp;omega)) _)))
end Go.Proofs.YtbceahipbdmocaaGreat
namespace Go.Proofs.YtbceahipbdmocaaGreat
def Aa (n d : Int) : Rat := Rat.divInt n d
def Cj (q : Rat) : Int × Int × Int := if q.num.natAbs <= 1152921504606846976 /\ q.den <= 1152921504606846976 then (q.num, (q.den : Int), 0) else (0, 0, 5)

theorem Ec {n d : Int} (h : Ad n d = true) : (Aa n d).num = n /\ ((Aa n d).den : Int) = d := by
 obtain ⟨h1, _, _, _, h5⟩ := validB_spec.1 h
 obtain ⟨k, rfl⟩ := Int.eq_ofNat_of_zero_le (show 0 <= d by omega)
 have hk : k ≠ 0 := by omega
 have hc : n.natAbs.Coprime k := by simpa [Int.gcd] using h5
 have : Aa n k = ⟨n, k, hk, hc⟩ := by
  unfold Aa;rw [Rat.mk_eq_divInt]
 rw [this]
 exact ⟨rfl, rfl⟩
theorem Bk (q : Rat) : Aa q.num q.den = q := Rat.num_divInt_den q
theorem Wg (q : Rat) (h1 : q.num.natAbs <= 1152921504606846976) (h2 : q.den <= 1152921504606846976) : Ad q.num q.den = true := by
 rw [validB_spec]
 have := q.den_pos
 refine ⟨by omega, by omega, by omega, by omega, ?_⟩
 simpa [Int.gcd] using q.reduced

theorem A3u (a b : Rat) (g c : Nat) (s : Int) (hg : g = a.den.gcd b.den) (hs : s = a.num * (b.den / g : Nat) + b.num * (a.den / g : Nat)) (hc : c = s.natAbs.gcd g) :
  (a + b).num = s / c /\ (a + b).den = (a.den / g) * (b.den / c) := by
 have gp : 0 < g := hg ▸ Nat.gcd_pos_of_pos_left _ a.den_pos
 have ga : g ∣ a.den := hg ▸ Nat.gcd_dvd_left ..
 have gb : g ∣ b.den := hg ▸ Nat.gcd_dvd_right ..
 have ea : a.den / g * g = a.den := Nat.div_mul_cancel ga
 have eb : b.den / g * g = b.den := Nat.div_mul_cancel gb
 have aux := Rat.add.aux a b hg rfl rfl
 simp only at aux
 rw [<- hs] at aux
 have hnum : a.num * b.den + b.num * a.den = s * g := by
  rw [hs, Int.add_mul, Int.mul_assoc, Int.mul_assoc, <- Int.natCast_mul, <- Int.natCast_mul, ea, eb]
 have hden : a.den * b.den = a.den / g * b.den * g := by
  conv => lhs;rw [<- ea]
  rw [Nat.mul_right_comm]
 have hgcd : (a.num * b.den + b.num * a.den).natAbs.gcd (a.den * b.den) = c * g := by
  rw [hnum, hden, Int.natAbs_mul, Int.natAbs_natCast, Nat.gcd_mul_right, <- aux, <- hc]
 have cg : c ∣ g := hc ▸ Nat.gcd_dvd_right ..
 have cp : 0 < c := Nat.pos_of_dvd_of_pos cg gp
 have cb : c ∣ b.den := Nat.dvd_trans cg gb
 constructor
 ·rw [Rat.num_add, hgcd, hnum, Int.natCast_mul, Int.mul_ediv_mul_of_pos_left _ _ (by omega)]
 ·rw [Rat.den_add, hgcd, hden, Nat.mul_div_mul_right _ _ gp, Nat.mul_div_assoc _ cb]
theorem Se (x : Int) (g : Nat) : x.tdiv (g : Int) = if x < 0 then -((x.natAbs / g : Nat) : Int) else ((x.natAbs / g : Nat) : Int) := by
 by_cases h : x < 0
 ·rw [if_pos h]
  have : x = -(x.natAbs : Int) := by omega
  conv => lhs;rw [this]
  rw [Int.neg_tdiv];rfl
 ·rw [if_neg h]
  have : x = (x.natAbs : Int) := by omega
  conv => lhs;rw [this]
  rfl
theorem A48 (a b : Rat) (g h : Nat) (hg : g = a.num.natAbs.gcd b.den) (hh : h = b.num.natAbs.gcd a.den) :
  (a * b).num = a.num.tdiv g * b.num.tdiv h /\ (a * b).den = (a.den / h) * (b.den / g) := by
 subst hg hh
 show (Rat.mul a b).num = _ /\ (Rat.mul a b).den = _
 unfold Rat.mul
 simp only [Int.divExact_eq_tdiv]
 exact ⟨trivial, rfl⟩
theorem A74 (n d : Int) : Aa (-n) d = -(Aa n d) := by unfold Aa;rw [Rat.neg_divInt]
theorem A3k (n d : Int) : Ad (-n) d = Ad n d := by
 rw [Bool.eq_iff_iff, validB_spec, validB_spec, Int.neg_gcd]
 exact ⟨fun ⟨a, b, c, d, e⟩ => ⟨a, b, by omega, by omega, e⟩, fun ⟨a, b, c, d, e⟩ => ⟨a, b, by omega, by omega, e⟩⟩
theorem A2t {n d : Int} (h : Ad n d = true) (hn : n ≠ 0) : Ad (if n < 0 then -d else d) (n.natAbs : Int) = true /\ Aa (if n < 0 then -d else d) (n.natAbs : Int) = (Aa n d)⁻¹ := by
 obtain ⟨h1, h2, h3, h4, h5⟩ := validB_spec.1 h
 constructor
 ·rw [validB_spec]
  have e : Int.gcd (if n < 0 then -d else d) (n.natAbs : Int) = 1 := by
   rw [<- h5, Int.gcd_comm n d]
   by_cases hn : n < 0
   ·rw [if_pos hn, Int.neg_gcd];simp [Int.gcd]
   ·rw [if_neg hn];simp [Int.gcd]
  refine ⟨by omega, by omega, ?_, ?_, e⟩ <;> split <;> omega
 ·unfold Aa
  rw [Rat.inv_divInt]
  by_cases hn : n < 0
  ·rw [if_pos hn, show ((n.natAbs : Nat) : Int) = -n by omega, Rat.neg_divInt_neg]
  ·rw [if_neg hn, show ((n.natAbs : Nat) : Int) = n by omega]
def Bv (p q : Rat) : Int := if p < q then -1 else if q < p then 1 else 0
theorem A1a {an ad bn bd : Int} (va : Ad an ad = true) (vb : Ad bn bd = true) : Aa an ad < Aa bn bd ↔ an * bd < bn * ad := by
 obtain ⟨e1, e2⟩ := Ec va
 obtain ⟨f1, f2⟩ := Ec vb
 rw [Rat.lt_iff, e1, e2, f1, f2]
end Go.Proofs.YtbceahipbdmocaaGreat
