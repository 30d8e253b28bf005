/- DERIVED: THE SHELF's CONTRACTS AT THIS DUMP, IN PLAIN WORDS (tools/lay-plain.mjs out of 'TryzShelf.lean', which tools/lay-shelf.mjs wrote): THE SAME DECLARATIONS UNDER THE SAME NAMES: 'import', 'namespace', 'open', 'def', 'theorem' AND NOTHING ELSE: no command of the shelf's: FOR A HAND-IN. Each laying: the table of numbers ('.._ren') and one theorem, a field a fact of the dump's own or the kernel's comparison;each contract: ONE APPLICATION. -/
import Derived.Shelf.Strings.Builder1
import Derived.Shelf.Small.Bits
import Derived.Shelf.Strings.BuilderF
import Derived.Shelf.Strconv.Itoa0
import Derived.Shelf.Strconv.Itoa1
import Derived.Shelf.LaysM
import Derived.Shelf.Strconv.Itoa2
import Derived.Shelf.Strconv.Itoa3
import Derived.Shelf.Strings.Search1
import Derived.Shelf.Strings.Search2
import Derived.Shelf.Strings.Search3
import Derived.Shelf.Strings.Cut
import Derived.Shelf.Strings.Count
import Derived.Shelf.Strings.Shaped
import Derived.Shelf.Strings.Split
import Derived.Shelf.Bits.Mul64
import Derived.Shelf.Unicode.DecodeSlow
import Derived.Shelf.Unicode.DecodeAny
import Derived.Ground.Names2Prog
import Derived.Shelf.Slices.Clone
import Derived.Ground.SlgnProg
import Derived.Shelf.SlicesE.Clone
import Derived.Ground.SlsfProg
import Derived.Shelf.SlSortCmp.Insertion
import Derived.Test.YtcfjofhapbkmfaaGreatDoorProg
import Derived.WalkKit
import Derived.WalkSpells
import Derived.Deep.QuietTactic
import Derived.BigQuiet
import Derived.Lib.Hide
import Derived.RowKit3
import Derived.Lib.QuietBelow
import Derived.StillTail
import Derived.OneCell
import Derived.Laws.Externs
import Derived.Shelf.Spec.BitsCarry
import Derived.Laws.BitsLemmas
import Derived.Lib.ItoaNum
import Derived.Deep.DeepCutAuto
import Derived.Deep.CutBlock
import Derived.Deep.RegionWith
import Derived.IntWalk
set_option linter.unusedSimpArgs false
set_option linter.unusedVariables false
namespace Go.Proofs
open Go.Shelf
def Tryz.lays169_ren : Go.Shelf.Ren := ⟨fun | 169 => 72 | n => n, fun | 70 => 75 | 9 => 9 | 0 => 0 | 72 => 78 | 37 => 76 | 127 => 176 | 3 => 3 | 5 => 5 | n => n, fun | n => n⟩
theorem Tryz.lays169 : Go.Proofs.Lays.n169 Tryz.prog Tryz.lays169_ren := {
 mixed := by kernel_rfl
 f169 := Tryz.func72.trans (congrArg some (by kernel_rfl))
 t0 := Tryz.underlying0
 a0 := Tryz.isAgg0
 z0 := Tryz.sizeOf0
 v0 := Tryz.zeroValue0
 t3 := Tryz.underlying3
 a3 := Tryz.isAgg3
 z3 := Tryz.sizeOf3
 v3 := Tryz.zeroValue3
 t9 := Tryz.underlying9
 a9 := Tryz.isAgg9
 z9 := Tryz.sizeOf9
 v9 := Tryz.zeroValue9
 t37 := Tryz.underlying76
 a37 := Tryz.isAgg76
 z37 := Tryz.sizeOf76
 v37 := Tryz.zeroValue76
 t70 := Tryz.underlying75
 a70 := Tryz.isAgg75
 z70 := Tryz.sizeOf75
 v70 := Tryz.zeroValue75
 t72 := Tryz.underlying78
 a72 := Tryz.isAgg78
 z72 := Tryz.sizeOf78
 v72 := Tryz.zeroValue78
 t127 := Tryz.underlying176
 a127 := Tryz.isAgg176
 z127 := Tryz.sizeOf176
 v127 := Tryz.zeroValue176 }
def Tryz.lays134_ren : Go.Shelf.Ren := ⟨fun | 134 => 262 | 129 => 231 | n => n, fun | 53 => 143 | 3 => 3 | 4 => 4 | 46 => 238 | 5 => 5 | 9 => 9 | n => n, fun | n => n⟩
theorem Tryz.lays134 : Go.Proofs.Lays.n134 Tryz.prog Tryz.lays134_ren := {
 mixed := by kernel_rfl
 f129 := Tryz.func231.trans (congrArg some (by kernel_rfl))
 f134 := Tryz.func262.trans (congrArg some (by kernel_rfl))
 t3 := Tryz.underlying3
 a3 := Tryz.isAgg3
 z3 := Tryz.sizeOf3
 v3 := Tryz.zeroValue3
 t4 := Tryz.underlying4
 a4 := Tryz.isAgg4
 z4 := Tryz.sizeOf4
 v4 := Tryz.zeroValue4
 t5 := Tryz.underlying5
 a5 := Tryz.isAgg5
 z5 := Tryz.sizeOf5
 v5 := Tryz.zeroValue5
 t9 := Tryz.underlying9
 a9 := Tryz.isAgg9
 z9 := Tryz.sizeOf9
 v9 := Tryz.zeroValue9
 t46 := Tryz.underlying238
 a46 := Tryz.isAgg238
 z46 := Tryz.sizeOf238
 v46 := Tryz.zeroValue238
 t53 := Tryz.underlying143
 a53 := Tryz.isAgg143
 z53 := Tryz.sizeOf143
 v53 := Tryz.zeroValue143 }
theorem Tryz.bits_LeadingZeros64 (x : Int) (w : World) (h0 : 0 <= x) (h1 : x <= 18446744073709551615) :
  Calls Tryz.prog 262 #[.int .u64 x] w fun e w' => e = .returned (.int .i64 (64 - (Lib.bitLen x.toNat : Int))) /\ w' = w := Any.bits_LeadingZeros64 Tryz.lays134 x w h0 h1
def Tryz.laysM171_ren : Go.Shelf.Ren := ⟨fun | 171 => 23 | 243 => 59 | 246 => 112 | 283 => 172 | 284 => 173 | 285 => 174 | 286 => 175 | 129 => 231 | 317 => 230 | 318 => 232 | 319 => 233 | 320 => 234 | 337 => 260 | 338 => 261 | n => n, fun | 3 => 3 | 9 => 9 | 2 => 2 | 4 => 4 | 171 => 219 | 0 => 0 | 53 => 143 | 37 => 76 | 5 => 5 | 173 => 222 | 212 => 264 | 51 => 265 | 20 => 20 | 213 => 266 | 46 => 238 | 232 => 294 | 233 => 295 | n => n, fun | 17 => 1 | 18 => 6 | 19 => 7 | n => n⟩
theorem Tryz.laysM171 : Go.Proofs.LaysM.n171 Tryz.prog Tryz.laysM171_ren := {
 mixed := by kernel_rfl
 f129 := Tryz.func231.trans (congrArg some (by kernel_rfl))
 f171 := Tryz.func23.trans (congrArg some (by kernel_rfl))
 f243 := Tryz.func59.trans (congrArg some (by kernel_rfl))
 f246 := Tryz.func112.trans (congrArg some (by kernel_rfl))
 f283 := Tryz.func172.trans (congrArg some (by kernel_rfl))
 f284 := Tryz.func173.trans (congrArg some (by kernel_rfl))
 f285 := Tryz.func174.trans (congrArg some (by kernel_rfl))
 f286 := Tryz.func175.trans (congrArg some (by kernel_rfl))
 f317 := Tryz.func230.trans (congrArg some (by kernel_rfl))
 f318 := Tryz.func232.trans (congrArg some (by kernel_rfl))
 f319 := Tryz.func233.trans (congrArg some (by kernel_rfl))
 f320 := Tryz.func234.trans (congrArg some (by kernel_rfl))
 f337 := Tryz.func260.trans (congrArg some (by kernel_rfl))
 f338 := Tryz.func261.trans (congrArg some (by kernel_rfl))
 t0 := Tryz.underlying0
 a0 := Tryz.isAgg0
 z0 := Tryz.sizeOf0
 v0 := Tryz.zeroValue0
 t2 := Tryz.underlying2
 a2 := Tryz.isAgg2
 z2 := Tryz.sizeOf2
 v2 := Tryz.zeroValue2
 t3 := Tryz.underlying3
 a3 := Tryz.isAgg3
 z3 := Tryz.sizeOf3
 v3 := Tryz.zeroValue3
 t4 := Tryz.underlying4
 a4 := Tryz.isAgg4
 z4 := Tryz.sizeOf4
 v4 := Tryz.zeroValue4
 t5 := Tryz.underlying5
 a5 := Tryz.isAgg5
 z5 := Tryz.sizeOf5
 v5 := Tryz.zeroValue5
 t9 := Tryz.underlying9
 a9 := Tryz.isAgg9
 z9 := Tryz.sizeOf9
 v9 := Tryz.zeroValue9
 t20 := Tryz.underlying20
 a20 := Tryz.isAgg20
 z20 := Tryz.sizeOf20
 v20 := Tryz.zeroValue20
 t37 := Tryz.underlying76
 a37 := Tryz.isAgg76
 z37 := Tryz.sizeOf76
 v37 := Tryz.zeroValue76
 t46 := Tryz.underlying238
 a46 := Tryz.isAgg238
 z46 := Tryz.sizeOf238
 v46 := Tryz.zeroValue238
 t51 := Tryz.underlying265
 a51 := Tryz.isAgg265
 z51 := Tryz.sizeOf265
 v51 := Tryz.zeroValue265
 t53 := Tryz.underlying143
 a53 := Tryz.isAgg143
 z53 := Tryz.sizeOf143
 v53 := Tryz.zeroValue143
 t171 := Tryz.underlying219
 a171 := Tryz.isAgg219
 z171 := Tryz.sizeOf219
 v171 := Tryz.zeroValue219
 t173 := Tryz.underlying222
 a173 := Tryz.isAgg222
 z173 := Tryz.sizeOf222
 v173 := Tryz.zeroValue222
 t212 := Tryz.underlying264
 a212 := Tryz.isAgg264
 z212 := Tryz.sizeOf264
 v212 := Tryz.zeroValue264
 t213 := Tryz.underlying266
 a213 := Tryz.isAgg266
 z213 := Tryz.sizeOf266
 t232 := Tryz.underlying294
 a232 := Tryz.isAgg294
 z232 := Tryz.sizeOf294
 v232 := Tryz.zeroValue294
 t233 := Tryz.underlying295
 a233 := Tryz.isAgg295
 z233 := Tryz.sizeOf295
 v233 := Tryz.zeroValue295
 g17 := by kernel_rfl
 g18 := by kernel_rfl
 g19 := by kernel_rfl
 i0 := by kernel_rfl
 i2 := by kernel_rfl
 i3 := by kernel_rfl
 i4 := by kernel_rfl
 i5 := by kernel_rfl
 i9 := by kernel_rfl
 i20 := by kernel_rfl
 i37 := by kernel_rfl
 i46 := by kernel_rfl
 i51 := by kernel_rfl
 i53 := by kernel_rfl
 i171 := by kernel_rfl
 i173 := by kernel_rfl
 i212 := by kernel_rfl
 i232 := by kernel_rfl
 i233 := by kernel_rfl
 m17 := by kernel_rfl
 m18 := by kernel_rfl
 m19 := by kernel_rfl }
open Go.RowKit Go.Sort Go.Lib in
theorem Tryz.strconv_Itoa (n : Int) (h0 : -9223372036854775808 <= n) (h1 : n <= 9223372036854775807) (w : World) (htab : Lib.TabIs Tryz.prog w "internal/strconv.uint64pow10" .u64 Lib.pow10Tab) :
  Calls Tryz.prog 23 #[.int .i64 n] w fun e w' => e = .returned (.string ⟨(Lib.itoa n).toArray⟩) /\ ∃ k os, w' = grow (w.drewN k) os := Any.strconv_Itoa Tryz.laysM171 n h0 h1 w htab
def Tryz.lays264_ren : Go.Shelf.Ren := ⟨fun | 264 => 140 | n => n, fun | 53 => 143 | 46 => 238 | n => n, fun | n => n⟩
theorem Tryz.lays264 : Go.Proofs.Lays.n264 Tryz.prog Tryz.lays264_ren := {
 mixed := by kernel_rfl
 f264 := Tryz.func140.trans (congrArg some (by kernel_rfl))
 t46 := Tryz.underlying238
 a46 := Tryz.isAgg238
 z46 := Tryz.sizeOf238
 v46 := Tryz.zeroValue238
 t53 := Tryz.underlying143
 a53 := Tryz.isAgg143
 z53 := Tryz.sizeOf143
 v53 := Tryz.zeroValue143 }
open Go.RowKit Go.Lib in
theorem Tryz.bits_Mul64 (x y : Nat) (hx : x < 18446744073709551616) (hy : y < 18446744073709551616) (w : World) :
  Calls Tryz.prog 140 #[.int .u64 x, .int .u64 y] w fun e w' => e = .returned (.tuple #[.int .u64 ((x * y / 18446744073709551616 : Nat) : Int), .int .u64 ((x * y % 18446744073709551616 : Nat) : Int)]) /\ w' = w := Any.bits_Mul64 Tryz.lays264 x y hx hy w
end Go.Proofs
namespace Go.Proofs.YtcfjofhapbkmfaaGreatDoor
open Go.RowKit
theorem Zr {k : IntKind} {a b : Int} (h : a = b) : Ending.returned (.int k a) = .returned (.int k b) := by rw [h]
theorem Ax (n : Int) : IntKind.u64.wrap n = n % 18446744073709551616 := by
 simp [IntKind.wrap, IntKind.signed, IntKind.bits]
end Go.Proofs.YtcfjofhapbkmfaaGreatDoor
namespace Go.Proofs.YtcfjofhapbkmfaaGreatDoor
open Go Go.Sort Go.RowKit
def Tr (w w' : World) : Prop := Below w.heap.size w w'
theorem Tr.refl (w : World) : Tr w w := Below.refl _ _
theorem Tr.trans {a b c : World} (h : Tr a b) (k : Tr b c) : Tr a c := Below.trans h (Below.mono k (Below.size h))
theorem Tr.alloc (w : World) (o : Obj) : Tr w (w.alloc o) := (Below.refl _ _).alloc (Nat.le_refl _) o
theorem Tr.drew (w : World) : Tr w { w with drawn := w.drawn + 1 } := (Below.refl _ w).drew
def Cl (w : World) : World -> Prop := fun w' => ∃ p : Regrown, w' = grow (redrawn w p.d) p.os
theorem Cl.tr {w w' : World} (h : Cl w w') : Tr w w' := by obtain ⟨p, rfl⟩ := h;exact below_regrown w p.d p.os
theorem Tr.cl {w w' : World} (h : Tr w w') : Cl w w' := regrown_of_below h

section
variable {P : Program} {ops : Array Oper} {md : Region.Mode}

/-! ### One outcome -/
def C4 (P : Program) : Frame := { fn := P.funcs.size, tmps := #[], todo := [], defers := [], mode := .returning, kind := .report }
theorem Wo (w : World) : ∃ o w', step P (lone (C4 P) [] w) = .ended o w' := by
 refine ⟨_, _, step_lone_ended (by simp [stepG, unwind, C4, doReturn];exact ⟨rfl, rfl⟩)⟩
theorem Yk (n m : Nat) (x y : Machine) (h : runN P n x = .next y) : runN P (n + m) x = runN P m y := by
 induction n generalizing x with
 | zero => simp [runN] at h;subst h;simp
 | succ n ih =>
  rw [show n + 1 + m = (n + m) + 1 by omega]
  simp only [runN] at h ⊢
  cases hs : step P x <;> simp [hs] at h ⊢
  exact ih _ h
theorem P2 {f : FuncId} {args : Array Value} {w : World} {R R' : World -> Prop} {v v' : Value}
  (h : Calls P f args w fun e w' => e = .returned v /\ R w') (h' : Calls P f args w fun e w' => e = .returned v' /\ R' w') : v = v' := by
 obtain ⟨e, w1, fr, ⟨rfl, _⟩, hc, _, hl⟩ := h [C4 P]
 obtain ⟨e', w2, fr', ⟨rfl, _⟩, hc', _, hl'⟩ := h' [C4 P]
 obtain ⟨n, hn⟩ := hc
 obtain ⟨n', hn'⟩ := hc'
 have key : ∀ (n n' : Nat) (fr fr' : Frame) (w1 w2 : World) (v : Value), fr.leaving P w1 (.returned v) -> n <= n' ->
   runN P n (lone (Frame.enter P f args .normal) [C4 P] w) = .next (lone fr [C4 P] w1) -> runN P n' (lone (Frame.enter P f args .normal) [C4 P] w) = .next (lone fr' [C4 P] w2) ->
   fr = fr' /\ w1 = w2 := by
  intro n n' fr fr' w1 w2 v hl hle h1 h2
  obtain ⟨d, rfl⟩ := Nat.exists_eq_add_of_le hle
  rw [Yk _ d _ _ h1] at h2
  have s1 : step P (lone fr [C4 P] w1) = .next (lone (C4 P) [] w1) := step_leave_returned hl
  match d, h2 with
  | 0, h2 =>
   simp only [runN, lone] at h2
   injection h2 with h2
   injection h2 with hw hg
   simp at hg
   exact ⟨hg, hw⟩
  | 1, h2 =>
   simp only [runN, s1] at h2
   injection h2 with h2
   injection h2 with hw hg
   simp at hg
  | d + 2, h2 =>
   obtain ⟨o, w', he⟩ := Wo (P := P) w1
   simp [runN, s1, he] at h2
 have hfr : fr = fr' /\ w1 = w2 := by
  rcases Nat.le_total n n' with hle | hle
  ·exact key n n' fr fr' w1 w2 v hl hle hn hn'
  ·obtain ⟨a, b⟩ := key n' n fr' fr w2 w1 v' hl' hle hn' hn
   exact ⟨a.symm, b.symm⟩
 obtain ⟨rfl, rfl⟩ := hfr
 obtain ⟨_, _, _, fn, hf, hr⟩ := hl
 obtain ⟨_, _, _, fn', hf', hr'⟩ := hl'
 rw [hf] at hf'
 obtain rfl := Option.some.inj hf'
 rw [hr] at hr'
 injection hr'

theorem Mw {o : Oper} {a : Act} {C C' : World -> Prop} {w : World} {v v' : Value} (h : o.quietAt P a C w v) (h' : o.quietAt P a C' w v') : v = v' := by
 unfold Oper.quietAt at h h'
 generalize (execOp a.eval o).run P w = r at *
 cases r with
 | ok n w' =>
  cases n <;> simp only [Oper.quietUpon] at h h'
  case value u => rw [<- h.2, <- h'.2]
  case skip => rw [h.2, h'.2]
  case enter f args => exact P2 h.2 h'.2
 | halt x w' => simp only [Oper.quietUpon] at h

/-! ### The quiet head, in every world that is reached -/
def YF (P : Program) (ops : Array Oper) (o : Oper) (v : Value) (a : Act) (w : World) : Prop :=
 (Region.wanted o (yielded ops a.tmps) = true /\ ∀ w1, Tr w w1 -> o.quietAt P a (Tr w1) w1 v) \/ (Region.wanted o (yielded ops a.tmps) = false /\ v = undef)
theorem YF.later {o : Oper} {v : Value} {a : Act} {w w' : World} (h : YF P ops o v a w) (ht : Tr w w') : YF P ops o v a w' :=
 h.imp (fun ⟨x, y⟩ => ⟨x, fun w1 h1 => y w1 (ht.trans h1)⟩) id
theorem Tc {o : Oper} {a : Act} {w w1 : World} {v : Value} (h : o.quietAt P a (Cl w) w1 v) : o.quietAt P a (Tr w) w1 v := by
 unfold Oper.quietAt at *
 generalize (execOp a.eval o).run P w1 = r at *
 cases r with
 | ok n w' =>
  cases n <;> simp only [Oper.quietUpon] at h ⊢ <;> first | exact h | exact ⟨h.1, h.2.mono fun _ _ hh => ⟨hh.1, hh.2.tr⟩⟩
 | halt x w' => simp only [Oper.quietUpon] at h
theorem Qp {Q : Act -> Prop} {o : Oper} {rest : List Oper} {a : Act} {w : World} (h : ∀ w1, Tr w w1 -> wpQuiet P ops (Cl w1) Q (o :: rest) a) :
  ∃ v, YF P ops o v a w /\ ∀ w1, Tr w w1 -> wpQuiet P ops (Cl w1) Q rest (a.put o.dst v) := by
 by_cases hw : Region.wanted o (yielded ops a.tmps) = true
 ·have h' : ∀ w1, Tr w w1 -> o.quiet P a (Cl w1) (wpQuiet P ops (Cl w1) Q rest) := fun w1 h1 => by
   have := h w1 h1
   simp only [wpQuiet, hw, if_true] at this
   exact this
  obtain ⟨v, hv, _⟩ := h' w (Tr.refl w)
  have e : ∀ w1, Tr w w1 -> o.quietAt P a (Cl w1) w1 v /\ wpQuiet P ops (Cl w1) Q rest (a.put o.dst v) := fun w1 h1 => by
   obtain ⟨v1, hv1, hn1⟩ := h' w1 h1
   have := Mw (hv w1 h1.cl) (hv1 w1 (Tr.refl w1).cl)
   subst this
   exact ⟨hv1 w1 (Tr.refl w1).cl, hn1⟩
  exact ⟨v, .inl ⟨hw, fun w1 h1 => Tc (e w1 h1).1⟩, fun w1 h1 => (e w1 h1).2⟩
 ·have hw' : Region.wanted o (yielded ops a.tmps) = false := by simpa using hw
  refine ⟨undef, .inr ⟨hw', rfl⟩, fun w1 h1 => ?_⟩
  have := h w1 h1
  simp only [wpQuiet, hw', Bool.false_eq_true, if_false] at this
  exact this

/-! ### One operation that does not panic -/
def F2 (P : Program) (o : Oper) (a : Act) (K : Act -> World -> Prop) : Result Next -> Prop
 | .ok (.value v) w' => K (a.put o.dst v) w'
 | .ok .skip w' => K (a.put o.dst undef) w'
 | .ok (.enter f args) w' => Calls P f args w' fun e w'' => ∃ v, e = .returned v /\ K (a.put o.dst v) w''
 | _ => False
def wpN (P : Program) (ops : Array Oper) (i : Nat) (K : Act -> World -> Prop) (a : Act) (w : World) : Prop :=
 match ops[i]? with
 | none => False
 | some o => if Region.wanted o (yielded ops a.tmps) then F2 P o a K ((execOp a.eval o).run P w) else K (a.put o.dst undef) w
theorem Sx {o : Oper} {a : Act} {K K' : Act -> World -> Prop} (h : ∀ v w, K (a.put o.dst v) w -> K' (a.put o.dst v) w) {r : Result Next} (hh : F2 P o a K r) : F2 P o a K' r := by
 cases r with
 | ok n w' =>
  cases n <;> simp only [F2] at hh ⊢ <;> first | exact h _ _ hh | exact hh.mono fun _ _ ⟨v, he, hk⟩ => ⟨v, he, h _ _ hk⟩
 | halt x w' => simp only [F2] at hh
theorem Qi {i : Nat} {a : Act} {w : World} {K K' : Act -> World -> Prop} (h : ∀ o v w, ops[i]? = some o -> K (a.put o.dst v) w -> K' (a.put o.dst v) w) (hh : wpN P ops i K a w) : wpN P ops i K' a w := by
 unfold wpN at *
 split
 ·rename_i ho;simp only [ho] at hh
 ·rename_i o ho
  simp only [ho] at hh
  split
  ·rename_i hw;simp only [hw, if_true] at hh;exact Sx (fun v w => h o v w ho) hh
  ·rename_i hw;simp only [hw] at hh;exact h o _ _ ho hh
theorem Rb {i : Nat} {a : Act} {w : World} {K : Act -> World -> Prop} {Q : Exit -> Act -> World -> Prop} (hh : wpN P ops i K a w) : wpOp P ops Q i K a w := by
 unfold wpN at hh
 unfold wpOp
 split
 ·rename_i ho;simp only [ho] at hh
 ·rename_i o ho
  simp only [ho] at hh
  split
  ·rename_i hw
   simp only [hw, if_true] at hh
   refine .inl ?_
   unfold Oper.wp
   generalize (execOp a.eval o).run P w = r at *
   cases r with
   | ok n w' =>
    cases n <;> simp only [F2] at hh <;> simp only [Oper.upon] <;> first | exact hh | exact hh.mono fun _ _ ⟨v, he, hk⟩ => by subst he;exact hk
   | halt x w' => simp only [F2] at hh
  ·rename_i hw;simp only [hw] at hh;exact hh
theorem Zz {j : Nat} {oi oj : Oper} {v : Value} (hj : ops[j]? = some oj) (hap : oi.apart ops oj = true) (hsj : ∀ cs b, oj.op ≠ .select cs b) {K : Act -> World -> Prop} {a : Act} {w : World}
  (h : wpN P ops j K (a.put oi.dst v) w) : wpN P ops j (fun a1 w1 => K (a1.put oi.dst v) w1) a w := by
 obtain ⟨h1, h2, h3⟩ := Oper.apart_spec hap
 unfold wpN at *
 simp only [hj] at *
 rw [wanted_put oj a oi.dst v h1] at h
 split
 ·rename_i hw
  simp only [hw, if_true] at h
  rw [execOp_put oj hsj a oi.dst v h1] at h
  generalize (execOp a.eval oj).run P w = r at *
  cases r with
  | ok n w' =>
   cases n <;> simp only [F2] at h ⊢
   case value u => rw [<- Act.put_comm a v u h2];exact h
   case skip => rw [<- Act.put_comm a v undef h2];exact h
   case enter f args => exact h.mono fun _ _ ⟨u, he, hk⟩ => ⟨u, he, by rw [<- Act.put_comm a v u h2];exact hk⟩
  | halt x w' => simp only [F2] at h
 ·rename_i hw
  simp only [hw] at h
  rw [<- Act.put_comm a v undef h2];exact h
theorem YF.put {oi oj : Oper} {v : Value} (hap : oi.apart ops oj = true) (hsi : ∀ cs b, oi.op ≠ .select cs b) {a : Act} {w : World} (hy : YF P ops oi v a w) (u : Value) : YF P ops oi v (a.put oj.dst u) w := by
 obtain ⟨h1, h2, h3⟩ := Oper.apart_spec hap
 unfold YF Oper.quietAt at *
 rw [execOp_put oi hsi a oj.dst u h3, wanted_put oi a oj.dst u h3]
 exact hy
theorem YF.wpN {i : Nat} {o : Oper} {v : Value} {a : Act} {w : World} (hi : ops[i]? = some o) (hy : YF P ops o v a w) {K : Act -> World -> Prop} (h : ∀ w1, Tr w w1 -> K (a.put o.dst v) w1) : wpN P ops i K a w := by
 unfold Go.Proofs.YtcfjofhapbkmfaaGreatDoor.wpN
 simp only [hi]
 rcases hy with ⟨hw, hv⟩ | ⟨hw, rfl⟩
 ·simp only [hw, if_true]
  have := hv w (Tr.refl w)
  unfold Oper.quietAt at this
  generalize (execOp a.eval o).run P w = r at *
  cases r with
  | ok n w' =>
   cases n <;> simp only [Oper.quietUpon] at this <;> simp only [F2]
   case value u => obtain ⟨rfl, rfl⟩ := this;exact h _ (Tr.refl _)
   case skip => obtain ⟨rfl, rfl⟩ := this;exact h _ (Tr.refl _)
   case enter f args =>
    obtain ⟨rfl, hc⟩ := this
    exact hc.mono fun _ _ ⟨he, ht⟩ => ⟨v, he, h _ ht⟩
  | halt x w' => simp only [Oper.quietUpon] at this
 ·simp only [hw, Bool.false_eq_true, if_false];exact h _ (Tr.refl _)

/-! ### Whatever order;as long as one of the first m operations has not come up, the world may grow in between -/
def Opn (m : Nat) (listed : Array Bool) : Prop := ∃ k, k < m /\ listed.getD k true = false
def wpT (P : Program) (md : Region.Mode) (ops : Array Oper) (Q : Exit -> Act -> World -> Prop) (m : Nat) : Nat -> Array Bool -> Act -> World -> Prop
 | 0, listed, a, w => ∀ w', Tr w w' -> wpAny P md ops Q 0 listed a w'
 | f + 1, listed, a, w =>
  (¬ Opn m listed -> ∀ w', Tr w w' -> wpAny P md ops Q (f + 1) listed a w') /\
  (Opn m listed -> ∀ w', Tr w w' -> Region.ready md ops listed ≠ [] /\ ∀ i ∈ Region.ready md ops listed, wpN P ops i (fun a1 w1 => Tr w' w1 /\ wpT P md ops Q m f (listed.setIfInBounds i true) a1 w1) a w')
theorem O8 {Q : Exit -> Act -> World -> Prop} {m f : Nat} {listed : Array Bool} {a : Act} {w w' : World} (h : wpT P md ops Q m f listed a w) (ht : Tr w w') : wpT P md ops Q m f listed a w' := by
 cases f with
 | zero => exact fun w1 h1 => h w1 (ht.trans h1)
 | succ f => exact ⟨fun ho w1 h1 => h.1 ho w1 (ht.trans h1), fun ho w1 h1 => h.2 ho w1 (ht.trans h1)⟩
theorem G4 {Q : Exit -> Act -> World -> Prop} {m : Nat} : ∀ (f : Nat) (listed : Array Bool) (a : Act) (w : World), wpT P md ops Q m f listed a w -> wpAny P md ops Q f listed a w
 | 0, _, _, w, h => h w (Tr.refl w)
 | f + 1, listed, a, w, h => by
  by_cases ho : Opn m listed
  ·obtain ⟨hne, hall⟩ := h.2 ho w (Tr.refl w)
   exact ⟨fun h0 => absurd h0 hne, fun i hi => Rb (Qi (fun o v w1 _ hk => G4 f _ _ _ hk.2) (hall i hi))⟩
  ·exact h.1 ho w (Tr.refl w)

theorem Wz {m i : Nat} {oi : Oper} {v : Value} {Q : Exit -> Act -> World -> Prop} (hi : ops[i]? = some oi) (hsel : ∀ (j : Nat) (o : Oper) cs b, ops[j]? = some o -> o.op ≠ .select cs b)
  (htail : ∀ listed, HeadInv md ops m listed -> ∀ k, k < m -> listed.getD k true = false -> ∀ t, m <= t -> t ∉ Region.ready md ops listed) (him : i < m) :
  ∀ (f : Nat) (listed : Array Bool) (a : Act) (w : World), HeadInv md ops m listed ->
   (∀ j oj, ops[j]? = some oj -> j ≠ i -> listed.getD j true = false -> (∀ e ∈ oj.after, Region.binds md e = true -> e.on ≠ i) -> oi.apart ops oj = true) ->
   i ∈ Region.ready md ops listed -> YF P ops oi v a w ->
   wpT P md ops Q m f (listed.setIfInBounds i true) (a.put oi.dst v) w -> wpT P md ops Q m (f + 1) listed a w := by
 intro f
 induction f with
 | zero =>
  intro listed a w inv _ hr hy H
  have hun := (mem_ready.1 hr).1
  refine ⟨fun ho => absurd ⟨i, him, hun⟩ ho, fun _ w' ht => ⟨fun h => (by rw [h] at hr;cases hr), fun j hj => ?_⟩⟩
  by_cases hji : j = i
  ·subst hji
   exact YF.wpN hi (hy.later ht) fun w1 h1 => ⟨h1, O8 H (ht.trans h1)⟩
  ·have := (H w (Tr.refl w)).1
   have h2 := ready_mono hj hji
   rw [this] at h2;cases h2
 | succ f ih =>
  intro listed a w inv hfree hr hy H
  have hun := (mem_ready.1 hr).1
  refine ⟨fun ho => absurd ⟨i, him, hun⟩ ho, fun _ w' ht => ⟨fun h => (by rw [h] at hr;cases hr), fun j hj => ?_⟩⟩
  by_cases hji : j = i
  ·subst hji
   exact YF.wpN hi (hy.later ht) fun w1 h1 => ⟨h1, O8 H (ht.trans h1)⟩
  ·have hjm : j < m := by
    rcases Nat.lt_or_ge j m with h | h
    ·exact h
    ·exact absurd hj (htail listed inv i him hun j h)
   obtain ⟨hjun, oj, hoj, hall⟩ := mem_ready.1 hj
   have ho' : Opn m (listed.setIfInBounds i true) := ⟨j, hjm, by rw [getD_set_ne true (Ne.symm hji)];exact hjun⟩
   have h1 := (H.2 ho' w' ht).2 j (ready_mono hj hji)
   have hnot : ∀ e ∈ oj.after, Region.binds md e = true -> e.on ≠ i := fun e he hb heq => by
    have h1 := hall e he hb
    rw [heq, getD_both hun] at h1
    cases h1
   have hap := hfree j oj hoj hji hjun hnot
   have h2 := Zz hoj hap (fun cs b => hsel j oj cs b hoj) h1
   have hfree' : ∀ k ok, ops[k]? = some ok -> k ≠ i -> (listed.setIfInBounds j true).getD k true = false ->
     (∀ e ∈ ok.after, Region.binds md e = true -> e.on ≠ i) -> oi.apart ops ok = true := fun k ok hk hki hun hno => by
    refine hfree k ok hk hki ?_ hno
    by_cases hjk : j = k
    ·subst hjk;exact hjun
    ·rw [getD_set_ne true hjk] at hun;exact hun
   refine Qi (fun o u w1 ho h3 => ⟨h3.1, ?_⟩) h2
   have : o = oj := Option.some.inj (ho.symm.trans hoj)
   subst this
   refine ih (listed.setIfInBounds j true) _ w1 (inv.set hj hjm) hfree' (ready_mono hr (Ne.symm hji)) ((hy.later (ht.trans h3.1)).put hap (fun cs b => hsel i oi cs b hi) u) ?_
   rw [Array.setIfInBounds_comm _ _ hji]
   exact h3.2

/-! ### The head in the order of the text -/
def Oo (md : Region.Mode) (ops : Array Oper) (fin : Array Bool -> Bool) : Nat -> Nat -> Array Bool -> Bool
 | 0, _, listed => fin listed
 | f + 1, k, listed => (Region.ready md ops listed).contains k && Region.free md ops listed k && Oo md ops fin f (k + 1) (listed.setIfInBounds k true)
theorem N8 {m g : Nat} {Q : Exit -> Act -> World -> Prop} {Lq : Act -> Prop} {fin : Array Bool -> Bool} {w : World} (hsel : Region.noSelect ops = true)
  (htail : ∀ listed, HeadInv md ops m listed -> ∀ k, k < m -> listed.getD k true = false -> ∀ t, m <= t -> t ∉ Region.ready md ops listed)
  (hfin : ∀ listed a, fin listed = true -> Lq a -> wpT P md ops Q m g listed a w) :
  ∀ (l : List Oper) (k : Nat) (listed : Array Bool) (a : Act), (∀ j, j < l.length -> l[j]? = ops[k + j]?) -> k + l.length <= m -> HeadInv md ops m listed ->
  Oo md ops fin l.length k listed = true -> (∀ w1, Tr w w1 -> wpQuiet P ops (Cl w1) Lq l a) -> wpT P md ops Q m (l.length + g) listed a w
 | [], k, listed, a, _, _, _, hB, h => by
  simp only [List.length_nil, Nat.zero_add]
  exact hfin listed a hB (h w (Tr.refl w))
 | o :: l, k, listed, a, hl, hk, inv, hB, h => by
  have h0 : ops[k]? = some o := by simpa using (hl 0 (by simp)).symm
  simp only [List.length_cons, Oo, Bool.and_eq_true] at hB
  obtain ⟨⟨hr, hf⟩, hB'⟩ := hB
  have hkm : k < m := by simp only [List.length_cons] at hk;omega
  have hr' : k ∈ Region.ready md ops listed := by simpa using hr
  obtain ⟨v, hy, hK⟩ := Qp h
  rw [show (o :: l).length + g = (l.length + g) + 1 by simp only [List.length_cons];omega]
  exact Wz h0 (Region.noSelect_spec hsel) htail hkm _ listed a w inv (Region.free_spec h0 hf) hr' hy
   (N8 hsel htail hfin l (k + 1) _ _ (fun j hj => by have := hl (j + 1) (by simp;omega);simpa [Nat.add_assoc, Nat.add_comm 1 j] using this) (by simp only [List.length_cons] at hk;omega) (inv.set hr' hkm) hB' hK)

def N9 (m : Nat) (listed : Array Bool) : Bool := (List.range m).all fun k => listed.getD k true
theorem Zj {m : Nat} {listed : Array Bool} (h : N9 m listed = true) : ¬ Opn m listed := fun ⟨k, hk, hf⟩ => by
 have := List.all_eq_true.1 h k (List.mem_range.2 hk)
 rw [hf] at this;cases this
def P9 (md : Region.Mode) (ops : Array Oper) (m : Nat) (listed : Array Bool) : Bool := N9 m listed && Region.seqB md ops (ops.size - m) m listed
def Xe (md : Region.Mode) (ops : Array Oper) (n : Nat) (listed : Array Bool) : Bool :=
 decide (Region.ready md ops listed = [n]) && P9 md ops (n + 1) (listed.setIfInBounds n true)
def Ms (md : Region.Mode) (ops : Array Oper) (n m : Nat) (fin : Array Bool -> Bool) : Bool :=
 Region.noSelect ops && decide (n <= m) && (decide (m = ops.size) || (decide (m < ops.size) && Region.sinkB md ops m && Region.chainB md ops m)) && Oo md ops fin n 0 (Array.replicate ops.size false)
theorem Pv {n m : Nat} {fin : Array Bool -> Bool} (h : Ms md ops n m fin = true) : ∀ listed, HeadInv md ops m listed -> ∀ k, k < m -> listed.getD k true = false -> ∀ t, m <= t -> t ∉ Region.ready md ops listed := by
 intro listed inv k hk hun t ht
 simp only [Ms, Bool.and_eq_true, Bool.or_eq_true, decide_eq_true_eq] at h
 rcases h.1.2 with h1 | ⟨⟨h1, hs⟩, hc⟩
 ·intro hr
  obtain ⟨_, ot, hot, _⟩ := mem_ready.1 hr
  have := (Array.getElem?_eq_some_iff.1 hot).1
  omega
 ·exact tail_waits hs hc h1 inv _ k rfl hk hun t ht

def MakesBlock (P : Program) (o : Oper) (z : Array Value) (t : TypeId) : Prop :=
 o.guard = none /\ ∀ (a : Act) (w : World), (execOp a.eval o).run P w = .ok (.value (.pointer (some ⟨w.heap.size, 0, none⟩))) (w.alloc (.cells z t))
theorem MakesBlock.wpN {o : Oper} {z : Array Value} {t : TypeId} {i : Nat} (h : MakesBlock P o z t) (hi : ops[i]? = some o) {K : Act -> World -> Prop} {a : Act} {w : World}
  (hk : K (a.put o.dst (.pointer (some ⟨w.heap.size, 0, none⟩))) (w.alloc (.cells z t))) : wpN P ops i K a w := by
 unfold Go.Proofs.YtcfjofhapbkmfaaGreatDoor.wpN
 simp only [hi]
 have : Region.wanted o (yielded ops a.tmps) = true := by unfold Region.wanted;rw [h.1]
 rw [if_pos this, h.2 a w]
 exact hk
theorem Xl (w : World) (o : Obj) : (w.alloc o).heap[w.heap.size]? = some o := by
 show (w.heap.push o)[w.heap.size]? = _
 simp
theorem Tr.at {w w' : World} (h : Tr w w') {b : Nat} {o : Obj} (hb : w.heap[b]? = some o) : w'.heap[b]? = some o := by
 rw [Below.block h b (Array.getElem?_eq_some_iff.1 hb).1];exact hb
end

section
variable {P : Program} {Q : Exit -> Act -> World -> Prop} {a : Act} {w : World} {l : List Oper} {id : Nat}
theorem Nl (m : Nat) (hm : m <= l.toArray.size) : HeadInv .any l.toArray m (Array.replicate l.toArray.size false) :=
 ⟨by simp, fun j oj _ hl => (by rw [getD_replicate_false] at hl;cases hl), fun t _ ht => getD_in (by simpa using ht) (getD_replicate_false _ _)⟩
theorem Qj {m : Nat} {listed : Array Bool} {w0 : World} (h : P9 .any l.toArray m listed = true) (hm : m <= l.length)
  (hk : ∀ w', Tr w0 w' -> wpList P l.toArray Q (l.drop m) a w') : wpT P .any l.toArray Q m (l.toArray.size - m) listed a w0 := by
 simp only [P9, Bool.and_eq_true] at h
 have hdl : (l.drop m).length = l.toArray.size - m := by simp
 have key : ∀ w', Tr w0 w' -> wpAny P .any l.toArray Q (l.toArray.size - m) listed a w' := fun w' ht => by
  have := wpAny_of_seq (md := .any) (Q' := Q) (l.drop m) m listed a w' (fun j => by simp [List.getElem?_drop]) (by rw [hdl];exact h.2) (hk w' ht)
  rwa [hdl] at this
 generalize l.toArray.size - m = g at *
 cases g with
 | zero => exact key
 | succ g => exact ⟨fun _ => key, fun ho => absurd ho (Zj h.1)⟩
theorem C6 (n : Nat) (hm : P.follows .mixedOrders = true) (hB : Ms .any l.toArray n n (P9 .any l.toArray n) = true)
  (h : ∀ w1, Tr w w1 -> wpQuiet P l.toArray (fun w' => ∃ p : Regrown, w' = grow (redrawn w1 p.d) p.os) (fun a' => ∀ w', Tr w w' -> wpList P l.toArray Q (l.drop n) a' w') (l.take n) a) : (Code.region id l.toArray true).wp P Q a w := by
 have hB0 := hB
 simp only [Ms, Bool.and_eq_true, Bool.or_eq_true, decide_eq_true_eq] at hB
 obtain ⟨⟨⟨hsel, _⟩, hsz⟩, hhead⟩ := hB
 have hn : n <= l.length := by rcases hsz with h | h <;> simp at h <;> omega
 have htl : (l.take n).length = n := by simp;omega
 refine wp_region_any hm (G4 (m := n) _ _ _ _ ?_)
 have H := N8 (md := .any) (P := P) (Q := Q) (g := l.toArray.size - n) (w := { w with drawn := w.drawn + 1 }) (fin := P9 .any l.toArray n) (Lq := fun a' => ∀ w', Tr w w' -> wpList P l.toArray Q (l.drop n) a' w') hsel (Pv hB0) (fun listed a' hf hL => Qj hf hn fun w' ht => hL w' ((Tr.drew w).trans ht)) (l.take n) 0 _ a
  (fun j hj => by rw [htl] at hj;simp [hj]) (by omega) (Nl n (by simpa using hn)) (by rw [htl];exact hhead)
  (fun w1 h1 => by
   have := h w1 ((Tr.drew w).trans h1)
   exact this)
 rw [htl, show n + (l.toArray.size - n) = l.toArray.size by simp;omega] at H
 exact H
theorem Ex (n : Nat) (z : Array Value) (t : TypeId) (o : Oper) (hm : P.follows .mixedOrders = true) (hB : Ms .any l.toArray n (n + 1) (Xe .any l.toArray n) = true) (ho : l[n]? = some o) (hz : MakesBlock P o z t)
  (h : ∀ w1, Tr w w1 -> wpQuiet P l.toArray (fun w' => ∃ p : Regrown, w' = grow (redrawn w1 p.d) p.os) (fun a' => ∀ (b : Nat) (w' : World), w.heap.size <= b -> Tr w w' -> w'.heap[b]? = some (.cells z t) ->
   wpList P l.toArray Q (l.drop (n + 1)) (a'.put o.dst (.pointer (some ⟨b, 0, none⟩))) w') (l.take n) a) : (Code.region id l.toArray true).wp P Q a w := by
 have hB0 := hB
 simp only [Ms, Bool.and_eq_true, Bool.or_eq_true, decide_eq_true_eq] at hB
 obtain ⟨⟨⟨hsel, _⟩, hsz⟩, hhead⟩ := hB
 have hn : n + 1 <= l.length := by rcases hsz with h | h <;> simp at h <;> omega
 have htl : (l.take n).length = n := by simp;omega
 refine wp_region_any hm (G4 (m := n + 1) _ _ _ _ ?_)
 have H := N8 (md := .any) (P := P) (Q := Q) (m := n + 1) (g := (l.toArray.size - (n + 1)) + 1) (w := { w with drawn := w.drawn + 1 }) (fin := Xe .any l.toArray n) (Lq := fun a' => ∀ (b : Nat) (w' : World), w.heap.size <= b -> Tr w w' -> w'.heap[b]? = some (.cells z t) ->
   wpList P l.toArray Q (l.drop (n + 1)) (a'.put o.dst (.pointer (some ⟨b, 0, none⟩))) w') hsel (Pv hB0) (fun listed a' hf hL => by
   simp only [Xe, Bool.and_eq_true, decide_eq_true_eq] at hf
   obtain ⟨hr, hf⟩ := hf
   refine ⟨fun hno => absurd ⟨n, by omega, (mem_ready.1 (by rw [hr];simp : n ∈ Region.ready .any l.toArray listed)).1⟩ hno, fun _ w' ht => ⟨by rw [hr];simp, fun i hi => ?_⟩⟩
   rw [hr] at hi
   obtain rfl : i = n := by simpa using hi
   exact hz.wpN (by simpa using ho) ⟨Tr.alloc _ _, Qj hf hn fun w'' ht'' =>
    hL _ w'' ht.size (((Tr.drew w).trans ht).trans ((Tr.alloc _ _).trans ht'')) (ht''.at (Xl _ _))⟩) (l.take n) 0 _ a
  (fun j hj => by rw [htl] at hj;simp [hj]) (by omega) (Nl (n + 1) (by simpa using hn)) (by rw [htl];exact hhead)
  (fun w1 h1 => by
   have := h w1 ((Tr.drew w).trans h1)
   exact this)
 rw [htl, show n + ((l.toArray.size - (n + 1)) + 1) = l.toArray.size by simp;omega] at H
 exact H
end

/-! ### Small words for the walks -/
theorem Tr.al {w w1 : World} (h : Tr w w1) (o : Obj) : Tr w (w1.alloc o) := h.trans (Tr.alloc _ _)
theorem Tr.dr {w w1 : World} (h : Tr w w1) : Tr w w1.drew := Below.drew h
theorem Tr.drN {w w1 : World} (h : Tr w w1) (n : Nat) : Tr w (w1.drewN n) := h.trans ⟨rfl, rfl, rfl, Nat.le_refl _, fun _ _ => rfl⟩
theorem Tr.set {w w1 : World} (h : Tr w w1) {p : Addr} (hp : w.heap.size <= p.block) (u : Value) : Tr w (w1.setCell p u) := Below.setCell h hp u
theorem Tr.cell {w w1 : World} (h : Tr w w1) {a : Addr} {v : Value} (hc : w.cell? a = some v) : w1.cell? a = some v := by
 rw [Below.cell h (block_lt_of_cell hc)];exact hc
theorem Y1 {w w1 : World} (h : Tr w w1) {a : Addr} {v : Value} (hc : w.cell? a = some v) : ∀ d os, (grow (redrawn w1 d) os).cell? a = some v :=
 fun d os => cell_regrown (h.cell hc) d os
theorem Be {P : Program} {f : FuncId} {args : Array Value} {w : World} {d : Nat} {os : Array Obj} {v : Value}
  (h : Calls P f args (grow (redrawn w d) os) fun e w' => e = .returned v /\ Tr (grow (redrawn w d) os) w') : Calls P f args (grow (redrawn w d) os) fun e w'' => e = .returned v /\ ∃ p : Regrown, w'' = grow (redrawn w p.d) p.os :=
 Calls.regrown_of h
theorem Fg {P : Program} {f : FuncId} {args : Array Value} {w : World} {d : Nat} {os : Array Obj} {v : Value}
  (h : Calls P f args (grow (redrawn w d) os) fun e w' => e = .returned v /\ grow (redrawn w d) os = w') : Calls P f args (grow (redrawn w d) os) fun e w'' => e = .returned v /\ ∃ p : Regrown, w'' = grow (redrawn w p.d) p.os :=
 Be (h.mono fun _ _ ⟨he, hw⟩ => ⟨he, hw ▸ Tr.refl _⟩)
def Keep (w : World) : List (Addr × Value) -> Prop
 | [] => True
 | p :: l => (w.cell? p.1 = some p.2 /\ w.frozen? p.1 = false /\ p.1.block < w.heap.size) /\ Keep w l
theorem Keep.tr {w w1 : World} : ∀ {l : List (Addr × Value)}, Keep w l -> Tr w w1 -> Keep w1 l
 | [], _, _ => trivial
 | p :: _, h, ht => ⟨⟨ht.cell h.1.1, by rw [Below.frozen ht (block_lt_of_cell h.1.1)];exact h.1.2.1, Nat.lt_of_lt_of_le h.1.2.2 (Below.size ht)⟩, Keep.tr h.2 ht⟩
def Da (w : World) : List (Addr × Value) -> Prop
 | [] => True
 | p :: l => (∀ d os, (grow (redrawn w d) os).cell? p.1 = some p.2) /\ Da w l
theorem Keep.cl {w w1 : World} : ∀ {l : List (Addr × Value)}, Keep w l -> Tr w w1 -> Da w1 l
 | [], _, _ => trivial
 | p :: _, h, ht => ⟨Y1 ht h.1.1, Keep.cl h.2 ht⟩
theorem Keep.block {w : World} {b : Nat} {c : Array Value} {t : TypeId} (h : w.heap[b]? = some (.cells c t)) : ∀ {l : List (Addr × Value)}, (∀ p ∈ l, p.1.block = b /\ p.1.spot = none /\ c[p.1.off]? = some p.2) -> Keep w l
 | [], _ => trivial
 | p :: l, hl => by
  obtain ⟨rfl, h2, h3⟩ := hl p (by simp)
  exact ⟨⟨by simp [World.cell?, h, h2, h3], by simp [World.frozen?, h], lt_of_block h⟩, Keep.block h fun q hq => hl q (by simp [hq])⟩
theorem Keep.at2 {w : World} {b : Nat} {u v : Value} {t : TypeId} (h : w.heap[b]? = some (.cells #[u, v] t)) : Keep w [(⟨b, 0, none⟩, u), (⟨b, 1, none⟩, v)] :=
 Keep.block h (by simp)
theorem A4 (w : World) (b o b' o' : Nat) (v : Value) (h : b ≠ b') : (w.setCell ⟨b, o, none⟩ v).cell? ⟨b', o', none⟩ = w.cell? ⟨b', o', none⟩ :=
 by rw [World.cell?_setCell_other];intro e;injection e with e1 e2;exact h (by assumption)
theorem A5 (w : World) (b o o' : Nat) (v : Value) (h : o ≠ o') : (w.setCell ⟨b, o, none⟩ v).cell? ⟨b, o', none⟩ = w.cell? ⟨b, o', none⟩ :=
 by rw [World.cell?_setCell_other];intro e;injection e with e1 e2;exact h (by assumption)
theorem A1 (w : World) (b o : Nat) (h : w.heap.size <= b) : w.frozen? ⟨b, o, none⟩ = false := by
 unfold World.frozen?
 rw [Array.getElem?_eq_none h]
theorem Cx {P : Program} {c : Code} {Q : Exit -> Act -> World -> Prop} {a : Act} {w0 W : World} (l : List (Addr × Value)) (hK : Keep W l) (hT : Tr w0 W)
  (h : ∀ w2, W.heap.size = w2.heap.size -> Keep w2 l -> Tr w0 w2 -> c.wp P Q a w2) : c.wp P Q a W := h W rfl hK hT
end Go.Proofs.YtcfjofhapbkmfaaGreatDoor
namespace Go.Proofs.YtcfjofhapbkmfaaGreatDoor
open Go.RowKit Go.Sort
theorem Zh (p q : Int) (hp : 0 <= p) (hq : 0 <= q) : (p / 18446744073709551616 < q / 18446744073709551616 \/ p / 18446744073709551616 = q / 18446744073709551616 /\ p % 18446744073709551616 < q % 18446744073709551616) ↔ p < q := by omega
theorem Ho {a b : Bool} (h : a = b) : Ending.returned (.bool a) = .returned (.bool b) := by rw [h]
end Go.Proofs.YtcfjofhapbkmfaaGreatDoor
namespace Go.Proofs.YtcfjofhapbkmfaaGreatDoor
def Bd (n d : Int) : Bool := decide (1 <= d) && decide (d <= 1152921504606846976) && decide (-1152921504606846976 <= n) && decide (n <= 1152921504606846976) && (Int.gcd n d == 1)
theorem validB_spec {n d : Int} : Bd n d = true ↔ 1 <= d /\ d <= 1152921504606846976 /\ -1152921504606846976 <= n /\ n <= 1152921504606846976 /\ Int.gcd n d = 1 := by
 unfold Bd
 simp only [Bool.and_eq_true, decide_eq_true_eq, beq_iff_eq, and_assoc]
theorem U0 {n d : Int} (h : ¬ (1 <= d /\ d <= 1152921504606846976 /\ -1152921504606846976 <= n /\ n <= 1152921504606846976 /\ Int.gcd n d = 1)) : Bd n d = false := by
 rw [Bool.eq_false_iff];intro hh;exact h (validB_spec.1 hh)
end Go.Proofs.YtcfjofhapbkmfaaGreatDoor
namespace Go.Proofs.YtcfjofhapbkmfaaGreatDoor
open Go.RowKit Go.Sort
theorem Qo (lo y : Int) (w : World) (h1 : 0 <= lo) (h2 : lo < 18446744073709551616) (h3 : 1 <= y) (h4 : y < 18446744073709551616) :
  Calls Tryz.prog 240 #[.int .u64 0, .int .u64 lo, .int .u64 y] w fun e w' => e = .returned (.tuple #[.int .u64 (lo / y), .int .u64 (lo % y)]) /\ Tr w w' := by
 have g1 : (y == 0) = false := by simp;omega
 have g2 : ¬ y <= 0 := by omega
 go_enter Tryz.func240, Tryz.ntmps240
 go_wp2
 go_quiet (fail)
 go_wp2
 go_ret2
 exact ⟨rfl, (Tr.refl _).drN _⟩

theorem Di (u y1 y0 n q r Y Q : Int) (hY : Y = y1 * 4294967296 + y0) (hq : q * y1 + r = u) (hQ : Q * Y <= u * 4294967296 + n) (hQ' : Q < 4294967296) (hY0 : 0 < Y)
  (ht : 4294967296 <= q \/ 4294967296 * r + n < q * y0) : Q <= q - 1 := by
 rcases ht with h | h
 ·omega
 ·have : u * 4294967296 + n < q * Y := by rw [hY, <- hq, Int.mul_add, <- Int.mul_assoc, Int.add_mul];omega
  have h2 : Q * Y < q * Y := by omega
  have := Int.lt_of_mul_lt_mul_right h2 (by omega)
  omega
theorem G3 (u y1 y0 n q r Y Q : Int) (hY : Y = y1 * 4294967296 + y0) (hq : q * y1 + r = u) (hQ : u * 4294967296 + n < (Q + 1) * Y) (hY0 : 0 < Y)
  (ht : q * y0 <= 4294967296 * r + n) : q <= Q := by
 have : q * Y <= u * 4294967296 + n := by rw [hY, <- hq, Int.mul_add, <- Int.mul_assoc, Int.add_mul];omega
 have h2 : q * Y < (Q + 1) * Y := by omega
 have := Int.lt_of_mul_lt_mul_right h2 (by omega)
 omega
theorem Bt (q y0 : Int) (h0 : 0 <= q) (h1 : q < 4294967296) (h2 : 0 <= y0) (h3 : y0 < 4294967296) : 0 <= q * y0 /\ q * y0 <= 18446744065119617025 := by
 refine ⟨Int.mul_nonneg h0 h2, ?_⟩
 have := Int.mul_le_mul (show q <= 4294967295 by omega) (show y0 <= 4294967295 by omega) h2 (by omega)
 omega
theorem Cw (u y1 y0 n q r Y Q : Int) (hY : Y = y1 * 4294967296 + y0) (hq : q * y1 + r = u) (hu : u < Y) (hQ : u * 4294967296 + n < (Q + 1) * Y) (hY0 : 0 < Y) (h0 : 0 <= q) (hy0 : 0 <= y0) (hy0' : y0 < 4294967296) (hy1 : 0 < y1) (hn : 0 <= n)
  (hr : 4294967296 <= r) : q <= Q := by
 have h1 : q < 4294967296 := by
  have : q * y1 < 4294967296 * y1 := by omega
  exact Int.lt_of_mul_lt_mul_right this (by omega)
 have h2 := Bt q y0 h0 h1 hy0 hy0'
 exact G3 u y1 y0 n q r Y Q hY hq hQ hY0 (by omega)
theorem Ef (q y1 r u : Int) (h : q * y1 + r = u) : (q - 1) * y1 + (r + y1) = u := by rw [Int.sub_mul];omega

set_option maxRecDepth 100000 in
set_option maxHeartbeats 4000000 in
theorem Sn (hi lo y s Y y1 y0 u32 u10 u1 u0 q0 m0 Q1 R1 q2 m2 Q0 R0 : Int) (w : World) (h0 : 1 <= hi) (h0' : hi < y) (h1 : 0 <= lo) (h2 : lo < 18446744073709551616) (h4 : y < 18446744073709551616)
  (hs0 : 0 <= s) (hs1 : s <= 63) (hs : (64 - (Lib.bitLen y.toNat : Int)) = s) (hY : IntKind.u64.wrap (y * 2 ^ s.toNat) = Y) (hY1 : 9223372036854775808 <= Y) (hY2 : Y < 18446744073709551616)
  (hy1 : Y / 4294967296 = y1) (hy0 : bits .and .u64 Y 4294967295 = y0) (b1 : 2147483648 <= y1) (b2 : y1 < 4294967296) (b3 : 0 <= y0) (b4 : y0 < 4294967296)
  (hu : bits .or .u64 (IntKind.u64.wrap (hi * 2 ^ s.toNat)) (lo / 2 ^ (64 - s).toNat) = u32) (b5 : 0 <= u32) (b6 : u32 < Y)
  (hl : IntKind.u64.wrap (lo * 2 ^ s.toNat) = u10) (hl1 : u10 / 4294967296 = u1) (hl0 : bits .and .u64 u10 4294967295 = u0) (b7 : 0 <= u10) (b7' : u10 < 18446744073709551616)
  (b8 : 0 <= u1) (b9 : u1 < 4294967296) (b10 : 0 <= u0) (b11 : u0 < 4294967296)
  (hq : u32 / y1 = q0) (c1 : 0 <= q0) (c2 : q0 <= 4294967297) (hm : q0 * y1 = m0) (c3 : 0 <= m0) (c4 : m0 <= u32) (c5 : u32 - m0 < 4294967296)
  (k1 : Hid (Y = y1 * 4294967296 + y0)) (k2 : Hid (Q1 * Y <= u32 * 4294967296 + u1)) (k3 : Hid (u32 * 4294967296 + u1 < (Q1 + 1) * Y)) (c6 : 0 <= Q1) (c7 : Q1 < 4294967296) (c8 : Q1 <= q0)
  (hR : IntKind.u64.wrap (IntKind.u64.wrap (IntKind.u64.wrap (u32 * 4294967296) + u1) - IntKind.u64.wrap (Q1 * Y)) = R1) (d1 : 0 <= R1) (d2 : R1 < Y)
  (hq2 : R1 / y1 = q2) (e1 : 0 <= q2) (e2 : q2 <= 4294967297) (hm2 : q2 * y1 = m2) (e3 : 0 <= m2) (e4 : m2 <= R1) (e5 : R1 - m2 < 4294967296)
  (l2 : Hid (Q0 * Y <= R1 * 4294967296 + u0)) (l3 : Hid (R1 * 4294967296 + u0 < (Q0 + 1) * Y)) (e6 : 0 <= Q0) (e7 : Q0 < 4294967296) (e8 : Q0 <= q2)
  (hR0 : IntKind.u64.wrap (IntKind.u64.wrap (IntKind.u64.wrap (R1 * 4294967296) + u0) - IntKind.u64.wrap (Q0 * Y)) = R0) (f1 : 0 <= R0) (f2 : R0 < 18446744073709551616) :
  Calls Tryz.prog 240 #[.int .u64 hi, .int .u64 lo, .int .u64 y] w fun e w' => e = .returned (.tuple #[.int .u64 (Q1 * 4294967296 + Q0), .int .u64 (R0 / 2 ^ s.toNat)]) /\ Tr w w' := by
 have g1 : (y == 0) = false := by simp;omega
 have g2 : ¬ y <= hi := by omega
 have g3 : (hi == 0) = false := by simp;omega
 have g4 : ¬ y1 = 0 := by omega
 have HS := Lib.hid hs
 clear hs
 go_enter Tryz.func240, Tryz.ntmps240
 go_wp2_with (go_at_call 262;refine (Tryz.bits_LeadingZeros64 y _ (by omega) (by omega)).mono ?_;rintro e w' ⟨rfl, rfl⟩;rw [HS.out])
 go_loop [15, 16] (fun a b => ∃ q r : Int, a = .int .u64 q /\ b = .int .u64 r /\ Hid (q * y1 + r = u32) /\ 0 <= q /\ q <= 4294967297 /\ 0 <= r /\ r < 4294967296 /\ Q1 <= q) (fun a _ => (intOf a).toNat)
 case atStart => exact ⟨q0, u32 - m0, by rw [hq], by first | rfl|(rw [hq, hm]), (by rw [hm];show m0 + _ = _;omega), c1, c2, by omega, by omega, c8⟩
 case round =>
  obtain ⟨q, r, rfl, rfl, hqr, a1, a2, a3, a4, a5⟩ := hrel
  by_cases t1 : 4294967296 <= q
  ·have p1 : Q1 <= q - 1 := Di u32 y1 y0 u1 q r Y Q1 k1.out hqr.out k2.out c7 (by omega) (.inl t1)
   have hst : Hid ((q - 1) * y1 + (r + y1) = u32) := Ef q y1 r u32 hqr.out
   by_cases t3 : 4294967296 <= r + y1
   ·have p2 : q - 1 <= Q1 := Cw u32 y1 y0 u1 (q - 1) (r + y1) Y Q1 k1.out hst.out b6 k3.out (by omega) (by omega) b3 b4 (by omega) b8 t3
    have p3 : q - 1 = Q1 := by omega
    clear p1 p2
    go_wp2
    go_loop [18, 16] (fun a b => ∃ q r : Int, a = .int .u64 q /\ b = .int .u64 r /\ Hid (q * y1 + r = R1) /\ 0 <= q /\ q <= 4294967297 /\ 0 <= r /\ r < 4294967296 /\ Q0 <= q) (fun a _ => (intOf a).toNat)
    case atStart => exact ⟨q2, R1 - m2, by first | rfl|(rw [hq2]), by first | rfl|(rw [hq2, hm2]), (by rw [hm2];show m2 + _ = _;omega), e1, e2, by omega, by omega, e8⟩
    case round =>
     obtain ⟨q, r, rfl, rfl, hqr, a1, a2, a3, a4, a5⟩ := hrel
     by_cases t1 : 4294967296 <= q
     ·have p1 : Q0 <= q - 1 := Di R1 y1 y0 u0 q r Y Q0 k1.out hqr.out l2.out e7 (by omega) (.inl t1)
      have hst : Hid ((q - 1) * y1 + (r + y1) = R1) := Ef q y1 r R1 hqr.out
      by_cases t3 : 4294967296 <= r + y1
      ·have p2 : q - 1 <= Q0 := Cw R1 y1 y0 u0 (q - 1) (r + y1) Y Q0 k1.out hst.out d2 l3.out (by omega) (by omega) b3 b4 (by omega) b10 t3
       have p3 : q - 1 = Q0 := by omega
       clear p1 p2
       go_wp2
       go_ret2
       exact ⟨rfl, Tr.refl _⟩
      ·go_wp2
       go_round
       case rel => exact ⟨q - 1, r + y1, rfl, rfl, hst, by omega, by omega, by omega, by omega, p1⟩
       case measure => simp [intOf];omega
     ·by_cases t2 : 4294967296 * r + u0 < q * y0
      ·have p1 : Q0 <= q - 1 := Di R1 y1 y0 u0 q r Y Q0 k1.out hqr.out l2.out e7 (by omega) (.inr t2)
       have hst : Hid ((q - 1) * y1 + (r + y1) = R1) := Ef q y1 r R1 hqr.out
       obtain ⟨x1, x2⟩ := Bt q y0 a1 (by omega) b3 b4
       by_cases t3 : 4294967296 <= r + y1
       ·have p2 : q - 1 <= Q0 := Cw R1 y1 y0 u0 (q - 1) (r + y1) Y Q0 k1.out hst.out d2 l3.out (by omega) (by omega) b3 b4 (by omega) b10 t3
        have p3 : q - 1 = Q0 := by omega
        clear p1 p2
        go_wp2
        go_ret2
        exact ⟨rfl, Tr.refl _⟩
       ·go_wp2
        go_round
        case rel => exact ⟨q - 1, r + y1, rfl, rfl, hst, by omega, by omega, by omega, by omega, p1⟩
        case measure => simp [intOf];omega
      ·obtain ⟨x1, x2⟩ := Bt q y0 a1 (by omega) b3 b4
       have p2 : q <= Q0 := G3 R1 y1 y0 u0 q r Y Q0 k1.out hqr.out l3.out (by omega) (by omega)
       obtain rfl : Q0 = q := by omega
       clear p2
       go_wp2
       go_ret2
       exact ⟨rfl, Tr.refl _⟩
   ·go_wp2
    go_round
    case rel => exact ⟨q - 1, r + y1, rfl, rfl, hst, by omega, by omega, by omega, by omega, p1⟩
    case measure => simp [intOf];omega
  ·by_cases t2 : 4294967296 * r + u1 < q * y0
   ·have p1 : Q1 <= q - 1 := Di u32 y1 y0 u1 q r Y Q1 k1.out hqr.out k2.out c7 (by omega) (.inr t2)
    have hst : Hid ((q - 1) * y1 + (r + y1) = u32) := Ef q y1 r u32 hqr.out
    obtain ⟨x1, x2⟩ := Bt q y0 a1 (by omega) b3 b4
    by_cases t3 : 4294967296 <= r + y1
    ·have p2 : q - 1 <= Q1 := Cw u32 y1 y0 u1 (q - 1) (r + y1) Y Q1 k1.out hst.out b6 k3.out (by omega) (by omega) b3 b4 (by omega) b8 t3
     have p3 : q - 1 = Q1 := by omega
     clear p1 p2
     go_wp2
     go_loop [18, 16] (fun a b => ∃ q r : Int, a = .int .u64 q /\ b = .int .u64 r /\ Hid (q * y1 + r = R1) /\ 0 <= q /\ q <= 4294967297 /\ 0 <= r /\ r < 4294967296 /\ Q0 <= q) (fun a _ => (intOf a).toNat)
     case atStart => exact ⟨q2, R1 - m2, by first | rfl|(rw [hq2]), by first | rfl|(rw [hq2, hm2]), (by rw [hm2];show m2 + _ = _;omega), e1, e2, by omega, by omega, e8⟩
     case round =>
      obtain ⟨q, r, rfl, rfl, hqr, a1, a2, a3, a4, a5⟩ := hrel
      by_cases t1 : 4294967296 <= q
      ·have p1 : Q0 <= q - 1 := Di R1 y1 y0 u0 q r Y Q0 k1.out hqr.out l2.out e7 (by omega) (.inl t1)
       have hst : Hid ((q - 1) * y1 + (r + y1) = R1) := Ef q y1 r R1 hqr.out
       by_cases t3 : 4294967296 <= r + y1
       ·have p2 : q - 1 <= Q0 := Cw R1 y1 y0 u0 (q - 1) (r + y1) Y Q0 k1.out hst.out d2 l3.out (by omega) (by omega) b3 b4 (by omega) b10 t3
        have p3 : q - 1 = Q0 := by omega
        clear p1 p2
        go_wp2
        go_ret2
        exact ⟨rfl, Tr.refl _⟩
       ·go_wp2
        go_round
        case rel => exact ⟨q - 1, r + y1, rfl, rfl, hst, by omega, by omega, by omega, by omega, p1⟩
        case measure => simp [intOf];omega
      ·by_cases t2 : 4294967296 * r + u0 < q * y0
       ·have p1 : Q0 <= q - 1 := Di R1 y1 y0 u0 q r Y Q0 k1.out hqr.out l2.out e7 (by omega) (.inr t2)
        have hst : Hid ((q - 1) * y1 + (r + y1) = R1) := Ef q y1 r R1 hqr.out
        obtain ⟨x1, x2⟩ := Bt q y0 a1 (by omega) b3 b4
        by_cases t3 : 4294967296 <= r + y1
        ·have p2 : q - 1 <= Q0 := Cw R1 y1 y0 u0 (q - 1) (r + y1) Y Q0 k1.out hst.out d2 l3.out (by omega) (by omega) b3 b4 (by omega) b10 t3
         have p3 : q - 1 = Q0 := by omega
         clear p1 p2
         go_wp2
         go_ret2
         exact ⟨rfl, Tr.refl _⟩
        ·go_wp2
         go_round
         case rel => exact ⟨q - 1, r + y1, rfl, rfl, hst, by omega, by omega, by omega, by omega, p1⟩
         case measure => simp [intOf];omega
       ·obtain ⟨x1, x2⟩ := Bt q y0 a1 (by omega) b3 b4
        have p2 : q <= Q0 := G3 R1 y1 y0 u0 q r Y Q0 k1.out hqr.out l3.out (by omega) (by omega)
        obtain rfl : Q0 = q := by omega
        clear p2
        go_wp2
        go_ret2
        exact ⟨rfl, Tr.refl _⟩
    ·go_wp2
     go_round
     case rel => exact ⟨q - 1, r + y1, rfl, rfl, hst, by omega, by omega, by omega, by omega, p1⟩
     case measure => simp [intOf];omega
   ·obtain ⟨x1, x2⟩ := Bt q y0 a1 (by omega) b3 b4
    have p2 : q <= Q1 := G3 u32 y1 y0 u1 q r Y Q1 k1.out hqr.out k3.out (by omega) (by omega)
    obtain rfl : Q1 = q := by omega
    clear p2
    go_wp2
    go_loop [18, 16] (fun a b => ∃ q r : Int, a = .int .u64 q /\ b = .int .u64 r /\ Hid (q * y1 + r = R1) /\ 0 <= q /\ q <= 4294967297 /\ 0 <= r /\ r < 4294967296 /\ Q0 <= q) (fun a _ => (intOf a).toNat)
    case atStart => exact ⟨q2, R1 - m2, by first | rfl|(rw [hq2]), by first | rfl|(rw [hq2, hm2]), (by rw [hm2];show m2 + _ = _;omega), e1, e2, by omega, by omega, e8⟩
    case round =>
     obtain ⟨q, r, rfl, rfl, hqr, a1, a2, a3, a4, a5⟩ := hrel
     by_cases t1 : 4294967296 <= q
     ·have p1 : Q0 <= q - 1 := Di R1 y1 y0 u0 q r Y Q0 k1.out hqr.out l2.out e7 (by omega) (.inl t1)
      have hst : Hid ((q - 1) * y1 + (r + y1) = R1) := Ef q y1 r R1 hqr.out
      by_cases t3 : 4294967296 <= r + y1
      ·have p2 : q - 1 <= Q0 := Cw R1 y1 y0 u0 (q - 1) (r + y1) Y Q0 k1.out hst.out d2 l3.out (by omega) (by omega) b3 b4 (by omega) b10 t3
       have p3 : q - 1 = Q0 := by omega
       clear p1 p2
       go_wp2
       go_ret2
       exact ⟨rfl, Tr.refl _⟩
      ·go_wp2
       go_round
       case rel => exact ⟨q - 1, r + y1, rfl, rfl, hst, by omega, by omega, by omega, by omega, p1⟩
       case measure => simp [intOf];omega
     ·by_cases t2 : 4294967296 * r + u0 < q * y0
      ·have p1 : Q0 <= q - 1 := Di R1 y1 y0 u0 q r Y Q0 k1.out hqr.out l2.out e7 (by omega) (.inr t2)
       have hst : Hid ((q - 1) * y1 + (r + y1) = R1) := Ef q y1 r R1 hqr.out
       obtain ⟨x1, x2⟩ := Bt q y0 a1 (by omega) b3 b4
       by_cases t3 : 4294967296 <= r + y1
       ·have p2 : q - 1 <= Q0 := Cw R1 y1 y0 u0 (q - 1) (r + y1) Y Q0 k1.out hst.out d2 l3.out (by omega) (by omega) b3 b4 (by omega) b10 t3
        have p3 : q - 1 = Q0 := by omega
        clear p1 p2
        go_wp2
        go_ret2
        exact ⟨rfl, Tr.refl _⟩
       ·go_wp2
        go_round
        case rel => exact ⟨q - 1, r + y1, rfl, rfl, hst, by omega, by omega, by omega, by omega, p1⟩
        case measure => simp [intOf];omega
      ·obtain ⟨x1, x2⟩ := Bt q y0 a1 (by omega) b3 b4
       have p2 : q <= Q0 := G3 R1 y1 y0 u0 q r Y Q0 k1.out hqr.out l3.out (by omega) (by omega)
       obtain rfl : Q0 = q := by omega
       clear p2
       go_wp2
       go_ret2
       exact ⟨rfl, Tr.refl _⟩
theorem A0r (a b Q : Int) (hb : 0 < b) (h : Q * b <= a) : Q <= a / b := (Int.le_ediv_iff_mul_le hb).2 h
theorem Lx (a b Q : Int) (hb : 0 < b) (h : a < Q * b) : a / b < Q := (Int.ediv_lt_iff_lt_mul hb).2 h
theorem Er (a b : Int) (hb : 0 < b) : a = (a / b) * b + a % b /\ 0 <= a % b /\ a % b < b :=
 ⟨by have := Int.mul_ediv_add_emod a b;rw [Int.mul_comm] at this;omega, Int.emod_nonneg _ (by omega), Int.emod_lt_of_pos _ hb⟩
theorem H8 (U y q r : Int) (h : U = q * y + r) (h0 : 0 <= r) (h1 : r < y) : U / y = q /\ U % y = r := by
 constructor
 ·rw [h, Int.mul_comm, Int.mul_add_ediv_left _ _ (by omega), Int.ediv_eq_zero_of_lt h0 h1];omega
 ·rw [h, Int.add_comm, Int.mul_comm, Int.add_mul_emod_self_left];exact Int.emod_eq_of_lt h0 h1
theorem Jp (u y1 y0 n Y : Int) (hY : Y = y1 * 4294967296 + y0) (h1 : 2147483648 <= y1) (h3 : 0 <= y0) (h4 : y0 < 4294967296) (h5 : 0 <= u) (h6 : u < Y) (h7 : 0 <= n) (h8 : n < 4294967296) :
  0 <= u / y1 /\ u / y1 <= 4294967297 /\ 0 <= u / y1 * y1 /\ u / y1 * y1 <= u /\ u - u / y1 * y1 < y1 /\
  (u * 4294967296 + n) / Y * Y <= u * 4294967296 + n /\ u * 4294967296 + n < ((u * 4294967296 + n) / Y + 1) * Y /\ 0 <= (u * 4294967296 + n) / Y /\ (u * 4294967296 + n) / Y < 4294967296 /\ (u * 4294967296 + n) / Y <= u / y1 := by
 obtain ⟨e1, e2, e3⟩ := Er u y1 (by omega)
 obtain ⟨f1, f2, f3⟩ := Er (u * 4294967296 + n) Y (by omega)
 have q0 : 0 <= u / y1 := Int.ediv_nonneg h5 (by omega)
 have Q0 : 0 <= (u * 4294967296 + n) / Y := Int.ediv_nonneg (by omega) (by omega)
 refine ⟨q0, ?_, Int.mul_nonneg q0 (by omega), by omega, by omega, by omega, ?_, Q0, ?_, ?_⟩
 ·have : u / y1 < 4294967298 := Lx _ _ _ (by omega) (by omega)
  omega
 ·rw [Int.add_mul];omega
 ·exact Lx _ _ _ (by omega) (by omega)
 ·refine A0r _ _ _ (by omega) ?_
  have g : (u * 4294967296 + n) / Y * Y = (u * 4294967296 + n) / Y * y1 * 4294967296 + (u * 4294967296 + n) / Y * y0 := by
   conv => lhs;rw [hY]
   rw [Int.mul_add, Int.mul_assoc, <- hY]
  have g2 : 0 <= (u * 4294967296 + n) / Y * y0 := Int.mul_nonneg Q0 h3
  omega
theorem Ff (n : Int) (h₀ : 0 <= n) (h₁ : n < 2 ^ 64) : IntKind.u64.wrap n = n := by rw [Ax];omega
theorem Qk (u n Q Y R : Int) (h : u * 4294967296 + n = Q * Y + R) (h0 : 0 <= R) (h1 : R < 18446744073709551616) :
  IntKind.u64.wrap (IntKind.u64.wrap (IntKind.u64.wrap (u * 4294967296) + n) - IntKind.u64.wrap (Q * Y)) = R := by
 simp only [Ax]
 generalize Q * Y = z at *
 omega
theorem Gn (x : Int) (h0 : 0 <= x) (h1 : x < 18446744073709551616) : bits .and .u64 x 4294967295 = x % 4294967296 :=
 bits_mask .u64 64 (by decide) Ff 32 (by decide) x h0 (by simpa using h1)
set_option maxRecDepth 100000 in
theorem Uk (hi lo y : Int) (w : World) (h0 : 0 <= hi) (h0' : hi < y) (h1 : 0 <= lo) (h2 : lo < 18446744073709551616) (h4 : y < 18446744073709551616) :
  Calls Tryz.prog 240 #[.int .u64 hi, .int .u64 lo, .int .u64 y] w fun e w' => e = .returned (.tuple #[.int .u64 ((hi * 18446744073709551616 + lo) / y), .int .u64 ((hi * 18446744073709551616 + lo) % y)]) /\ Tr w w' := by
 by_cases hz : hi = 0
 ·subst hz
  rw [show (0 : Int) * 18446744073709551616 + lo = lo by omega]
  exact Qo lo y w h1 h2 (by omega) h4
 ·have hy0 : y.toNat ≠ 0 := by omega
  obtain ⟨B1, B2, B3⟩ := Lib.bitLenAux_bounds 64 y.toNat (by omega) hy0
  have B4 : Lib.bitLen y.toNat <= 64 := Lib.bitLen_le y.toNat 64 (by omega) (by omega)
  change 1 <= Lib.bitLen y.toNat at B1
  change 2 ^ (Lib.bitLen y.toNat - 1) <= y.toNat at B2
  change y.toNat < 2 ^ Lib.bitLen y.toNat at B3
  generalize hL : Lib.bitLen y.toNat = L at *
  obtain ⟨k, hk, hk'⟩ : ∃ k, L = 64 - k /\ k <= 63 := ⟨64 - L, by omega, by omega⟩
  have ht : (2 : Int) ^ k * 2 ^ L = 18446744073709551616 := by rw [<- Int.pow_add, show k + L = 64 by omega];decide
  have ht' : (2 : Int) ^ (L - 1) * 2 ^ k = 9223372036854775808 := by rw [<- Int.pow_add, show L - 1 + k = 63 by omega];decide
  have B2' : (2 : Int) ^ (L - 1) <= y := by
   have : ((2 ^ (L - 1) : Nat) : Int) <= y.toNat := by exact_mod_cast B2
   rw [Int.natCast_pow] at this
   have e : ((y.toNat : Nat) : Int) = y := by omega
   rw [e] at this;exact this
  have B3' : y < (2 : Int) ^ L := by
   have : (y.toNat : Int) < ((2 ^ L : Nat) : Int) := by exact_mod_cast B3
   rw [Int.natCast_pow] at this
   have e : ((y.toNat : Nat) : Int) = y := by omega
   rw [e] at this;exact this
  have tp : 0 < (2 : Int) ^ k := Int.pow_pos (by decide)
  have Tp : 0 < (2 : Int) ^ L := Int.pow_pos (by decide)
  have es : (k : Int).toNat = k := by omega
  have eL : (64 - (k : Int)).toNat = L := by omega
  have div := Sn hi lo y k (y * 2 ^ k)
  rw [es, eL] at div
  generalize (2 : Int) ^ (L - 1) = V at *
  have hTk : ∀ a : Int, 0 <= a -> a < 2 ^ k -> (a : Int) < 2 ^ k := fun _ _ h => h
  have hYlo : 9223372036854775808 <= y * 2 ^ k := by rw [<- ht'];exact Int.mul_le_mul_of_nonneg_right B2' (by omega)
  have hYhi : y * 2 ^ k < 18446744073709551616 := by rw [<- ht, Int.mul_comm (2 ^ k)];exact Int.mul_lt_mul_of_pos_right B3' tp
  obtain ⟨a1, a2, a3⟩ := Er lo (2 ^ L) Tp
  have lt1 : lo / 2 ^ L < 2 ^ k := Lx _ _ _ Tp (by rw [ht];exact h2)
  have lt0 : 0 <= lo / 2 ^ L := Int.ediv_nonneg h1 (by omega)
  have hit : hi * 2 ^ k <= (y - 1) * 2 ^ k := Int.mul_le_mul_of_nonneg_right (by omega) (by omega)
  have hit' : (y - 1) * 2 ^ k = y * 2 ^ k - 2 ^ k := by rw [Int.sub_mul];omega
  have hit0 : 0 <= hi * 2 ^ k := Int.mul_nonneg h0 (by omega)
  have low0 : 0 <= lo % 2 ^ L * 2 ^ k := Int.mul_nonneg a2 (by omega)
  have low1 : lo % 2 ^ L * 2 ^ k < 18446744073709551616 := by rw [<- ht, Int.mul_comm (2 ^ k)];exact Int.mul_lt_mul_of_pos_right a3 tp
  have lowe : lo * 2 ^ k = lo / 2 ^ L * 18446744073709551616 + lo % 2 ^ L * 2 ^ k := by
   conv => lhs;rw [a1]
   rw [Int.add_mul, Int.mul_assoc, Int.mul_comm (2 ^ L), ht]
  have W1 : IntKind.u64.wrap (hi * 2 ^ k) = hi * 2 ^ k := Ff _ hit0 (by simpa using (by omega : hi * 2 ^ k < 18446744073709551616))
  have W2 : IntKind.u64.wrap (y * 2 ^ k) = y * 2 ^ k := Ff _ (by omega) (by simpa using hYhi)
  have W3 : IntKind.u64.wrap (lo * 2 ^ k) = lo % 2 ^ L * 2 ^ k := by rw [Ax, lowe];omega
  have W4 : bits .or .u64 (hi * 2 ^ k) (lo / 2 ^ L) = hi * 2 ^ k + lo / 2 ^ L :=
   bits_join .u64 64 (by decide) Ff k _ _ hit0 (by rw [Int.mul_emod_left]) (by simpa using (by omega : hi * 2 ^ k < 18446744073709551616)) lt0 lt1 (by simpa using (by omega : lo / 2 ^ L < 18446744073709551616))
  rw [W1, W2, W3, W4] at div
  have key : (hi * 18446744073709551616 + lo) * 2 ^ k = (hi * 2 ^ k + lo / 2 ^ L) * 18446744073709551616 + lo % 2 ^ L * 2 ^ k := by
   rw [Int.add_mul, lowe, Int.add_mul, Int.mul_assoc, Int.mul_comm 18446744073709551616, <- Int.mul_assoc];omega
  have ub : hi * 2 ^ k + lo / 2 ^ L < y * 2 ^ k := by omega
  have ub0 : 0 <= hi * 2 ^ k + lo / 2 ^ L := by omega
  clear W1 W2 W3 W4 lowe hit hit' a1 B2 B3
  generalize hi * 2 ^ k + lo / 2 ^ L = u32 at *
  generalize lo % 2 ^ L * 2 ^ k = u10 at *
  have hYd : y * 2 ^ k = (y * 2 ^ k) / 4294967296 * 4294967296 + (y * 2 ^ k) % 4294967296 := by omega
  obtain ⟨p1, p2, p3, p4, p5, p6, p7, p8, p9, p10⟩ := Jp u32 ((y * 2 ^ k) / 4294967296) ((y * 2 ^ k) % 4294967296) (u10 / 4294967296) (y * 2 ^ k) hYd (by omega) (by omega) (by omega) ub0 ub (by omega) (by omega)
  obtain ⟨r1, r2, r3⟩ := Er (u32 * 4294967296 + u10 / 4294967296) (y * 2 ^ k) (by omega)
  obtain ⟨q1, q2, q3, q4, q5, q6, q7, q8, q9, q10⟩ := Jp ((u32 * 4294967296 + u10 / 4294967296) % (y * 2 ^ k)) ((y * 2 ^ k) / 4294967296) ((y * 2 ^ k) % 4294967296) (u10 % 4294967296) (y * 2 ^ k) hYd (by omega) (by omega) (by omega) r2 r3 (by omega) (by omega)
  obtain ⟨v1, v2, v3⟩ := Er ((u32 * 4294967296 + u10 / 4294967296) % (y * 2 ^ k) * 4294967296 + u10 % 4294967296) (y * 2 ^ k) (by omega)
  have fin := div _ _ u32 u10 _ _ _ _ _ _ _ _ _ _ w (by omega) h0' h1 h2 h4 (by omega) (by omega) (by omega) rfl hYlo hYhi rfl (Gn _ (by omega) hYhi) (by omega) (by omega) (by omega) (by omega) rfl ub0 ub rfl rfl (Gn _ low0 low1) low0 low1 (by omega) (by omega) (by omega) (by omega)
   rfl p1 p2 rfl p3 p4 (by omega) hYd p6 p7 p8 p9 p10 (Qk _ _ _ _ _ r1 r2 (by omega)) r2 r3 rfl q1 q2 rfl q3 q4 (by omega) q6 q7 q8 q9 q10 (Qk _ _ _ _ _ v1 v2 (by omega)) v2 (by omega)
  refine fin.mono fun e w' ⟨he, htr⟩ => ⟨?_, htr⟩
  rw [he]
  clear fin div
  generalize (u32 * 4294967296 + u10 / 4294967296) / (y * 2 ^ k) = Q1 at *
  generalize (u32 * 4294967296 + u10 / 4294967296) % (y * 2 ^ k) = R1 at *
  generalize (R1 * 4294967296 + u10 % 4294967296) / (y * 2 ^ k) = Q0 at *
  generalize (R1 * 4294967296 + u10 % 4294967296) % (y * 2 ^ k) = R0 at *
  have e0 : R0 = (hi * 18446744073709551616 + lo - (Q1 * 4294967296 + Q0) * y) * 2 ^ k := by
   rw [Int.sub_mul, key, Int.mul_assoc, Int.add_mul, Int.mul_right_comm]
   omega
  have e1 : R0 / 2 ^ k = hi * 18446744073709551616 + lo - (Q1 * 4294967296 + Q0) * y := by rw [e0];exact Int.mul_ediv_cancel _ (by omega)
  have e2 : 0 <= hi * 18446744073709551616 + lo - (Q1 * 4294967296 + Q0) * y := by rw [<- e1];exact Int.ediv_nonneg v2 (by omega)
  have e3 : hi * 18446744073709551616 + lo - (Q1 * 4294967296 + Q0) * y < y := by
   refine Int.lt_of_mul_lt_mul_right (a := 2 ^ k) ?_ (by omega)
   rw [<- e0];exact v3
  obtain ⟨d1, d2⟩ := H8 (hi * 18446744073709551616 + lo) y (Q1 * 4294967296 + Q0) _ (by omega) e2 e3
  rw [d1, d2, e1]
end Go.Proofs.YtcfjofhapbkmfaaGreatDoor
namespace Go.Proofs.YtcfjofhapbkmfaaGreatDoor
def Aq (n d : Int) : Rat := Rat.divInt n d
def Cm (q : Rat) : Int × Int × Int := if q.num.natAbs <= 1152921504606846976 /\ q.den <= 1152921504606846976 then (q.num, (q.den : Int), 0) else (0, 0, 5)

theorem Ti {n d : Int} (h : Bd n d = true) : (Aq n d).num = n /\ ((Aq n d).den : Int) = d := by
 obtain ⟨h1, _, _, _, h5⟩ := validB_spec.1 h
 obtain ⟨k, rfl⟩ := Int.eq_ofNat_of_zero_le (show 0 <= d by omega)
 have hk : k ≠ 0 := by omega
 have hc : n.natAbs.Coprime k := by simpa [Int.gcd] using h5
 have : Aq n k = ⟨n, k, hk, hc⟩ := by
  unfold Aq;rw [Rat.mk_eq_divInt]
 rw [this]
 exact ⟨rfl, rfl⟩
theorem Iq (q : Rat) : Aq q.num q.den = q := Rat.num_divInt_den q
theorem Om (q : Rat) (h1 : q.num.natAbs <= 1152921504606846976) (h2 : q.den <= 1152921504606846976) : Bd q.num q.den = true := by
 rw [validB_spec]
 have := q.den_pos
 refine ⟨by omega, by omega, by omega, by omega, ?_⟩
 simpa [Int.gcd] using q.reduced

theorem U2 (a b : Rat) (g c : Nat) (s : Int) (hg : g = a.den.gcd b.den) (hs : s = a.num * (b.den / g : Nat) + b.num * (a.den / g : Nat)) (hc : c = s.natAbs.gcd g) :
  (a + b).num = s / c /\ (a + b).den = (a.den / g) * (b.den / c) := by
 have gp : 0 < g := hg ▸ Nat.gcd_pos_of_pos_left _ a.den_pos
 have ga : g ∣ a.den := hg ▸ Nat.gcd_dvd_left ..
 have gb : g ∣ b.den := hg ▸ Nat.gcd_dvd_right ..
 have ea : a.den / g * g = a.den := Nat.div_mul_cancel ga
 have eb : b.den / g * g = b.den := Nat.div_mul_cancel gb
 have aux := Rat.add.aux a b hg rfl rfl
 simp only at aux
 rw [<- hs] at aux
 have hnum : a.num * b.den + b.num * a.den = s * g := by
  rw [hs, Int.add_mul, Int.mul_assoc, Int.mul_assoc, <- Int.natCast_mul, <- Int.natCast_mul, ea, eb]
 have hden : a.den * b.den = a.den / g * b.den * g := by
  conv => lhs;rw [<- ea]
  rw [Nat.mul_right_comm]
 have hgcd : (a.num * b.den + b.num * a.den).natAbs.gcd (a.den * b.den) = c * g := by
  rw [hnum, hden, Int.natAbs_mul, Int.natAbs_natCast, Nat.gcd_mul_right, <- aux, <- hc]
 have cg : c ∣ g := hc ▸ Nat.gcd_dvd_right ..
 have cp : 0 < c := Nat.pos_of_dvd_of_pos cg gp
 have cb : c ∣ b.den := Nat.dvd_trans cg gb
 constructor
 ·rw [Rat.num_add, hgcd, hnum, Int.natCast_mul, Int.mul_ediv_mul_of_pos_left _ _ (by omega)]
 ·rw [Rat.den_add, hgcd, hden, Nat.mul_div_mul_right _ _ gp, Nat.mul_div_assoc _ cb]
theorem M9 (x : Int) (g : Nat) : x.tdiv (g : Int) = if x < 0 then -((x.natAbs / g : Nat) : Int) else ((x.natAbs / g : Nat) : Int) := by
 by_cases h : x < 0
 ·rw [if_pos h]
  have : x = -(x.natAbs : Int) := by omega
  conv => lhs;rw [this]
  rw [Int.neg_tdiv];rfl
 ·rw [if_neg h]
  have : x = (x.natAbs : Int) := by omega
  conv => lhs;rw [this]
  rfl
theorem Vf (a b : Rat) (g h : Nat) (hg : g = a.num.natAbs.gcd b.den) (hh : h = b.num.natAbs.gcd a.den) :
  (a * b).num = a.num.tdiv g * b.num.tdiv h /\ (a * b).den = (a.den / h) * (b.den / g) := by
 subst hg hh
 show (Rat.mul a b).num = _ /\ (Rat.mul a b).den = _
 unfold Rat.mul
 simp only [Int.divExact_eq_tdiv]
 exact ⟨trivial, rfl⟩
theorem Tz {n d : Int} (h : Bd n d = true) (hn : n ≠ 0) : Bd (if n < 0 then -d else d) (n.natAbs : Int) = true /\ Aq (if n < 0 then -d else d) (n.natAbs : Int) = (Aq n d)⁻¹ := by
 obtain ⟨h1, h2, h3, h4, h5⟩ := validB_spec.1 h
 constructor
 ·rw [validB_spec]
  have e : Int.gcd (if n < 0 then -d else d) (n.natAbs : Int) = 1 := by
   rw [<- h5, Int.gcd_comm n d]
   by_cases hn : n < 0
   ·rw [if_pos hn, Int.neg_gcd];simp [Int.gcd]
   ·rw [if_neg hn];simp [Int.gcd]
  refine ⟨by omega, by omega, ?_, ?_, e⟩ <;> split <;> omega
 ·unfold Aq
  rw [Rat.inv_divInt]
  by_cases hn : n < 0
  ·rw [if_pos hn, show ((n.natAbs : Nat) : Int) = -n by omega, Rat.neg_divInt_neg]
  ·rw [if_neg hn, show ((n.natAbs : Nat) : Int) = n by omega]
def Sj (p q : Rat) : Int := if p < q then -1 else if q < p then 1 else 0
end Go.Proofs.YtcfjofhapbkmfaaGreatDoor
namespace Go.Proofs.YtcfjofhapbkmfaaGreatDoor
open Go.RowKit Go.Sort
def En (an ad bn bd : Int) : Int × Int × Int := if Bd an ad = true /\ Bd bn bd = true then Cm (Aq an ad + Aq bn bd) else (0, 0, 1)

theorem Kk (a b : Int) (h0 : 0 <= a) (h1 : a <= 1152921504606846976) (h2 : 0 <= b) (h3 : b <= 1152921504606846976) : 0 <= a * b /\ a * b <= 1329227995784915872903807060280344576 := by
 refine ⟨Int.mul_nonneg h0 h2, ?_⟩
 have := Int.mul_le_mul h1 h3 h2 (by omega)
 omega

theorem Vi (q : Rat) (NC D : Int) (neg : Bool) (h0 : 0 <= NC) (h1 : NC <= 340282366920938463463374607431768211455) (h2 : 1 <= D) (hn : q.num = if neg then -NC else NC) (hd : (q.den : Int) = D) :
  (0 < NC / 18446744073709551616 /\ Hid ((Cm q).1 = 0 /\ (Cm q).2.1 = 0 /\ (Cm q).2.2 = 5)) \/ (NC / 18446744073709551616 = 0 /\ 0 < D / 18446744073709551616 /\ Hid ((Cm q).1 = 0 /\ (Cm q).2.1 = 0 /\ (Cm q).2.2 = 5)) \/
   (NC / 18446744073709551616 = 0 /\ D / 18446744073709551616 = 0 /\ (1152921504606846976 < NC \/ 1152921504606846976 < D) /\ (NC % 18446744073709551616 = NC /\ D % 18446744073709551616 = D) /\ Hid ((Cm q).1 = 0 /\ (Cm q).2.1 = 0 /\ (Cm q).2.2 = 5)) \/
   (NC / 18446744073709551616 = 0 /\ D / 18446744073709551616 = 0 /\ NC <= 1152921504606846976 /\ D <= 1152921504606846976 /\ NC % 18446744073709551616 = NC /\ D % 18446744073709551616 = D /\ Hid ((Cm q).1 = (if neg then -NC else NC) /\ (Cm q).2.1 = D /\ (Cm q).2.2 = 0)) := by
 have ha : (q.num.natAbs : Int) = NC := by rw [hn];cases neg <;> simp <;> omega
 by_cases hf : NC <= 1152921504606846976 /\ D <= 1152921504606846976
 ·have : q.num.natAbs <= 1152921504606846976 /\ q.den <= 1152921504606846976 := by omega
  refine .inr (.inr (.inr ⟨by omega, by omega, hf.1, hf.2, by omega, by omega, ?_⟩))
  show _ /\ _
  unfold Cm
  rw [if_pos this]
  exact ⟨hn, hd, rfl⟩
 ·have : ¬ (q.num.natAbs <= 1152921504606846976 /\ q.den <= 1152921504606846976) := by omega
  have ho : Hid ((Cm q).1 = 0 /\ (Cm q).2.1 = 0 /\ (Cm q).2.2 = 5) := by
   show _ /\ _
   unfold Cm
   rw [if_neg this]
   exact ⟨rfl, rfl, rfl⟩
  by_cases c1 : 0 < NC / 18446744073709551616
  ·exact .inl ⟨c1, ho⟩
  ·by_cases c2 : 0 < D / 18446744073709551616
   ·exact .inr (.inl ⟨by omega, c2, ho⟩)
   ·exact .inr (.inr (.inl ⟨by omega, by omega, by omega, by omega, ho⟩))

def Ao (n d : Int) : Int × Int × Int := if d = 0 then (0, 0, 16) else Cm (Aq n d)

theorem Fd (n : Int) (h1 : -9223372036854775808 <= n) (h2 : n <= 9223372036854775807) (w : World) :
  Calls Tryz.prog 81 #[.int .i64 n] w fun e w' => e = .returned (.int .u64 (n.natAbs : Int)) /\ w = w' := by
 by_cases hn : n < 0
 ·go_enter Tryz.func81, Tryz.ntmps81
  go_wp2
  go_ret
  refine ⟨Zr ?_, rfl⟩
  rw [Ax, Ax]
  omega
 ·have e : (n.natAbs : Int) = n := by omega
  rw [e]
  go_enter Tryz.func81, Tryz.ntmps81
  go_wp2
  go_ret
  exact ⟨rfl, rfl⟩

theorem Wg (ah al bh bl : Int) (w : World) :
  Calls Tryz.prog 136 #[.agg #[.int .u64 ah, .int .u64 al], .agg #[.int .u64 bh, .int .u64 bl]] w fun e w' =>
   e = .returned (.bool (decide (ah < bh \/ ah = bh /\ al < bl))) /\ Tr w w' := by
 by_cases g1 : ah < bh
 ·go_enter Tryz.func136, Tryz.ntmps136
  go_wp2
  go_ret
  exact ⟨Ho (by simp [g1]), ((Tr.refl _).al _).al _⟩
 ·by_cases g2 : ah = bh
  ·subst g2
   by_cases g3 : al < bl
   all_goals
    go_enter Tryz.func136, Tryz.ntmps136
    go_wp2
    go_ret
    exact ⟨Ho (by simp [g3]), ((Tr.refl _).al _).al _⟩
  ·have g4 : (ah == bh) = false := by simp [g2]
   go_enter Tryz.func136, Tryz.ntmps136
   go_wp2
   go_ret
   exact ⟨Ho (by simp;omega), ((Tr.refl _).al _).al _⟩
theorem O5 (p q : Int) (hp : 0 <= p) (hq : 0 <= q) (w : World) :
  Calls Tryz.prog 136 #[.agg #[.int .u64 (p / 18446744073709551616), .int .u64 (p % 18446744073709551616)], .agg #[.int .u64 (q / 18446744073709551616), .int .u64 (q % 18446744073709551616)]] w fun e w' =>
   e = .returned (.bool (decide (p < q))) /\ Tr w w' :=
 (Wg _ _ _ _ w).mono fun e w' ⟨he, ht⟩ => ⟨by rw [he];exact Ho (decide_eq_decide.2 (Zh p q hp hq)), ht⟩

theorem Wk (p q : Int) (hp : 0 <= p) (hq : 0 <= q) (h : p + q < 340282366920938463463374607431768211456) (w : World) :
  Calls Tryz.prog 219 #[.agg #[.int .u64 (p / 18446744073709551616), .int .u64 (p % 18446744073709551616)], .agg #[.int .u64 (q / 18446744073709551616), .int .u64 (q % 18446744073709551616)]] w fun e w' =>
   e = .returned (.agg #[.int .u64 ((p + q) / 18446744073709551616), .int .u64 ((p + q) % 18446744073709551616)]) /\ Tr w w' := by
 have E2 : IntKind.u64.wrap (p % 18446744073709551616 + q % 18446744073709551616) = (p + q) % 18446744073709551616 := by rw [Ax];omega
 by_cases hc : (p + q) % 18446744073709551616 < p % 18446744073709551616
 ·have E1 : IntKind.u64.wrap (IntKind.u64.wrap (p / 18446744073709551616 + q / 18446744073709551616) + 1) = (p + q) / 18446744073709551616 := by rw [Ax, Ax];omega
  generalize p / 18446744073709551616 = ah at *
  generalize p % 18446744073709551616 = al at *
  generalize q / 18446744073709551616 = bh at *
  generalize q % 18446744073709551616 = bl at *
  go_enter Tryz.func219, Tryz.ntmps219
  go_wp2
  simp [bodyPost, results, Tryz.results219, go_sem, *]
  exact (((Tr.refl _).al _).al _).al _
 ·have E1 : IntKind.u64.wrap (p / 18446744073709551616 + q / 18446744073709551616) = (p + q) / 18446744073709551616 := by rw [Ax];omega
  generalize p / 18446744073709551616 = ah at *
  generalize p % 18446744073709551616 = al at *
  generalize q / 18446744073709551616 = bh at *
  generalize q % 18446744073709551616 = bl at *
  go_enter Tryz.func219, Tryz.ntmps219
  go_wp2
  simp [bodyPost, results, Tryz.results219, go_sem, *]
  exact (((Tr.refl _).al _).al _).al _
theorem Tq (p q r : Int) (hp : 0 <= p) (hq : 0 <= q) (hp' : p < 340282366920938463463374607431768211456) (hq' : q < 340282366920938463463374607431768211456) (hr : (p - q) % 340282366920938463463374607431768211456 = r) (w : World) :
  Calls Tryz.prog 220 #[.agg #[.int .u64 (p / 18446744073709551616), .int .u64 (p % 18446744073709551616)], .agg #[.int .u64 (q / 18446744073709551616), .int .u64 (q % 18446744073709551616)]] w fun e w' =>
   e = .returned (.agg #[.int .u64 (r / 18446744073709551616), .int .u64 (r % 18446744073709551616)]) /\ Tr w w' := by
 have E2 : IntKind.u64.wrap (p % 18446744073709551616 - q % 18446744073709551616) = r % 18446744073709551616 := by rw [Ax];omega
 by_cases hc : p % 18446744073709551616 < q % 18446744073709551616
 ·have E1 : IntKind.u64.wrap (IntKind.u64.wrap (p / 18446744073709551616 - q / 18446744073709551616) - 1) = r / 18446744073709551616 := by rw [Ax, Ax];omega
  clear hr
  generalize p / 18446744073709551616 = ah at *
  generalize p % 18446744073709551616 = al at *
  generalize q / 18446744073709551616 = bh at *
  generalize q % 18446744073709551616 = bl at *
  go_enter Tryz.func220, Tryz.ntmps220
  go_wp2
  simp [bodyPost, results, Tryz.results220, go_sem, *]
  exact (((Tr.refl _).al _).al _).al _
 ·have E1 : IntKind.u64.wrap (p / 18446744073709551616 - q / 18446744073709551616) = r / 18446744073709551616 := by rw [Ax];omega
  clear hr
  generalize p / 18446744073709551616 = ah at *
  generalize p % 18446744073709551616 = al at *
  generalize q / 18446744073709551616 = bh at *
  generalize q % 18446744073709551616 = bl at *
  go_enter Tryz.func220, Tryz.ntmps220
  go_wp2
  simp [bodyPost, results, Tryz.results220, go_sem, *]
  exact (((Tr.refl _).al _).al _).al _
theorem Wf (p : Int) (hp : 0 <= p) (hp' : p < 340282366920938463463374607431768211456) (w : World) :
  Calls Tryz.prog 263 #[.agg #[.int .u64 (p / 18446744073709551616), .int .u64 (p % 18446744073709551616)]] w fun e w' =>
   e = .returned (.agg #[.int .u64 (p / 2 / 18446744073709551616), .int .u64 (p / 2 % 18446744073709551616)]) /\ Tr w w' := by
 have E1 : p / 18446744073709551616 / 2 = p / 2 / 18446744073709551616 := by omega
 have E2 : IntKind.u64.wrap (p % 18446744073709551616 / 2 + IntKind.u64.wrap (p / 18446744073709551616 * 9223372036854775808)) = p / 2 % 18446744073709551616 := by rw [Ax, Ax];omega
 generalize p / 18446744073709551616 = ah at *
 generalize p % 18446744073709551616 = al at *
 go_enter Tryz.func263, Tryz.ntmps263
 go_wp2
 simp [bodyPost, results, Tryz.results263, go_sem, *]
 exact ((Tr.refl _).al _).al _
theorem Wi (a b ah al bh bl L L1 L0 Q M M1 M0 R O O1 O2 P S hi lo : Int) (w : World)
  (h1 : a / 4294967296 = ah) (h2 : bits .and .u64 a 4294967295 = al) (h3 : b / 4294967296 = bh) (h4 : bits .and .u64 b 4294967295 = bl)
  (hL : al * bl = L) (l0 : 0 <= L) (l1 : L < 18446744073709551616) (hL1 : L / 4294967296 = L1) (hL0 : bits .and .u64 L 4294967295 = L0)
  (hQ : ah * bl = Q) (q0 : 0 <= Q) (q1 : Q < 18446744073709551616) (hM : Q + L1 = M) (m0 : 0 <= M) (m1 : M < 18446744073709551616)
  (hM1 : M / 4294967296 = M1) (hM0 : bits .and .u64 M 4294967295 = M0)
  (hR : al * bh = R) (r0 : 0 <= R) (r1 : R < 18446744073709551616) (hO : R + M0 = O) (o0 : 0 <= O) (o1 : O < 18446744073709551616)
  (hO1 : O / 4294967296 = O1) (hO2 : IntKind.u64.wrap (O * 4294967296) = O2)
  (hP : ah * bh = P) (p0 : 0 <= P) (p1 : P < 18446744073709551616) (hS : P + M1 = S) (s0 : 0 <= S) (s1 : S < 18446744073709551616)
  (hH : S + O1 = hi) (i0 : 0 <= hi) (i1 : hi < 18446744073709551616) (hE : O2 + L0 = lo) (e0 : 0 <= lo) (e1 : lo < 18446744073709551616) :
  Calls Tryz.prog 135 #[.int .u64 a, .int .u64 b] w fun e w' => e = .returned (.agg #[.int .u64 hi, .int .u64 lo]) /\ Tr w w' := by
 go_enter Tryz.func135, Tryz.ntmps135
 go_wp2
 simp [bodyPost, results, Tryz.results135, go_sem, *]
 exact (Tr.refl _).al _
theorem Kp (a b : Int) (w : World) (ha : 0 <= a) (ha' : a < 18446744073709551616) (hb : 0 <= b) (hb' : b < 18446744073709551616) :
  Calls Tryz.prog 135 #[.int .u64 a, .int .u64 b] w fun e w' => e = .returned (.agg #[.int .u64 (a * b / 18446744073709551616), .int .u64 (a * b % 18446744073709551616)]) /\ Tr w w' := by
 have hal := Gn a ha ha'
 have hbl := Gn b hb hb'
 obtain ⟨ah, hah⟩ : ∃ ah, a / 4294967296 = ah := ⟨_, rfl⟩
 obtain ⟨al, hal'⟩ : ∃ al, a % 4294967296 = al := ⟨_, rfl⟩
 obtain ⟨bh, hbh⟩ : ∃ bh, b / 4294967296 = bh := ⟨_, rfl⟩
 obtain ⟨bl, hbl'⟩ : ∃ bl, b % 4294967296 = bl := ⟨_, rfl⟩
 rw [hal'] at hal
 rw [hbl'] at hbl
 have e : a * b = ah * bh * 18446744073709551616 + (ah * bl + al * bh) * 4294967296 + al * bl := by
  have ea : a = ah * 4294967296 + al := by omega
  have eb : b = bh * 4294967296 + bl := by omega
  rw [ea, eb]
  generalize 4294967296 = k
  grind
 obtain ⟨P, hP⟩ : ∃ x, ah * bh = x := ⟨_, rfl⟩
 obtain ⟨Q, hQ⟩ : ∃ x, ah * bl = x := ⟨_, rfl⟩
 obtain ⟨R, hR⟩ : ∃ x, al * bh = x := ⟨_, rfl⟩
 obtain ⟨L, hL⟩ : ∃ x, al * bl = x := ⟨_, rfl⟩
 have bP := Bt ah bh (by omega) (by omega) (by omega) (by omega)
 have bQ := Bt ah bl (by omega) (by omega) (by omega) (by omega)
 have bR := Bt al bh (by omega) (by omega) (by omega) (by omega)
 have bL := Bt al bl (by omega) (by omega) (by omega) (by omega)
 rw [hP, hQ, hR, hL] at e
 rw [hP] at bP
 rw [hQ] at bQ
 rw [hR] at bR
 rw [hL] at bL
 have k1 := Gn L (by omega) (by omega)
 have k2 := Gn (Q + L / 4294967296) (by omega) (by omega)
 have hw := Ax ((R + (Q + L / 4294967296) % 4294967296) * 4294967296)
 refine Wi a b ah al bh bl L _ _ Q _ _ _ R _ _ _ P _ _ _ w hah hal hbh hbl hL (by omega) (by omega) rfl k1 hQ (by omega) (by omega) rfl (by omega) (by omega) rfl k2 hR (by omega) (by omega) rfl (by omega) (by omega) rfl hw hP (by omega) (by omega) rfl (by omega) (by omega) ?_ ?_ ?_ ?_ ?_ ?_
 all_goals omega
def Wd (x h l : Int) : Prop := h = x / 18446744073709551616 /\ l = x % 18446744073709551616

theorem Tj (al bl : Int) (w : World) (hb : 1 <= bl) (hb' : bl < 18446744073709551616) (ha : 0 <= al) (ha' : al < 18446744073709551616) :
  Calls Tryz.prog 242 #[.agg #[.int .u64 0, .int .u64 al], .agg #[.int .u64 0, .int .u64 bl]] w fun e w' =>
   e = .returned (.tuple #[.agg #[.int .u64 0, .int .u64 (al / bl)], .agg #[.int .u64 0, .int .u64 (al % bl)]]) /\ Tr w w' := by
 have g1 : ¬ bl = 0 := by omega
 go_enter Tryz.func242, Tryz.ntmps242
 go_wp2
 go_region
 go_wp2
 simp [bodyPost, results, Tryz.results242, go_sem, *]
 exact (by repeat (first | exact Tr.refl _ | assumption | apply Tr.al | apply Tr.drN | apply Tr.dr|(refine Tr.set ?_ (by first | omega|(simp;done)|(simp;omega)) _)))
theorem Hr {p q ph pl qh ql : Int} (h1 : Wd p ph pl) (h2 : Wd q qh ql) (hp : 0 <= p) (hq : 0 <= q) (h : p < q) (w : World) :
  Calls Tryz.prog 136 #[.agg #[.int .u64 ph, .int .u64 pl], .agg #[.int .u64 qh, .int .u64 ql]] w fun e w' => e = .returned (.bool true) /\ Tr w w' := by
 obtain ⟨rfl, rfl⟩ := h1
 obtain ⟨rfl, rfl⟩ := h2
 have := O5 p q hp hq w
 rw [decide_eq_true h] at this;exact this
theorem Hq {p q ph pl qh ql : Int} (h1 : Wd p ph pl) (h2 : Wd q qh ql) (hp : 0 <= p) (hq : 0 <= q) (h : ¬ p < q) (w : World) :
  Calls Tryz.prog 136 #[.agg #[.int .u64 ph, .int .u64 pl], .agg #[.int .u64 qh, .int .u64 ql]] w fun e w' => e = .returned (.bool false) /\ Tr w w' := by
 obtain ⟨rfl, rfl⟩ := h1
 obtain ⟨rfl, rfl⟩ := h2
 have := O5 p q hp hq w
 rw [decide_eq_false h] at this;exact this
theorem Cv {p q r ph pl qh ql rh rl : Int} (h1 : Wd p ph pl) (h2 : Wd q qh ql) (h3 : Wd r rh rl) (hp : 0 <= p) (hq : 0 <= q) (hp' : p < 340282366920938463463374607431768211456) (hq' : q < 340282366920938463463374607431768211456) (hr : (p - q) % 340282366920938463463374607431768211456 = r) (w : World) :
  Calls Tryz.prog 220 #[.agg #[.int .u64 ph, .int .u64 pl], .agg #[.int .u64 qh, .int .u64 ql]] w fun e w' => e = .returned (.agg #[.int .u64 rh, .int .u64 rl]) /\ Tr w w' := by
 obtain ⟨rfl, rfl⟩ := h1
 obtain ⟨rfl, rfl⟩ := h2
 obtain ⟨rfl, rfl⟩ := h3
 exact Tq p q r hp hq hp' hq' hr w

theorem A1h {R A r2 rh rl ah al : Int} (hR : Wd R rh rl) (hA : Wd A ah al) (h0 : 0 <= R) (h1 : R < 340282366920938463463374607431768211456) (h2 : 0 <= A) (h3 : A < 340282366920938463463374607431768211456)
  (h : r2 = (2 * R + A / 170141183460469231731687303715884105728) % 340282366920938463463374607431768211456) :
  IntKind.u64.wrap (IntKind.u64.wrap (rh * 2) + rl / 9223372036854775808) = r2 / 18446744073709551616 /\ IntKind.u64.wrap (IntKind.u64.wrap (rl * 2) + ah / 9223372036854775808) = r2 % 18446744073709551616 := by
 obtain ⟨rfl, rfl⟩ := hR
 obtain ⟨rfl, rfl⟩ := hA
 simp only [Ax]
 omega
theorem A0w {R r2 rh rl : Int} (hR : Wd R rh rl) (h0 : 0 <= R) (h1 : R < 340282366920938463463374607431768211456)
  (h : r2 = (2 * R) % 340282366920938463463374607431768211456) :
  IntKind.u64.wrap (IntKind.u64.wrap (rh * 2) + rl / 9223372036854775808) = r2 / 18446744073709551616 /\ IntKind.u64.wrap (rl * 2) = r2 % 18446744073709551616 := by
 obtain ⟨rfl, rfl⟩ := hR
 simp only [Ax]
 omega
theorem Xa (p b T A Q R : Int) (hi : p * T = (Q * b + R) * 340282366920938463463374607431768211456 + A) :
  p * (2 * T) = (2 * Q * b + (2 * R + A / 170141183460469231731687303715884105728)) * 340282366920938463463374607431768211456 + (2 * A) % 340282366920938463463374607431768211456 := by
 have e1 : p * (2 * T) = 2 * (p * T) := by grind
 have e2 : 2 * Q * b = 2 * (Q * b) := by grind
 rw [e1, e2, hi]
 generalize Q * b = X
 omega
theorem Xb (p b T A Q R : Int) (hi : p * T = (Q * b + R) * 340282366920938463463374607431768211456 + A) :
  p * (2 * T) = ((2 * Q + 1) * b + (2 * R + A / 170141183460469231731687303715884105728 - b)) * 340282366920938463463374607431768211456 + (2 * A) % 340282366920938463463374607431768211456 := by
 have e1 : p * (2 * T) = 2 * (p * T) := by grind
 have e2 : (2 * Q + 1) * b = 2 * (Q * b) + b := by grind
 rw [e1, e2, hi]
 generalize Q * b = X
 omega
theorem Ty (i : Nat) (h : i < 128) : (0:Int) < 2 ^ i /\ (2:Int) ^ i <= 170141183460469231731687303715884105728 := by
 refine ⟨Int.pow_pos (by decide), ?_⟩
 have h2 : (2:Nat) ^ i <= 2 ^ 127 := Nat.pow_le_pow_right (by decide) (by omega)
 have h3 : ((2 ^ i : Nat) : Int) <= ((2 ^ 127 : Nat) : Int) := Int.ofNat_le.2 h2
 rw [Int.natCast_pow] at h3
 simpa using h3
theorem Qf (i : Nat) : (2:Int) ^ (i + 1) = 2 * 2 ^ i := by rw [Int.pow_succ];omega
theorem Z3 (p b A Q R : Int) (hi : p * 340282366920938463463374607431768211456 = (Q * b + R) * 340282366920938463463374607431768211456 + A) (h0 : 0 <= A) (h1 : A < 340282366920938463463374607431768211456) (h2 : 0 <= R) (h3 : R < b) : Q = p / b /\ R = p % b := by
 have e : p = Q * b + R := by generalize Q * b = X at *;omega
 have h5 := H8 p b Q R e h2 h3
 exact ⟨h5.1.symm, h5.2.symm⟩
def Yx (p b : Int) (w : World) (e : Ending) (w' : World) : Prop :=
   ∃ A Q R qh ql rh rl : Int, Hid (0 <= A /\ A < 340282366920938463463374607431768211456) /\ Hid (0 <= R /\ R < b) /\ Hid (p * 340282366920938463463374607431768211456 = (Q * b + R) * 340282366920938463463374607431768211456 + A) /\ Hid (Wd Q qh ql) /\ Hid (Wd R rh rl) /\
   e = .returned (.tuple #[.agg #[.int .u64 qh, .int .u64 ql], .agg #[.int .u64 rh, .int .u64 rl]]) /\ Tr w w'
set_option maxRecDepth 100000 in
set_option maxHeartbeats 2000000 in
theorem Nx (p b ah al bh bl : Int) (w : World) (hp : 0 <= p) (hp' : p < 340282366920938463463374607431768211456) (hb : 1 <= b) (hb' : b < 340282366920938463463374607431768211456)
  (hA : Hid (Wd p ah al)) (hB : Hid (Wd b bh bl)) (hne : ((ah == 0) = true /\ (bh == 0) = false) \/ (ah == 0) = false) :
  Calls Tryz.prog 242 #[.agg #[.int .u64 ah, .int .u64 al], .agg #[.int .u64 bh, .int .u64 bl]] w fun e w' =>
   e = .returned (.tuple #[.agg #[.int .u64 (p / b / 18446744073709551616), .int .u64 (p / b % 18446744073709551616)], .agg #[.int .u64 (p % b / 18446744073709551616), .int .u64 (p % b % 18446744073709551616)]]) /\ Tr w w' := by
 have hL : Calls Tryz.prog 242 #[.agg #[.int .u64 ah, .int .u64 al], .agg #[.int .u64 bh, .int .u64 bl]] w (Yx p b w) := by
  rcases hne with ⟨n1, n2⟩ | n1
  all_goals
   go_enter Tryz.func242, Tryz.ntmps242
   go_wp2
   go_loopw [8] (fun s wr => ∃ (i : Nat) (A Q R xh xl qh ql rh rl : Int), s = .int .i64 i /\ i <= 128 /\ Hid (0 <= A /\ A < 340282366920938463463374607431768211456) /\ Hid (0 <= R /\ R < b) /\ Hid (0 <= Q /\ Q < 2 ^ i) /\
    Hid (p * 2 ^ i = (Q * b + R) * 340282366920938463463374607431768211456 + A) /\ Hid (Wd A xh xl) /\ Hid (Wd Q qh ql) /\ Hid (Wd R rh rl) /\ Keep wr [(⟨w.heap.size, 0, none⟩, .int .u64 (xh)), (⟨w.heap.size, 1, none⟩, .int .u64 (xl)), (⟨w.heap.size + 1, 0, none⟩, .int .u64 (bh)), (⟨w.heap.size + 1, 1, none⟩, .int .u64 (bl)), (⟨w.heap.size + 1 + 1, 0, none⟩, .int .u64 (0)), (⟨w.heap.size + 1 + 1, 1, none⟩, .int .u64 (0)), (⟨w.heap.size + 1 + 1 + 1, 0, none⟩, .int .u64 (0)), (⟨w.heap.size + 1 + 1 + 1, 1, none⟩, .int .u64 (0)), (⟨w.heap.size + 1 + 1 + 1 + 1, 0, none⟩, .int .u64 (qh)), (⟨w.heap.size + 1 + 1 + 1 + 1, 1, none⟩, .int .u64 (ql)), (⟨w.heap.size + 1 + 1 + 1 + 1 + 1, 0, none⟩, .int .u64 (rh)), (⟨w.heap.size + 1 + 1 + 1 + 1 + 1, 1, none⟩, .int .u64 (rl))] /\ Tr w wr) (fun s _ => 128 - (intOf s).toNat)
   case atStart => exact ⟨0, p, 0, 0, ah, al, 0, 0, 0, 0, rfl, by omega, ⟨hp, hp'⟩, (⟨by omega, by omega⟩ : (0:Int) <= 0 /\ 0 < b), (by decide : (0:Int) <= 0 /\ (0:Int) < 2 ^ 0), (by simp : p * 2 ^ 0 = (0 * b + 0) * 340282366920938463463374607431768211456 + p), hA, (by simp [Wd] : Wd 0 0 0), (by simp [Wd] : Wd 0 0 0), (by first|(simp [Keep, go_sem, *];done)|(simp [Keep, go_sem, *];omega)|(simp (disch := first | omega|(simp;omega)|(simp;done)) [Keep, go_sem, A4, A5, RowKit.frozen?_alloc_cells, A1, *];done)|(simp (disch := first | omega|(simp;omega)|(simp;done)) [Keep, go_sem, A4, A5, RowKit.frozen?_alloc_cells, A1, *];omega)), (by repeat (first | exact Tr.refl _ | assumption | apply Tr.al | apply Tr.drN | apply Tr.dr|(refine Tr.set ?_ (by first | omega|(simp;done)|(simp;omega)) _)))⟩
   case round =>
    obtain ⟨i, A, Q, R, xh, xl, qh, ql, rh, rl, rfl, hi, H1, H2, H3, H4, H5, H6, H7, K, T⟩ := hrel
    have hzz := Below.size T
    simp only [Keep] at K
    by_cases hlt : i < 128
    ·obtain ⟨tp, tl⟩ := Ty i hlt
     obtain ⟨T2, hT2⟩ : ∃ x : Int, (2:Int) ^ i = x := ⟨_, rfl⟩
     rw [hT2] at tp tl H3 H4
     have ha1 := H1.out
     have ha2 := H2.out
     have ha3 := H3.out
     obtain ⟨A2, hA2⟩ : ∃ x : Int, x = (2 * A) % 340282366920938463463374607431768211456 := ⟨_, rfl⟩
     obtain ⟨R3, hR3⟩ : ∃ x : Int, x = 2 * R + A / 170141183460469231731687303715884105728 := ⟨_, rfl⟩
     obtain ⟨R2, hR2⟩ : ∃ x : Int, x = (2 * R + A / 170141183460469231731687303715884105728) % 340282366920938463463374607431768211456 := ⟨_, rfl⟩
     obtain ⟨E1, E2⟩ := A1h H7.out H5.out (by omega) (by omega) (by omega) (by omega) hR2
     obtain ⟨E3, E4⟩ := A0w H5.out (by omega) (by omega) hA2
     obtain ⟨E5, E6⟩ := A0w H6.out (by omega) (by omega) (r2 := 2 * Q) (by omega)
     have E7 : rh / 9223372036854775808 = R / 170141183460469231731687303715884105728 := by rw [H7.out.1];omega
     obtain ⟨ov, hov⟩ : ∃ x : Int, x = R / 170141183460469231731687303715884105728 := ⟨_, rfl⟩
     rw [<- hov] at E7
     have I0 := Xa p b T2 A Q R H4.out
     have I1 := Xb p b T2 A Q R H4.out
     rw [<- hR3, <- hA2] at I0 I1
     obtain ⟨q2h, hq2h⟩ : ∃ x, x = 2 * Q / 18446744073709551616 := ⟨_, rfl⟩
     obtain ⟨q2l, hq2l⟩ : ∃ x, x = 2 * Q % 18446744073709551616 := ⟨_, rfl⟩
     obtain ⟨x2h, hx2h⟩ : ∃ x, x = A2 / 18446744073709551616 := ⟨_, rfl⟩
     obtain ⟨x2l, hx2l⟩ : ∃ x, x = A2 % 18446744073709551616 := ⟨_, rfl⟩
     obtain ⟨r2h, hr2h⟩ : ∃ x, x = R2 / 18446744073709551616 := ⟨_, rfl⟩
     obtain ⟨r2l, hr2l⟩ : ∃ x, x = R2 % 18446744073709551616 := ⟨_, rfl⟩
     rw [<- hr2h] at E1
     rw [<- hr2l] at E2
     rw [<- hx2h] at E3
     rw [<- hx2l] at E4
     rw [<- hq2h] at E5
     rw [<- hq2l] at E6
     have WR : Hid (Wd R2 r2h r2l) := ⟨hr2h, hr2l⟩
     have WX : Hid (Wd A2 x2h x2l) := ⟨hx2h, hx2l⟩
     have WQ : Hid (Wd (2 * Q) q2h q2l) := ⟨hq2h, hq2l⟩
     have WQ1 : Hid (Wd (2 * Q + 1) q2h (q2l + 1)) := (⟨by omega, by omega⟩ : Wd (2 * Q + 1) q2h (q2l + 1))
     have J0 := Lib.hid I0
     have J1 := Lib.hid I1
     have bq : 0 <= q2l /\ q2l < 18446744073709551615 := by omega
     have hA3 : Hid (0 <= A2 /\ A2 < 340282366920938463463374607431768211456) := (by omega : 0 <= A2 /\ A2 < 340282366920938463463374607431768211456)
     have hR2b : Hid (0 <= R2 /\ R2 < 340282366920938463463374607431768211456) := (by omega : 0 <= R2 /\ R2 < 340282366920938463463374607431768211456)
     have hQ3 : Hid (0 <= 2 * Q /\ 2 * Q + 1 < 2 * T2) := (by omega : 0 <= 2 * Q /\ 2 * Q + 1 < 2 * T2)
     have hcase : (0 < ov /\ Hid (0 <= R3 - b /\ R3 - b < b /\ (R2 - b) % 340282366920938463463374607431768211456 = R3 - b)) \/ (ov = 0 /\ Hid (¬ R2 < b) /\ Hid (0 <= R3 - b /\ R3 - b < b /\ (R2 - b) % 340282366920938463463374607431768211456 = R3 - b)) \/ (ov = 0 /\ Hid (R2 < b) /\ Hid (R2 = R3)) := by
      have key : (0 < ov /\ (0 <= R3 - b /\ R3 - b < b /\ (R2 - b) % 340282366920938463463374607431768211456 = R3 - b)) \/ (ov = 0 /\ (¬ R2 < b) /\ (0 <= R3 - b /\ R3 - b < b /\ (R2 - b) % 340282366920938463463374607431768211456 = R3 - b)) \/ (ov = 0 /\ (R2 < b) /\ (R2 = R3)) := by omega
      exact key
     obtain ⟨r3h, hr3h⟩ : ∃ x, x = (R3 - b) / 18446744073709551616 := ⟨_, rfl⟩
     obtain ⟨r3l, hr3l⟩ : ∃ x, x = (R3 - b) % 18446744073709551616 := ⟨_, rfl⟩
     have WR3 : Hid (Wd (R3 - b) r3h r3l) := ⟨hr3h, hr3l⟩
     have hT3 : Hid ((2:Int) ^ (i + 1) = 2 * T2) := (by rw [Qf, hT2] : (2:Int) ^ (i + 1) = 2 * T2)
     clear I0 I1 ha1 ha2 ha3 H1 H2 H3 H4 H5 H6 H7 hA2 hR3 hR2 hq2h hq2l hx2h hx2l hr2h hr2l hr3h hr3l hov tp tl hT2
     go_upto_region 9 with (fail)
     refine Cx (w0 := w) [(⟨w.heap.size, 0, none⟩, .int .u64 (xh)), (⟨w.heap.size, 1, none⟩, .int .u64 (xl)), (⟨w.heap.size + 1, 0, none⟩, .int .u64 (bh)), (⟨w.heap.size + 1, 1, none⟩, .int .u64 (bl)), (⟨w.heap.size + 1 + 1, 0, none⟩, .int .u64 (0)), (⟨w.heap.size + 1 + 1, 1, none⟩, .int .u64 (0)), (⟨w.heap.size + 1 + 1 + 1, 0, none⟩, .int .u64 (0)), (⟨w.heap.size + 1 + 1 + 1, 1, none⟩, .int .u64 (0)), (⟨w.heap.size + 1 + 1 + 1 + 1, 0, none⟩, .int .u64 (qh)), (⟨w.heap.size + 1 + 1 + 1 + 1, 1, none⟩, .int .u64 (ql)), (⟨w.heap.size + 1 + 1 + 1 + 1 + 1, 0, none⟩, .int .u64 (r2h)), (⟨w.heap.size + 1 + 1 + 1 + 1 + 1, 1, none⟩, .int .u64 (r2l))] (by first|(simp [Keep, go_sem, *];done)|(simp [Keep, go_sem, *];omega)|(simp (disch := first | omega|(simp;omega)|(simp;done)) [Keep, go_sem, A4, A5, RowKit.frozen?_alloc_cells, A1, *];done)|(simp (disch := first | omega|(simp;omega)|(simp;done)) [Keep, go_sem, A4, A5, RowKit.frozen?_alloc_cells, A1, *];omega)) (by repeat (first | exact Tr.refl _ | assumption | apply Tr.al | apply Tr.drN | apply Tr.dr|(refine Tr.set ?_ (by first | omega|(simp;done)|(simp;omega)) _))) ?_;intro w7 hs7 K7 T7;(try simp at hs7);simp only [Keep] at K7
     clear K T
     go_upto_region 10 with (fail)
     refine Cx (w0 := w) [(⟨w.heap.size, 0, none⟩, .int .u64 (x2h)), (⟨w.heap.size, 1, none⟩, .int .u64 (x2l)), (⟨w.heap.size + 1, 0, none⟩, .int .u64 (bh)), (⟨w.heap.size + 1, 1, none⟩, .int .u64 (bl)), (⟨w.heap.size + 1 + 1, 0, none⟩, .int .u64 (0)), (⟨w.heap.size + 1 + 1, 1, none⟩, .int .u64 (0)), (⟨w.heap.size + 1 + 1 + 1, 0, none⟩, .int .u64 (0)), (⟨w.heap.size + 1 + 1 + 1, 1, none⟩, .int .u64 (0)), (⟨w.heap.size + 1 + 1 + 1 + 1, 0, none⟩, .int .u64 (qh)), (⟨w.heap.size + 1 + 1 + 1 + 1, 1, none⟩, .int .u64 (ql)), (⟨w.heap.size + 1 + 1 + 1 + 1 + 1, 0, none⟩, .int .u64 (r2h)), (⟨w.heap.size + 1 + 1 + 1 + 1 + 1, 1, none⟩, .int .u64 (r2l))] (by first|(simp [Keep, go_sem, *];done)|(simp [Keep, go_sem, *];omega)|(simp (disch := first | omega|(simp;omega)|(simp;done)) [Keep, go_sem, A4, A5, RowKit.frozen?_alloc_cells, A1, *];done)|(simp (disch := first | omega|(simp;omega)|(simp;done)) [Keep, go_sem, A4, A5, RowKit.frozen?_alloc_cells, A1, *];omega)) (by repeat (first | exact Tr.refl _ | assumption | apply Tr.al | apply Tr.drN | apply Tr.dr|(refine Tr.set ?_ (by first | omega|(simp;done)|(simp;omega)) _))) ?_;intro w8 hs8 K8 T8;(try simp at hs8);simp only [Keep] at K8
     clear K7 T7
     go_upto_region 11 with (fail)
     refine Cx (w0 := w) [(⟨w.heap.size, 0, none⟩, .int .u64 (x2h)), (⟨w.heap.size, 1, none⟩, .int .u64 (x2l)), (⟨w.heap.size + 1, 0, none⟩, .int .u64 (bh)), (⟨w.heap.size + 1, 1, none⟩, .int .u64 (bl)), (⟨w.heap.size + 1 + 1, 0, none⟩, .int .u64 (0)), (⟨w.heap.size + 1 + 1, 1, none⟩, .int .u64 (0)), (⟨w.heap.size + 1 + 1 + 1, 0, none⟩, .int .u64 (0)), (⟨w.heap.size + 1 + 1 + 1, 1, none⟩, .int .u64 (0)), (⟨w.heap.size + 1 + 1 + 1 + 1, 0, none⟩, .int .u64 (q2h)), (⟨w.heap.size + 1 + 1 + 1 + 1, 1, none⟩, .int .u64 (q2l)), (⟨w.heap.size + 1 + 1 + 1 + 1 + 1, 0, none⟩, .int .u64 (r2h)), (⟨w.heap.size + 1 + 1 + 1 + 1 + 1, 1, none⟩, .int .u64 (r2l))] (by first|(simp [Keep, go_sem, *];done)|(simp [Keep, go_sem, *];omega)|(simp (disch := first | omega|(simp;omega)|(simp;done)) [Keep, go_sem, A4, A5, RowKit.frozen?_alloc_cells, A1, *];done)|(simp (disch := first | omega|(simp;omega)|(simp;done)) [Keep, go_sem, A4, A5, RowKit.frozen?_alloc_cells, A1, *];omega)) (by repeat (first | exact Tr.refl _ | assumption | apply Tr.al | apply Tr.drN | apply Tr.dr|(refine Tr.set ?_ (by first | omega|(simp;done)|(simp;omega)) _))) ?_;intro w2 hs2 K2 T2;(try simp at hs2);simp only [Keep] at K2
     clear K8 T8
     rcases hcase with ⟨c1, c2⟩ | ⟨c1, c2, c3⟩ | ⟨c1, c2, c3⟩
     ·go_wp2_with (first
       | (go_at_call 220;(with_reducible refine (Cv WR.out hB.out WR3.out hR2b.out.1 (by omega) hR2b.out.2 hb' c2.out.2.2 _).mono ?_);rintro e w3 ⟨rfl, ht3⟩;have T3 : Tr w w3 := Tr.trans (by repeat (first | exact Tr.refl _ | assumption | apply Tr.al | apply Tr.drN | apply Tr.dr|(refine Tr.set ?_ (by first | omega|(simp;done)|(simp;omega)) _))) ht3;have K3 := Keep.tr (l := [(⟨w.heap.size, 0, none⟩, .int .u64 (x2h)), (⟨w.heap.size, 1, none⟩, .int .u64 (x2l)), (⟨w.heap.size + 1, 0, none⟩, .int .u64 (bh)), (⟨w.heap.size + 1, 1, none⟩, .int .u64 (bl)), (⟨w.heap.size + 1 + 1, 0, none⟩, .int .u64 (0)), (⟨w.heap.size + 1 + 1, 1, none⟩, .int .u64 (0)), (⟨w.heap.size + 1 + 1 + 1, 0, none⟩, .int .u64 (0)), (⟨w.heap.size + 1 + 1 + 1, 1, none⟩, .int .u64 (0)), (⟨w.heap.size + 1 + 1 + 1 + 1, 0, none⟩, .int .u64 (q2h)), (⟨w.heap.size + 1 + 1 + 1 + 1, 1, none⟩, .int .u64 (q2l)), (⟨w.heap.size + 1 + 1 + 1 + 1 + 1, 0, none⟩, .int .u64 (r2h)), (⟨w.heap.size + 1 + 1 + 1 + 1 + 1, 1, none⟩, .int .u64 (r2l))]) (by first|(simp [Keep, go_sem, *];done)|(simp [Keep, go_sem, *];omega)|(simp (disch := first | omega|(simp;omega)|(simp;done)) [Keep, go_sem, A4, A5, RowKit.frozen?_alloc_cells, A1, *];done)|(simp (disch := first | omega|(simp;omega)|(simp;done)) [Keep, go_sem, A4, A5, RowKit.frozen?_alloc_cells, A1, *];omega)) ht3;have hz3 := Below.size ht3;(try simp at hz3);clear ht3;simp only [Keep] at K3))
      go_roundw
      case rel => exact ⟨i + 1, A2, 2 * Q + 1, R3 - b, x2h, x2l, q2h, q2l + 1, r3h, r3l, by go_num, by omega, hA3, ⟨c2.out.1, c2.out.2.1⟩, (by rw [hT3.out];have := hQ3.out;omega : 0 <= 2 * Q + 1 /\ 2 * Q + 1 < 2 ^ (i + 1)), (by rw [hT3.out];exact J1.out : p * 2 ^ (i + 1) = ((2 * Q + 1) * b + (R3 - b)) * 340282366920938463463374607431768211456 + A2), WX, WQ1, WR3, (by first|(simp [Keep, go_sem, *];done)|(simp [Keep, go_sem, *];omega)|(simp (disch := first | omega|(simp;omega)|(simp;done)) [Keep, go_sem, A4, A5, RowKit.frozen?_alloc_cells, A1, *];done)|(simp (disch := first | omega|(simp;omega)|(simp;done)) [Keep, go_sem, A4, A5, RowKit.frozen?_alloc_cells, A1, *];omega)), (by repeat (first | exact Tr.refl _ | assumption | apply Tr.al | apply Tr.drN | apply Tr.dr|(refine Tr.set ?_ (by first | omega|(simp;done)|(simp;omega)) _)))⟩
      case measure => simp [intOf];omega
     ·go_wp2_with (first
       | (go_at_call 136;(with_reducible refine (Hq WR.out hB.out hR2b.out.1 (by omega) c2.out _).mono ?_);rintro e w3 ⟨rfl, ht3⟩;have T3 : Tr w w3 := Tr.trans (by repeat (first | exact Tr.refl _ | assumption | apply Tr.al | apply Tr.drN | apply Tr.dr|(refine Tr.set ?_ (by first | omega|(simp;done)|(simp;omega)) _))) ht3;have K3 := Keep.tr (l := [(⟨w.heap.size, 0, none⟩, .int .u64 (x2h)), (⟨w.heap.size, 1, none⟩, .int .u64 (x2l)), (⟨w.heap.size + 1, 0, none⟩, .int .u64 (bh)), (⟨w.heap.size + 1, 1, none⟩, .int .u64 (bl)), (⟨w.heap.size + 1 + 1, 0, none⟩, .int .u64 (0)), (⟨w.heap.size + 1 + 1, 1, none⟩, .int .u64 (0)), (⟨w.heap.size + 1 + 1 + 1, 0, none⟩, .int .u64 (0)), (⟨w.heap.size + 1 + 1 + 1, 1, none⟩, .int .u64 (0)), (⟨w.heap.size + 1 + 1 + 1 + 1, 0, none⟩, .int .u64 (q2h)), (⟨w.heap.size + 1 + 1 + 1 + 1, 1, none⟩, .int .u64 (q2l)), (⟨w.heap.size + 1 + 1 + 1 + 1 + 1, 0, none⟩, .int .u64 (r2h)), (⟨w.heap.size + 1 + 1 + 1 + 1 + 1, 1, none⟩, .int .u64 (r2l))]) (by first|(simp [Keep, go_sem, *];done)|(simp [Keep, go_sem, *];omega)|(simp (disch := first | omega|(simp;omega)|(simp;done)) [Keep, go_sem, A4, A5, RowKit.frozen?_alloc_cells, A1, *];done)|(simp (disch := first | omega|(simp;omega)|(simp;done)) [Keep, go_sem, A4, A5, RowKit.frozen?_alloc_cells, A1, *];omega)) ht3;have hz3 := Below.size ht3;(try simp at hz3);clear ht3;simp only [Keep] at K3)
       | (go_at_call 220;(with_reducible refine (Cv WR.out hB.out WR3.out hR2b.out.1 (by omega) hR2b.out.2 hb' c3.out.2.2 _).mono ?_);rintro e w4 ⟨rfl, ht4⟩;have T4 : Tr w w4 := Tr.trans (by repeat (first | exact Tr.refl _ | assumption | apply Tr.al | apply Tr.drN | apply Tr.dr|(refine Tr.set ?_ (by first | omega|(simp;done)|(simp;omega)) _))) ht4;have K4 := Keep.tr (l := [(⟨w.heap.size, 0, none⟩, .int .u64 (x2h)), (⟨w.heap.size, 1, none⟩, .int .u64 (x2l)), (⟨w.heap.size + 1, 0, none⟩, .int .u64 (bh)), (⟨w.heap.size + 1, 1, none⟩, .int .u64 (bl)), (⟨w.heap.size + 1 + 1, 0, none⟩, .int .u64 (0)), (⟨w.heap.size + 1 + 1, 1, none⟩, .int .u64 (0)), (⟨w.heap.size + 1 + 1 + 1, 0, none⟩, .int .u64 (0)), (⟨w.heap.size + 1 + 1 + 1, 1, none⟩, .int .u64 (0)), (⟨w.heap.size + 1 + 1 + 1 + 1, 0, none⟩, .int .u64 (q2h)), (⟨w.heap.size + 1 + 1 + 1 + 1, 1, none⟩, .int .u64 (q2l)), (⟨w.heap.size + 1 + 1 + 1 + 1 + 1, 0, none⟩, .int .u64 (r2h)), (⟨w.heap.size + 1 + 1 + 1 + 1 + 1, 1, none⟩, .int .u64 (r2l))]) (by first|(simp [Keep, go_sem, *];done)|(simp [Keep, go_sem, *];omega)|(simp (disch := first | omega|(simp;omega)|(simp;done)) [Keep, go_sem, A4, A5, RowKit.frozen?_alloc_cells, A1, *];done)|(simp (disch := first | omega|(simp;omega)|(simp;done)) [Keep, go_sem, A4, A5, RowKit.frozen?_alloc_cells, A1, *];omega)) ht4;have hz4 := Below.size ht4;(try simp at hz4);clear ht4;simp only [Keep] at K4))
      go_roundw
      case rel => exact ⟨i + 1, A2, 2 * Q + 1, R3 - b, x2h, x2l, q2h, q2l + 1, r3h, r3l, by go_num, by omega, hA3, ⟨c3.out.1, c3.out.2.1⟩, (by rw [hT3.out];have := hQ3.out;omega : 0 <= 2 * Q + 1 /\ 2 * Q + 1 < 2 ^ (i + 1)), (by rw [hT3.out];exact J1.out : p * 2 ^ (i + 1) = ((2 * Q + 1) * b + (R3 - b)) * 340282366920938463463374607431768211456 + A2), WX, WQ1, WR3, (by first|(simp [Keep, go_sem, *];done)|(simp [Keep, go_sem, *];omega)|(simp (disch := first | omega|(simp;omega)|(simp;done)) [Keep, go_sem, A4, A5, RowKit.frozen?_alloc_cells, A1, *];done)|(simp (disch := first | omega|(simp;omega)|(simp;done)) [Keep, go_sem, A4, A5, RowKit.frozen?_alloc_cells, A1, *];omega)), (by repeat (first | exact Tr.refl _ | assumption | apply Tr.al | apply Tr.drN | apply Tr.dr|(refine Tr.set ?_ (by first | omega|(simp;done)|(simp;omega)) _)))⟩
      case measure => simp [intOf];omega
     ·go_wp2_with (first
       | (go_at_call 136;(with_reducible refine (Hr WR.out hB.out hR2b.out.1 (by omega) c2.out _).mono ?_);rintro e w3 ⟨rfl, ht3⟩;have T3 : Tr w w3 := Tr.trans (by repeat (first | exact Tr.refl _ | assumption | apply Tr.al | apply Tr.drN | apply Tr.dr|(refine Tr.set ?_ (by first | omega|(simp;done)|(simp;omega)) _))) ht3;have K3 := Keep.tr (l := [(⟨w.heap.size, 0, none⟩, .int .u64 (x2h)), (⟨w.heap.size, 1, none⟩, .int .u64 (x2l)), (⟨w.heap.size + 1, 0, none⟩, .int .u64 (bh)), (⟨w.heap.size + 1, 1, none⟩, .int .u64 (bl)), (⟨w.heap.size + 1 + 1, 0, none⟩, .int .u64 (0)), (⟨w.heap.size + 1 + 1, 1, none⟩, .int .u64 (0)), (⟨w.heap.size + 1 + 1 + 1, 0, none⟩, .int .u64 (0)), (⟨w.heap.size + 1 + 1 + 1, 1, none⟩, .int .u64 (0)), (⟨w.heap.size + 1 + 1 + 1 + 1, 0, none⟩, .int .u64 (q2h)), (⟨w.heap.size + 1 + 1 + 1 + 1, 1, none⟩, .int .u64 (q2l)), (⟨w.heap.size + 1 + 1 + 1 + 1 + 1, 0, none⟩, .int .u64 (r2h)), (⟨w.heap.size + 1 + 1 + 1 + 1 + 1, 1, none⟩, .int .u64 (r2l))]) (by first|(simp [Keep, go_sem, *];done)|(simp [Keep, go_sem, *];omega)|(simp (disch := first | omega|(simp;omega)|(simp;done)) [Keep, go_sem, A4, A5, RowKit.frozen?_alloc_cells, A1, *];done)|(simp (disch := first | omega|(simp;omega)|(simp;done)) [Keep, go_sem, A4, A5, RowKit.frozen?_alloc_cells, A1, *];omega)) ht3;have hz3 := Below.size ht3;(try simp at hz3);clear ht3;simp only [Keep] at K3))
      go_roundw
      case rel => exact ⟨i + 1, A2, 2 * Q, R2, x2h, x2l, q2h, q2l, r2h, r2l, by go_num, by omega, hA3, ⟨hR2b.out.1, c2.out⟩, (by rw [hT3.out];have := hQ3.out;omega : 0 <= 2 * Q /\ 2 * Q < 2 ^ (i + 1)), (by rw [hT3.out, c3.out];exact J0.out : p * 2 ^ (i + 1) = (2 * Q * b + R2) * 340282366920938463463374607431768211456 + A2), WX, WQ, WR, (by first|(simp [Keep, go_sem, *];done)|(simp [Keep, go_sem, *];omega)|(simp (disch := first | omega|(simp;omega)|(simp;done)) [Keep, go_sem, A4, A5, RowKit.frozen?_alloc_cells, A1, *];done)|(simp (disch := first | omega|(simp;omega)|(simp;done)) [Keep, go_sem, A4, A5, RowKit.frozen?_alloc_cells, A1, *];omega)), (by repeat (first | exact Tr.refl _ | assumption | apply Tr.al | apply Tr.drN | apply Tr.dr|(refine Tr.set ?_ (by first | omega|(simp;done)|(simp;omega)) _)))⟩
      case measure => simp [intOf];omega
    ·obtain rfl : i = 128 := by omega
     go_wp2
     go_region
     go_wp2
     have H4' : Hid (p * 340282366920938463463374607431768211456 = (Q * b + R) * 340282366920938463463374607431768211456 + A) := (by have := H4.out;simpa using this : p * 340282366920938463463374607431768211456 = (Q * b + R) * 340282366920938463463374607431768211456 + A)
     simp [bodyPost, results, Tryz.results242, go_sem, K]
     exact ⟨A, Q, R, qh, ql, rh, rl, H1, H2, H4', H6, H7, rfl, (by repeat (first | exact Tr.refl _ | assumption | apply Tr.al | apply Tr.drN | apply Tr.dr|(refine Tr.set ?_ (by first | omega|(simp;done)|(simp;omega)) _)))⟩
 refine hL.mono fun e w' ⟨A, Q, R, qh, ql, rh, rl, a1, a2, a3, a4, a5, he, ht⟩ => ⟨?_, ht⟩
 obtain ⟨e1, e2⟩ := Z3 p b A Q R a3.out a1.out.1 a1.out.2 a2.out.1 a2.out.2
 obtain ⟨rfl, rfl⟩ := a4.out
 obtain ⟨rfl, rfl⟩ := a5.out
 rw [he, <- e1, <- e2]
theorem Ye (p b : Int) (w : World) (hp : 0 <= p) (hp' : p < 340282366920938463463374607431768211456) (hb : 1 <= b) (hb' : b < 340282366920938463463374607431768211456) :
  Calls Tryz.prog 242 #[.agg #[.int .u64 (p / 18446744073709551616), .int .u64 (p % 18446744073709551616)], .agg #[.int .u64 (b / 18446744073709551616), .int .u64 (b % 18446744073709551616)]] w fun e w' =>
   e = .returned (.tuple #[.agg #[.int .u64 (p / b / 18446744073709551616), .int .u64 (p / b % 18446744073709551616)], .agg #[.int .u64 (p % b / 18446744073709551616), .int .u64 (p % b % 18446744073709551616)]]) /\ Tr w w' := by
 by_cases h1 : p / 18446744073709551616 = 0
 ·by_cases h2 : b / 18446744073709551616 = 0
  ·have e1 : p % 18446744073709551616 = p := by omega
   have e2 : b % 18446744073709551616 = b := by omega
   have q0 : 0 <= p / b := Int.ediv_nonneg hp (by omega)
   have q1 : p / b <= p := Int.ediv_le_self _ hp
   have r0 : 0 <= p % b := Int.emod_nonneg _ (by omega)
   have r1 : p % b < b := Int.emod_lt_of_pos _ (by omega)
   have := Tj p b w hb (by omega) hp (by omega)
   rw [h1, h2, e1, e2, show p / b / 18446744073709551616 = 0 by omega, show p / b % 18446744073709551616 = p / b by omega, show p % b / 18446744073709551616 = 0 by omega, show p % b % 18446744073709551616 = p % b by omega]
   exact this
  ·exact Nx p b _ _ _ _ w hp hp' hb hb' ⟨rfl, rfl⟩ ⟨rfl, rfl⟩ (.inl ⟨by simpa using h1, by simpa using h2⟩)
 ·exact Nx p b _ _ _ _ w hp hp' hb hb' ⟨rfl, rfl⟩ ⟨rfl, rfl⟩ (.inr (by simpa using h1))

def Ct (w : World) (b : Nat) : Nat := (intOf ((w.cell? ⟨b, 0, none⟩).getD undef) * 18446744073709551616 + intOf ((w.cell? ⟨b, 1, none⟩).getD undef)).toNat
theorem Eg {w : World} {b : Nat} {x h l : Int} (hw : Wd x h l) (h0 : w.cell? ⟨b, 0, none⟩ = some (.int .u64 h)) (h1 : w.cell? ⟨b, 1, none⟩ = some (.int .u64 l)) : Ct w b = x.toNat := by
 obtain ⟨rfl, rfl⟩ := hw
 unfold Ct
 rw [h0, h1]
 simp only [Option.getD_some, intOf]
 congr 1
 omega
theorem A1b (x : Int) (h0 : 0 <= x) (h1 : x < 18446744073709551616) : bits .and .u64 x 1 = x % 2 :=
 bits_mask .u64 64 (by decide) Ff 1 (by decide) x h0 (by simpa using h1)
theorem Hx (a b : Int) (ha : a % 2 = 0) (hb : b % 2 = 1) : Int.gcd (a / 2) b = Int.gcd a b := by
 have e : a = 2 * (a / 2) := by omega
 have hc : Nat.Coprime 2 b.natAbs := by show Nat.gcd 2 b.natAbs = 1;rw [Nat.gcd_rec, show b.natAbs % 2 = 1 by omega];exact Nat.gcd_one_left _
 rw [Int.gcd, Int.gcd, show a.natAbs = 2 * (a / 2).natAbs by omega, Nat.Coprime.gcd_mul_left_cancel _ hc]
theorem Mk (a b : Int) (ha : a % 2 = 1) (hb : b % 2 = 0) : Int.gcd a (b / 2) = Int.gcd a b := by
 rw [Int.gcd_comm, Hx b a hb ha, Int.gcd_comm]
theorem Rn (a b : Int) : Int.gcd (a - b) b = Int.gcd a b := by
 simp
theorem Us (a b : Int) (ha : a % 2 = 0) (hb : b % 2 = 0) : Int.gcd a b = 2 * Int.gcd (a / 2) (b / 2) := by
 rw [Int.gcd, Int.gcd, show a.natAbs = 2 * (a / 2).natAbs by omega, show b.natAbs = 2 * (b / 2).natAbs by omega, Nat.gcd_mul_left]
theorem Hp {p h l h2 l2 : Int} (h1 : Wd p h l) (h3 : Wd (p / 2) h2 l2) (hp : 0 <= p) (hp' : p < 340282366920938463463374607431768211456) (w : World) :
  Calls Tryz.prog 263 #[.agg #[.int .u64 h, .int .u64 l]] w fun e w' => e = .returned (.agg #[.int .u64 h2, .int .u64 l2]) /\ Tr w w' := by
 obtain ⟨rfl, rfl⟩ := h1
 obtain ⟨rfl, rfl⟩ := h3
 exact Wf p hp hp' w
theorem Kq {p q ph pl qh ql rh rl : Int} (h1 : Wd p ph pl) (h2 : Wd q qh ql) (h3 : Wd (p + q) rh rl) (hp : 0 <= p) (hq : 0 <= q) (h : p + q < 340282366920938463463374607431768211456) (w : World) :
  Calls Tryz.prog 219 #[.agg #[.int .u64 ph, .int .u64 pl], .agg #[.int .u64 qh, .int .u64 ql]] w fun e w' => e = .returned (.agg #[.int .u64 rh, .int .u64 rl]) /\ Tr w w' := by
 obtain ⟨rfl, rfl⟩ := h1
 obtain ⟨rfl, rfl⟩ := h2
 obtain ⟨rfl, rfl⟩ := h3
 exact Wk p q hp hq h w
theorem N6 {w1 w2 : World} {b : Nat} {x1 h1 l1 x2 h2 l2 : Int} (a1 : Wd x1 h1 l1) (a2 : Wd x2 h2 l2) (c1 : w1.cell? ⟨b, 0, none⟩ = some (.int .u64 h1)) (c2 : w1.cell? ⟨b, 1, none⟩ = some (.int .u64 l1))
  (c3 : w2.cell? ⟨b, 0, none⟩ = some (.int .u64 h2)) (c4 : w2.cell? ⟨b, 1, none⟩ = some (.int .u64 l2)) (h0 : 0 <= x1) (h : x1 < x2) : Ct w1 b < Ct w2 b := by
 rw [Eg a1 c1 c2, Eg a2 c3 c4];omega
theorem Qh {w1 w2 : World} {b b' : Nat} {x1 h1 l1 x2 h2 l2 y1 i1 j1 y2 i2 j2 : Int} (a1 : Wd x1 h1 l1) (a2 : Wd x2 h2 l2) (a3 : Wd y1 i1 j1) (a4 : Wd y2 i2 j2) (h0 : 0 <= x1 /\ 0 <= y1 /\ x1 + y1 < x2 + y2)
  (c1 : w1.cell? ⟨b, 0, none⟩ = some (.int .u64 h1)) (c2 : w1.cell? ⟨b, 1, none⟩ = some (.int .u64 l1)) (d1 : w1.cell? ⟨b', 0, none⟩ = some (.int .u64 i1)) (d2 : w1.cell? ⟨b', 1, none⟩ = some (.int .u64 j1))
  (c3 : w2.cell? ⟨b, 0, none⟩ = some (.int .u64 h2)) (c4 : w2.cell? ⟨b, 1, none⟩ = some (.int .u64 l2)) (d3 : w2.cell? ⟨b', 0, none⟩ = some (.int .u64 i2)) (d4 : w2.cell? ⟨b', 1, none⟩ = some (.int .u64 j2)) :
  Ct w1 b + Ct w1 b' < Ct w2 b + Ct w2 b' := by
 rw [Eg a1 c1 c2, Eg a2 c3 c4, Eg a3 d1 d2, Eg a4 d3 d4];omega
theorem J9 {x h l : Int} (a : Wd x h l) : bits .and .u64 l 1 = x % 2 := by
 rw [a.2, A1b _ (by omega) (by omega)];omega
theorem N4 {x h l : Int} (a : Wd x h l) (h0 : 0 <= x) (h1 : x < 340282366920938463463374607431768211456) : (x = 0 /\ h = 0 /\ l = 0) \/ (1 <= x /\ (h == 0) = false) \/ (1 <= x /\ (h == 0) = true /\ (l == 0) = false) := by
 obtain ⟨rfl, rfl⟩ := a
 by_cases e1 : x / 18446744073709551616 = 0
 ·by_cases e2 : x % 18446744073709551616 = 0
  ·exact .inl (by omega)
  ·exact .inr (.inr ⟨by omega, by simp [e1], by simp [e2]⟩)
 ·exact .inr (.inl ⟨by omega, by simp [e1]⟩)
def Big : Int := 340282366920938463463374607431768211456
theorem Xg {a b : Int} (hb : 1 <= b) : (Int.gcd a b : Int) <= b := Int.gcd_le_right _ (by omega)
theorem Zu {g t : Nat} {G : Int} (h : (g : Int) * 2 ^ t = G) (hg : 1 <= g) (hG : G < Big) : t < 128 := by
 rcases Nat.lt_or_ge t 128 with h1 | h1
 ·exact h1
 ·exfalso
  have h2 : (2:Nat) ^ 128 <= 2 ^ t := Nat.pow_le_pow_right (by decide) h1
  have h3 : ((2 ^ 128 : Nat) : Int) <= ((2 ^ t : Nat) : Int) := Int.ofNat_le.2 h2
  rw [Int.natCast_pow] at h3
  have h4 : (2:Int) ^ t <= (g : Int) * 2 ^ t := by
   have : (1:Int) * 2 ^ t <= (g : Int) * 2 ^ t := Int.mul_le_mul_of_nonneg_right (by omega) (Int.le_of_lt (Int.pow_pos (by decide)))
   simpa using this
  simp at h3
  rw [h] at h4
  have : ((2:Int) ^ t) = (((2:Nat) : Int) ^ t) := rfl
  unfold Big at hG
  omega

theorem Uq {x y : Int} {t : Nat} {G : Int} (hx : x % 2 = 0) (hy : y % 2 = 0) (h : (Int.gcd x y : Int) * 2 ^ t = G) : (Int.gcd (x / 2) (y / 2) : Int) * 2 ^ (t + 1) = G := by
 rw [Us x y hx hy] at h
 rw [<- h, Int.pow_succ]
 push_cast
 grind
def Yy (p q : Int) (w : World) (e : Ending) (w' : World) : Prop :=
 ∃ gh gl : Int, Hid (Wd (Int.gcd p q) gh gl) /\ e = .returned (.agg #[.int .u64 gh, .int .u64 gl]) /\ Tr w w'
theorem He {p q : Int} (hq : 1 <= q) (h : q < Big) : (Int.gcd p q : Int) < Big := Int.lt_of_le_of_lt (Xg hq) h

set_option maxRecDepth 100000 in
set_option maxHeartbeats 4000000 in
theorem We (p q ah al bh bl : Int) (w : World) (hp : 1 <= p) (hp' : Hid (p < Big)) (hq : 1 <= q) (hq' : Hid (q < Big)) (hA : Hid (Wd p ah al)) (hB : Hid (Wd q bh bl)) (hz : (ah == 0) = false \/ ((ah == 0) = true /\ (al == 0) = false)) :
  Calls Tryz.prog 241 #[.agg #[.int .u64 ah, .int .u64 al], .agg #[.int .u64 bh, .int .u64 bl]] w (Yy p q w) := by
 go_enter Tryz.func241, Tryz.ntmps241
 go_upto_region 1 with (fail)
 refine Cx (w0 := w) [(⟨w.heap.size, 0, none⟩, .int .u64 (ah)), (⟨w.heap.size, 1, none⟩, .int .u64 (al)), (⟨w.heap.size + 1, 0, none⟩, .int .u64 (bh)), (⟨w.heap.size + 1, 1, none⟩, .int .u64 (bl)), (⟨w.heap.size + 1 + 1, 0, none⟩, .int .u64 (0)), (⟨w.heap.size + 1 + 1, 1, none⟩, .int .u64 (0))] (by first|(simp [Keep, go_sem, *];done)|(simp [Keep, go_sem, *];omega)|(simp (disch := first | omega|(simp;omega)|(simp;done)) [Keep, go_sem, A4, A5, RowKit.frozen?_alloc_cells, A1, *];done)|(simp (disch := first | omega|(simp;omega)|(simp;done)) [Keep, go_sem, A4, A5, RowKit.frozen?_alloc_cells, A1, *];omega)) (by repeat (first | exact Tr.refl _ | assumption | apply Tr.al | apply Tr.drN | apply Tr.dr|(refine Tr.set ?_ (by first | omega|(simp;done)|(simp;omega)) _))) ?_;intro w9 hs9 K9 T9;(try simp at hs9);simp only [Keep] at K9
 go_cut [8] (fun s wx => s = .bool false /\ w9 = wx)
 case first =>
  rcases hz with hz | ⟨hz, hz'⟩
  all_goals
   go_wp2_with fail
   go_meet
   exact ⟨rfl, rfl⟩
 obtain ⟨rfl, rfl⟩ := hcut
 clear hz
 go_wp2
 go_loopw [5] (fun s wr => ∃ (t : Nat) (x y xh xl yh yl : Int), s = .int .i64 t /\ t < 128 /\ Hid (1 <= x /\ x < Big) /\ Hid (1 <= y /\ y < Big) /\ Hid ((Int.gcd x y : Int) * 2 ^ t = Int.gcd p q) /\ Hid (Wd x xh xl) /\ Hid (Wd y yh yl) /\ Keep wr [(⟨w.heap.size, 0, none⟩, .int .u64 (xh)), (⟨w.heap.size, 1, none⟩, .int .u64 (xl)), (⟨w.heap.size + 1, 0, none⟩, .int .u64 (yh)), (⟨w.heap.size + 1, 1, none⟩, .int .u64 (yl)), (⟨w.heap.size + 1 + 1, 0, none⟩, .int .u64 (0)), (⟨w.heap.size + 1 + 1, 1, none⟩, .int .u64 (0))] /\ Tr w wr) (fun _ wr => Ct wr w.heap.size)
 case atStart => exact ⟨0, p, q, ah, al, bh, bl, rfl, by omega, ⟨hp, hp'.out⟩, ⟨hq, hq'.out⟩, (by simp : (Int.gcd p q : Int) * 2 ^ 0 = Int.gcd p q), hA, hB, (by first|(simp [Keep, go_sem, *];done)|(simp [Keep, go_sem, *];omega)|(simp (disch := first | omega|(simp;omega)|(simp;done)) [Keep, go_sem, A4, A5, RowKit.frozen?_alloc_cells, A1, *];done)|(simp (disch := first | omega|(simp;omega)|(simp;done)) [Keep, go_sem, A4, A5, RowKit.frozen?_alloc_cells, A1, *];omega)), (by repeat (first | exact Tr.refl _ | assumption | apply Tr.al | apply Tr.drN | apply Tr.dr|(refine Tr.set ?_ (by first | omega|(simp;done)|(simp;omega)) _)))⟩
 case round =>
  obtain ⟨t, x, y, xh, xl, yh, yl, rfl, ht, H1, H2, H3, H4, H5, K, T⟩ := hrel
  have hzz := Below.size T
  simp only [Keep] at K
  have mx := J9 H4.out
  have my := J9 H5.out
  have hx2 : x % 2 = 0 \/ x % 2 = 1 := by omega
  have hy2 : y % 2 = 0 \/ y % 2 = 1 := by omega
  by_cases hee : x % 2 = 0 /\ y % 2 = 0
  ·obtain ⟨e1, e2⟩ := hee
   rw [e1] at mx
   rw [e2] at my
   have E1 := Lib.hid e1
   have E2 := Lib.hid e2
   obtain ⟨x2h, hx2h⟩ : ∃ z, z = x / 2 / 18446744073709551616 := ⟨_, rfl⟩
   obtain ⟨x2l, hx2l⟩ : ∃ z, z = x / 2 % 18446744073709551616 := ⟨_, rfl⟩
   obtain ⟨y2h, hy2h⟩ : ∃ z, z = y / 2 / 18446744073709551616 := ⟨_, rfl⟩
   obtain ⟨y2l, hy2l⟩ : ∃ z, z = y / 2 % 18446744073709551616 := ⟨_, rfl⟩
   have WX : Hid (Wd (x / 2) x2h x2l) := ⟨hx2h, hx2l⟩
   have WY : Hid (Wd (y / 2) y2h y2l) := ⟨hy2h, hy2l⟩
   have C1 := Lib.hid fun W => Hp H4.out WX.out (by have := H1.out;omega) H1.out.2 W
   have C2 := Lib.hid fun W => Hp H5.out WY.out (by have := H2.out;omega) H2.out.2 W
   clear e1 e2 hx2h hx2l hy2h hy2l hx2 hy2
   have G : (Int.gcd (x / 2) (y / 2) : Int) * 2 ^ (t + 1) = Int.gcd p q := Uq E1.out E2.out H3.out
   have ht' : t + 1 < 128 := Zu (g := Int.gcd (x / 2) (y / 2)) G (by have := H1.out;have := E1.out;exact Int.gcd_pos_of_ne_zero_left _ (by omega)) (He hq hq'.out)
   have GH := Lib.hid G
   clear G
   go_upto_region 5 with (fail)
   have ew : IntKind.i64.wrap ((t : Int) + 1) = (t : Int) + 1 := IntWalk.i64_in _ (by omega)
   go_region_with (first
    | (go_at_call 263;(with_reducible refine (C1.out _).mono ?_);rintro e w3 ⟨rfl, ht3⟩;have T3 : Tr w w3 := Tr.trans (by repeat (first | exact Tr.refl _ | assumption | apply Tr.al | apply Tr.drN | apply Tr.dr|(refine Tr.set ?_ (by first | omega|(simp;done)|(simp;omega)) _))) ht3;have K3 := Keep.tr (l := [(⟨w.heap.size, 0, none⟩, .int .u64 (xh)), (⟨w.heap.size, 1, none⟩, .int .u64 (xl)), (⟨w.heap.size + 1, 0, none⟩, .int .u64 (yh)), (⟨w.heap.size + 1, 1, none⟩, .int .u64 (yl)), (⟨w.heap.size + 1 + 1, 0, none⟩, .int .u64 (0)), (⟨w.heap.size + 1 + 1, 1, none⟩, .int .u64 (0))]) (by first|(simp [Keep, go_sem, *];done)|(simp [Keep, go_sem, *];omega)|(simp (disch := first | omega|(simp;omega)|(simp;done)) [Keep, go_sem, A4, A5, RowKit.frozen?_alloc_cells, A1, *];done)|(simp (disch := first | omega|(simp;omega)|(simp;done)) [Keep, go_sem, A4, A5, RowKit.frozen?_alloc_cells, A1, *];omega)) ht3;simp only [Keep] at K3;clear ht3)
    | (go_at_call 263;(with_reducible refine (C2.out _).mono ?_);rintro e w4 ⟨rfl, ht4⟩;have T4 : Tr w w4 := Tr.trans (by repeat (first | exact Tr.refl _ | assumption | apply Tr.al | apply Tr.drN | apply Tr.dr|(refine Tr.set ?_ (by first | omega|(simp;done)|(simp;omega)) _))) ht4;have K4 := Keep.tr (l := [(⟨w.heap.size, 0, none⟩, .int .u64 (xh)), (⟨w.heap.size, 1, none⟩, .int .u64 (xl)), (⟨w.heap.size + 1, 0, none⟩, .int .u64 (yh)), (⟨w.heap.size + 1, 1, none⟩, .int .u64 (yl)), (⟨w.heap.size + 1 + 1, 0, none⟩, .int .u64 (0)), (⟨w.heap.size + 1 + 1, 1, none⟩, .int .u64 (0))]) (by first|(simp [Keep, go_sem, *];done)|(simp [Keep, go_sem, *];omega)|(simp (disch := first | omega|(simp;omega)|(simp;done)) [Keep, go_sem, A4, A5, RowKit.frozen?_alloc_cells, A1, *];done)|(simp (disch := first | omega|(simp;omega)|(simp;done)) [Keep, go_sem, A4, A5, RowKit.frozen?_alloc_cells, A1, *];omega)) ht4;simp only [Keep] at K4;clear ht4))
   all_goals
    go_wp2
    clear ew
    go_roundw
    case rel => (repeat apply Exists.intro);exact ⟨⟨t + 1, x / 2, y / 2, x2h, x2l, y2h, y2l, by go_num, ht', (by have := H1.out;have := E1.out;omega : 1 <= x / 2 /\ x / 2 < Big), (by have := H2.out;have := E2.out;omega : 1 <= y / 2 /\ y / 2 < Big), GH.out, WX, WY, (by first|(simp [Keep, go_sem, *];done)|(simp [Keep, go_sem, *];omega)|(simp (disch := first | omega|(simp;omega)|(simp;done)) [Keep, go_sem, A4, A5, RowKit.frozen?_alloc_cells, A1, *];done)|(simp (disch := first | omega|(simp;omega)|(simp;done)) [Keep, go_sem, A4, A5, RowKit.frozen?_alloc_cells, A1, *];omega)), (by repeat (first | exact Tr.refl _ | assumption | apply Tr.al | apply Tr.drN | apply Tr.dr|(refine Tr.set ?_ (by first | omega|(simp;done)|(simp;omega)) _)))⟩, rfl⟩
    case measure =>
     refine N6 WX.out H4.out ?_ ?_ ?_ ?_ ?_ ?_
     ·(first|(simp [go_sem, *];done)|(simp (disch := first | omega|(simp;omega)|(simp;done)) [go_sem, A4, A5, *];done))
     ·(first|(simp [go_sem, *];done)|(simp (disch := first | omega|(simp;omega)|(simp;done)) [go_sem, A4, A5, *];done))
     ·simp [K]
     ·simp [K]
     ·have := H1.out;omega
     ·have := H1.out;have := E1.out;omega
  ·have hodd : Hid (x % 2 = 1 \/ y % 2 = 1) := (by omega : x % 2 = 1 \/ y % 2 = 1)
   have hcases : (bits .and .u64 xl 1 = 1) \/ (bits .and .u64 xl 1 = 0 /\ bits .and .u64 yl 1 = 1) := by rw [mx, my];omega
   obtain ⟨g, hg⟩ : ∃ g : Int, (Int.gcd x y : Int) = g := ⟨_, rfl⟩
   have HG : Hid (g * 2 ^ t = Int.gcd p q) := (by rw [<- hg];exact H3.out : g * 2 ^ t = Int.gcd p q)
   have hg' := Lib.hid hg
   clear mx my hx2 hy2 hee H3 hg
   go_upto_region 4 with (fail)
   go_cut [19] (fun s wx => s = .bool false /\ wr = wx)
   case first =>
    rcases hcases with mx | ⟨mx, my⟩
    all_goals
     go_wp2_with fail
     go_meet
     exact ⟨rfl, rfl⟩
   obtain ⟨rfl, rfl⟩ := hcut
   clear hcases
   go_wp2
   obtain ⟨wo, rfl⟩ : ∃ wo : World, wo = wr := ⟨_, rfl⟩
   go_loopw [] (fun wr => ∃ (x y xh xl yh yl : Int), Hid (0 <= x /\ x < Big) /\ Hid (1 <= y /\ y < Big) /\ Hid ((Int.gcd x y : Int) = g) /\ Hid (x % 2 = 1 \/ y % 2 = 1) /\ Hid (Wd x xh xl) /\ Hid (Wd y yh yl) /\ Keep wr [(⟨w.heap.size, 0, none⟩, .int .u64 (xh)), (⟨w.heap.size, 1, none⟩, .int .u64 (xl)), (⟨w.heap.size + 1, 0, none⟩, .int .u64 (yh)), (⟨w.heap.size + 1, 1, none⟩, .int .u64 (yl)), (⟨w.heap.size + 1 + 1, 0, none⟩, .int .u64 (0)), (⟨w.heap.size + 1 + 1, 1, none⟩, .int .u64 (0))] /\ Tr w wr) (fun wr => Ct wr w.heap.size + Ct wr (w.heap.size + 1))
   case atStart => exact ⟨x, y, xh, xl, yh, yl, ⟨by have := H1.out;omega, H1.out.2⟩, H2, hg', hodd, H4, H5, (by first|(simp [Keep, go_sem, *];done)|(simp [Keep, go_sem, *];omega)|(simp (disch := first | omega|(simp;omega)|(simp;done)) [Keep, go_sem, A4, A5, RowKit.frozen?_alloc_cells, A1, *];done)|(simp (disch := first | omega|(simp;omega)|(simp;done)) [Keep, go_sem, A4, A5, RowKit.frozen?_alloc_cells, A1, *];omega)), (by repeat (first | exact Tr.refl _ | assumption | apply Tr.al | apply Tr.drN | apply Tr.dr|(refine Tr.set ?_ (by first | omega|(simp;done)|(simp;omega)) _)))⟩
   case round =>
    clear H1 H2 H4 H5 hg' hodd K T hzz
    clear x y xh xl yh yl
    obtain ⟨x, y, xh, xl, yh, yl, J1, J2, J3, J4, J5, J6, K, T⟩ := hrel
    have hzz := Below.size T
    simp only [Keep] at K
    rcases N4 J5.out J1.out.1 J1.out.2 with ⟨z1, rfl, rfl⟩ | hnz
    ·have hy : Hid (y * 2 ^ t = Int.gcd p q) := (by have h3 := J3.out;have h2 := J2.out;rw [z1] at h3;have e : (Int.gcd 0 y : Int) = y := (by simp;omega);rw [<- HG.out, <- h3, e] : y * 2 ^ t = Int.gcd p q)
     clear z1 J1 J3 J4 J5
     go_wp2
     obtain ⟨wo2, rfl⟩ : ∃ wo : World, wo = wr := ⟨_, rfl⟩
     go_loopw [5] (fun s wr => ∃ (k : Nat) (y yh yl : Int), s = .int .i64 k /\ k < 128 /\ Hid (1 <= y) /\ Hid (y * 2 ^ k = Int.gcd p q) /\ Hid (Wd y yh yl) /\ Keep wr [(⟨w.heap.size + 1, 0, none⟩, .int .u64 (yh)), (⟨w.heap.size + 1, 1, none⟩, .int .u64 (yl)), (⟨w.heap.size + 1 + 1, 0, none⟩, .int .u64 (0)), (⟨w.heap.size + 1 + 1, 1, none⟩, .int .u64 (0))] /\ Tr w wr) (fun s _ => (intOf s).toNat)
     case atStart => exact ⟨t, y, yh, yl, rfl, ht, J2.out.1, hy, J6, (by first|(simp [Keep, go_sem, *];done)|(simp [Keep, go_sem, *];omega)|(simp (disch := first | omega|(simp;omega)|(simp;done)) [Keep, go_sem, A4, A5, RowKit.frozen?_alloc_cells, A1, *];done)|(simp (disch := first | omega|(simp;omega)|(simp;done)) [Keep, go_sem, A4, A5, RowKit.frozen?_alloc_cells, A1, *];omega)), (by repeat (first | exact Tr.refl _ | assumption | apply Tr.al | apply Tr.drN | apply Tr.dr|(refine Tr.set ?_ (by first | omega|(simp;done)|(simp;omega)) _)))⟩
     case round =>
      clear hy J6 J2 K T hzz HG ht
      clear y yh yl
      obtain ⟨k, y, yh, yl, rfl, hk, J1, J2, J3, K, T⟩ := hrel
      have hzz := Below.size T
      simp only [Keep] at K
      by_cases h0 : 0 < k
      ·have hb : Hid (y + y < Big) := (by
        have h3 := J2.out
        have h4 := He (p := p) hq hq'.out
        have h5 := J1.out
        obtain ⟨k, rfl⟩ : ∃ j, k = j + 1 := ⟨k - 1, by omega⟩
        rw [Int.pow_succ] at h3
        have h6 : (1:Int) <= 2 ^ k := Int.pow_pos (by decide)
        have h7 : y * 1 <= y * 2 ^ k := Int.mul_le_mul_of_nonneg_left h6 (by omega)
        have h8 : y * (2 ^ k * 2) = 2 * (y * 2 ^ k) := by grind
        omega : y + y < Big)
       obtain ⟨zh, hzh⟩ : ∃ z, z = (y + y) / 18446744073709551616 := ⟨_, rfl⟩
       obtain ⟨zl, hzl⟩ : ∃ z, z = (y + y) % 18446744073709551616 := ⟨_, rfl⟩
       have WZ : Hid (Wd (y + y) zh zl) := ⟨hzh, hzl⟩
       clear hzh hzl
       have CP := Lib.hid fun W => Kq J3.out J3.out WZ.out (by have := J1.out;omega) (by have := J1.out;omega) hb.out W
       go_wp2_with (go_at_call 219;(with_reducible refine (CP.out _).mono ?_);rintro e w3 ⟨rfl, ht3⟩;have T3 : Tr w w3 := Tr.trans (by repeat (first | exact Tr.refl _ | assumption | apply Tr.al | apply Tr.drN | apply Tr.dr|(refine Tr.set ?_ (by first | omega|(simp;done)|(simp;omega)) _))) ht3;have K3 := Keep.tr (l := [(⟨w.heap.size + 1, 0, none⟩, .int .u64 (yh)), (⟨w.heap.size + 1, 1, none⟩, .int .u64 (yl)), (⟨w.heap.size + 1 + 1, 0, none⟩, .int .u64 (0)), (⟨w.heap.size + 1 + 1, 1, none⟩, .int .u64 (0))]) (by first|(simp [Keep, go_sem, *];done)|(simp [Keep, go_sem, *];omega)|(simp (disch := first | omega|(simp;omega)|(simp;done)) [Keep, go_sem, A4, A5, RowKit.frozen?_alloc_cells, A1, *];done)|(simp (disch := first | omega|(simp;omega)|(simp;done)) [Keep, go_sem, A4, A5, RowKit.frozen?_alloc_cells, A1, *];omega)) ht3;have hz3 := Below.size ht3;(try simp at hz3);clear ht3;simp only [Keep] at K3)
       go_roundw
       case rel => exact ⟨k - 1, y + y, zh, zl, by go_num, by omega, (by have := J1.out;omega : 1 <= y + y), (by
        have h3 := J2.out
        obtain ⟨k, rfl⟩ : ∃ j, k = j + 1 := ⟨k - 1, by omega⟩
        rw [<- h3, Int.pow_succ];simp only [Nat.add_sub_cancel];grind : (y + y) * 2 ^ (k - 1) = Int.gcd p q), WZ, (by first|(simp [Keep, go_sem, *];done)|(simp [Keep, go_sem, *];omega)|(simp (disch := first | omega|(simp;omega)|(simp;done)) [Keep, go_sem, A4, A5, RowKit.frozen?_alloc_cells, A1, *];done)|(simp (disch := first | omega|(simp;omega)|(simp;done)) [Keep, go_sem, A4, A5, RowKit.frozen?_alloc_cells, A1, *];omega)), (by repeat (first | exact Tr.refl _ | assumption | apply Tr.al | apply Tr.drN | apply Tr.dr|(refine Tr.set ?_ (by first | omega|(simp;done)|(simp;omega)) _)))⟩
       case measure => simp [intOf];omega
      ·obtain rfl : k = 0 := by omega
       go_wp2
       simp [bodyPost, results, Tryz.results241, go_sem, K]
       exact ⟨yh, yl, (by have := J2.out;simp at this;rw [<- this];exact J3.out : Wd (Int.gcd p q) yh yl), rfl, (by repeat (first | exact Tr.refl _ | assumption | apply Tr.al | apply Tr.drN | apply Tr.dr|(refine Tr.set ?_ (by first | omega|(simp;done)|(simp;omega)) _)))⟩
    ·obtain ⟨z1, hnz⟩ : 1 <= x /\ ((xh == 0) = false \/ ((xh == 0) = true /\ (xl == 0) = false)) := by
      rcases hnz with ⟨a, b⟩ | ⟨a, b, c⟩
      ·exact ⟨a, .inl b⟩
      ·exact ⟨a, .inr ⟨b, c⟩⟩
     go_upto_region 6 with (fail)
     go_cut [28] (fun s wx => s = .bool true /\ wr = wx)
     case first =>
      rcases hnz with z2 | ⟨z2, z3⟩
      all_goals
       go_wp2_with fail
       go_meet
       exact ⟨rfl, rfl⟩
     obtain ⟨rfl, rfl⟩ := hcut
     clear hnz
     have Z1 := Lib.hid z1
     clear z1
     go_wp2
     obtain ⟨wo2, rfl⟩ : ∃ wo : World, wo = wr := ⟨_, rfl⟩
     clear hA hB
     go_loopw [] (fun wr => ∃ (a ah al : Int), Hid (1 <= a /\ a <= x) /\ Hid ((Int.gcd a y : Int) = g) /\ Hid (a % 2 = 1 \/ y % 2 = 1) /\ Hid (Wd a ah al) /\ Keep wr [(⟨w.heap.size, 0, none⟩, .int .u64 (ah)), (⟨w.heap.size, 1, none⟩, .int .u64 (al)), (⟨w.heap.size + 1, 0, none⟩, .int .u64 (yh)), (⟨w.heap.size + 1, 1, none⟩, .int .u64 (yl)), (⟨w.heap.size + 1 + 1, 0, none⟩, .int .u64 (0)), (⟨w.heap.size + 1 + 1, 1, none⟩, .int .u64 (0))] /\ Tr w wr) (fun wr => Ct wr w.heap.size)
     case atStart => exact ⟨x, xh, xl, ⟨Z1.out, Int.le_refl _⟩, J3, J4, J5, (by first|(simp [Keep, go_sem, *];done)|(simp [Keep, go_sem, *];omega)|(simp (disch := first | omega|(simp;omega)|(simp;done)) [Keep, go_sem, A4, A5, RowKit.frozen?_alloc_cells, A1, *];done)|(simp (disch := first | omega|(simp;omega)|(simp;done)) [Keep, go_sem, A4, A5, RowKit.frozen?_alloc_cells, A1, *];omega)), (by repeat (first | exact Tr.refl _ | assumption | apply Tr.al | apply Tr.drN | apply Tr.dr|(refine Tr.set ?_ (by first | omega|(simp;done)|(simp;omega)) _)))⟩
     case round =>
      have KO := Lib.hid K
      clear K T hzz
      obtain ⟨a, ah, al, L1, L3, L4, L5, K, T⟩ := hrel
      have hzz := Below.size T
      simp only [Keep] at K
      have mx := J9 L5.out
      by_cases e1 : a % 2 = 0
      ·rw [e1] at mx
       have E1 := Lib.hid e1
       obtain ⟨ch, hch⟩ : ∃ z, z = a / 2 / 18446744073709551616 := ⟨_, rfl⟩
       obtain ⟨cl, hcl⟩ : ∃ z, z = a / 2 % 18446744073709551616 := ⟨_, rfl⟩
       have WC : Hid (Wd (a / 2) ch cl) := ⟨hch, hcl⟩
       clear e1 hch hcl
       have CP := Lib.hid fun W => Hp L5.out WC.out (by have := L1.out;omega) (by have := L1.out;have := J1.out;unfold Big at *;omega) W
       go_wp2_with (go_at_call 263;(with_reducible refine (CP.out _).mono ?_);rintro e w3 ⟨rfl, ht3⟩;have T3 : Tr w w3 := Tr.trans (by repeat (first | exact Tr.refl _ | assumption | apply Tr.al | apply Tr.drN | apply Tr.dr|(refine Tr.set ?_ (by first | omega|(simp;done)|(simp;omega)) _))) ht3;have K3 := Keep.tr (l := [(⟨w.heap.size, 0, none⟩, .int .u64 (ah)), (⟨w.heap.size, 1, none⟩, .int .u64 (al)), (⟨w.heap.size + 1, 0, none⟩, .int .u64 (yh)), (⟨w.heap.size + 1, 1, none⟩, .int .u64 (yl)), (⟨w.heap.size + 1 + 1, 0, none⟩, .int .u64 (0)), (⟨w.heap.size + 1 + 1, 1, none⟩, .int .u64 (0))]) (by first|(simp [Keep, go_sem, *];done)|(simp [Keep, go_sem, *];omega)|(simp (disch := first | omega|(simp;omega)|(simp;done)) [Keep, go_sem, A4, A5, RowKit.frozen?_alloc_cells, A1, *];done)|(simp (disch := first | omega|(simp;omega)|(simp;done)) [Keep, go_sem, A4, A5, RowKit.frozen?_alloc_cells, A1, *];omega)) ht3;have hz3 := Below.size ht3;(try simp at hz3);clear ht3;simp only [Keep] at K3)
       go_roundw
       case rel => exact ⟨a / 2, ch, cl, (by have := L1.out;have := E1.out;omega : 1 <= a / 2 /\ a / 2 <= x), (by rw [Hx a y E1.out (by have := L4.out;have := E1.out;omega)];exact L3.out : (Int.gcd (a / 2) y : Int) = g), (by have := L4.out;have := E1.out;omega : a / 2 % 2 = 1 \/ y % 2 = 1), WC, (by first|(simp [Keep, go_sem, *];done)|(simp [Keep, go_sem, *];omega)|(simp (disch := first | omega|(simp;omega)|(simp;done)) [Keep, go_sem, A4, A5, RowKit.frozen?_alloc_cells, A1, *];done)|(simp (disch := first | omega|(simp;omega)|(simp;done)) [Keep, go_sem, A4, A5, RowKit.frozen?_alloc_cells, A1, *];omega)), (by repeat (first | exact Tr.refl _ | assumption | apply Tr.al | apply Tr.drN | apply Tr.dr|(refine Tr.set ?_ (by first | omega|(simp;done)|(simp;omega)) _)))⟩
       case measure =>
        refine N6 WC.out L5.out ?_ ?_ ?_ ?_ ?_ ?_
        ·(first|(simp [go_sem, *];done)|(simp (disch := first | omega|(simp;omega)|(simp;done)) [go_sem, A4, A5, *];done))
        ·(first|(simp [go_sem, *];done)|(simp (disch := first | omega|(simp;omega)|(simp;done)) [go_sem, A4, A5, *];done))
        ·simp [K]
        ·simp [K]
        ·have := L1.out;omega
        ·have := L1.out;have := E1.out;omega
      ·have e2 : a % 2 = 1 := by omega
       rw [e2] at mx
       have E2 := Lib.hid e2
       clear e1 e2
       go_wp2
       clear mx
       obtain ⟨wo3, rfl⟩ : ∃ wo : World, wo = wr := ⟨_, rfl⟩
       go_loopw [] (fun wr => ∃ (b bh bl : Int), Hid (1 <= b /\ b <= y) /\ Hid ((Int.gcd a b : Int) = g) /\ Hid (Wd b bh bl) /\ Keep wr [(⟨w.heap.size, 0, none⟩, .int .u64 (ah)), (⟨w.heap.size, 1, none⟩, .int .u64 (al)), (⟨w.heap.size + 1, 0, none⟩, .int .u64 (bh)), (⟨w.heap.size + 1, 1, none⟩, .int .u64 (bl)), (⟨w.heap.size + 1 + 1, 0, none⟩, .int .u64 (0)), (⟨w.heap.size + 1 + 1, 1, none⟩, .int .u64 (0))] /\ Tr w wr) (fun wr => Ct wr (w.heap.size + 1))
       case atStart => exact ⟨y, yh, yl, ⟨J2.out.1, Int.le_refl _⟩, L3, J6, (by first|(simp [Keep, go_sem, *];done)|(simp [Keep, go_sem, *];omega)|(simp (disch := first | omega|(simp;omega)|(simp;done)) [Keep, go_sem, A4, A5, RowKit.frozen?_alloc_cells, A1, *];done)|(simp (disch := first | omega|(simp;omega)|(simp;done)) [Keep, go_sem, A4, A5, RowKit.frozen?_alloc_cells, A1, *];omega)), (by repeat (first | exact Tr.refl _ | assumption | apply Tr.al | apply Tr.drN | apply Tr.dr|(refine Tr.set ?_ (by first | omega|(simp;done)|(simp;omega)) _)))⟩
       case round =>
        clear K T hzz
        obtain ⟨b, bh, bl, N1, N3, N5, K, T⟩ := hrel
        have hzz := Below.size T
        simp only [Keep] at K
        have my := J9 N5.out
        by_cases e1 : b % 2 = 0
        ·rw [e1] at my
         have E1 := Lib.hid e1
         obtain ⟨ch, hch⟩ : ∃ z, z = b / 2 / 18446744073709551616 := ⟨_, rfl⟩
         obtain ⟨cl, hcl⟩ : ∃ z, z = b / 2 % 18446744073709551616 := ⟨_, rfl⟩
         have WC : Hid (Wd (b / 2) ch cl) := ⟨hch, hcl⟩
         clear e1 hch hcl
         have CP := Lib.hid fun W => Hp N5.out WC.out (by have := N1.out;omega) (by have := N1.out;have := J2.out;unfold Big at *;omega) W
         go_wp2_with (go_at_call 263;(with_reducible refine (CP.out _).mono ?_);rintro e w3 ⟨rfl, ht3⟩;have T3 : Tr w w3 := Tr.trans (by repeat (first | exact Tr.refl _ | assumption | apply Tr.al | apply Tr.drN | apply Tr.dr|(refine Tr.set ?_ (by first | omega|(simp;done)|(simp;omega)) _))) ht3;have K3 := Keep.tr (l := [(⟨w.heap.size, 0, none⟩, .int .u64 (ah)), (⟨w.heap.size, 1, none⟩, .int .u64 (al)), (⟨w.heap.size + 1, 0, none⟩, .int .u64 (bh)), (⟨w.heap.size + 1, 1, none⟩, .int .u64 (bl)), (⟨w.heap.size + 1 + 1, 0, none⟩, .int .u64 (0)), (⟨w.heap.size + 1 + 1, 1, none⟩, .int .u64 (0))]) (by first|(simp [Keep, go_sem, *];done)|(simp [Keep, go_sem, *];omega)|(simp (disch := first | omega|(simp;omega)|(simp;done)) [Keep, go_sem, A4, A5, RowKit.frozen?_alloc_cells, A1, *];done)|(simp (disch := first | omega|(simp;omega)|(simp;done)) [Keep, go_sem, A4, A5, RowKit.frozen?_alloc_cells, A1, *];omega)) ht3;have hz3 := Below.size ht3;(try simp at hz3);clear ht3;simp only [Keep] at K3)
         go_roundw
         case rel => exact ⟨b / 2, ch, cl, (by have := N1.out;have := E1.out;omega : 1 <= b / 2 /\ b / 2 <= y), (by rw [Mk a b E2.out E1.out];exact N3.out : (Int.gcd a (b / 2) : Int) = g), WC, (by first|(simp [Keep, go_sem, *];done)|(simp [Keep, go_sem, *];omega)|(simp (disch := first | omega|(simp;omega)|(simp;done)) [Keep, go_sem, A4, A5, RowKit.frozen?_alloc_cells, A1, *];done)|(simp (disch := first | omega|(simp;omega)|(simp;done)) [Keep, go_sem, A4, A5, RowKit.frozen?_alloc_cells, A1, *];omega)), (by repeat (first | exact Tr.refl _ | assumption | apply Tr.al | apply Tr.drN | apply Tr.dr|(refine Tr.set ?_ (by first | omega|(simp;done)|(simp;omega)) _)))⟩
         case measure =>
          refine N6 WC.out N5.out ?_ ?_ ?_ ?_ ?_ ?_
          ·(first|(simp [go_sem, *];done)|(simp (disch := first | omega|(simp;omega)|(simp;done)) [go_sem, A4, A5, *];done))
          ·(first|(simp [go_sem, *];done)|(simp (disch := first | omega|(simp;omega)|(simp;done)) [go_sem, A4, A5, *];done))
          ·simp [K]
          ·simp [K]
          ·have := N1.out;omega
          ·have := N1.out;have := E1.out;omega
        ·have e2 : b % 2 = 1 := by omega
         rw [e2] at my
         have E3 := Lib.hid e2
         clear e1 e2
         have BB : Hid (1 <= a /\ a <= x /\ 1 <= b /\ b <= y /\ x < Big /\ y < Big) := (⟨L1.out.1, L1.out.2, N1.out.1, N1.out.2, J1.out.2, J2.out.2⟩ : 1 <= a /\ a <= x /\ 1 <= b /\ b <= y /\ x < Big /\ y < Big)
         by_cases hlt : a < b
         ·have HL := Lib.hid hlt
          clear hlt
          obtain ⟨ch, hch⟩ : ∃ z, z = (b - a) / 18446744073709551616 := ⟨_, rfl⟩
          obtain ⟨cl, hcl⟩ : ∃ z, z = (b - a) % 18446744073709551616 := ⟨_, rfl⟩
          have WC : Hid (Wd (b - a) ch cl) := ⟨hch, hcl⟩
          clear hch hcl
          have CL := Lib.hid fun W => Hr L5.out N5.out (by have := BB.out;omega) (by have := BB.out;omega) HL.out W
          have CM := Lib.hid fun W => Cv N5.out L5.out WC.out (by have := BB.out;omega) (by have := BB.out;omega) (by have := BB.out;unfold Big at *;omega) (by have := BB.out;unfold Big at *;omega) (by have := BB.out;have := HL.out;unfold Big at *;omega) W
          go_wp2_with (first
           | (go_at_call 136;(with_reducible refine (CL.out _).mono ?_);rintro e w3 ⟨rfl, ht3⟩;have T3 : Tr w w3 := Tr.trans (by repeat (first | exact Tr.refl _ | assumption | apply Tr.al | apply Tr.drN | apply Tr.dr|(refine Tr.set ?_ (by first | omega|(simp;done)|(simp;omega)) _))) ht3;have K3 := Keep.tr (l := [(⟨w.heap.size, 0, none⟩, .int .u64 (ah)), (⟨w.heap.size, 1, none⟩, .int .u64 (al)), (⟨w.heap.size + 1, 0, none⟩, .int .u64 (bh)), (⟨w.heap.size + 1, 1, none⟩, .int .u64 (bl)), (⟨w.heap.size + 1 + 1, 0, none⟩, .int .u64 (0)), (⟨w.heap.size + 1 + 1, 1, none⟩, .int .u64 (0))]) (by first|(simp [Keep, go_sem, *];done)|(simp [Keep, go_sem, *];omega)|(simp (disch := first | omega|(simp;omega)|(simp;done)) [Keep, go_sem, A4, A5, RowKit.frozen?_alloc_cells, A1, *];done)|(simp (disch := first | omega|(simp;omega)|(simp;done)) [Keep, go_sem, A4, A5, RowKit.frozen?_alloc_cells, A1, *];omega)) ht3;have hz3 := Below.size ht3;(try simp at hz3);clear ht3;simp only [Keep] at K3)
           | (go_at_call 220;(with_reducible refine (CM.out _).mono ?_);rintro e w4 ⟨rfl, ht4⟩;have T4 : Tr w w4 := Tr.trans (by repeat (first | exact Tr.refl _ | assumption | apply Tr.al | apply Tr.drN | apply Tr.dr|(refine Tr.set ?_ (by first | omega|(simp;done)|(simp;omega)) _))) ht4;have K4 := Keep.tr (l := [(⟨w.heap.size, 0, none⟩, .int .u64 (bh)), (⟨w.heap.size, 1, none⟩, .int .u64 (bl)), (⟨w.heap.size + 1, 0, none⟩, .int .u64 (ah)), (⟨w.heap.size + 1, 1, none⟩, .int .u64 (al)), (⟨w.heap.size + 1 + 1, 0, none⟩, .int .u64 (0)), (⟨w.heap.size + 1 + 1, 1, none⟩, .int .u64 (0))]) (by first|(simp [Keep, go_sem, *];done)|(simp [Keep, go_sem, *];omega)|(simp (disch := first | omega|(simp;omega)|(simp;done)) [Keep, go_sem, A4, A5, RowKit.frozen?_alloc_cells, A1, *];done)|(simp (disch := first | omega|(simp;omega)|(simp;done)) [Keep, go_sem, A4, A5, RowKit.frozen?_alloc_cells, A1, *];omega)) ht4;have hz4 := Below.size ht4;(try simp at hz4);clear ht4;simp only [Keep] at K4))
          go_roundw
          case rel => exact ⟨b - a, a, ch, cl, ah, al, (by have := BB.out;have := HL.out;omega : 0 <= b - a /\ b - a < Big), (by have := BB.out;omega : 1 <= a /\ a < Big), (by rw [Rn b a, Int.gcd_comm];exact N3.out : (Int.gcd (b - a) a : Int) = g), (by have := E2.out;omega : (b - a) % 2 = 1 \/ a % 2 = 1), WC, L5, (by first|(simp [Keep, go_sem, *];done)|(simp [Keep, go_sem, *];omega)|(simp (disch := first | omega|(simp;omega)|(simp;done)) [Keep, go_sem, A4, A5, RowKit.frozen?_alloc_cells, A1, *];done)|(simp (disch := first | omega|(simp;omega)|(simp;done)) [Keep, go_sem, A4, A5, RowKit.frozen?_alloc_cells, A1, *];omega)), (by repeat (first | exact Tr.refl _ | assumption | apply Tr.al | apply Tr.drN | apply Tr.dr|(refine Tr.set ?_ (by first | omega|(simp;done)|(simp;omega)) _)))⟩
          case measure =>
           have K0 := KO.out
           refine Qh WC.out J5.out L5.out J6.out (by have := BB.out;have := HL.out;omega) ?_ ?_ ?_ ?_ ?_ ?_ ?_ ?_
           ·(first|(simp [go_sem, *];done)|(simp (disch := first | omega|(simp;omega)|(simp;done)) [go_sem, A4, A5, *];done))
           ·(first|(simp [go_sem, *];done)|(simp (disch := first | omega|(simp;omega)|(simp;done)) [go_sem, A4, A5, *];done))
           ·(first|(simp [go_sem, *];done)|(simp (disch := first | omega|(simp;omega)|(simp;done)) [go_sem, A4, A5, *];done))
           ·(first|(simp [go_sem, *];done)|(simp (disch := first | omega|(simp;omega)|(simp;done)) [go_sem, A4, A5, *];done))
           ·simp [K0]
           ·simp [K0]
           ·simp [K0]
           ·simp [K0]
         ·have HL := Lib.hid hlt
          clear hlt
          obtain ⟨ch, hch⟩ : ∃ z, z = (a - b) / 18446744073709551616 := ⟨_, rfl⟩
          obtain ⟨cl, hcl⟩ : ∃ z, z = (a - b) % 18446744073709551616 := ⟨_, rfl⟩
          have WC : Hid (Wd (a - b) ch cl) := ⟨hch, hcl⟩
          clear hch hcl
          have CL := Lib.hid fun W => Hq L5.out N5.out (by have := BB.out;omega) (by have := BB.out;omega) HL.out W
          have CM := Lib.hid fun W => Cv L5.out N5.out WC.out (by have := BB.out;omega) (by have := BB.out;omega) (by have := BB.out;unfold Big at *;omega) (by have := BB.out;unfold Big at *;omega) (by have := BB.out;have := HL.out;unfold Big at *;omega) W
          go_wp2_with (first
           | (go_at_call 136;(with_reducible refine (CL.out _).mono ?_);rintro e w3 ⟨rfl, ht3⟩;have T3 : Tr w w3 := Tr.trans (by repeat (first | exact Tr.refl _ | assumption | apply Tr.al | apply Tr.drN | apply Tr.dr|(refine Tr.set ?_ (by first | omega|(simp;done)|(simp;omega)) _))) ht3;have K3 := Keep.tr (l := [(⟨w.heap.size, 0, none⟩, .int .u64 (ah)), (⟨w.heap.size, 1, none⟩, .int .u64 (al)), (⟨w.heap.size + 1, 0, none⟩, .int .u64 (bh)), (⟨w.heap.size + 1, 1, none⟩, .int .u64 (bl)), (⟨w.heap.size + 1 + 1, 0, none⟩, .int .u64 (0)), (⟨w.heap.size + 1 + 1, 1, none⟩, .int .u64 (0))]) (by first|(simp [Keep, go_sem, *];done)|(simp [Keep, go_sem, *];omega)|(simp (disch := first | omega|(simp;omega)|(simp;done)) [Keep, go_sem, A4, A5, RowKit.frozen?_alloc_cells, A1, *];done)|(simp (disch := first | omega|(simp;omega)|(simp;done)) [Keep, go_sem, A4, A5, RowKit.frozen?_alloc_cells, A1, *];omega)) ht3;have hz3 := Below.size ht3;(try simp at hz3);clear ht3;simp only [Keep] at K3)
           | (go_at_call 220;(with_reducible refine (CM.out _).mono ?_);rintro e w4 ⟨rfl, ht4⟩;have T4 : Tr w w4 := Tr.trans (by repeat (first | exact Tr.refl _ | assumption | apply Tr.al | apply Tr.drN | apply Tr.dr|(refine Tr.set ?_ (by first | omega|(simp;done)|(simp;omega)) _))) ht4;have K4 := Keep.tr (l := [(⟨w.heap.size, 0, none⟩, .int .u64 (ah)), (⟨w.heap.size, 1, none⟩, .int .u64 (al)), (⟨w.heap.size + 1, 0, none⟩, .int .u64 (bh)), (⟨w.heap.size + 1, 1, none⟩, .int .u64 (bl)), (⟨w.heap.size + 1 + 1, 0, none⟩, .int .u64 (0)), (⟨w.heap.size + 1 + 1, 1, none⟩, .int .u64 (0))]) (by first|(simp [Keep, go_sem, *];done)|(simp [Keep, go_sem, *];omega)|(simp (disch := first | omega|(simp;omega)|(simp;done)) [Keep, go_sem, A4, A5, RowKit.frozen?_alloc_cells, A1, *];done)|(simp (disch := first | omega|(simp;omega)|(simp;done)) [Keep, go_sem, A4, A5, RowKit.frozen?_alloc_cells, A1, *];omega)) ht4;have hz4 := Below.size ht4;(try simp at hz4);clear ht4;simp only [Keep] at K4))
          go_roundw
          case rel => exact ⟨a - b, b, ch, cl, bh, bl, (by have := BB.out;have := HL.out;omega : 0 <= a - b /\ a - b < Big), (by have := BB.out;omega : 1 <= b /\ b < Big), (by rw [Rn a b];exact N3.out : (Int.gcd (a - b) b : Int) = g), (by have := E3.out;omega : (a - b) % 2 = 1 \/ b % 2 = 1), WC, N5, (by first|(simp [Keep, go_sem, *];done)|(simp [Keep, go_sem, *];omega)|(simp (disch := first | omega|(simp;omega)|(simp;done)) [Keep, go_sem, A4, A5, RowKit.frozen?_alloc_cells, A1, *];done)|(simp (disch := first | omega|(simp;omega)|(simp;done)) [Keep, go_sem, A4, A5, RowKit.frozen?_alloc_cells, A1, *];omega)), (by repeat (first | exact Tr.refl _ | assumption | apply Tr.al | apply Tr.drN | apply Tr.dr|(refine Tr.set ?_ (by first | omega|(simp;done)|(simp;omega)) _)))⟩
          case measure =>
           have K0 := KO.out
           refine Qh WC.out J5.out N5.out J6.out (by have := BB.out;have := HL.out;omega) ?_ ?_ ?_ ?_ ?_ ?_ ?_ ?_
           ·(first|(simp [go_sem, *];done)|(simp (disch := first | omega|(simp;omega)|(simp;done)) [go_sem, A4, A5, *];done))
           ·(first|(simp [go_sem, *];done)|(simp (disch := first | omega|(simp;omega)|(simp;done)) [go_sem, A4, A5, *];done))
           ·(first|(simp [go_sem, *];done)|(simp (disch := first | omega|(simp;omega)|(simp;done)) [go_sem, A4, A5, *];done))
           ·(first|(simp [go_sem, *];done)|(simp (disch := first | omega|(simp;omega)|(simp;done)) [go_sem, A4, A5, *];done))
           ·simp [K0]
           ·simp [K0]
           ·simp [K0]
           ·simp [K0]
def sg (neg : Bool) (n : Int) : Int := if neg then -n else n
theorem A0k (N D : Int) (neg : Bool) (hN : 0 <= N) (hD : 1 <= D) : (Aq (sg neg N) D).num = (if neg then -(N / (Int.gcd N D : Int)) else N / (Int.gcd N D : Int)) /\ ((Aq (sg neg N) D).den : Int) = D / (Int.gcd N D : Int) := by
 have hg : Int.gcd (sg neg N) D = Int.gcd N D := by unfold sg;cases neg <;> simp
 have e1 := Rat.num_divInt (sg neg N) D
 have e2 := Rat.den_divInt (sg neg N) D
 rw [if_neg (by omega), Int.gcd_comm, hg] at e2
 rw [Int.gcd_comm, hg, Int.sign_eq_one_of_pos (by omega), Int.one_mul] at e1
 have dv : (Int.gcd N D : Int) ∣ N := Int.gcd_dvd_left ..
 constructor
 ·show (Rat.divInt (sg neg N) D).num = _
  rw [e1]
  unfold sg
  cases neg
  ·rfl
  ·simp only [if_true];rw [Int.neg_ediv_of_dvd dv]
 ·show ((Rat.divInt (sg neg N) D).den : Int) = _
  rw [e2]
  have : (D.natAbs : Int) = D := by omega
  rw [<- this]
  simp
theorem Sw (N D : Int) (neg : Bool) (hN : 0 <= N) (hN' : N < Big) (hD : 1 <= D) {nh nl dh dl : Int} (h1 : Wd (N / (Int.gcd N D : Int)) nh nl) (h2 : Wd (D / (Int.gcd N D : Int)) dh dl) :
  (0 < nh /\ Hid ((Ao (sg neg N) D).1 = 0 /\ (Ao (sg neg N) D).2.1 = 0 /\ (Ao (sg neg N) D).2.2 = 5)) \/
  (nh = 0 /\ 1152921504606846976 < nl /\ Hid ((Ao (sg neg N) D).1 = 0 /\ (Ao (sg neg N) D).2.1 = 0 /\ (Ao (sg neg N) D).2.2 = 5)) \/
  (nh = 0 /\ nl <= 1152921504606846976 /\ 0 < dh /\ Hid ((Ao (sg neg N) D).1 = 0 /\ (Ao (sg neg N) D).2.1 = 0 /\ (Ao (sg neg N) D).2.2 = 5)) \/
  (nh = 0 /\ nl <= 1152921504606846976 /\ dh = 0 /\ 1152921504606846976 < dl /\ Hid ((Ao (sg neg N) D).1 = 0 /\ (Ao (sg neg N) D).2.1 = 0 /\ (Ao (sg neg N) D).2.2 = 5)) \/
  (nh = 0 /\ 0 <= nl /\ nl <= 1152921504606846976 /\ dh = 0 /\ 0 <= dl /\ dl <= 1152921504606846976 /\ Hid ((Ao (sg neg N) D).1 = (if neg then -nl else nl) /\ (Ao (sg neg N) D).2.1 = dl /\ (Ao (sg neg N) D).2.2 = 0)) := by
 obtain ⟨q1, q2⟩ := A0k N D neg hN hD
 have hg0 : 0 < Int.gcd N D := Int.gcd_pos_of_ne_zero_right N (by omega)
 have nc0 : 0 <= N / (Int.gcd N D : Int) := Int.ediv_nonneg (by omega) (by omega)
 have nc1 : N / (Int.gcd N D : Int) <= N := Int.ediv_le_self _ (by omega)
 have dd0 : 1 <= D / (Int.gcd N D : Int) := by rw [<- q2];have := (Aq (sg neg N) D).den_pos;omega
 have hm : Ao (sg neg N) D = Cm (Aq (sg neg N) D) := by unfold Ao;rw [if_neg (by omega)]
 have oc := Vi (Aq (sg neg N) D) _ _ neg nc0 (by unfold Big at hN';omega) dd0 q1 q2
 rw [hm]
 obtain ⟨rfl, rfl⟩ := h1
 obtain ⟨rfl, rfl⟩ := h2
 generalize N / (Int.gcd N D : Int) = NC at *
 generalize D / (Int.gcd N D : Int) = DC at *
 rcases oc with ⟨o1, o2⟩ | ⟨o1, o3, o2⟩ | ⟨o1, o3, o4, o5, o2⟩ | ⟨o1, o3, o4, o5, o6, o7, o2⟩
 ·exact .inl ⟨o1, o2⟩
 ·by_cases h : NC % 18446744073709551616 <= 1152921504606846976
  ·exact .inr (.inr (.inl ⟨o1, h, o3, o2⟩))
  ·exact .inr (.inl ⟨o1, by omega, o2⟩)
 ·by_cases h : NC % 18446744073709551616 <= 1152921504606846976
  ·exact .inr (.inr (.inr (.inl ⟨o1, h, o3, by omega, o2⟩)))
  ·exact .inr (.inl ⟨o1, by omega, o2⟩)
 ·refine .inr (.inr (.inr (.inr ⟨o1, by omega, by omega, o3, by omega, by omega, ?_⟩)))
  rw [o6, o7]
  exact o2
theorem Zs {p q ph pl qh ql gh gl : Int} (h1 : Wd p ph pl) (h2 : Wd q qh ql) (h3 : Wd (Int.gcd p q) gh gl) (hp : 0 <= p) (hp' : p < Big) (hq : 1 <= q) (hq' : q < Big) (w : World) :
  Calls Tryz.prog 241 #[.agg #[.int .u64 ph, .int .u64 pl], .agg #[.int .u64 qh, .int .u64 ql]] w fun e w' => e = .returned (.agg #[.int .u64 gh, .int .u64 gl]) /\ Tr w w' := by
 rcases N4 h1 hp hp' with ⟨rfl, rfl, rfl⟩ | hz
 ·have e : (Int.gcd 0 q : Int) = q := by simp;omega
  rw [e] at h3
  obtain ⟨rfl, rfl⟩ := h3
  obtain ⟨rfl, rfl⟩ := h2
  generalize q / 18446744073709551616 = qh at *
  generalize q % 18446744073709551616 = ql at *
  clear h1 hp hp' hq hq' e
  go_enter Tryz.func241, Tryz.ntmps241
  go_wp2
  simp [bodyPost, results, Tryz.results241, go_sem, *]
  exact (by repeat (first | exact Tr.refl _ | assumption | apply Tr.al | apply Tr.drN | apply Tr.dr|(refine Tr.set ?_ (by first | omega|(simp;done)|(simp;omega)) _)))
 ·have hp1 : 1 <= p := by rcases hz with h | h <;> exact h.1
  have hz' : (ph == 0) = false \/ ((ph == 0) = true /\ (pl == 0) = false) := by
   rcases hz with ⟨_, h⟩ | ⟨_, h, h'⟩
   ·exact .inl h
   ·exact .inr ⟨h, h'⟩
  refine (We p q ph pl qh ql w hp1 hp' hq hq' h1 h2 hz').mono fun e w' ⟨gh', gl', hw, he, ht⟩ => ⟨?_, ht⟩
  obtain ⟨rfl, rfl⟩ := hw.out
  obtain ⟨rfl, rfl⟩ := h3
  exact he
theorem S4 {p b ph pl bh bl qh ql rh rl : Int} (h1 : Wd p ph pl) (h2 : Wd b bh bl) (h3 : Wd (p / b) qh ql) (h4 : Wd (p % b) rh rl) (hp : 0 <= p) (hp' : p < Big) (hb : 1 <= b) (hb' : b < Big) (w : World) :
  Calls Tryz.prog 242 #[.agg #[.int .u64 ph, .int .u64 pl], .agg #[.int .u64 bh, .int .u64 bl]] w fun e w' => e = .returned (.tuple #[.agg #[.int .u64 qh, .int .u64 ql], .agg #[.int .u64 rh, .int .u64 rl]]) /\ Tr w w' := by
 obtain ⟨rfl, rfl⟩ := h1
 obtain ⟨rfl, rfl⟩ := h2
 obtain ⟨rfl, rfl⟩ := h3
 obtain ⟨rfl, rfl⟩ := h4
 exact Ye p b w hp hp' hb hb'

set_option maxRecDepth 100000 in
set_option maxHeartbeats 2000000 in
theorem Rx {N D nh nl dh dl : Int} (neg : Bool) (w : World) (h1 : Hid (Wd N nh nl)) (h2 : Hid (Wd D dh dl)) (hN : Hid (0 <= N /\ N < Big)) (hD : Hid (0 <= D /\ D < Big)) :
  Calls Tryz.prog 189 #[.agg #[.int .u64 nh, .int .u64 nl], .bool neg, .agg #[.int .u64 dh, .int .u64 dl]] w fun e w' =>
   e = .returned (.tuple #[.agg #[.int .i64 (Ao (sg neg N) D).1, .int .i64 (Ao (sg neg N) D).2.1], .int .i64 (Ao (sg neg N) D).2.2]) /\ Tr w w' := by
 rcases N4 h2.out hD.out.1 hD.out.2 with ⟨rfl, rfl, rfl⟩ | hz
 ·rw [show Ao (sg neg N) 0 = (0, 0, 16) by unfold Ao;rw [if_pos rfl]]
  go_enter Tryz.func189, Tryz.ntmps189
  go_wp2
  simp [bodyPost, results, Tryz.results189, go_sem, *]
  exact (by repeat (first | exact Tr.refl _ | assumption | apply Tr.al | apply Tr.drN | apply Tr.dr|(refine Tr.set ?_ (by first | omega|(simp;done)|(simp;omega)) _)))
 ·have hD1 : Hid (1 <= D) := (by rcases hz with h | h <;> exact h.1 : 1 <= D)
  have hz' : (dh == 0) = false \/ ((dh == 0) = true /\ (dl == 0) = false) := by
   rcases hz with ⟨_, h⟩ | ⟨_, h, h'⟩
   ·exact .inl h
   ·exact .inr ⟨h, h'⟩
  clear hz
  obtain ⟨G, hG⟩ : ∃ G : Int, G = Int.gcd N D := ⟨_, rfl⟩
  have hG1 : Hid (1 <= G /\ G < Big) := (by
   have := Int.gcd_pos_of_ne_zero_right N (b := D) (by have := hD1.out;omega)
   have := He (p := N) hD1.out hD.out.2
   omega : 1 <= G /\ G < Big)
  obtain ⟨gh, hgh⟩ : ∃ z, z = G / 18446744073709551616 := ⟨_, rfl⟩
  obtain ⟨gl, hgl⟩ : ∃ z, z = G % 18446744073709551616 := ⟨_, rfl⟩
  obtain ⟨ah, hah⟩ : ∃ z, z = N / G / 18446744073709551616 := ⟨_, rfl⟩
  obtain ⟨al, hal⟩ : ∃ z, z = N / G % 18446744073709551616 := ⟨_, rfl⟩
  obtain ⟨bh, hbh⟩ : ∃ z, z = D / G / 18446744073709551616 := ⟨_, rfl⟩
  obtain ⟨bl, hbl⟩ : ∃ z, z = D / G % 18446744073709551616 := ⟨_, rfl⟩
  obtain ⟨rh, hrh⟩ : ∃ z, z = N % G / 18446744073709551616 := ⟨_, rfl⟩
  obtain ⟨rl, hrl⟩ : ∃ z, z = N % G % 18446744073709551616 := ⟨_, rfl⟩
  obtain ⟨sh, hsh⟩ : ∃ z, z = D % G / 18446744073709551616 := ⟨_, rfl⟩
  obtain ⟨sl, hsl⟩ : ∃ z, z = D % G % 18446744073709551616 := ⟨_, rfl⟩
  have WG : Hid (Wd G gh gl) := ⟨hgh, hgl⟩
  have WA : Hid (Wd (N / G) ah al) := ⟨hah, hal⟩
  have WB : Hid (Wd (D / G) bh bl) := ⟨hbh, hbl⟩
  have WR : Hid (Wd (N % G) rh rl) := ⟨hrh, hrl⟩
  have WS : Hid (Wd (D % G) sh sl) := ⟨hsh, hsl⟩
  have mc := Sw N D neg hN.out.1 hN.out.2 hD1.out (hG ▸ WA.out) (hG ▸ WB.out)
  have WG' : Hid (Wd (Int.gcd N D) gh gl) := (hG ▸ WG.out : Wd (Int.gcd N D) gh gl)
  clear hgh hgl hah hal hbh hbl hrh hrl hsh hsl hG
  generalize (Ao (sg neg N) D).1 = o1 at *
  generalize (Ao (sg neg N) D).2.1 = o2 at *
  generalize (Ao (sg neg N) D).2.2 = o3 at *
  have c1 := fun W => Zs h1.out h2.out WG'.out hN.out.1 hN.out.2 hD1.out hD.out.2 W
  have c2 := fun W => S4 h1.out WG.out WA.out WR.out hN.out.1 hN.out.2 hG1.out.1 hG1.out.2 W
  have c3 := fun W => S4 h2.out WG.out WB.out WS.out hD.out.1 hD.out.2 hG1.out.1 hG1.out.2 W
  have C1 := Lib.hid c1
  have C2 := Lib.hid c2
  have C3 := Lib.hid c3
  clear c1 c2 c3 h1 h2 WG WG' WA WB WR WS hG1 hD1 hN hD
  rcases mc with ⟨m1, m9⟩ | ⟨m1, m2, m9⟩ | ⟨m1, m2, m3, m9⟩ | ⟨m1, m2, m3, m4, m9⟩ | ⟨m1, m5, m2, m3, m6, m4, m9⟩
  all_goals
   go_enter Tryz.func189, Tryz.ntmps189
   go_upto_region 1 with (fail)
   refine Cx (w0 := w) [(⟨w.heap.size, 0, none⟩, .int .u64 (nh)), (⟨w.heap.size, 1, none⟩, .int .u64 (nl)), (⟨w.heap.size + 1, 0, none⟩, .int .u64 (dh)), (⟨w.heap.size + 1, 1, none⟩, .int .u64 (dl)), (⟨w.heap.size + 1 + 1, 0, none⟩, .int .i64 (0)), (⟨w.heap.size + 1 + 1, 1, none⟩, .int .i64 (0))] (by first|(simp [Keep, go_sem, *];done)|(simp [Keep, go_sem, *];omega)|(simp (disch := first | omega|(simp;omega)|(simp;done)) [Keep, go_sem, A4, A5, RowKit.frozen?_alloc_cells, A1, *];done)|(simp (disch := first | omega|(simp;omega)|(simp;done)) [Keep, go_sem, A4, A5, RowKit.frozen?_alloc_cells, A1, *];omega)) (by repeat (first | exact Tr.refl _ | assumption | apply Tr.al | apply Tr.drN | apply Tr.dr|(refine Tr.set ?_ (by first | omega|(simp;done)|(simp;omega)) _))) ?_;intro w9 hs9 K9 T9;(try simp at hs9);simp only [Keep] at K9
   go_cut [15] (fun s wx => s = .bool false /\ w9 = wx)
   case first =>
    rcases hz' with hz | ⟨hz, hz2⟩
    all_goals
     go_wp2_with fail
     go_meet
     exact ⟨rfl, rfl⟩
   obtain ⟨rfl, rfl⟩ := hcut
   clear hz'
   go_upto_region 4 with (go_at_call 241;(with_reducible refine (C1.out _).mono ?_);rintro e w1 ⟨rfl, ht1⟩;have T1 : Tr w w1 := Tr.trans (by repeat (first | exact Tr.refl _ | assumption | apply Tr.al | apply Tr.drN | apply Tr.dr|(refine Tr.set ?_ (by first | omega|(simp;done)|(simp;omega)) _))) ht1;have K1 := Keep.tr (l := [(⟨w.heap.size, 0, none⟩, .int .u64 (nh)), (⟨w.heap.size, 1, none⟩, .int .u64 (nl)), (⟨w.heap.size + 1, 0, none⟩, .int .u64 (dh)), (⟨w.heap.size + 1, 1, none⟩, .int .u64 (dl)), (⟨w.heap.size + 1 + 1, 0, none⟩, .int .i64 (0)), (⟨w.heap.size + 1 + 1, 1, none⟩, .int .i64 (0))]) (by first|(simp [Keep, go_sem, *];done)|(simp [Keep, go_sem, *];omega)|(simp (disch := first | omega|(simp;omega)|(simp;done)) [Keep, go_sem, A4, A5, RowKit.frozen?_alloc_cells, A1, *];done)|(simp (disch := first | omega|(simp;omega)|(simp;done)) [Keep, go_sem, A4, A5, RowKit.frozen?_alloc_cells, A1, *];omega)) ht1;have hz1 := Below.size ht1;(try simp at hz1);clear ht1;simp only [Keep] at K1)
   go_upto_region 5 with (go_at_call 242;(with_reducible refine (C2.out _).mono ?_);rintro e w2 ⟨rfl, ht2⟩;have T2 : Tr w w2 := Tr.trans (by repeat (first | exact Tr.refl _ | assumption | apply Tr.al | apply Tr.drN | apply Tr.dr|(refine Tr.set ?_ (by first | omega|(simp;done)|(simp;omega)) _))) ht2;have K2 := Keep.tr (l := [(⟨w.heap.size, 0, none⟩, .int .u64 (nh)), (⟨w.heap.size, 1, none⟩, .int .u64 (nl)), (⟨w.heap.size + 1, 0, none⟩, .int .u64 (dh)), (⟨w.heap.size + 1, 1, none⟩, .int .u64 (dl)), (⟨w.heap.size + 1 + 1, 0, none⟩, .int .i64 (0)), (⟨w.heap.size + 1 + 1, 1, none⟩, .int .i64 (0)), (⟨w1.heap.size, 0, none⟩, .int .u64 (gh)), (⟨w1.heap.size, 1, none⟩, .int .u64 (gl))]) (by first|(simp [Keep, go_sem, *];done)|(simp [Keep, go_sem, *];omega)|(simp (disch := first | omega|(simp;omega)|(simp;done)) [Keep, go_sem, A4, A5, RowKit.frozen?_alloc_cells, A1, *];done)|(simp (disch := first | omega|(simp;omega)|(simp;done)) [Keep, go_sem, A4, A5, RowKit.frozen?_alloc_cells, A1, *];omega)) ht2;have hz2 := Below.size ht2;(try simp at hz2);clear ht2;simp only [Keep] at K2)
   clear K1 T1
   go_upto_region 6 with (go_at_call 242;(with_reducible refine (C3.out _).mono ?_);rintro e w3 ⟨rfl, ht3⟩;have T3 : Tr w w3 := Tr.trans (by repeat (first | exact Tr.refl _ | assumption | apply Tr.al | apply Tr.drN | apply Tr.dr|(refine Tr.set ?_ (by first | omega|(simp;done)|(simp;omega)) _))) ht3;have K3 := Keep.tr (l := [(⟨w.heap.size, 0, none⟩, .int .u64 (nh)), (⟨w.heap.size, 1, none⟩, .int .u64 (nl)), (⟨w.heap.size + 1, 0, none⟩, .int .u64 (dh)), (⟨w.heap.size + 1, 1, none⟩, .int .u64 (dl)), (⟨w.heap.size + 1 + 1, 0, none⟩, .int .i64 (0)), (⟨w.heap.size + 1 + 1, 1, none⟩, .int .i64 (0)), (⟨w2.heap.size, 0, none⟩, .int .u64 (ah)), (⟨w2.heap.size, 1, none⟩, .int .u64 (al))]) (by first|(simp [Keep, go_sem, *];done)|(simp [Keep, go_sem, *];omega)|(simp (disch := first | omega|(simp;omega)|(simp;done)) [Keep, go_sem, A4, A5, RowKit.frozen?_alloc_cells, A1, *];done)|(simp (disch := first | omega|(simp;omega)|(simp;done)) [Keep, go_sem, A4, A5, RowKit.frozen?_alloc_cells, A1, *];omega)) ht3;have hz3 := Below.size ht3;(try simp at hz3);clear ht3;simp only [Keep] at K3)
   clear K2 T2
   obtain ⟨x1, x2, x3⟩ := m9.out
   cases neg
   all_goals
    go_wp2_with fail
    simp [bodyPost, results, Tryz.results189, go_sem, *]
    exact (by repeat (first | exact Tr.refl _ | assumption | apply Tr.al | apply Tr.drN | apply Tr.dr|(refine Tr.set ?_ (by first | omega|(simp;done)|(simp;omega)) _)))
theorem Pt (o : Oper) (hg : o.guard = none) (ho : o.op = .alloc 187) : MakesBlock Tryz.prog o #[.int .u64 0, .int .u64 0] 187 :=
 ⟨hg, fun a w => by unfold execOp;simp [ho, go_sem]⟩
theorem wd0 {x : Int} (h0 : 0 <= x) (h1 : x < 18446744073709551616) : Wd x 0 x := ⟨by omega, by omega⟩
theorem Th (n d : Int) (hd : d ≠ 0) : Aq (sg (decide (n < 0) != decide (d < 0)) n.natAbs) (d.natAbs : Int) = Aq n d := by
 unfold Aq sg
 by_cases h1 : n < 0 <;> by_cases h2 : d < 0
 ·simp only [h1, h2, decide_true, bne_self_eq_false, Bool.false_eq_true, if_false]
  rw [show ((n.natAbs : Nat) : Int) = -n by omega, show ((d.natAbs : Nat) : Int) = -d by omega, Rat.neg_divInt_neg]
 ·simp only [h1, h2, decide_true, decide_false, Bool.bne_false, if_true]
  rw [show ((n.natAbs : Nat) : Int) = -n by omega, show ((d.natAbs : Nat) : Int) = d by omega, Int.neg_neg]
 ·simp only [h1, h2, decide_true, decide_false, Bool.false_bne, if_true]
  rw [show ((n.natAbs : Nat) : Int) = n by omega, show ((d.natAbs : Nat) : Int) = -d by omega, Rat.neg_divInt_neg]
 ·simp only [h1, h2, decide_false, bne_self_eq_false, Bool.false_eq_true, if_false]
  rw [show ((n.natAbs : Nat) : Int) = n by omega, show ((d.natAbs : Nat) : Int) = d by omega]
theorem Qz (n d : Int) : Ao (sg (decide (n < 0) != decide (d < 0)) n.natAbs) (d.natAbs : Int) = Ao n d := by
 unfold Ao
 by_cases hd : d = 0
 ·rw [if_pos hd, if_pos (by omega)]
 ·rw [if_neg hd, if_neg (by omega), Th n d hd]
theorem Wn (n d : Int) : (decide (n < 0) = true /\ decide (d < 0) = true /\ (decide (n < 0) != decide (d < 0)) = false) \/ (decide (n < 0) = true /\ decide (d < 0) = false /\ (decide (n < 0) != decide (d < 0)) = true) \/
  (decide (n < 0) = false /\ decide (d < 0) = true /\ (decide (n < 0) != decide (d < 0)) = true) \/ (decide (n < 0) = false /\ decide (d < 0) = false /\ (decide (n < 0) != decide (d < 0)) = false) := by
 by_cases h1 : n < 0 <;> by_cases h2 : d < 0 <;> simp [h1, h2]
theorem Ub {x : Int} (h : x < 18446744073709551616) : x < Big := by unfold Big;omega
theorem Wh (n d : Int) (w : World) (n1 : -9223372036854775808 <= n) (n2 : n <= 9223372036854775807) (d1 : -9223372036854775808 <= d) (d2 : d <= 9223372036854775807) :
  Calls Tryz.prog 129 #[.int .i64 n, .int .i64 d] w fun e w' =>
   e = .returned (.tuple #[.agg #[.int .i64 (Ao n d).1, .int .i64 (Ao n d).2.1], .int .i64 (Ao n d).2.2]) /\ Tr w w' := by
 have c1 := fun W => Rx (decide (n < 0) != decide (d < 0)) W (wd0 (x := n.natAbs) (by omega) (by omega)) (wd0 (x := d.natAbs) (by omega) (by omega)) (⟨by omega, Ub (by omega)⟩ : 0 <= (n.natAbs : Int) /\ (n.natAbs : Int) < Big) (⟨by omega, Ub (by omega)⟩ : 0 <= (d.natAbs : Int) /\ (d.natAbs : Int) < Big)
 rw [Qz] at c1
 generalize (Ao n d).1 = o1 at *
 generalize (Ao n d).2.1 = o2 at *
 generalize (Ao n d).2.2 = o3 at *
 rcases Wn n d with ⟨s1, s2, s3⟩ | ⟨s1, s2, s3⟩ | ⟨s1, s2, s3⟩ | ⟨s1, s2, s3⟩
 all_goals
  rw [s3] at c1
  have C1 := Lib.hid c1
  clear c1 s3
  go_enter Tryz.func129, Tryz.ntmps129
  go_wp2_with (first
   | (go_at_call 81;(with_reducible refine (Fd _ (by omega) (by omega) _).mono ?_);rintro e w1 ⟨rfl, rfl⟩)
   | (go_at_call 189;(with_reducible refine (C1.out _).mono ?_);rintro e w2 ⟨rfl, ht2⟩;have T2 : Tr w w2 := Tr.trans (by repeat (first | exact Tr.refl _ | assumption | apply Tr.al | apply Tr.drN | apply Tr.dr|(refine Tr.set ?_ (by first | omega|(simp;done)|(simp;omega)) _))) ht2;have K2 := Keep.tr (l := [(⟨w.heap.size, 0, none⟩, .int .i64 (0)), (⟨w.heap.size, 1, none⟩, .int .i64 (0))]) (by first|(simp [Keep, go_sem, *];done)|(simp [Keep, go_sem, *];omega)|(simp (disch := first | omega|(simp;omega)|(simp;done)) [Keep, go_sem, A4, A5, RowKit.frozen?_alloc_cells, A1, *];done)|(simp (disch := first | omega|(simp;omega)|(simp;done)) [Keep, go_sem, A4, A5, RowKit.frozen?_alloc_cells, A1, *];omega)) ht2;have hz2 := Below.size ht2;(try simp at hz2);clear ht2;simp only [Keep] at K2))
  simp [bodyPost, results, Tryz.results129, go_sem, *]
  exact (by repeat (first | exact Tr.refl _ | assumption | apply Tr.al | apply Tr.drN | apply Tr.dr|(refine Tr.set ?_ (by first | omega|(simp;done)|(simp;omega)) _)))

theorem Y9 {a b : Int} (ha : 0 <= a) (ha' : a <= 1152921504606846976) (hb : 0 <= b) (hb' : b <= 1152921504606846976) : 0 <= a * b /\ a * b < Big := by
 obtain ⟨h1, h2⟩ := Kk a b ha ha' hb hb'
 exact ⟨h1, by unfold Big;omega⟩
theorem A14 {an ad bn bd n : Int} (va : Bd an ad = true) (vb : Bd bn bd = true) (hn : n = an * bd + bn * ad) : Ao n ((ad.natAbs : Int) * bd.natAbs) = En an ad bn bd := by
 obtain ⟨a1, _⟩ := validB_spec.1 va
 obtain ⟨b1, _⟩ := validB_spec.1 vb
 rw [show ((ad.natAbs : Nat) : Int) = ad by omega, show ((bd.natAbs : Nat) : Int) = bd by omega]
 have hd : ad * bd ≠ 0 := by have := Int.mul_pos (a := ad) (b := bd) (by omega) (by omega);omega
 unfold Ao En
 rw [if_neg hd, if_pos ⟨va, vb⟩, hn]
 unfold Aq
 rw [Rat.divInt_add_divInt _ _ (by omega) (by omega)]
theorem W5 {an ad bn bd S dh dl sh sl : Int} (neg : Bool) (va : Bd an ad = true) (vb : Bd bn bd = true) (hS : sg neg S = an * bd + bn * ad) (h0 : 0 <= S) (hb : S < Big) (WS : Wd S sh sl)
  (WD : Wd ((ad.natAbs : Int) * bd.natAbs) dh dl) (w : World) :
  Calls Tryz.prog 189 #[.agg #[.int .u64 sh, .int .u64 sl], .bool neg, .agg #[.int .u64 dh, .int .u64 dl]] w fun e w' =>
   e = .returned (.tuple #[.agg #[.int .i64 (En an ad bn bd).1, .int .i64 (En an ad bn bd).2.1], .int .i64 (En an ad bn bd).2.2]) /\ Tr w w' := by
 obtain ⟨a1, a2, a3, a4, _⟩ := validB_spec.1 va
 obtain ⟨b1, b2, b3, b4, _⟩ := validB_spec.1 vb
 have := Rx (N := S) (D := (ad.natAbs : Int) * bd.natAbs) neg w WS WD ⟨h0, hb⟩ (Y9 (by omega) (by omega) (by omega) (by omega))
 rw [A14 va vb hS] at this
 exact this
theorem Wr {an ad bn bd : Int} (va : Bd an ad = true) (vb : Bd bn bd = true) :
  (decide (an < 0) = true /\ decide (bn < 0) = true /\ sg true ((an.natAbs : Int) * bd.natAbs + (bn.natAbs : Int) * ad.natAbs) = an * bd + bn * ad) \/
  (decide (an < 0) = false /\ decide (bn < 0) = false /\ sg false ((an.natAbs : Int) * bd.natAbs + (bn.natAbs : Int) * ad.natAbs) = an * bd + bn * ad) \/
  (decide (an < 0) = true /\ decide (bn < 0) = false /\ sg false ((bn.natAbs : Int) * ad.natAbs - (an.natAbs : Int) * bd.natAbs) = an * bd + bn * ad /\ sg true ((an.natAbs : Int) * bd.natAbs - (bn.natAbs : Int) * ad.natAbs) = an * bd + bn * ad) \/
  (decide (an < 0) = false /\ decide (bn < 0) = true /\ sg true ((bn.natAbs : Int) * ad.natAbs - (an.natAbs : Int) * bd.natAbs) = an * bd + bn * ad /\ sg false ((an.natAbs : Int) * bd.natAbs - (bn.natAbs : Int) * ad.natAbs) = an * bd + bn * ad) := by
 obtain ⟨a1, _⟩ := validB_spec.1 va
 obtain ⟨b1, _⟩ := validB_spec.1 vb
 rw [show ((ad.natAbs : Nat) : Int) = ad by omega, show ((bd.natAbs : Nat) : Int) = bd by omega]
 by_cases h1 : an < 0 <;> by_cases h2 : bn < 0
 ·refine .inl ⟨by simp [h1], by simp [h2], ?_⟩
  rw [show ((an.natAbs : Nat) : Int) = -an by omega, show ((bn.natAbs : Nat) : Int) = -bn by omega]
  simp only [sg, if_true];rw [Int.neg_mul, Int.neg_mul];omega
 ·refine .inr (.inr (.inl ⟨by simp [h1], by simp [h2], ?_, ?_⟩)) <;>
  rw [show ((an.natAbs : Nat) : Int) = -an by omega, show ((bn.natAbs : Nat) : Int) = bn by omega] <;>
  simp only [sg, if_true, Bool.false_eq_true, if_false] <;> rw [Int.neg_mul] <;> omega
 ·refine .inr (.inr (.inr ⟨by simp [h1], by simp [h2], ?_, ?_⟩)) <;>
  rw [show ((an.natAbs : Nat) : Int) = an by omega, show ((bn.natAbs : Nat) : Int) = -bn by omega] <;>
  simp only [sg, if_true, Bool.false_eq_true, if_false] <;> rw [Int.neg_mul] <;> omega
 ·refine .inr (.inl ⟨by simp [h1], by simp [h2], ?_⟩)
  rw [show ((an.natAbs : Nat) : Int) = an by omega, show ((bn.natAbs : Nat) : Int) = bn by omega]
  simp only [sg, Bool.false_eq_true, if_false]

set_option maxRecDepth 100000 in
set_option maxHeartbeats 4000000 in
theorem Yd (an ad bn bd : Int) (w : World) (va : Bd an ad = true) (vb : Bd bn bd = true) :
  Calls Tryz.prog 154 #[.agg #[.int .i64 an, .int .i64 ad], .agg #[.int .i64 bn, .int .i64 bd]] w fun e w' =>
   e = .returned (.tuple #[.agg #[.int .i64 (En an ad bn bd).1, .int .i64 (En an ad bn bd).2.1], .int .i64 (En an ad bn bd).2.2]) /\ Tr w w' := by
 obtain ⟨p1, p2, p3, p4, _⟩ := validB_spec.1 va
 obtain ⟨q1, q2, q3, q4, _⟩ := validB_spec.1 vb
 have m1 := fun W => Kp an.natAbs bd.natAbs W (by omega) (by omega) (by omega) (by omega)
 have m2 := fun W => Kp bn.natAbs ad.natAbs W (by omega) (by omega) (by omega) (by omega)
 have m3 := fun W => Kp ad.natAbs bd.natAbs W (by omega) (by omega) (by omega) (by omega)
 have cm := fun (neg : Bool) (S sh sl : Int) (hS : sg neg S = an * bd + bn * ad) (h0 : 0 <= S) (hb : S < Big) (WS : Wd S sh sl) W => W5 neg va vb hS h0 hb WS ⟨rfl, rfl⟩ W
 have sp := Wr va vb
 have bx := Kk (an.natAbs : Int) bd.natAbs (by omega) (by omega) (by omega) (by omega)
 have b_y := Kk (bn.natAbs : Int) ad.natAbs (by omega) (by omega) (by omega) (by omega)
 generalize ((ad.natAbs : Int) * bd.natAbs) / 18446744073709551616 = dh at *
 generalize ((ad.natAbs : Int) * bd.natAbs) % 18446744073709551616 = dl at *
 generalize ((an.natAbs : Int) * bd.natAbs) = X at *
 generalize ((bn.natAbs : Int) * ad.natAbs) = Y at *
 obtain ⟨xh, hxh⟩ : ∃ z, z = X / 18446744073709551616 := ⟨_, rfl⟩
 obtain ⟨xl, hxl⟩ : ∃ z, z = X % 18446744073709551616 := ⟨_, rfl⟩
 obtain ⟨yh, hyh⟩ : ∃ z, z = Y / 18446744073709551616 := ⟨_, rfl⟩
 obtain ⟨yl, hyl⟩ : ∃ z, z = Y % 18446744073709551616 := ⟨_, rfl⟩
 rw [<- hxh, <- hxl] at m1
 rw [<- hyh, <- hyl] at m2
 have WX : Hid (Wd X xh xl) := ⟨hxh, hxl⟩
 have WY : Hid (Wd Y yh yl) := ⟨hyh, hyl⟩
 have BX := Lib.hid bx
 have BY := Lib.hid b_y
 have M1 := Lib.hid m1
 have M2 := Lib.hid m2
 have M3 := Lib.hid m3
 have CM := Lib.hid cm
 clear m1 m2 m3 cm hxh hxl hyh hyl bx b_y
 generalize (En an ad bn bd).1 = o1 at *
 generalize (En an ad bn bd).2.1 = o2 at *
 generalize (En an ad bn bd).2.2 = o3 at *
 have cases : ∃ neg : Bool, ∃ S sh sl : Int, Hid (sg neg S = an * bd + bn * ad) /\ Hid (0 <= S /\ S < Big) /\ Hid (Wd S sh sl) /\
   ((decide (an < 0) = true /\ decide (bn < 0) = true /\ Hid (S = X + Y) /\ neg = true) \/ (decide (an < 0) = false /\ decide (bn < 0) = false /\ Hid (S = X + Y) /\ neg = false) \/
    (decide (an < 0) = true /\ decide (bn < 0) = false /\ Hid (X < Y) /\ Hid (S = Y - X) /\ neg = false) \/ (decide (an < 0) = true /\ decide (bn < 0) = false /\ Hid (¬ X < Y) /\ Hid (S = X - Y) /\ neg = true) \/
    (decide (an < 0) = false /\ decide (bn < 0) = true /\ Hid (X < Y) /\ Hid (S = Y - X) /\ neg = true) \/ (decide (an < 0) = false /\ decide (bn < 0) = true /\ Hid (¬ X < Y) /\ Hid (S = X - Y) /\ neg = false)) := by
  obtain ⟨x0, x1⟩ := BX.out
  obtain ⟨y0, y1⟩ := BY.out
  have hBig : Big = 340282366920938463463374607431768211456 := rfl
  rcases sp with ⟨s1, s2, s3⟩ | ⟨s1, s2, s3⟩ | ⟨s1, s2, s3, s4⟩ | ⟨s1, s2, s3, s4⟩
  ·exact ⟨true, X + Y, _, _, s3, (by omega : 0 <= X + Y /\ X + Y < Big), (⟨rfl, rfl⟩ : Wd (X + Y) _ _), .inl ⟨s1, s2, (rfl : X + Y = X + Y), rfl⟩⟩
  ·exact ⟨false, X + Y, _, _, s3, (by omega : 0 <= X + Y /\ X + Y < Big), (⟨rfl, rfl⟩ : Wd (X + Y) _ _), .inr (.inl ⟨s1, s2, (rfl : X + Y = X + Y), rfl⟩)⟩
  ·by_cases h : X < Y
   ·exact ⟨false, Y - X, _, _, s3, (by omega : 0 <= Y - X /\ Y - X < Big), (⟨rfl, rfl⟩ : Wd (Y - X) _ _), .inr (.inr (.inl ⟨s1, s2, h, (rfl : Y - X = Y - X), rfl⟩))⟩
   ·exact ⟨true, X - Y, _, _, s4, (by omega : 0 <= X - Y /\ X - Y < Big), (⟨rfl, rfl⟩ : Wd (X - Y) _ _), .inr (.inr (.inr (.inl ⟨s1, s2, h, (rfl : X - Y = X - Y), rfl⟩)))⟩
  ·by_cases h : X < Y
   ·exact ⟨true, Y - X, _, _, s3, (by omega : 0 <= Y - X /\ Y - X < Big), (⟨rfl, rfl⟩ : Wd (Y - X) _ _), .inr (.inr (.inr (.inr (.inl ⟨s1, s2, h, (rfl : Y - X = Y - X), rfl⟩))))⟩
   ·exact ⟨false, X - Y, _, _, s4, (by omega : 0 <= X - Y /\ X - Y < Big), (⟨rfl, rfl⟩ : Wd (X - Y) _ _), .inr (.inr (.inr (.inr (.inr ⟨s1, s2, h, (rfl : X - Y = X - Y), rfl⟩))))⟩
 clear sp
 obtain ⟨neg, S, sh, sl, hS, hB, WS, hc⟩ := cases
 have CM1 : Hid (∀ W, Calls Tryz.prog 189 #[.agg #[.int .u64 sh, .int .u64 sl], .bool neg, .agg #[.int .u64 dh, .int .u64 dl]] W fun e w' =>
   e = .returned (.tuple #[.agg #[.int .i64 o1, .int .i64 o2], .int .i64 o3]) /\ Tr W w') := fun W => CM.out neg S sh sl hS.out hB.out.1 hB.out.2 WS.out W
 have hx0 : Hid (0 <= X /\ X < Big /\ 0 <= Y /\ Y < Big /\ X + Y < Big) := (by
  obtain ⟨x0, x1⟩ := BX.out
  obtain ⟨y0, y1⟩ := BY.out
  have hBig : Big = 340282366920938463463374607431768211456 := rfl
  omega : 0 <= X /\ X < Big /\ 0 <= Y /\ Y < Big /\ X + Y < Big)
 clear CM hS hB BX BY
 go_enter Tryz.func154, Tryz.ntmps154
 go_upto_region 1 with (fail)
 refine Ex 7 #[.int .u64 0, .int .u64 0] 187 _ (by kernel_rfl) (by kernel_rfl) rfl (Pt _ rfl rfl) ?_
 intro wq hwq
 have kq := Keep.cl (l := [(⟨w.heap.size, 0, none⟩, .int .i64 (an)), (⟨w.heap.size, 1, none⟩, .int .i64 (ad)), (⟨w.heap.size + 1, 0, none⟩, .int .i64 (bn)), (⟨w.heap.size + 1, 1, none⟩, .int .i64 (bd)), (⟨w.heap.size + 1 + 1, 0, none⟩, .int .i64 (0)), (⟨w.heap.size + 1 + 1, 1, none⟩, .int .i64 (0))]) (by first|(simp [Keep, go_sem, *];done)|(simp [Keep, go_sem, *];omega)|(simp (disch := first | omega|(simp;omega)|(simp;done)) [Keep, go_sem, A4, A5, RowKit.frozen?_alloc_cells, A1, *];done)|(simp (disch := first | omega|(simp;omega)|(simp;done)) [Keep, go_sem, A4, A5, RowKit.frozen?_alloc_cells, A1, *];omega)) hwq
 simp only [Da] at kq

 simp only [List.take_succ_cons, List.take_zero, List.drop_succ_cons, List.drop_zero]
 repeat (go_big_quiet_step (first|(go_at_call 81;exact Fg (Fd _ (by omega) (by omega) _))|(go_at_call 135;with_reducible exact Be (M1.out _))))
 refine wpQuiet_nil ?_
 intro b1 w1 hb1 ht1 hz1
 have Kb1 := Keep.at2 hz1
 have K1 := Keep.tr (l := [(⟨w.heap.size, 0, none⟩, .int .i64 (an)), (⟨w.heap.size, 1, none⟩, .int .i64 (ad)), (⟨w.heap.size + 1, 0, none⟩, .int .i64 (bn)), (⟨w.heap.size + 1, 1, none⟩, .int .i64 (bd)), (⟨w.heap.size + 1 + 1, 0, none⟩, .int .i64 (0)), (⟨w.heap.size + 1 + 1, 1, none⟩, .int .i64 (0))]) (by first|(simp [Keep, go_sem, *];done)|(simp [Keep, go_sem, *];omega)|(simp (disch := first | omega|(simp;omega)|(simp;done)) [Keep, go_sem, A4, A5, RowKit.frozen?_alloc_cells, A1, *];done)|(simp (disch := first | omega|(simp;omega)|(simp;done)) [Keep, go_sem, A4, A5, RowKit.frozen?_alloc_cells, A1, *];omega)) ht1
 have T1 : Tr w w1 := Tr.trans (by repeat (first | exact Tr.refl _ | assumption | apply Tr.al | apply Tr.drN | apply Tr.dr|(refine Tr.set ?_ (by first | omega|(simp;done)|(simp;omega)) _))) ht1
 have hs1 := Below.size ht1
 have hbl1 := lt_of_block hz1
 (try simp at hb1)
 (try simp at hs1)
 simp only [Keep] at K1 Kb1
 clear ht1 hz1 hwq kq
 simp only [Act.put, List.setIfInBounds_toArray, List.set_cons_succ, List.set_cons_zero]
 go_upto_region 2 with (fail)
 refine Cx (w0 := w) [(⟨w.heap.size, 0, none⟩, .int .i64 (an)), (⟨w.heap.size, 1, none⟩, .int .i64 (ad)), (⟨w.heap.size + 1, 0, none⟩, .int .i64 (bn)), (⟨w.heap.size + 1, 1, none⟩, .int .i64 (bd)), (⟨w.heap.size + 1 + 1, 0, none⟩, .int .i64 (0)), (⟨w.heap.size + 1 + 1, 1, none⟩, .int .i64 (0)), (⟨b1, 0, none⟩, .int .u64 (xh)), (⟨b1, 1, none⟩, .int .u64 (xl))] (by first|(simp [Keep, go_sem, *];done)|(simp [Keep, go_sem, *];omega)|(simp (disch := first | omega|(simp;omega)|(simp;done)) [Keep, go_sem, A4, A5, RowKit.frozen?_alloc_cells, A1, *];done)|(simp (disch := first | omega|(simp;omega)|(simp;done)) [Keep, go_sem, A4, A5, RowKit.frozen?_alloc_cells, A1, *];omega)) (by repeat (first | exact Tr.refl _ | assumption | apply Tr.al | apply Tr.drN | apply Tr.dr|(refine Tr.set ?_ (by first | omega|(simp;done)|(simp;omega)) _))) ?_;intro w4 hs4 K4 T4;(try simp at hs4);simp only [Keep] at K4
 clear K1 Kb1 T1
 refine Ex 7 #[.int .u64 0, .int .u64 0] 187 _ (by kernel_rfl) (by kernel_rfl) rfl (Pt _ rfl rfl) ?_
 intro wq hwq
 have kq := Keep.cl (l := [(⟨w.heap.size, 0, none⟩, .int .i64 (an)), (⟨w.heap.size, 1, none⟩, .int .i64 (ad)), (⟨w.heap.size + 1, 0, none⟩, .int .i64 (bn)), (⟨w.heap.size + 1, 1, none⟩, .int .i64 (bd)), (⟨w.heap.size + 1 + 1, 0, none⟩, .int .i64 (0)), (⟨w.heap.size + 1 + 1, 1, none⟩, .int .i64 (0)), (⟨b1, 0, none⟩, .int .u64 (xh)), (⟨b1, 1, none⟩, .int .u64 (xl))]) (by first|(simp [Keep, go_sem, *];done)|(simp [Keep, go_sem, *];omega)|(simp (disch := first | omega|(simp;omega)|(simp;done)) [Keep, go_sem, A4, A5, RowKit.frozen?_alloc_cells, A1, *];done)|(simp (disch := first | omega|(simp;omega)|(simp;done)) [Keep, go_sem, A4, A5, RowKit.frozen?_alloc_cells, A1, *];omega)) hwq
 simp only [Da] at kq

 simp only [List.take_succ_cons, List.take_zero, List.drop_succ_cons, List.drop_zero]
 repeat (go_big_quiet_step (first|(go_at_call 81;exact Fg (Fd _ (by omega) (by omega) _))|(go_at_call 135;with_reducible exact Be (M2.out _))))
 refine wpQuiet_nil ?_
 intro b2 w2 hb2 ht2 hz2
 have Kb2 := Keep.at2 hz2
 have K2 := Keep.tr (l := [(⟨w.heap.size, 0, none⟩, .int .i64 (an)), (⟨w.heap.size, 1, none⟩, .int .i64 (ad)), (⟨w.heap.size + 1, 0, none⟩, .int .i64 (bn)), (⟨w.heap.size + 1, 1, none⟩, .int .i64 (bd)), (⟨w.heap.size + 1 + 1, 0, none⟩, .int .i64 (0)), (⟨w.heap.size + 1 + 1, 1, none⟩, .int .i64 (0)), (⟨b1, 0, none⟩, .int .u64 (xh)), (⟨b1, 1, none⟩, .int .u64 (xl))]) (by first|(simp [Keep, go_sem, *];done)|(simp [Keep, go_sem, *];omega)|(simp (disch := first | omega|(simp;omega)|(simp;done)) [Keep, go_sem, A4, A5, RowKit.frozen?_alloc_cells, A1, *];done)|(simp (disch := first | omega|(simp;omega)|(simp;done)) [Keep, go_sem, A4, A5, RowKit.frozen?_alloc_cells, A1, *];omega)) ht2
 have T2 : Tr w w2 := Tr.trans (by repeat (first | exact Tr.refl _ | assumption | apply Tr.al | apply Tr.drN | apply Tr.dr|(refine Tr.set ?_ (by first | omega|(simp;done)|(simp;omega)) _))) ht2
 have hs2 := Below.size ht2
 have hbl2 := lt_of_block hz2
 (try simp at hb2)
 (try simp at hs2)
 simp only [Keep] at K2 Kb2
 clear ht2 hz2 hwq kq
 simp only [Act.put, List.setIfInBounds_toArray, List.set_cons_succ, List.set_cons_zero]
 go_upto_region 3 with (fail)
 refine Cx (w0 := w) [(⟨w.heap.size, 0, none⟩, .int .i64 (an)), (⟨w.heap.size, 1, none⟩, .int .i64 (ad)), (⟨w.heap.size + 1, 0, none⟩, .int .i64 (bn)), (⟨w.heap.size + 1, 1, none⟩, .int .i64 (bd)), (⟨w.heap.size + 1 + 1, 0, none⟩, .int .i64 (0)), (⟨w.heap.size + 1 + 1, 1, none⟩, .int .i64 (0)), (⟨b1, 0, none⟩, .int .u64 (xh)), (⟨b1, 1, none⟩, .int .u64 (xl)), (⟨b2, 0, none⟩, .int .u64 (yh)), (⟨b2, 1, none⟩, .int .u64 (yl))] (by first|(simp [Keep, go_sem, *];done)|(simp [Keep, go_sem, *];omega)|(simp (disch := first | omega|(simp;omega)|(simp;done)) [Keep, go_sem, A4, A5, RowKit.frozen?_alloc_cells, A1, *];done)|(simp (disch := first | omega|(simp;omega)|(simp;done)) [Keep, go_sem, A4, A5, RowKit.frozen?_alloc_cells, A1, *];omega)) (by repeat (first | exact Tr.refl _ | assumption | apply Tr.al | apply Tr.drN | apply Tr.dr|(refine Tr.set ?_ (by first | omega|(simp;done)|(simp;omega)) _))) ?_;intro w5 hs5 K5 T5;(try simp at hs5);simp only [Keep] at K5
 clear K2 Kb2 T2 K4 T4
 refine Ex 7 #[.int .u64 0, .int .u64 0] 187 _ (by kernel_rfl) (by kernel_rfl) rfl (Pt _ rfl rfl) ?_
 intro wq hwq
 have kq := Keep.cl (l := [(⟨w.heap.size, 0, none⟩, .int .i64 (an)), (⟨w.heap.size, 1, none⟩, .int .i64 (ad)), (⟨w.heap.size + 1, 0, none⟩, .int .i64 (bn)), (⟨w.heap.size + 1, 1, none⟩, .int .i64 (bd)), (⟨w.heap.size + 1 + 1, 0, none⟩, .int .i64 (0)), (⟨w.heap.size + 1 + 1, 1, none⟩, .int .i64 (0)), (⟨b1, 0, none⟩, .int .u64 (xh)), (⟨b1, 1, none⟩, .int .u64 (xl)), (⟨b2, 0, none⟩, .int .u64 (yh)), (⟨b2, 1, none⟩, .int .u64 (yl))]) (by first|(simp [Keep, go_sem, *];done)|(simp [Keep, go_sem, *];omega)|(simp (disch := first | omega|(simp;omega)|(simp;done)) [Keep, go_sem, A4, A5, RowKit.frozen?_alloc_cells, A1, *];done)|(simp (disch := first | omega|(simp;omega)|(simp;done)) [Keep, go_sem, A4, A5, RowKit.frozen?_alloc_cells, A1, *];omega)) hwq
 simp only [Da] at kq

 simp only [List.take_succ_cons, List.take_zero, List.drop_succ_cons, List.drop_zero]
 repeat (go_big_quiet_step (first|(go_at_call 81;exact Fg (Fd _ (by omega) (by omega) _))|(go_at_call 135;with_reducible exact Be (M3.out _))))
 refine wpQuiet_nil ?_
 intro b3 w3 hb3 ht3 hz3
 have Kb3 := Keep.at2 hz3
 have K3 := Keep.tr (l := [(⟨w.heap.size, 0, none⟩, .int .i64 (an)), (⟨w.heap.size, 1, none⟩, .int .i64 (ad)), (⟨w.heap.size + 1, 0, none⟩, .int .i64 (bn)), (⟨w.heap.size + 1, 1, none⟩, .int .i64 (bd)), (⟨w.heap.size + 1 + 1, 0, none⟩, .int .i64 (0)), (⟨w.heap.size + 1 + 1, 1, none⟩, .int .i64 (0)), (⟨b1, 0, none⟩, .int .u64 (xh)), (⟨b1, 1, none⟩, .int .u64 (xl)), (⟨b2, 0, none⟩, .int .u64 (yh)), (⟨b2, 1, none⟩, .int .u64 (yl))]) (by first|(simp [Keep, go_sem, *];done)|(simp [Keep, go_sem, *];omega)|(simp (disch := first | omega|(simp;omega)|(simp;done)) [Keep, go_sem, A4, A5, RowKit.frozen?_alloc_cells, A1, *];done)|(simp (disch := first | omega|(simp;omega)|(simp;done)) [Keep, go_sem, A4, A5, RowKit.frozen?_alloc_cells, A1, *];omega)) ht3
 have T3 : Tr w w3 := Tr.trans (by repeat (first | exact Tr.refl _ | assumption | apply Tr.al | apply Tr.drN | apply Tr.dr|(refine Tr.set ?_ (by first | omega|(simp;done)|(simp;omega)) _))) ht3
 have hs3 := Below.size ht3
 have hbl3 := lt_of_block hz3
 (try simp at hb3)
 (try simp at hs3)
 simp only [Keep] at K3 Kb3
 clear ht3 hz3 hwq kq
 simp only [Act.put, List.setIfInBounds_toArray, List.set_cons_succ, List.set_cons_zero]
 go_upto_region 4 with (fail)
 refine Cx (w0 := w) [(⟨w.heap.size, 0, none⟩, .int .i64 (an)), (⟨w.heap.size, 1, none⟩, .int .i64 (ad)), (⟨w.heap.size + 1, 0, none⟩, .int .i64 (bn)), (⟨w.heap.size + 1, 1, none⟩, .int .i64 (bd)), (⟨w.heap.size + 1 + 1, 0, none⟩, .int .i64 (0)), (⟨w.heap.size + 1 + 1, 1, none⟩, .int .i64 (0)), (⟨b1, 0, none⟩, .int .u64 (xh)), (⟨b1, 1, none⟩, .int .u64 (xl)), (⟨b2, 0, none⟩, .int .u64 (yh)), (⟨b2, 1, none⟩, .int .u64 (yl)), (⟨b3, 0, none⟩, .int .u64 (dh)), (⟨b3, 1, none⟩, .int .u64 (dl))] (by first|(simp [Keep, go_sem, *];done)|(simp [Keep, go_sem, *];omega)|(simp (disch := first | omega|(simp;omega)|(simp;done)) [Keep, go_sem, A4, A5, RowKit.frozen?_alloc_cells, A1, *];done)|(simp (disch := first | omega|(simp;omega)|(simp;done)) [Keep, go_sem, A4, A5, RowKit.frozen?_alloc_cells, A1, *];omega)) (by repeat (first | exact Tr.refl _ | assumption | apply Tr.al | apply Tr.drN | apply Tr.dr|(refine Tr.set ?_ (by first | omega|(simp;done)|(simp;omega)) _))) ?_;intro w6 hs6 K6 T6;(try simp at hs6);simp only [Keep] at K6
 clear K3 Kb3 T3 K5 T5
 clear M1 M2 M3
 rcases hc with ⟨s1, s2, s3, rfl⟩ | ⟨s1, s2, s3, rfl⟩ | ⟨s1, s2, s5, s3, rfl⟩ | ⟨s1, s2, s5, s3, rfl⟩ | ⟨s1, s2, s5, s3, rfl⟩ | ⟨s1, s2, s5, s3, rfl⟩
 ·have CP := Lib.hid fun W => Kq WX.out WY.out (s3.out ▸ WS.out) hx0.out.1 hx0.out.2.2.1 hx0.out.2.2.2.2 W
  go_upto_region 5 with (fail)
  refine C6 10 (by kernel_rfl) (by kernel_rfl) ?_
  intro wq hwq
  have kq := Keep.cl (l := [(⟨w.heap.size, 0, none⟩, .int .i64 (an)), (⟨w.heap.size, 1, none⟩, .int .i64 (ad)), (⟨w.heap.size + 1, 0, none⟩, .int .i64 (bn)), (⟨w.heap.size + 1, 1, none⟩, .int .i64 (bd)), (⟨w.heap.size + 1 + 1, 0, none⟩, .int .i64 (0)), (⟨w.heap.size + 1 + 1, 1, none⟩, .int .i64 (0)), (⟨b1, 0, none⟩, .int .u64 (xh)), (⟨b1, 1, none⟩, .int .u64 (xl)), (⟨b2, 0, none⟩, .int .u64 (yh)), (⟨b2, 1, none⟩, .int .u64 (yl)), (⟨b3, 0, none⟩, .int .u64 (dh)), (⟨b3, 1, none⟩, .int .u64 (dl))]) (by first|(simp [Keep, go_sem, *];done)|(simp [Keep, go_sem, *];omega)|(simp (disch := first | omega|(simp;omega)|(simp;done)) [Keep, go_sem, A4, A5, RowKit.frozen?_alloc_cells, A1, *];done)|(simp (disch := first | omega|(simp;omega)|(simp;done)) [Keep, go_sem, A4, A5, RowKit.frozen?_alloc_cells, A1, *];omega)) hwq
  simp only [Da] at kq
  simp only [List.take_succ_cons, List.take_zero, List.drop_succ_cons, List.drop_zero]
  repeat (go_big_quiet_step (first|(go_at_call 219;with_reducible exact Be (CP.out _))|(go_at_call 189;with_reducible exact Be (CM1.out _))))
  refine wpQuiet_nil ?_
  intro w7 ht7
  have K7 := Keep.tr (l := [(⟨w.heap.size, 0, none⟩, .int .i64 (an)), (⟨w.heap.size, 1, none⟩, .int .i64 (ad)), (⟨w.heap.size + 1, 0, none⟩, .int .i64 (bn)), (⟨w.heap.size + 1, 1, none⟩, .int .i64 (bd)), (⟨w.heap.size + 1 + 1, 0, none⟩, .int .i64 (0)), (⟨w.heap.size + 1 + 1, 1, none⟩, .int .i64 (0)), (⟨b1, 0, none⟩, .int .u64 (xh)), (⟨b1, 1, none⟩, .int .u64 (xl)), (⟨b2, 0, none⟩, .int .u64 (yh)), (⟨b2, 1, none⟩, .int .u64 (yl)), (⟨b3, 0, none⟩, .int .u64 (dh)), (⟨b3, 1, none⟩, .int .u64 (dl))]) (by first|(simp [Keep, go_sem, *];done)|(simp [Keep, go_sem, *];omega)|(simp (disch := first | omega|(simp;omega)|(simp;done)) [Keep, go_sem, A4, A5, RowKit.frozen?_alloc_cells, A1, *];done)|(simp (disch := first | omega|(simp;omega)|(simp;done)) [Keep, go_sem, A4, A5, RowKit.frozen?_alloc_cells, A1, *];omega)) ht7
  have T7 : Tr w w7 := Tr.trans (by repeat (first | exact Tr.refl _ | assumption | apply Tr.al | apply Tr.drN | apply Tr.dr|(refine Tr.set ?_ (by first | omega|(simp;done)|(simp;omega)) _))) ht7
  have hs7 := Below.size ht7
  (try simp at hs7)
  simp only [Keep] at K7
  clear ht7 hwq kq
  go_wp2
  simp [bodyPost, results, Tryz.results154, go_sem, *]
  exact (by repeat (first | exact Tr.refl _ | assumption | apply Tr.al | apply Tr.drN | apply Tr.dr|(refine Tr.set ?_ (by first | omega|(simp;done)|(simp;omega)) _)))
 ·have CP := Lib.hid fun W => Kq WX.out WY.out (s3.out ▸ WS.out) hx0.out.1 hx0.out.2.2.1 hx0.out.2.2.2.2 W
  go_upto_region 5 with (fail)
  refine C6 10 (by kernel_rfl) (by kernel_rfl) ?_
  intro wq hwq
  have kq := Keep.cl (l := [(⟨w.heap.size, 0, none⟩, .int .i64 (an)), (⟨w.heap.size, 1, none⟩, .int .i64 (ad)), (⟨w.heap.size + 1, 0, none⟩, .int .i64 (bn)), (⟨w.heap.size + 1, 1, none⟩, .int .i64 (bd)), (⟨w.heap.size + 1 + 1, 0, none⟩, .int .i64 (0)), (⟨w.heap.size + 1 + 1, 1, none⟩, .int .i64 (0)), (⟨b1, 0, none⟩, .int .u64 (xh)), (⟨b1, 1, none⟩, .int .u64 (xl)), (⟨b2, 0, none⟩, .int .u64 (yh)), (⟨b2, 1, none⟩, .int .u64 (yl)), (⟨b3, 0, none⟩, .int .u64 (dh)), (⟨b3, 1, none⟩, .int .u64 (dl))]) (by first|(simp [Keep, go_sem, *];done)|(simp [Keep, go_sem, *];omega)|(simp (disch := first | omega|(simp;omega)|(simp;done)) [Keep, go_sem, A4, A5, RowKit.frozen?_alloc_cells, A1, *];done)|(simp (disch := first | omega|(simp;omega)|(simp;done)) [Keep, go_sem, A4, A5, RowKit.frozen?_alloc_cells, A1, *];omega)) hwq
  simp only [Da] at kq
  simp only [List.take_succ_cons, List.take_zero, List.drop_succ_cons, List.drop_zero]
  repeat (go_big_quiet_step (first|(go_at_call 219;with_reducible exact Be (CP.out _))|(go_at_call 189;with_reducible exact Be (CM1.out _))))
  refine wpQuiet_nil ?_
  intro w7 ht7
  have K7 := Keep.tr (l := [(⟨w.heap.size, 0, none⟩, .int .i64 (an)), (⟨w.heap.size, 1, none⟩, .int .i64 (ad)), (⟨w.heap.size + 1, 0, none⟩, .int .i64 (bn)), (⟨w.heap.size + 1, 1, none⟩, .int .i64 (bd)), (⟨w.heap.size + 1 + 1, 0, none⟩, .int .i64 (0)), (⟨w.heap.size + 1 + 1, 1, none⟩, .int .i64 (0)), (⟨b1, 0, none⟩, .int .u64 (xh)), (⟨b1, 1, none⟩, .int .u64 (xl)), (⟨b2, 0, none⟩, .int .u64 (yh)), (⟨b2, 1, none⟩, .int .u64 (yl)), (⟨b3, 0, none⟩, .int .u64 (dh)), (⟨b3, 1, none⟩, .int .u64 (dl))]) (by first|(simp [Keep, go_sem, *];done)|(simp [Keep, go_sem, *];omega)|(simp (disch := first | omega|(simp;omega)|(simp;done)) [Keep, go_sem, A4, A5, RowKit.frozen?_alloc_cells, A1, *];done)|(simp (disch := first | omega|(simp;omega)|(simp;done)) [Keep, go_sem, A4, A5, RowKit.frozen?_alloc_cells, A1, *];omega)) ht7
  have T7 : Tr w w7 := Tr.trans (by repeat (first | exact Tr.refl _ | assumption | apply Tr.al | apply Tr.drN | apply Tr.dr|(refine Tr.set ?_ (by first | omega|(simp;done)|(simp;omega)) _))) ht7
  have hs7 := Below.size ht7
  (try simp at hs7)
  simp only [Keep] at K7
  clear ht7 hwq kq
  go_wp2
  simp [bodyPost, results, Tryz.results154, go_sem, *]
  exact (by repeat (first | exact Tr.refl _ | assumption | apply Tr.al | apply Tr.drN | apply Tr.dr|(refine Tr.set ?_ (by first | omega|(simp;done)|(simp;omega)) _)))
 ·skip
  go_upto_region 7 with (go_at_call 136;(with_reducible refine (Hr WX.out WY.out hx0.out.1 hx0.out.2.2.1 s5.out _).mono ?_);rintro e w7 ⟨rfl, ht7⟩;have T7 : Tr w w7 := Tr.trans (by repeat (first | exact Tr.refl _ | assumption | apply Tr.al | apply Tr.drN | apply Tr.dr|(refine Tr.set ?_ (by first | omega|(simp;done)|(simp;omega)) _))) ht7;have K7 := Keep.tr (l := [(⟨w.heap.size, 0, none⟩, .int .i64 (an)), (⟨w.heap.size, 1, none⟩, .int .i64 (ad)), (⟨w.heap.size + 1, 0, none⟩, .int .i64 (bn)), (⟨w.heap.size + 1, 1, none⟩, .int .i64 (bd)), (⟨w.heap.size + 1 + 1, 0, none⟩, .int .i64 (0)), (⟨w.heap.size + 1 + 1, 1, none⟩, .int .i64 (0)), (⟨b1, 0, none⟩, .int .u64 (xh)), (⟨b1, 1, none⟩, .int .u64 (xl)), (⟨b2, 0, none⟩, .int .u64 (yh)), (⟨b2, 1, none⟩, .int .u64 (yl)), (⟨b3, 0, none⟩, .int .u64 (dh)), (⟨b3, 1, none⟩, .int .u64 (dl))]) (by first|(simp [Keep, go_sem, *];done)|(simp [Keep, go_sem, *];omega)|(simp (disch := first | omega|(simp;omega)|(simp;done)) [Keep, go_sem, A4, A5, RowKit.frozen?_alloc_cells, A1, *];done)|(simp (disch := first | omega|(simp;omega)|(simp;done)) [Keep, go_sem, A4, A5, RowKit.frozen?_alloc_cells, A1, *];omega)) ht7;have hz7 := Below.size ht7;(try simp at hz7);clear ht7;simp only [Keep] at K7)
  have hmd : Hid ((Y - X) % 340282366920938463463374607431768211456 = S) := (by have := hx0.out;have := s3.out;have := s5.out;unfold Big at *;omega : (Y - X) % 340282366920938463463374607431768211456 = S)
  have CN := Lib.hid fun W => Cv WY.out WX.out WS.out hx0.out.2.2.1 hx0.out.1 hx0.out.2.2.2.1 hx0.out.2.1 hmd.out W
  clear K6
  refine C6 10 (by kernel_rfl) (by kernel_rfl) ?_
  intro wq hwq
  have kq := Keep.cl (l := [(⟨w.heap.size, 0, none⟩, .int .i64 (an)), (⟨w.heap.size, 1, none⟩, .int .i64 (ad)), (⟨w.heap.size + 1, 0, none⟩, .int .i64 (bn)), (⟨w.heap.size + 1, 1, none⟩, .int .i64 (bd)), (⟨w.heap.size + 1 + 1, 0, none⟩, .int .i64 (0)), (⟨w.heap.size + 1 + 1, 1, none⟩, .int .i64 (0)), (⟨b1, 0, none⟩, .int .u64 (xh)), (⟨b1, 1, none⟩, .int .u64 (xl)), (⟨b2, 0, none⟩, .int .u64 (yh)), (⟨b2, 1, none⟩, .int .u64 (yl)), (⟨b3, 0, none⟩, .int .u64 (dh)), (⟨b3, 1, none⟩, .int .u64 (dl))]) (by first|(simp [Keep, go_sem, *];done)|(simp [Keep, go_sem, *];omega)|(simp (disch := first | omega|(simp;omega)|(simp;done)) [Keep, go_sem, A4, A5, RowKit.frozen?_alloc_cells, A1, *];done)|(simp (disch := first | omega|(simp;omega)|(simp;done)) [Keep, go_sem, A4, A5, RowKit.frozen?_alloc_cells, A1, *];omega)) hwq
  simp only [Da] at kq
  simp only [List.take_succ_cons, List.take_zero, List.drop_succ_cons, List.drop_zero]
  repeat (go_big_quiet_step (first|(go_at_call 220;with_reducible exact Be (CN.out _))|(go_at_call 189;with_reducible exact Be (CM1.out _))))
  refine wpQuiet_nil ?_
  intro w8 ht8
  have K8 := Keep.tr (l := [(⟨w.heap.size, 0, none⟩, .int .i64 (an)), (⟨w.heap.size, 1, none⟩, .int .i64 (ad)), (⟨w.heap.size + 1, 0, none⟩, .int .i64 (bn)), (⟨w.heap.size + 1, 1, none⟩, .int .i64 (bd)), (⟨w.heap.size + 1 + 1, 0, none⟩, .int .i64 (0)), (⟨w.heap.size + 1 + 1, 1, none⟩, .int .i64 (0)), (⟨b1, 0, none⟩, .int .u64 (xh)), (⟨b1, 1, none⟩, .int .u64 (xl)), (⟨b2, 0, none⟩, .int .u64 (yh)), (⟨b2, 1, none⟩, .int .u64 (yl)), (⟨b3, 0, none⟩, .int .u64 (dh)), (⟨b3, 1, none⟩, .int .u64 (dl))]) (by first|(simp [Keep, go_sem, *];done)|(simp [Keep, go_sem, *];omega)|(simp (disch := first | omega|(simp;omega)|(simp;done)) [Keep, go_sem, A4, A5, RowKit.frozen?_alloc_cells, A1, *];done)|(simp (disch := first | omega|(simp;omega)|(simp;done)) [Keep, go_sem, A4, A5, RowKit.frozen?_alloc_cells, A1, *];omega)) ht8
  have T8 : Tr w w8 := Tr.trans (by repeat (first | exact Tr.refl _ | assumption | apply Tr.al | apply Tr.drN | apply Tr.dr|(refine Tr.set ?_ (by first | omega|(simp;done)|(simp;omega)) _))) ht8
  have hs8 := Below.size ht8
  (try simp at hs8)
  simp only [Keep] at K8
  clear ht8 hwq kq
  go_wp2
  simp [bodyPost, results, Tryz.results154, go_sem, *]
  exact (by repeat (first | exact Tr.refl _ | assumption | apply Tr.al | apply Tr.drN | apply Tr.dr|(refine Tr.set ?_ (by first | omega|(simp;done)|(simp;omega)) _)))
 ·skip
  go_upto_region 8 with (go_at_call 136;(with_reducible refine (Hq WX.out WY.out hx0.out.1 hx0.out.2.2.1 s5.out _).mono ?_);rintro e w7 ⟨rfl, ht7⟩;have T7 : Tr w w7 := Tr.trans (by repeat (first | exact Tr.refl _ | assumption | apply Tr.al | apply Tr.drN | apply Tr.dr|(refine Tr.set ?_ (by first | omega|(simp;done)|(simp;omega)) _))) ht7;have K7 := Keep.tr (l := [(⟨w.heap.size, 0, none⟩, .int .i64 (an)), (⟨w.heap.size, 1, none⟩, .int .i64 (ad)), (⟨w.heap.size + 1, 0, none⟩, .int .i64 (bn)), (⟨w.heap.size + 1, 1, none⟩, .int .i64 (bd)), (⟨w.heap.size + 1 + 1, 0, none⟩, .int .i64 (0)), (⟨w.heap.size + 1 + 1, 1, none⟩, .int .i64 (0)), (⟨b1, 0, none⟩, .int .u64 (xh)), (⟨b1, 1, none⟩, .int .u64 (xl)), (⟨b2, 0, none⟩, .int .u64 (yh)), (⟨b2, 1, none⟩, .int .u64 (yl)), (⟨b3, 0, none⟩, .int .u64 (dh)), (⟨b3, 1, none⟩, .int .u64 (dl))]) (by first|(simp [Keep, go_sem, *];done)|(simp [Keep, go_sem, *];omega)|(simp (disch := first | omega|(simp;omega)|(simp;done)) [Keep, go_sem, A4, A5, RowKit.frozen?_alloc_cells, A1, *];done)|(simp (disch := first | omega|(simp;omega)|(simp;done)) [Keep, go_sem, A4, A5, RowKit.frozen?_alloc_cells, A1, *];omega)) ht7;have hz7 := Below.size ht7;(try simp at hz7);clear ht7;simp only [Keep] at K7)
  have hmd : Hid ((X - Y) % 340282366920938463463374607431768211456 = S) := (by have := hx0.out;have := s3.out;have := s5.out;unfold Big at *;omega : (X - Y) % 340282366920938463463374607431768211456 = S)
  have CN := Lib.hid fun W => Cv WX.out WY.out WS.out hx0.out.1 hx0.out.2.2.1 hx0.out.2.1 hx0.out.2.2.2.1 hmd.out W
  clear K6
  refine C6 10 (by kernel_rfl) (by kernel_rfl) ?_
  intro wq hwq
  have kq := Keep.cl (l := [(⟨w.heap.size, 0, none⟩, .int .i64 (an)), (⟨w.heap.size, 1, none⟩, .int .i64 (ad)), (⟨w.heap.size + 1, 0, none⟩, .int .i64 (bn)), (⟨w.heap.size + 1, 1, none⟩, .int .i64 (bd)), (⟨w.heap.size + 1 + 1, 0, none⟩, .int .i64 (0)), (⟨w.heap.size + 1 + 1, 1, none⟩, .int .i64 (0)), (⟨b1, 0, none⟩, .int .u64 (xh)), (⟨b1, 1, none⟩, .int .u64 (xl)), (⟨b2, 0, none⟩, .int .u64 (yh)), (⟨b2, 1, none⟩, .int .u64 (yl)), (⟨b3, 0, none⟩, .int .u64 (dh)), (⟨b3, 1, none⟩, .int .u64 (dl))]) (by first|(simp [Keep, go_sem, *];done)|(simp [Keep, go_sem, *];omega)|(simp (disch := first | omega|(simp;omega)|(simp;done)) [Keep, go_sem, A4, A5, RowKit.frozen?_alloc_cells, A1, *];done)|(simp (disch := first | omega|(simp;omega)|(simp;done)) [Keep, go_sem, A4, A5, RowKit.frozen?_alloc_cells, A1, *];omega)) hwq
  simp only [Da] at kq
  simp only [List.take_succ_cons, List.take_zero, List.drop_succ_cons, List.drop_zero]
  repeat (go_big_quiet_step (first|(go_at_call 220;with_reducible exact Be (CN.out _))|(go_at_call 189;with_reducible exact Be (CM1.out _))))
  refine wpQuiet_nil ?_
  intro w8 ht8
  have K8 := Keep.tr (l := [(⟨w.heap.size, 0, none⟩, .int .i64 (an)), (⟨w.heap.size, 1, none⟩, .int .i64 (ad)), (⟨w.heap.size + 1, 0, none⟩, .int .i64 (bn)), (⟨w.heap.size + 1, 1, none⟩, .int .i64 (bd)), (⟨w.heap.size + 1 + 1, 0, none⟩, .int .i64 (0)), (⟨w.heap.size + 1 + 1, 1, none⟩, .int .i64 (0)), (⟨b1, 0, none⟩, .int .u64 (xh)), (⟨b1, 1, none⟩, .int .u64 (xl)), (⟨b2, 0, none⟩, .int .u64 (yh)), (⟨b2, 1, none⟩, .int .u64 (yl)), (⟨b3, 0, none⟩, .int .u64 (dh)), (⟨b3, 1, none⟩, .int .u64 (dl))]) (by first|(simp [Keep, go_sem, *];done)|(simp [Keep, go_sem, *];omega)|(simp (disch := first | omega|(simp;omega)|(simp;done)) [Keep, go_sem, A4, A5, RowKit.frozen?_alloc_cells, A1, *];done)|(simp (disch := first | omega|(simp;omega)|(simp;done)) [Keep, go_sem, A4, A5, RowKit.frozen?_alloc_cells, A1, *];omega)) ht8
  have T8 : Tr w w8 := Tr.trans (by repeat (first | exact Tr.refl _ | assumption | apply Tr.al | apply Tr.drN | apply Tr.dr|(refine Tr.set ?_ (by first | omega|(simp;done)|(simp;omega)) _))) ht8
  have hs8 := Below.size ht8
  (try simp at hs8)
  simp only [Keep] at K8
  clear ht8 hwq kq
  go_wp2
  simp [bodyPost, results, Tryz.results154, go_sem, *]
  exact (by repeat (first | exact Tr.refl _ | assumption | apply Tr.al | apply Tr.drN | apply Tr.dr|(refine Tr.set ?_ (by first | omega|(simp;done)|(simp;omega)) _)))
 ·skip
  go_upto_region 7 with (go_at_call 136;(with_reducible refine (Hr WX.out WY.out hx0.out.1 hx0.out.2.2.1 s5.out _).mono ?_);rintro e w7 ⟨rfl, ht7⟩;have T7 : Tr w w7 := Tr.trans (by repeat (first | exact Tr.refl _ | assumption | apply Tr.al | apply Tr.drN | apply Tr.dr|(refine Tr.set ?_ (by first | omega|(simp;done)|(simp;omega)) _))) ht7;have K7 := Keep.tr (l := [(⟨w.heap.size, 0, none⟩, .int .i64 (an)), (⟨w.heap.size, 1, none⟩, .int .i64 (ad)), (⟨w.heap.size + 1, 0, none⟩, .int .i64 (bn)), (⟨w.heap.size + 1, 1, none⟩, .int .i64 (bd)), (⟨w.heap.size + 1 + 1, 0, none⟩, .int .i64 (0)), (⟨w.heap.size + 1 + 1, 1, none⟩, .int .i64 (0)), (⟨b1, 0, none⟩, .int .u64 (xh)), (⟨b1, 1, none⟩, .int .u64 (xl)), (⟨b2, 0, none⟩, .int .u64 (yh)), (⟨b2, 1, none⟩, .int .u64 (yl)), (⟨b3, 0, none⟩, .int .u64 (dh)), (⟨b3, 1, none⟩, .int .u64 (dl))]) (by first|(simp [Keep, go_sem, *];done)|(simp [Keep, go_sem, *];omega)|(simp (disch := first | omega|(simp;omega)|(simp;done)) [Keep, go_sem, A4, A5, RowKit.frozen?_alloc_cells, A1, *];done)|(simp (disch := first | omega|(simp;omega)|(simp;done)) [Keep, go_sem, A4, A5, RowKit.frozen?_alloc_cells, A1, *];omega)) ht7;have hz7 := Below.size ht7;(try simp at hz7);clear ht7;simp only [Keep] at K7)
  have hmd : Hid ((Y - X) % 340282366920938463463374607431768211456 = S) := (by have := hx0.out;have := s3.out;have := s5.out;unfold Big at *;omega : (Y - X) % 340282366920938463463374607431768211456 = S)
  have CN := Lib.hid fun W => Cv WY.out WX.out WS.out hx0.out.2.2.1 hx0.out.1 hx0.out.2.2.2.1 hx0.out.2.1 hmd.out W
  clear K6
  refine C6 10 (by kernel_rfl) (by kernel_rfl) ?_
  intro wq hwq
  have kq := Keep.cl (l := [(⟨w.heap.size, 0, none⟩, .int .i64 (an)), (⟨w.heap.size, 1, none⟩, .int .i64 (ad)), (⟨w.heap.size + 1, 0, none⟩, .int .i64 (bn)), (⟨w.heap.size + 1, 1, none⟩, .int .i64 (bd)), (⟨w.heap.size + 1 + 1, 0, none⟩, .int .i64 (0)), (⟨w.heap.size + 1 + 1, 1, none⟩, .int .i64 (0)), (⟨b1, 0, none⟩, .int .u64 (xh)), (⟨b1, 1, none⟩, .int .u64 (xl)), (⟨b2, 0, none⟩, .int .u64 (yh)), (⟨b2, 1, none⟩, .int .u64 (yl)), (⟨b3, 0, none⟩, .int .u64 (dh)), (⟨b3, 1, none⟩, .int .u64 (dl))]) (by first|(simp [Keep, go_sem, *];done)|(simp [Keep, go_sem, *];omega)|(simp (disch := first | omega|(simp;omega)|(simp;done)) [Keep, go_sem, A4, A5, RowKit.frozen?_alloc_cells, A1, *];done)|(simp (disch := first | omega|(simp;omega)|(simp;done)) [Keep, go_sem, A4, A5, RowKit.frozen?_alloc_cells, A1, *];omega)) hwq
  simp only [Da] at kq
  simp only [List.take_succ_cons, List.take_zero, List.drop_succ_cons, List.drop_zero]
  repeat (go_big_quiet_step (first|(go_at_call 220;with_reducible exact Be (CN.out _))|(go_at_call 189;with_reducible exact Be (CM1.out _))))
  refine wpQuiet_nil ?_
  intro w8 ht8
  have K8 := Keep.tr (l := [(⟨w.heap.size, 0, none⟩, .int .i64 (an)), (⟨w.heap.size, 1, none⟩, .int .i64 (ad)), (⟨w.heap.size + 1, 0, none⟩, .int .i64 (bn)), (⟨w.heap.size + 1, 1, none⟩, .int .i64 (bd)), (⟨w.heap.size + 1 + 1, 0, none⟩, .int .i64 (0)), (⟨w.heap.size + 1 + 1, 1, none⟩, .int .i64 (0)), (⟨b1, 0, none⟩, .int .u64 (xh)), (⟨b1, 1, none⟩, .int .u64 (xl)), (⟨b2, 0, none⟩, .int .u64 (yh)), (⟨b2, 1, none⟩, .int .u64 (yl)), (⟨b3, 0, none⟩, .int .u64 (dh)), (⟨b3, 1, none⟩, .int .u64 (dl))]) (by first|(simp [Keep, go_sem, *];done)|(simp [Keep, go_sem, *];omega)|(simp (disch := first | omega|(simp;omega)|(simp;done)) [Keep, go_sem, A4, A5, RowKit.frozen?_alloc_cells, A1, *];done)|(simp (disch := first | omega|(simp;omega)|(simp;done)) [Keep, go_sem, A4, A5, RowKit.frozen?_alloc_cells, A1, *];omega)) ht8
  have T8 : Tr w w8 := Tr.trans (by repeat (first | exact Tr.refl _ | assumption | apply Tr.al | apply Tr.drN | apply Tr.dr|(refine Tr.set ?_ (by first | omega|(simp;done)|(simp;omega)) _))) ht8
  have hs8 := Below.size ht8
  (try simp at hs8)
  simp only [Keep] at K8
  clear ht8 hwq kq
  go_wp2
  simp [bodyPost, results, Tryz.results154, go_sem, *]
  exact (by repeat (first | exact Tr.refl _ | assumption | apply Tr.al | apply Tr.drN | apply Tr.dr|(refine Tr.set ?_ (by first | omega|(simp;done)|(simp;omega)) _)))
 ·skip
  go_upto_region 8 with (go_at_call 136;(with_reducible refine (Hq WX.out WY.out hx0.out.1 hx0.out.2.2.1 s5.out _).mono ?_);rintro e w7 ⟨rfl, ht7⟩;have T7 : Tr w w7 := Tr.trans (by repeat (first | exact Tr.refl _ | assumption | apply Tr.al | apply Tr.drN | apply Tr.dr|(refine Tr.set ?_ (by first | omega|(simp;done)|(simp;omega)) _))) ht7;have K7 := Keep.tr (l := [(⟨w.heap.size, 0, none⟩, .int .i64 (an)), (⟨w.heap.size, 1, none⟩, .int .i64 (ad)), (⟨w.heap.size + 1, 0, none⟩, .int .i64 (bn)), (⟨w.heap.size + 1, 1, none⟩, .int .i64 (bd)), (⟨w.heap.size + 1 + 1, 0, none⟩, .int .i64 (0)), (⟨w.heap.size + 1 + 1, 1, none⟩, .int .i64 (0)), (⟨b1, 0, none⟩, .int .u64 (xh)), (⟨b1, 1, none⟩, .int .u64 (xl)), (⟨b2, 0, none⟩, .int .u64 (yh)), (⟨b2, 1, none⟩, .int .u64 (yl)), (⟨b3, 0, none⟩, .int .u64 (dh)), (⟨b3, 1, none⟩, .int .u64 (dl))]) (by first|(simp [Keep, go_sem, *];done)|(simp [Keep, go_sem, *];omega)|(simp (disch := first | omega|(simp;omega)|(simp;done)) [Keep, go_sem, A4, A5, RowKit.frozen?_alloc_cells, A1, *];done)|(simp (disch := first | omega|(simp;omega)|(simp;done)) [Keep, go_sem, A4, A5, RowKit.frozen?_alloc_cells, A1, *];omega)) ht7;have hz7 := Below.size ht7;(try simp at hz7);clear ht7;simp only [Keep] at K7)
  have hmd : Hid ((X - Y) % 340282366920938463463374607431768211456 = S) := (by have := hx0.out;have := s3.out;have := s5.out;unfold Big at *;omega : (X - Y) % 340282366920938463463374607431768211456 = S)
  have CN := Lib.hid fun W => Cv WX.out WY.out WS.out hx0.out.1 hx0.out.2.2.1 hx0.out.2.1 hx0.out.2.2.2.1 hmd.out W
  clear K6
  refine C6 10 (by kernel_rfl) (by kernel_rfl) ?_
  intro wq hwq
  have kq := Keep.cl (l := [(⟨w.heap.size, 0, none⟩, .int .i64 (an)), (⟨w.heap.size, 1, none⟩, .int .i64 (ad)), (⟨w.heap.size + 1, 0, none⟩, .int .i64 (bn)), (⟨w.heap.size + 1, 1, none⟩, .int .i64 (bd)), (⟨w.heap.size + 1 + 1, 0, none⟩, .int .i64 (0)), (⟨w.heap.size + 1 + 1, 1, none⟩, .int .i64 (0)), (⟨b1, 0, none⟩, .int .u64 (xh)), (⟨b1, 1, none⟩, .int .u64 (xl)), (⟨b2, 0, none⟩, .int .u64 (yh)), (⟨b2, 1, none⟩, .int .u64 (yl)), (⟨b3, 0, none⟩, .int .u64 (dh)), (⟨b3, 1, none⟩, .int .u64 (dl))]) (by first|(simp [Keep, go_sem, *];done)|(simp [Keep, go_sem, *];omega)|(simp (disch := first | omega|(simp;omega)|(simp;done)) [Keep, go_sem, A4, A5, RowKit.frozen?_alloc_cells, A1, *];done)|(simp (disch := first | omega|(simp;omega)|(simp;done)) [Keep, go_sem, A4, A5, RowKit.frozen?_alloc_cells, A1, *];omega)) hwq
  simp only [Da] at kq
  simp only [List.take_succ_cons, List.take_zero, List.drop_succ_cons, List.drop_zero]
  repeat (go_big_quiet_step (first|(go_at_call 220;with_reducible exact Be (CN.out _))|(go_at_call 189;with_reducible exact Be (CM1.out _))))
  refine wpQuiet_nil ?_
  intro w8 ht8
  have K8 := Keep.tr (l := [(⟨w.heap.size, 0, none⟩, .int .i64 (an)), (⟨w.heap.size, 1, none⟩, .int .i64 (ad)), (⟨w.heap.size + 1, 0, none⟩, .int .i64 (bn)), (⟨w.heap.size + 1, 1, none⟩, .int .i64 (bd)), (⟨w.heap.size + 1 + 1, 0, none⟩, .int .i64 (0)), (⟨w.heap.size + 1 + 1, 1, none⟩, .int .i64 (0)), (⟨b1, 0, none⟩, .int .u64 (xh)), (⟨b1, 1, none⟩, .int .u64 (xl)), (⟨b2, 0, none⟩, .int .u64 (yh)), (⟨b2, 1, none⟩, .int .u64 (yl)), (⟨b3, 0, none⟩, .int .u64 (dh)), (⟨b3, 1, none⟩, .int .u64 (dl))]) (by first|(simp [Keep, go_sem, *];done)|(simp [Keep, go_sem, *];omega)|(simp (disch := first | omega|(simp;omega)|(simp;done)) [Keep, go_sem, A4, A5, RowKit.frozen?_alloc_cells, A1, *];done)|(simp (disch := first | omega|(simp;omega)|(simp;done)) [Keep, go_sem, A4, A5, RowKit.frozen?_alloc_cells, A1, *];omega)) ht8
  have T8 : Tr w w8 := Tr.trans (by repeat (first | exact Tr.refl _ | assumption | apply Tr.al | apply Tr.drN | apply Tr.dr|(refine Tr.set ?_ (by first | omega|(simp;done)|(simp;omega)) _))) ht8
  have hs8 := Below.size ht8
  (try simp at hs8)
  simp only [Keep] at K8
  clear ht8 hwq kq
  go_wp2
  simp [bodyPost, results, Tryz.results154, go_sem, *]
  exact (by repeat (first | exact Tr.refl _ | assumption | apply Tr.al | apply Tr.drN | apply Tr.dr|(refine Tr.set ?_ (by first | omega|(simp;done)|(simp;omega)) _)))
end Go.Proofs.YtcfjofhapbkmfaaGreatDoor
