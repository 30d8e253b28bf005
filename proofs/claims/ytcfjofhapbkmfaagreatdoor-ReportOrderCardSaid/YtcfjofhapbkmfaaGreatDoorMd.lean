/- DERIVED: THE SHELF's CONTRACTS AT THIS DUMP, IN PLAIN WORDS (tools/lay-plain.mjs out of 'TryzShelf.lean', which tools/lay-shelf.mjs wrote): THE SAME DECLARATIONS UNDER THE SAME NAMES: 'import', 'namespace', 'open', 'def', 'theorem' AND NOTHING ELSE: no command of the shelf's: FOR A HAND-IN. Each laying: the table of numbers ('.._ren') and one theorem, a field a fact of the dump's own or the kernel's comparison;each contract: ONE APPLICATION. -/
import Derived.Shelf.Strings.Builder1
import Derived.Shelf.Small.Bits
import Derived.Shelf.Strings.BuilderF
import Derived.Shelf.Strconv.Itoa0
import Derived.Shelf.Strconv.Itoa1
import Derived.Shelf.LaysM
import Derived.Shelf.Strconv.Itoa2
import Derived.Shelf.Strconv.Itoa3
import Derived.Shelf.Strings.Search1
import Derived.Shelf.Strings.Search2
import Derived.Shelf.Strings.Search3
import Derived.Shelf.Strings.Cut
import Derived.Shelf.Strings.Count
import Derived.Shelf.Strings.Shaped
import Derived.Shelf.Strings.Split
import Derived.Shelf.Bits.Mul64
import Derived.Shelf.Unicode.DecodeSlow
import Derived.Test.YtcfjofhapbkmfaaGreatDoorProg
import Derived.WalkKit
import Derived.WalkSpells
import Derived.Deep.QuietTactic
import Derived.BigQuiet
import Derived.Lib.Hide
import Derived.RowKit3
import Derived.Lib.QuietBelow
import Derived.StillTail
import Derived.OneCell
import Derived.Laws.Externs
import Derived.Shelf.Spec.BitsCarry
import Derived.Laws.BitsLemmas
import Derived.Lib.ItoaNum
import Derived.Deep.DeepCutAuto
import Derived.Deep.CutBlock
import Derived.Deep.RegionWith
import Derived.IntWalk
set_option linter.unusedSimpArgs false
set_option linter.unusedVariables false
namespace Go.Proofs
open Go.Shelf
def Tryz.lays169_ren : Go.Shelf.Ren := ⟨fun | 169 => 72 | n => n, fun | 70 => 75 | 9 => 9 | 0 => 0 | 72 => 78 | 37 => 76 | 127 => 176 | 3 => 3 | 5 => 5 | n => n, fun | n => n⟩
theorem Tryz.lays169 : Go.Proofs.Lays.n169 Tryz.prog Tryz.lays169_ren := {
 mixed := by kernel_rfl
 f169 := Tryz.func72.trans (congrArg some (by kernel_rfl))
 t0 := Tryz.underlying0
 a0 := Tryz.isAgg0
 z0 := Tryz.sizeOf0
 v0 := Tryz.zeroValue0
 t3 := Tryz.underlying3
 a3 := Tryz.isAgg3
 z3 := Tryz.sizeOf3
 v3 := Tryz.zeroValue3
 t9 := Tryz.underlying9
 a9 := Tryz.isAgg9
 z9 := Tryz.sizeOf9
 v9 := Tryz.zeroValue9
 t37 := Tryz.underlying76
 a37 := Tryz.isAgg76
 z37 := Tryz.sizeOf76
 v37 := Tryz.zeroValue76
 t70 := Tryz.underlying75
 a70 := Tryz.isAgg75
 z70 := Tryz.sizeOf75
 v70 := Tryz.zeroValue75
 t72 := Tryz.underlying78
 a72 := Tryz.isAgg78
 z72 := Tryz.sizeOf78
 v72 := Tryz.zeroValue78
 t127 := Tryz.underlying176
 a127 := Tryz.isAgg176
 z127 := Tryz.sizeOf176
 v127 := Tryz.zeroValue176 }
def Tryz.lays134_ren : Go.Shelf.Ren := ⟨fun | 134 => 262 | 129 => 231 | n => n, fun | 53 => 143 | 3 => 3 | 4 => 4 | 46 => 238 | 5 => 5 | 9 => 9 | n => n, fun | n => n⟩
theorem Tryz.lays134 : Go.Proofs.Lays.n134 Tryz.prog Tryz.lays134_ren := {
 mixed := by kernel_rfl
 f129 := Tryz.func231.trans (congrArg some (by kernel_rfl))
 f134 := Tryz.func262.trans (congrArg some (by kernel_rfl))
 t3 := Tryz.underlying3
 a3 := Tryz.isAgg3
 z3 := Tryz.sizeOf3
 v3 := Tryz.zeroValue3
 t4 := Tryz.underlying4
 a4 := Tryz.isAgg4
 z4 := Tryz.sizeOf4
 v4 := Tryz.zeroValue4
 t5 := Tryz.underlying5
 a5 := Tryz.isAgg5
 z5 := Tryz.sizeOf5
 v5 := Tryz.zeroValue5
 t9 := Tryz.underlying9
 a9 := Tryz.isAgg9
 z9 := Tryz.sizeOf9
 v9 := Tryz.zeroValue9
 t46 := Tryz.underlying238
 a46 := Tryz.isAgg238
 z46 := Tryz.sizeOf238
 v46 := Tryz.zeroValue238
 t53 := Tryz.underlying143
 a53 := Tryz.isAgg143
 z53 := Tryz.sizeOf143
 v53 := Tryz.zeroValue143 }
theorem Tryz.bits_LeadingZeros64 (x : Int) (w : World) (h0 : 0 <= x) (h1 : x <= 18446744073709551615) :
  Calls Tryz.prog 262 #[.int .u64 x] w fun e w' => e = .returned (.int .i64 (64 - (Lib.bitLen x.toNat : Int))) /\ w' = w := Any.bits_LeadingZeros64 Tryz.lays134 x w h0 h1
def Tryz.laysM171_ren : Go.Shelf.Ren := ⟨fun | 171 => 23 | 243 => 59 | 246 => 112 | 283 => 172 | 284 => 173 | 285 => 174 | 286 => 175 | 129 => 231 | 317 => 230 | 318 => 232 | 319 => 233 | 320 => 234 | 337 => 260 | 338 => 261 | n => n, fun | 3 => 3 | 9 => 9 | 2 => 2 | 4 => 4 | 171 => 219 | 0 => 0 | 53 => 143 | 37 => 76 | 5 => 5 | 173 => 222 | 212 => 264 | 51 => 265 | 20 => 20 | 213 => 266 | 46 => 238 | 232 => 294 | 233 => 295 | n => n, fun | 17 => 1 | 18 => 6 | 19 => 7 | n => n⟩
theorem Tryz.laysM171 : Go.Proofs.LaysM.n171 Tryz.prog Tryz.laysM171_ren := {
 mixed := by kernel_rfl
 f129 := Tryz.func231.trans (congrArg some (by kernel_rfl))
 f171 := Tryz.func23.trans (congrArg some (by kernel_rfl))
 f243 := Tryz.func59.trans (congrArg some (by kernel_rfl))
 f246 := Tryz.func112.trans (congrArg some (by kernel_rfl))
 f283 := Tryz.func172.trans (congrArg some (by kernel_rfl))
 f284 := Tryz.func173.trans (congrArg some (by kernel_rfl))
 f285 := Tryz.func174.trans (congrArg some (by kernel_rfl))
 f286 := Tryz.func175.trans (congrArg some (by kernel_rfl))
 f317 := Tryz.func230.trans (congrArg some (by kernel_rfl))
 f318 := Tryz.func232.trans (congrArg some (by kernel_rfl))
 f319 := Tryz.func233.trans (congrArg some (by kernel_rfl))
 f320 := Tryz.func234.trans (congrArg some (by kernel_rfl))
 f337 := Tryz.func260.trans (congrArg some (by kernel_rfl))
 f338 := Tryz.func261.trans (congrArg some (by kernel_rfl))
 t0 := Tryz.underlying0
 a0 := Tryz.isAgg0
 z0 := Tryz.sizeOf0
 v0 := Tryz.zeroValue0
 t2 := Tryz.underlying2
 a2 := Tryz.isAgg2
 z2 := Tryz.sizeOf2
 v2 := Tryz.zeroValue2
 t3 := Tryz.underlying3
 a3 := Tryz.isAgg3
 z3 := Tryz.sizeOf3
 v3 := Tryz.zeroValue3
 t4 := Tryz.underlying4
 a4 := Tryz.isAgg4
 z4 := Tryz.sizeOf4
 v4 := Tryz.zeroValue4
 t5 := Tryz.underlying5
 a5 := Tryz.isAgg5
 z5 := Tryz.sizeOf5
 v5 := Tryz.zeroValue5
 t9 := Tryz.underlying9
 a9 := Tryz.isAgg9
 z9 := Tryz.sizeOf9
 v9 := Tryz.zeroValue9
 t20 := Tryz.underlying20
 a20 := Tryz.isAgg20
 z20 := Tryz.sizeOf20
 v20 := Tryz.zeroValue20
 t37 := Tryz.underlying76
 a37 := Tryz.isAgg76
 z37 := Tryz.sizeOf76
 v37 := Tryz.zeroValue76
 t46 := Tryz.underlying238
 a46 := Tryz.isAgg238
 z46 := Tryz.sizeOf238
 v46 := Tryz.zeroValue238
 t51 := Tryz.underlying265
 a51 := Tryz.isAgg265
 z51 := Tryz.sizeOf265
 v51 := Tryz.zeroValue265
 t53 := Tryz.underlying143
 a53 := Tryz.isAgg143
 z53 := Tryz.sizeOf143
 v53 := Tryz.zeroValue143
 t171 := Tryz.underlying219
 a171 := Tryz.isAgg219
 z171 := Tryz.sizeOf219
 v171 := Tryz.zeroValue219
 t173 := Tryz.underlying222
 a173 := Tryz.isAgg222
 z173 := Tryz.sizeOf222
 v173 := Tryz.zeroValue222
 t212 := Tryz.underlying264
 a212 := Tryz.isAgg264
 z212 := Tryz.sizeOf264
 v212 := Tryz.zeroValue264
 t213 := Tryz.underlying266
 a213 := Tryz.isAgg266
 z213 := Tryz.sizeOf266
 t232 := Tryz.underlying294
 a232 := Tryz.isAgg294
 z232 := Tryz.sizeOf294
 v232 := Tryz.zeroValue294
 t233 := Tryz.underlying295
 a233 := Tryz.isAgg295
 z233 := Tryz.sizeOf295
 v233 := Tryz.zeroValue295
 g17 := by kernel_rfl
 g18 := by kernel_rfl
 g19 := by kernel_rfl
 i0 := by kernel_rfl
 i2 := by kernel_rfl
 i3 := by kernel_rfl
 i4 := by kernel_rfl
 i5 := by kernel_rfl
 i9 := by kernel_rfl
 i20 := by kernel_rfl
 i37 := by kernel_rfl
 i46 := by kernel_rfl
 i51 := by kernel_rfl
 i53 := by kernel_rfl
 i171 := by kernel_rfl
 i173 := by kernel_rfl
 i212 := by kernel_rfl
 i232 := by kernel_rfl
 i233 := by kernel_rfl
 m17 := by kernel_rfl
 m18 := by kernel_rfl
 m19 := by kernel_rfl }
open Go.RowKit Go.Sort Go.Lib in
theorem Tryz.strconv_Itoa (n : Int) (h0 : -9223372036854775808 <= n) (h1 : n <= 9223372036854775807) (w : World) (htab : Lib.TabIs Tryz.prog w "internal/strconv.uint64pow10" .u64 Lib.pow10Tab) :
  Calls Tryz.prog 23 #[.int .i64 n] w fun e w' => e = .returned (.string ⟨(Lib.itoa n).toArray⟩) /\ ∃ k os, w' = grow (w.drewN k) os := Any.strconv_Itoa Tryz.laysM171 n h0 h1 w htab
def Tryz.lays145_ren : Go.Shelf.Ren := ⟨fun | 145 => 40 | 220 => 89 | 219 => 141 | 217 => 203 | 225 => 204 | 224 => 205 | 267 => 206 | 266 => 254 | 314 => 255 | n => n, fun | 9 => 9 | 4 => 4 | 59 => 95 | 3 => 3 | 5 => 5 | 46 => 238 | 146 => 281 | 51 => 265 | n => n, fun | 1 => 0 | n => n⟩
theorem Tryz.lays145 : Go.Proofs.Lays.n145 Tryz.prog Tryz.lays145_ren := {
 mixed := by kernel_rfl
 f145 := Tryz.func40.trans (congrArg some (by kernel_rfl))
 f217 := Tryz.func203.trans (congrArg some (by kernel_rfl))
 f219 := Tryz.func141.trans (congrArg some (by kernel_rfl))
 f220 := Tryz.func89.trans (congrArg some (by kernel_rfl))
 f224 := Tryz.func205.trans (congrArg some (by kernel_rfl))
 f225 := Tryz.func204.trans (congrArg some (by kernel_rfl))
 f266 := Tryz.func254.trans (congrArg some (by kernel_rfl))
 f267 := Tryz.func206.trans (congrArg some (by kernel_rfl))
 f314 := Tryz.func255.trans (congrArg some (by kernel_rfl))
 t3 := Tryz.underlying3
 a3 := Tryz.isAgg3
 z3 := Tryz.sizeOf3
 v3 := Tryz.zeroValue3
 t4 := Tryz.underlying4
 a4 := Tryz.isAgg4
 z4 := Tryz.sizeOf4
 v4 := Tryz.zeroValue4
 t5 := Tryz.underlying5
 a5 := Tryz.isAgg5
 z5 := Tryz.sizeOf5
 v5 := Tryz.zeroValue5
 t9 := Tryz.underlying9
 a9 := Tryz.isAgg9
 z9 := Tryz.sizeOf9
 v9 := Tryz.zeroValue9
 t46 := Tryz.underlying238
 a46 := Tryz.isAgg238
 z46 := Tryz.sizeOf238
 v46 := Tryz.zeroValue238
 t51 := Tryz.underlying265
 a51 := Tryz.isAgg265
 z51 := Tryz.sizeOf265
 v51 := Tryz.zeroValue265
 t59 := Tryz.underlying95
 a59 := Tryz.isAgg95
 z59 := Tryz.sizeOf95
 v59 := Tryz.zeroValue95
 t146 := Tryz.underlying281
 a146 := Tryz.isAgg281
 z146 := Tryz.sizeOf281
 v146 := Tryz.zeroValue281
 g1 := by kernel_rfl }
open Go.RowKit Go.Lib in
theorem Tryz.strings_Cut (s sep : ByteArray) (m : Int) (w : World) (hs : s.size < 4294967281) (hm : w.cell? ⟨0, 0, none⟩ = some (.int .i64 m)) :
  Calls Tryz.prog 40 #[.string s, .string sep] w fun e w' => e = .returned (.tuple #[.string ⟨(Lib.cut s.data.toList sep.data.toList).1.toArray⟩, .string ⟨(Lib.cut s.data.toList sep.data.toList).2.1.toArray⟩, .bool (Lib.cut s.data.toList sep.data.toList).2.2]) /\ ∃ n, w' = w.drewN n := Any.strings_Cut Tryz.lays145 s sep m w hs hm
def Tryz.lays146_ren : Go.Shelf.Ren := ⟨fun | 146 => 41 | 221 => 90 | 268 => 142 | 138 => 143 | 143 => 144 | 195 => 207 | 197 => 208 | 218 => 209 | 219 => 141 | 260 => 256 | 217 => 203 | 225 => 204 | 224 => 205 | 267 => 206 | 266 => 254 | 314 => 255 | n => n, fun | 9 => 9 | 31 => 47 | 3 => 3 | 4 => 4 | 0 => 0 | 105 => 246 | 21 => 21 | 5 => 5 | 46 => 238 | 119 => 290 | 139 => 293 | 138 => 292 | 146 => 281 | 51 => 265 | n => n, fun | 1 => 0 | 3 => 4 | 4 => 5 | n => n⟩
theorem Tryz.lays146 : Go.Proofs.Lays.n146 Tryz.prog Tryz.lays146_ren := {
 mixed := by kernel_rfl
 f138 := Tryz.func143.trans (congrArg some (by kernel_rfl))
 f143 := Tryz.func144.trans (congrArg some (by kernel_rfl))
 f146 := Tryz.func41.trans (congrArg some (by kernel_rfl))
 f195 := Tryz.func207.trans (congrArg some (by kernel_rfl))
 f197 := Tryz.func208.trans (congrArg some (by kernel_rfl))
 f217 := Tryz.func203.trans (congrArg some (by kernel_rfl))
 f218 := Tryz.func209.trans (congrArg some (by kernel_rfl))
 f219 := Tryz.func141.trans (congrArg some (by kernel_rfl))
 f221 := Tryz.func90.trans (congrArg some (by kernel_rfl))
 f224 := Tryz.func205.trans (congrArg some (by kernel_rfl))
 f225 := Tryz.func204.trans (congrArg some (by kernel_rfl))
 f260 := Tryz.func256.trans (congrArg some (by kernel_rfl))
 f266 := Tryz.func254.trans (congrArg some (by kernel_rfl))
 f267 := Tryz.func206.trans (congrArg some (by kernel_rfl))
 f268 := Tryz.func142.trans (congrArg some (by kernel_rfl))
 f314 := Tryz.func255.trans (congrArg some (by kernel_rfl))
 t0 := Tryz.underlying0
 a0 := Tryz.isAgg0
 z0 := Tryz.sizeOf0
 v0 := Tryz.zeroValue0
 t3 := Tryz.underlying3
 a3 := Tryz.isAgg3
 z3 := Tryz.sizeOf3
 v3 := Tryz.zeroValue3
 t4 := Tryz.underlying4
 a4 := Tryz.isAgg4
 z4 := Tryz.sizeOf4
 v4 := Tryz.zeroValue4
 t5 := Tryz.underlying5
 a5 := Tryz.isAgg5
 z5 := Tryz.sizeOf5
 v5 := Tryz.zeroValue5
 t9 := Tryz.underlying9
 a9 := Tryz.isAgg9
 z9 := Tryz.sizeOf9
 v9 := Tryz.zeroValue9
 t21 := Tryz.underlying21
 a21 := Tryz.isAgg21
 z21 := Tryz.sizeOf21
 v21 := Tryz.zeroValue21
 t31 := Tryz.underlying47
 a31 := Tryz.isAgg47
 z31 := Tryz.sizeOf47
 v31 := Tryz.zeroValue47
 t46 := Tryz.underlying238
 a46 := Tryz.isAgg238
 z46 := Tryz.sizeOf238
 v46 := Tryz.zeroValue238
 t51 := Tryz.underlying265
 a51 := Tryz.isAgg265
 z51 := Tryz.sizeOf265
 v51 := Tryz.zeroValue265
 t105 := Tryz.underlying246
 a105 := Tryz.isAgg246
 z105 := Tryz.sizeOf246
 v105 := Tryz.zeroValue246
 t119 := Tryz.underlying290
 a119 := Tryz.isAgg290
 z119 := Tryz.sizeOf290
 t138 := Tryz.underlying292
 a138 := Tryz.isAgg292
 z138 := Tryz.sizeOf292
 v138 := Tryz.zeroValue292
 t139 := Tryz.underlying293
 a139 := Tryz.isAgg293
 z139 := Tryz.sizeOf293
 v139 := Tryz.zeroValue293
 t146 := Tryz.underlying281
 a146 := Tryz.isAgg281
 z146 := Tryz.sizeOf281
 v146 := Tryz.zeroValue281
 g1 := by kernel_rfl
 g3 := by kernel_rfl
 g4 := by kernel_rfl }
open Go.RowKit Go.Lib in
theorem Tryz.strings_Split (s sep : ByteArray) (m : Int) (w : World) (hs : s.size < 4294967281) (hm : w.cell? ⟨0, 0, none⟩ = some (.int .i64 m)) (h1 : 1 <= sep.size) :
  Calls Tryz.prog 41 #[.string s, .string sep] w fun e w' =>
   e = .returned (.slice (some ⟨w.heap.size, 0, none⟩) (Lib.countB s sep + 1) (Lib.countB s sep + 1)) /\ w' = w.alloc (.cells ((Lib.splitB sep 0 (Lib.countB s sep) s).map Value.string).toArray 9) := Any.strings_Split Tryz.lays146 (by kernel_rfl) s sep m w hs hm h1
def Tryz.lays264_ren : Go.Shelf.Ren := ⟨fun | 264 => 140 | n => n, fun | 53 => 143 | 46 => 238 | n => n, fun | n => n⟩
theorem Tryz.lays264 : Go.Proofs.Lays.n264 Tryz.prog Tryz.lays264_ren := {
 mixed := by kernel_rfl
 f264 := Tryz.func140.trans (congrArg some (by kernel_rfl))
 t46 := Tryz.underlying238
 a46 := Tryz.isAgg238
 z46 := Tryz.sizeOf238
 v46 := Tryz.zeroValue238
 t53 := Tryz.underlying143
 a53 := Tryz.isAgg143
 z53 := Tryz.sizeOf143
 v53 := Tryz.zeroValue143 }
open Go.RowKit Go.Lib in
theorem Tryz.bits_Mul64 (x y : Nat) (hx : x < 18446744073709551616) (hy : y < 18446744073709551616) (w : World) :
  Calls Tryz.prog 140 #[.int .u64 x, .int .u64 y] w fun e w' => e = .returned (.tuple #[.int .u64 ((x * y / 18446744073709551616 : Nat) : Int), .int .u64 ((x * y % 18446744073709551616 : Nat) : Int)]) /\ w' = w := Any.bits_Mul64 Tryz.lays264 x y hx hy w
end Go.Proofs
namespace Go.Proofs.YtcfjofhapbkmfaaGreatDoor
open Go.RowKit
theorem Dj (n : Int) : IntKind.u64.wrap n = n % 18446744073709551616 := by
 simp [IntKind.wrap, IntKind.signed, IntKind.bits]
end Go.Proofs.YtcfjofhapbkmfaaGreatDoor
namespace Go.Proofs.YtcfjofhapbkmfaaGreatDoor
open Go Go.Sort Go.RowKit
def Tr (w w' : World) : Prop := Below w.heap.size w w'
theorem Tr.refl (w : World) : Tr w w := Below.refl _ _
theorem Tr.trans {a b c : World} (h : Tr a b) (k : Tr b c) : Tr a c := Below.trans h (Below.mono k (Below.size h))
section
variable {P : Program} {ops : Array Oper} {md : Region.Mode}

/-! ### One outcome -/
/-! ### The quiet head, in every world that is reached -/
/-! ### One operation that does not panic -/
/-! ### Whatever order;as long as one of the first m operations has not come up, the world may grow in between -/
/-! ### The head in the order of the text -/
end

section
variable {P : Program} {Q : Exit -> Act -> World -> Prop} {a : Act} {w : World} {l : List Oper} {id : Nat}
end

/-! ### Small words for the walks -/
theorem Tr.drN {w w1 : World} (h : Tr w w1) (n : Nat) : Tr w (w1.drewN n) := h.trans ⟨rfl, rfl, rfl, Nat.le_refl _, fun _ _ => rfl⟩
end Go.Proofs.YtcfjofhapbkmfaaGreatDoor
namespace Go.Proofs.YtcfjofhapbkmfaaGreatDoor
open Go.RowKit Go.Sort
end Go.Proofs.YtcfjofhapbkmfaaGreatDoor
namespace Go.Proofs.YtcfjofhapbkmfaaGreatDoor
def Cr (n d : Int) : Bool := decide (1 <= d) && decide (d <= 1152921504606846976) && decide (-1152921504606846976 <= n) && decide (n <= 1152921504606846976) && (Int.gcd n d == 1)
theorem validB_spec {n d : Int} : Cr n d = true ↔ 1 <= d /\ d <= 1152921504606846976 /\ -1152921504606846976 <= n /\ n <= 1152921504606846976 /\ Int.gcd n d = 1 := by
 unfold Cr
 simp only [Bool.and_eq_true, decide_eq_true_eq, beq_iff_eq, and_assoc]
theorem Pr {n d : Int} (h : ¬ (1 <= d /\ d <= 1152921504606846976 /\ -1152921504606846976 <= n /\ n <= 1152921504606846976 /\ Int.gcd n d = 1)) : Cr n d = false := by
 rw [Bool.eq_false_iff];intro hh;exact h (validB_spec.1 hh)
end Go.Proofs.YtcfjofhapbkmfaaGreatDoor
namespace Go.Proofs.YtcfjofhapbkmfaaGreatDoor
open Go.RowKit Go.Sort
theorem N9 (lo y : Int) (w : World) (h1 : 0 <= lo) (h2 : lo < 18446744073709551616) (h3 : 1 <= y) (h4 : y < 18446744073709551616) :
  Calls Tryz.prog 240 #[.int .u64 0, .int .u64 lo, .int .u64 y] w fun e w' => e = .returned (.tuple #[.int .u64 (lo / y), .int .u64 (lo % y)]) /\ Tr w w' := by
 have g1 : (y == 0) = false := by simp;omega
 have g2 : ¬ y <= 0 := by omega
 go_enter Tryz.func240, Tryz.ntmps240
 go_wp2
 go_quiet (fail)
 go_wp2
 go_ret2
 exact ⟨rfl, (Tr.refl _).drN _⟩

theorem Cq (u y1 y0 n q r Y Q : Int) (hY : Y = y1 * 4294967296 + y0) (hq : q * y1 + r = u) (hQ : Q * Y <= u * 4294967296 + n) (hQ' : Q < 4294967296) (hY0 : 0 < Y)
  (ht : 4294967296 <= q \/ 4294967296 * r + n < q * y0) : Q <= q - 1 := by
 rcases ht with h | h
 ·omega
 ·have : u * 4294967296 + n < q * Y := by rw [hY, <- hq, Int.mul_add, <- Int.mul_assoc, Int.add_mul];omega
  have h2 : Q * Y < q * Y := by omega
  have := Int.lt_of_mul_lt_mul_right h2 (by omega)
  omega
theorem F6 (u y1 y0 n q r Y Q : Int) (hY : Y = y1 * 4294967296 + y0) (hq : q * y1 + r = u) (hQ : u * 4294967296 + n < (Q + 1) * Y) (hY0 : 0 < Y)
  (ht : q * y0 <= 4294967296 * r + n) : q <= Q := by
 have : q * Y <= u * 4294967296 + n := by rw [hY, <- hq, Int.mul_add, <- Int.mul_assoc, Int.add_mul];omega
 have h2 : q * Y < (Q + 1) * Y := by omega
 have := Int.lt_of_mul_lt_mul_right h2 (by omega)
 omega
theorem Cb (q y0 : Int) (h0 : 0 <= q) (h1 : q < 4294967296) (h2 : 0 <= y0) (h3 : y0 < 4294967296) : 0 <= q * y0 /\ q * y0 <= 18446744065119617025 := by
 refine ⟨Int.mul_nonneg h0 h2, ?_⟩
 have := Int.mul_le_mul (show q <= 4294967295 by omega) (show y0 <= 4294967295 by omega) h2 (by omega)
 omega
theorem C8 (u y1 y0 n q r Y Q : Int) (hY : Y = y1 * 4294967296 + y0) (hq : q * y1 + r = u) (hu : u < Y) (hQ : u * 4294967296 + n < (Q + 1) * Y) (hY0 : 0 < Y) (h0 : 0 <= q) (hy0 : 0 <= y0) (hy0' : y0 < 4294967296) (hy1 : 0 < y1) (hn : 0 <= n)
  (hr : 4294967296 <= r) : q <= Q := by
 have h1 : q < 4294967296 := by
  have : q * y1 < 4294967296 * y1 := by omega
  exact Int.lt_of_mul_lt_mul_right this (by omega)
 have h2 := Cb q y0 h0 h1 hy0 hy0'
 exact F6 u y1 y0 n q r Y Q hY hq hQ hY0 (by omega)
theorem Dp (q y1 r u : Int) (h : q * y1 + r = u) : (q - 1) * y1 + (r + y1) = u := by rw [Int.sub_mul];omega

set_option maxRecDepth 100000 in
set_option maxHeartbeats 4000000 in
theorem P3 (hi lo y s Y y1 y0 u32 u10 u1 u0 q0 m0 Q1 R1 q2 m2 Q0 R0 : Int) (w : World) (h0 : 1 <= hi) (h0' : hi < y) (h1 : 0 <= lo) (h2 : lo < 18446744073709551616) (h4 : y < 18446744073709551616)
  (hs0 : 0 <= s) (hs1 : s <= 63) (hs : (64 - (Lib.bitLen y.toNat : Int)) = s) (hY : IntKind.u64.wrap (y * 2 ^ s.toNat) = Y) (hY1 : 9223372036854775808 <= Y) (hY2 : Y < 18446744073709551616)
  (hy1 : Y / 4294967296 = y1) (hy0 : bits .and .u64 Y 4294967295 = y0) (b1 : 2147483648 <= y1) (b2 : y1 < 4294967296) (b3 : 0 <= y0) (b4 : y0 < 4294967296)
  (hu : bits .or .u64 (IntKind.u64.wrap (hi * 2 ^ s.toNat)) (lo / 2 ^ (64 - s).toNat) = u32) (b5 : 0 <= u32) (b6 : u32 < Y)
  (hl : IntKind.u64.wrap (lo * 2 ^ s.toNat) = u10) (hl1 : u10 / 4294967296 = u1) (hl0 : bits .and .u64 u10 4294967295 = u0) (b7 : 0 <= u10) (b7' : u10 < 18446744073709551616)
  (b8 : 0 <= u1) (b9 : u1 < 4294967296) (b10 : 0 <= u0) (b11 : u0 < 4294967296)
  (hq : u32 / y1 = q0) (c1 : 0 <= q0) (c2 : q0 <= 4294967297) (hm : q0 * y1 = m0) (c3 : 0 <= m0) (c4 : m0 <= u32) (c5 : u32 - m0 < 4294967296)
  (k1 : Hid (Y = y1 * 4294967296 + y0)) (k2 : Hid (Q1 * Y <= u32 * 4294967296 + u1)) (k3 : Hid (u32 * 4294967296 + u1 < (Q1 + 1) * Y)) (c6 : 0 <= Q1) (c7 : Q1 < 4294967296) (c8 : Q1 <= q0)
  (hR : IntKind.u64.wrap (IntKind.u64.wrap (IntKind.u64.wrap (u32 * 4294967296) + u1) - IntKind.u64.wrap (Q1 * Y)) = R1) (d1 : 0 <= R1) (d2 : R1 < Y)
  (hq2 : R1 / y1 = q2) (e1 : 0 <= q2) (e2 : q2 <= 4294967297) (hm2 : q2 * y1 = m2) (e3 : 0 <= m2) (e4 : m2 <= R1) (e5 : R1 - m2 < 4294967296)
  (l2 : Hid (Q0 * Y <= R1 * 4294967296 + u0)) (l3 : Hid (R1 * 4294967296 + u0 < (Q0 + 1) * Y)) (e6 : 0 <= Q0) (e7 : Q0 < 4294967296) (e8 : Q0 <= q2)
  (hR0 : IntKind.u64.wrap (IntKind.u64.wrap (IntKind.u64.wrap (R1 * 4294967296) + u0) - IntKind.u64.wrap (Q0 * Y)) = R0) (f1 : 0 <= R0) (f2 : R0 < 18446744073709551616) :
  Calls Tryz.prog 240 #[.int .u64 hi, .int .u64 lo, .int .u64 y] w fun e w' => e = .returned (.tuple #[.int .u64 (Q1 * 4294967296 + Q0), .int .u64 (R0 / 2 ^ s.toNat)]) /\ Tr w w' := by
 have g1 : (y == 0) = false := by simp;omega
 have g2 : ¬ y <= hi := by omega
 have g3 : (hi == 0) = false := by simp;omega
 have g4 : ¬ y1 = 0 := by omega
 have HS := Lib.hid hs
 clear hs
 go_enter Tryz.func240, Tryz.ntmps240
 go_wp2_with (go_at_call 262;refine (Tryz.bits_LeadingZeros64 y _ (by omega) (by omega)).mono ?_;rintro e w' ⟨rfl, rfl⟩;rw [HS.out])
 go_loop [15, 16] (fun a b => ∃ q r : Int, a = .int .u64 q /\ b = .int .u64 r /\ Hid (q * y1 + r = u32) /\ 0 <= q /\ q <= 4294967297 /\ 0 <= r /\ r < 4294967296 /\ Q1 <= q) (fun a _ => (intOf a).toNat)
 case atStart => exact ⟨q0, u32 - m0, by rw [hq], by first | rfl|(rw [hq, hm]), (by rw [hm];show m0 + _ = _;omega), c1, c2, by omega, by omega, c8⟩
 case round =>
  obtain ⟨q, r, rfl, rfl, hqr, a1, a2, a3, a4, a5⟩ := hrel
  by_cases t1 : 4294967296 <= q
  ·have p1 : Q1 <= q - 1 := Cq u32 y1 y0 u1 q r Y Q1 k1.out hqr.out k2.out c7 (by omega) (.inl t1)
   have hst : Hid ((q - 1) * y1 + (r + y1) = u32) := Dp q y1 r u32 hqr.out
   by_cases t3 : 4294967296 <= r + y1
   ·have p2 : q - 1 <= Q1 := C8 u32 y1 y0 u1 (q - 1) (r + y1) Y Q1 k1.out hst.out b6 k3.out (by omega) (by omega) b3 b4 (by omega) b8 t3
    have p3 : q - 1 = Q1 := by omega
    clear p1 p2
    go_wp2
    go_loop [18, 16] (fun a b => ∃ q r : Int, a = .int .u64 q /\ b = .int .u64 r /\ Hid (q * y1 + r = R1) /\ 0 <= q /\ q <= 4294967297 /\ 0 <= r /\ r < 4294967296 /\ Q0 <= q) (fun a _ => (intOf a).toNat)
    case atStart => exact ⟨q2, R1 - m2, by first | rfl|(rw [hq2]), by first | rfl|(rw [hq2, hm2]), (by rw [hm2];show m2 + _ = _;omega), e1, e2, by omega, by omega, e8⟩
    case round =>
     obtain ⟨q, r, rfl, rfl, hqr, a1, a2, a3, a4, a5⟩ := hrel
     by_cases t1 : 4294967296 <= q
     ·have p1 : Q0 <= q - 1 := Cq R1 y1 y0 u0 q r Y Q0 k1.out hqr.out l2.out e7 (by omega) (.inl t1)
      have hst : Hid ((q - 1) * y1 + (r + y1) = R1) := Dp q y1 r R1 hqr.out
      by_cases t3 : 4294967296 <= r + y1
      ·have p2 : q - 1 <= Q0 := C8 R1 y1 y0 u0 (q - 1) (r + y1) Y Q0 k1.out hst.out d2 l3.out (by omega) (by omega) b3 b4 (by omega) b10 t3
       have p3 : q - 1 = Q0 := by omega
       clear p1 p2
       go_wp2
       go_ret2
       exact ⟨rfl, Tr.refl _⟩
      ·go_wp2
       go_round
       case rel => exact ⟨q - 1, r + y1, rfl, rfl, hst, by omega, by omega, by omega, by omega, p1⟩
       case measure => simp [intOf];omega
     ·by_cases t2 : 4294967296 * r + u0 < q * y0
      ·have p1 : Q0 <= q - 1 := Cq R1 y1 y0 u0 q r Y Q0 k1.out hqr.out l2.out e7 (by omega) (.inr t2)
       have hst : Hid ((q - 1) * y1 + (r + y1) = R1) := Dp q y1 r R1 hqr.out
       obtain ⟨x1, x2⟩ := Cb q y0 a1 (by omega) b3 b4
       by_cases t3 : 4294967296 <= r + y1
       ·have p2 : q - 1 <= Q0 := C8 R1 y1 y0 u0 (q - 1) (r + y1) Y Q0 k1.out hst.out d2 l3.out (by omega) (by omega) b3 b4 (by omega) b10 t3
        have p3 : q - 1 = Q0 := by omega
        clear p1 p2
        go_wp2
        go_ret2
        exact ⟨rfl, Tr.refl _⟩
       ·go_wp2
        go_round
        case rel => exact ⟨q - 1, r + y1, rfl, rfl, hst, by omega, by omega, by omega, by omega, p1⟩
        case measure => simp [intOf];omega
      ·obtain ⟨x1, x2⟩ := Cb q y0 a1 (by omega) b3 b4
       have p2 : q <= Q0 := F6 R1 y1 y0 u0 q r Y Q0 k1.out hqr.out l3.out (by omega) (by omega)
       obtain rfl : Q0 = q := by omega
       clear p2
       go_wp2
       go_ret2
       exact ⟨rfl, Tr.refl _⟩
   ·go_wp2
    go_round
    case rel => exact ⟨q - 1, r + y1, rfl, rfl, hst, by omega, by omega, by omega, by omega, p1⟩
    case measure => simp [intOf];omega
  ·by_cases t2 : 4294967296 * r + u1 < q * y0
   ·have p1 : Q1 <= q - 1 := Cq u32 y1 y0 u1 q r Y Q1 k1.out hqr.out k2.out c7 (by omega) (.inr t2)
    have hst : Hid ((q - 1) * y1 + (r + y1) = u32) := Dp q y1 r u32 hqr.out
    obtain ⟨x1, x2⟩ := Cb q y0 a1 (by omega) b3 b4
    by_cases t3 : 4294967296 <= r + y1
    ·have p2 : q - 1 <= Q1 := C8 u32 y1 y0 u1 (q - 1) (r + y1) Y Q1 k1.out hst.out b6 k3.out (by omega) (by omega) b3 b4 (by omega) b8 t3
     have p3 : q - 1 = Q1 := by omega
     clear p1 p2
     go_wp2
     go_loop [18, 16] (fun a b => ∃ q r : Int, a = .int .u64 q /\ b = .int .u64 r /\ Hid (q * y1 + r = R1) /\ 0 <= q /\ q <= 4294967297 /\ 0 <= r /\ r < 4294967296 /\ Q0 <= q) (fun a _ => (intOf a).toNat)
     case atStart => exact ⟨q2, R1 - m2, by first | rfl|(rw [hq2]), by first | rfl|(rw [hq2, hm2]), (by rw [hm2];show m2 + _ = _;omega), e1, e2, by omega, by omega, e8⟩
     case round =>
      obtain ⟨q, r, rfl, rfl, hqr, a1, a2, a3, a4, a5⟩ := hrel
      by_cases t1 : 4294967296 <= q
      ·have p1 : Q0 <= q - 1 := Cq R1 y1 y0 u0 q r Y Q0 k1.out hqr.out l2.out e7 (by omega) (.inl t1)
       have hst : Hid ((q - 1) * y1 + (r + y1) = R1) := Dp q y1 r R1 hqr.out
       by_cases t3 : 4294967296 <= r + y1
       ·have p2 : q - 1 <= Q0 := C8 R1 y1 y0 u0 (q - 1) (r + y1) Y Q0 k1.out hst.out d2 l3.out (by omega) (by omega) b3 b4 (by omega) b10 t3
        have p3 : q - 1 = Q0 := by omega
        clear p1 p2
        go_wp2
        go_ret2
        exact ⟨rfl, Tr.refl _⟩
       ·go_wp2
        go_round
        case rel => exact ⟨q - 1, r + y1, rfl, rfl, hst, by omega, by omega, by omega, by omega, p1⟩
        case measure => simp [intOf];omega
      ·by_cases t2 : 4294967296 * r + u0 < q * y0
       ·have p1 : Q0 <= q - 1 := Cq R1 y1 y0 u0 q r Y Q0 k1.out hqr.out l2.out e7 (by omega) (.inr t2)
        have hst : Hid ((q - 1) * y1 + (r + y1) = R1) := Dp q y1 r R1 hqr.out
        obtain ⟨x1, x2⟩ := Cb q y0 a1 (by omega) b3 b4
        by_cases t3 : 4294967296 <= r + y1
        ·have p2 : q - 1 <= Q0 := C8 R1 y1 y0 u0 (q - 1) (r + y1) Y Q0 k1.out hst.out d2 l3.out (by omega) (by omega) b3 b4 (by omega) b10 t3
         have p3 : q - 1 = Q0 := by omega
         clear p1 p2
         go_wp2
         go_ret2
         exact ⟨rfl, Tr.refl _⟩
        ·go_wp2
         go_round
         case rel => exact ⟨q - 1, r + y1, rfl, rfl, hst, by omega, by omega, by omega, by omega, p1⟩
         case measure => simp [intOf];omega
       ·obtain ⟨x1, x2⟩ := Cb q y0 a1 (by omega) b3 b4
        have p2 : q <= Q0 := F6 R1 y1 y0 u0 q r Y Q0 k1.out hqr.out l3.out (by omega) (by omega)
        obtain rfl : Q0 = q := by omega
        clear p2
        go_wp2
        go_ret2
        exact ⟨rfl, Tr.refl _⟩
    ·go_wp2
     go_round
     case rel => exact ⟨q - 1, r + y1, rfl, rfl, hst, by omega, by omega, by omega, by omega, p1⟩
     case measure => simp [intOf];omega
   ·obtain ⟨x1, x2⟩ := Cb q y0 a1 (by omega) b3 b4
    have p2 : q <= Q1 := F6 u32 y1 y0 u1 q r Y Q1 k1.out hqr.out k3.out (by omega) (by omega)
    obtain rfl : Q1 = q := by omega
    clear p2
    go_wp2
    go_loop [18, 16] (fun a b => ∃ q r : Int, a = .int .u64 q /\ b = .int .u64 r /\ Hid (q * y1 + r = R1) /\ 0 <= q /\ q <= 4294967297 /\ 0 <= r /\ r < 4294967296 /\ Q0 <= q) (fun a _ => (intOf a).toNat)
    case atStart => exact ⟨q2, R1 - m2, by first | rfl|(rw [hq2]), by first | rfl|(rw [hq2, hm2]), (by rw [hm2];show m2 + _ = _;omega), e1, e2, by omega, by omega, e8⟩
    case round =>
     obtain ⟨q, r, rfl, rfl, hqr, a1, a2, a3, a4, a5⟩ := hrel
     by_cases t1 : 4294967296 <= q
     ·have p1 : Q0 <= q - 1 := Cq R1 y1 y0 u0 q r Y Q0 k1.out hqr.out l2.out e7 (by omega) (.inl t1)
      have hst : Hid ((q - 1) * y1 + (r + y1) = R1) := Dp q y1 r R1 hqr.out
      by_cases t3 : 4294967296 <= r + y1
      ·have p2 : q - 1 <= Q0 := C8 R1 y1 y0 u0 (q - 1) (r + y1) Y Q0 k1.out hst.out d2 l3.out (by omega) (by omega) b3 b4 (by omega) b10 t3
       have p3 : q - 1 = Q0 := by omega
       clear p1 p2
       go_wp2
       go_ret2
       exact ⟨rfl, Tr.refl _⟩
      ·go_wp2
       go_round
       case rel => exact ⟨q - 1, r + y1, rfl, rfl, hst, by omega, by omega, by omega, by omega, p1⟩
       case measure => simp [intOf];omega
     ·by_cases t2 : 4294967296 * r + u0 < q * y0
      ·have p1 : Q0 <= q - 1 := Cq R1 y1 y0 u0 q r Y Q0 k1.out hqr.out l2.out e7 (by omega) (.inr t2)
       have hst : Hid ((q - 1) * y1 + (r + y1) = R1) := Dp q y1 r R1 hqr.out
       obtain ⟨x1, x2⟩ := Cb q y0 a1 (by omega) b3 b4
       by_cases t3 : 4294967296 <= r + y1
       ·have p2 : q - 1 <= Q0 := C8 R1 y1 y0 u0 (q - 1) (r + y1) Y Q0 k1.out hst.out d2 l3.out (by omega) (by omega) b3 b4 (by omega) b10 t3
        have p3 : q - 1 = Q0 := by omega
        clear p1 p2
        go_wp2
        go_ret2
        exact ⟨rfl, Tr.refl _⟩
       ·go_wp2
        go_round
        case rel => exact ⟨q - 1, r + y1, rfl, rfl, hst, by omega, by omega, by omega, by omega, p1⟩
        case measure => simp [intOf];omega
      ·obtain ⟨x1, x2⟩ := Cb q y0 a1 (by omega) b3 b4
       have p2 : q <= Q0 := F6 R1 y1 y0 u0 q r Y Q0 k1.out hqr.out l3.out (by omega) (by omega)
       obtain rfl : Q0 = q := by omega
       clear p2
       go_wp2
       go_ret2
       exact ⟨rfl, Tr.refl _⟩
theorem Vr (a b Q : Int) (hb : 0 < b) (h : Q * b <= a) : Q <= a / b := (Int.le_ediv_iff_mul_le hb).2 h
theorem Jn (a b Q : Int) (hb : 0 < b) (h : a < Q * b) : a / b < Q := (Int.ediv_lt_iff_lt_mul hb).2 h
theorem Dy (a b : Int) (hb : 0 < b) : a = (a / b) * b + a % b /\ 0 <= a % b /\ a % b < b :=
 ⟨by have := Int.mul_ediv_add_emod a b;rw [Int.mul_comm] at this;omega, Int.emod_nonneg _ (by omega), Int.emod_lt_of_pos _ hb⟩
theorem J3 (U y q r : Int) (h : U = q * y + r) (h0 : 0 <= r) (h1 : r < y) : U / y = q /\ U % y = r := by
 constructor
 ·rw [h, Int.mul_comm, Int.mul_add_ediv_left _ _ (by omega), Int.ediv_eq_zero_of_lt h0 h1];omega
 ·rw [h, Int.add_comm, Int.mul_comm, Int.add_mul_emod_self_left];exact Int.emod_eq_of_lt h0 h1
theorem I0 (u y1 y0 n Y : Int) (hY : Y = y1 * 4294967296 + y0) (h1 : 2147483648 <= y1) (h3 : 0 <= y0) (h4 : y0 < 4294967296) (h5 : 0 <= u) (h6 : u < Y) (h7 : 0 <= n) (h8 : n < 4294967296) :
  0 <= u / y1 /\ u / y1 <= 4294967297 /\ 0 <= u / y1 * y1 /\ u / y1 * y1 <= u /\ u - u / y1 * y1 < y1 /\
  (u * 4294967296 + n) / Y * Y <= u * 4294967296 + n /\ u * 4294967296 + n < ((u * 4294967296 + n) / Y + 1) * Y /\ 0 <= (u * 4294967296 + n) / Y /\ (u * 4294967296 + n) / Y < 4294967296 /\ (u * 4294967296 + n) / Y <= u / y1 := by
 obtain ⟨e1, e2, e3⟩ := Dy u y1 (by omega)
 obtain ⟨f1, f2, f3⟩ := Dy (u * 4294967296 + n) Y (by omega)
 have q0 : 0 <= u / y1 := Int.ediv_nonneg h5 (by omega)
 have Q0 : 0 <= (u * 4294967296 + n) / Y := Int.ediv_nonneg (by omega) (by omega)
 refine ⟨q0, ?_, Int.mul_nonneg q0 (by omega), by omega, by omega, by omega, ?_, Q0, ?_, ?_⟩
 ·have : u / y1 < 4294967298 := Jn _ _ _ (by omega) (by omega)
  omega
 ·rw [Int.add_mul];omega
 ·exact Jn _ _ _ (by omega) (by omega)
 ·refine Vr _ _ _ (by omega) ?_
  have g : (u * 4294967296 + n) / Y * Y = (u * 4294967296 + n) / Y * y1 * 4294967296 + (u * 4294967296 + n) / Y * y0 := by
   conv => lhs;rw [hY]
   rw [Int.mul_add, Int.mul_assoc, <- hY]
  have g2 : 0 <= (u * 4294967296 + n) / Y * y0 := Int.mul_nonneg Q0 h3
  omega
theorem Fi (n : Int) (h₀ : 0 <= n) (h₁ : n < 2 ^ 64) : IntKind.u64.wrap n = n := by rw [Dj];omega
theorem N3 (u n Q Y R : Int) (h : u * 4294967296 + n = Q * Y + R) (h0 : 0 <= R) (h1 : R < 18446744073709551616) :
  IntKind.u64.wrap (IntKind.u64.wrap (IntKind.u64.wrap (u * 4294967296) + n) - IntKind.u64.wrap (Q * Y)) = R := by
 simp only [Dj]
 generalize Q * Y = z at *
 omega
theorem Rc (x : Int) (h0 : 0 <= x) (h1 : x < 18446744073709551616) : bits .and .u64 x 4294967295 = x % 4294967296 :=
 bits_mask .u64 64 (by decide) Fi 32 (by decide) x h0 (by simpa using h1)
set_option maxRecDepth 100000 in
theorem Qf (hi lo y : Int) (w : World) (h0 : 0 <= hi) (h0' : hi < y) (h1 : 0 <= lo) (h2 : lo < 18446744073709551616) (h4 : y < 18446744073709551616) :
  Calls Tryz.prog 240 #[.int .u64 hi, .int .u64 lo, .int .u64 y] w fun e w' => e = .returned (.tuple #[.int .u64 ((hi * 18446744073709551616 + lo) / y), .int .u64 ((hi * 18446744073709551616 + lo) % y)]) /\ Tr w w' := by
 by_cases hz : hi = 0
 ·subst hz
  rw [show (0 : Int) * 18446744073709551616 + lo = lo by omega]
  exact N9 lo y w h1 h2 (by omega) h4
 ·have hy0 : y.toNat ≠ 0 := by omega
  obtain ⟨B1, B2, B3⟩ := Lib.bitLenAux_bounds 64 y.toNat (by omega) hy0
  have B4 : Lib.bitLen y.toNat <= 64 := Lib.bitLen_le y.toNat 64 (by omega) (by omega)
  change 1 <= Lib.bitLen y.toNat at B1
  change 2 ^ (Lib.bitLen y.toNat - 1) <= y.toNat at B2
  change y.toNat < 2 ^ Lib.bitLen y.toNat at B3
  generalize hL : Lib.bitLen y.toNat = L at *
  obtain ⟨k, hk, hk'⟩ : ∃ k, L = 64 - k /\ k <= 63 := ⟨64 - L, by omega, by omega⟩
  have ht : (2 : Int) ^ k * 2 ^ L = 18446744073709551616 := by rw [<- Int.pow_add, show k + L = 64 by omega];decide
  have ht' : (2 : Int) ^ (L - 1) * 2 ^ k = 9223372036854775808 := by rw [<- Int.pow_add, show L - 1 + k = 63 by omega];decide
  have B2' : (2 : Int) ^ (L - 1) <= y := by
   have : ((2 ^ (L - 1) : Nat) : Int) <= y.toNat := by exact_mod_cast B2
   rw [Int.natCast_pow] at this
   have e : ((y.toNat : Nat) : Int) = y := by omega
   rw [e] at this;exact this
  have B3' : y < (2 : Int) ^ L := by
   have : (y.toNat : Int) < ((2 ^ L : Nat) : Int) := by exact_mod_cast B3
   rw [Int.natCast_pow] at this
   have e : ((y.toNat : Nat) : Int) = y := by omega
   rw [e] at this;exact this
  have tp : 0 < (2 : Int) ^ k := Int.pow_pos (by decide)
  have Tp : 0 < (2 : Int) ^ L := Int.pow_pos (by decide)
  have es : (k : Int).toNat = k := by omega
  have eL : (64 - (k : Int)).toNat = L := by omega
  have div := P3 hi lo y k (y * 2 ^ k)
  rw [es, eL] at div
  generalize (2 : Int) ^ (L - 1) = V at *
  have hTk : ∀ a : Int, 0 <= a -> a < 2 ^ k -> (a : Int) < 2 ^ k := fun _ _ h => h
  have hYlo : 9223372036854775808 <= y * 2 ^ k := by rw [<- ht'];exact Int.mul_le_mul_of_nonneg_right B2' (by omega)
  have hYhi : y * 2 ^ k < 18446744073709551616 := by rw [<- ht, Int.mul_comm (2 ^ k)];exact Int.mul_lt_mul_of_pos_right B3' tp
  obtain ⟨a1, a2, a3⟩ := Dy lo (2 ^ L) Tp
  have lt1 : lo / 2 ^ L < 2 ^ k := Jn _ _ _ Tp (by rw [ht];exact h2)
  have lt0 : 0 <= lo / 2 ^ L := Int.ediv_nonneg h1 (by omega)
  have hit : hi * 2 ^ k <= (y - 1) * 2 ^ k := Int.mul_le_mul_of_nonneg_right (by omega) (by omega)
  have hit' : (y - 1) * 2 ^ k = y * 2 ^ k - 2 ^ k := by rw [Int.sub_mul];omega
  have hit0 : 0 <= hi * 2 ^ k := Int.mul_nonneg h0 (by omega)
  have low0 : 0 <= lo % 2 ^ L * 2 ^ k := Int.mul_nonneg a2 (by omega)
  have low1 : lo % 2 ^ L * 2 ^ k < 18446744073709551616 := by rw [<- ht, Int.mul_comm (2 ^ k)];exact Int.mul_lt_mul_of_pos_right a3 tp
  have lowe : lo * 2 ^ k = lo / 2 ^ L * 18446744073709551616 + lo % 2 ^ L * 2 ^ k := by
   conv => lhs;rw [a1]
   rw [Int.add_mul, Int.mul_assoc, Int.mul_comm (2 ^ L), ht]
  have W1 : IntKind.u64.wrap (hi * 2 ^ k) = hi * 2 ^ k := Fi _ hit0 (by simpa using (by omega : hi * 2 ^ k < 18446744073709551616))
  have W2 : IntKind.u64.wrap (y * 2 ^ k) = y * 2 ^ k := Fi _ (by omega) (by simpa using hYhi)
  have W3 : IntKind.u64.wrap (lo * 2 ^ k) = lo % 2 ^ L * 2 ^ k := by rw [Dj, lowe];omega
  have W4 : bits .or .u64 (hi * 2 ^ k) (lo / 2 ^ L) = hi * 2 ^ k + lo / 2 ^ L :=
   bits_join .u64 64 (by decide) Fi k _ _ hit0 (by rw [Int.mul_emod_left]) (by simpa using (by omega : hi * 2 ^ k < 18446744073709551616)) lt0 lt1 (by simpa using (by omega : lo / 2 ^ L < 18446744073709551616))
  rw [W1, W2, W3, W4] at div
  have key : (hi * 18446744073709551616 + lo) * 2 ^ k = (hi * 2 ^ k + lo / 2 ^ L) * 18446744073709551616 + lo % 2 ^ L * 2 ^ k := by
   rw [Int.add_mul, lowe, Int.add_mul, Int.mul_assoc, Int.mul_comm 18446744073709551616, <- Int.mul_assoc];omega
  have ub : hi * 2 ^ k + lo / 2 ^ L < y * 2 ^ k := by omega
  have ub0 : 0 <= hi * 2 ^ k + lo / 2 ^ L := by omega
  clear W1 W2 W3 W4 lowe hit hit' a1 B2 B3
  generalize hi * 2 ^ k + lo / 2 ^ L = u32 at *
  generalize lo % 2 ^ L * 2 ^ k = u10 at *
  have hYd : y * 2 ^ k = (y * 2 ^ k) / 4294967296 * 4294967296 + (y * 2 ^ k) % 4294967296 := by omega
  obtain ⟨p1, p2, p3, p4, p5, p6, p7, p8, p9, p10⟩ := I0 u32 ((y * 2 ^ k) / 4294967296) ((y * 2 ^ k) % 4294967296) (u10 / 4294967296) (y * 2 ^ k) hYd (by omega) (by omega) (by omega) ub0 ub (by omega) (by omega)
  obtain ⟨r1, r2, r3⟩ := Dy (u32 * 4294967296 + u10 / 4294967296) (y * 2 ^ k) (by omega)
  obtain ⟨q1, q2, q3, q4, q5, q6, q7, q8, q9, q10⟩ := I0 ((u32 * 4294967296 + u10 / 4294967296) % (y * 2 ^ k)) ((y * 2 ^ k) / 4294967296) ((y * 2 ^ k) % 4294967296) (u10 % 4294967296) (y * 2 ^ k) hYd (by omega) (by omega) (by omega) r2 r3 (by omega) (by omega)
  obtain ⟨v1, v2, v3⟩ := Dy ((u32 * 4294967296 + u10 / 4294967296) % (y * 2 ^ k) * 4294967296 + u10 % 4294967296) (y * 2 ^ k) (by omega)
  have fin := div _ _ u32 u10 _ _ _ _ _ _ _ _ _ _ w (by omega) h0' h1 h2 h4 (by omega) (by omega) (by omega) rfl hYlo hYhi rfl (Rc _ (by omega) hYhi) (by omega) (by omega) (by omega) (by omega) rfl ub0 ub rfl rfl (Rc _ low0 low1) low0 low1 (by omega) (by omega) (by omega) (by omega)
   rfl p1 p2 rfl p3 p4 (by omega) hYd p6 p7 p8 p9 p10 (N3 _ _ _ _ _ r1 r2 (by omega)) r2 r3 rfl q1 q2 rfl q3 q4 (by omega) q6 q7 q8 q9 q10 (N3 _ _ _ _ _ v1 v2 (by omega)) v2 (by omega)
  refine fin.mono fun e w' ⟨he, htr⟩ => ⟨?_, htr⟩
  rw [he]
  clear fin div
  generalize (u32 * 4294967296 + u10 / 4294967296) / (y * 2 ^ k) = Q1 at *
  generalize (u32 * 4294967296 + u10 / 4294967296) % (y * 2 ^ k) = R1 at *
  generalize (R1 * 4294967296 + u10 % 4294967296) / (y * 2 ^ k) = Q0 at *
  generalize (R1 * 4294967296 + u10 % 4294967296) % (y * 2 ^ k) = R0 at *
  have e0 : R0 = (hi * 18446744073709551616 + lo - (Q1 * 4294967296 + Q0) * y) * 2 ^ k := by
   rw [Int.sub_mul, key, Int.mul_assoc, Int.add_mul, Int.mul_right_comm]
   omega
  have e1 : R0 / 2 ^ k = hi * 18446744073709551616 + lo - (Q1 * 4294967296 + Q0) * y := by rw [e0];exact Int.mul_ediv_cancel _ (by omega)
  have e2 : 0 <= hi * 18446744073709551616 + lo - (Q1 * 4294967296 + Q0) * y := by rw [<- e1];exact Int.ediv_nonneg v2 (by omega)
  have e3 : hi * 18446744073709551616 + lo - (Q1 * 4294967296 + Q0) * y < y := by
   refine Int.lt_of_mul_lt_mul_right (a := 2 ^ k) ?_ (by omega)
   rw [<- e0];exact v3
  obtain ⟨d1, d2⟩ := J3 (hi * 18446744073709551616 + lo) y (Q1 * 4294967296 + Q0) _ (by omega) e2 e3
  rw [d1, d2, e1]
end Go.Proofs.YtcfjofhapbkmfaaGreatDoor
namespace Go.Proofs.YtcfjofhapbkmfaaGreatDoor
def Be (n d : Int) : Rat := Rat.divInt n d
theorem Pe {n d : Int} (h : Cr n d = true) : (Be n d).num = n /\ ((Be n d).den : Int) = d := by
 obtain ⟨h1, _, _, _, h5⟩ := validB_spec.1 h
 obtain ⟨k, rfl⟩ := Int.eq_ofNat_of_zero_le (show 0 <= d by omega)
 have hk : k ≠ 0 := by omega
 have hc : n.natAbs.Coprime k := by simpa [Int.gcd] using h5
 have : Be n k = ⟨n, k, hk, hc⟩ := by
  unfold Be;rw [Rat.mk_eq_divInt]
 rw [this]
 exact ⟨rfl, rfl⟩
theorem Rs (q : Rat) : Be q.num q.den = q := Rat.num_divInt_den q
theorem Ll (q : Rat) (h1 : q.num.natAbs <= 1152921504606846976) (h2 : q.den <= 1152921504606846976) : Cr q.num q.den = true := by
 rw [validB_spec]
 have := q.den_pos
 refine ⟨by omega, by omega, by omega, by omega, ?_⟩
 simpa [Int.gcd] using q.reduced

theorem Pu (a b : Rat) (g c : Nat) (s : Int) (hg : g = a.den.gcd b.den) (hs : s = a.num * (b.den / g : Nat) + b.num * (a.den / g : Nat)) (hc : c = s.natAbs.gcd g) :
  (a + b).num = s / c /\ (a + b).den = (a.den / g) * (b.den / c) := by
 have gp : 0 < g := hg ▸ Nat.gcd_pos_of_pos_left _ a.den_pos
 have ga : g ∣ a.den := hg ▸ Nat.gcd_dvd_left ..
 have gb : g ∣ b.den := hg ▸ Nat.gcd_dvd_right ..
 have ea : a.den / g * g = a.den := Nat.div_mul_cancel ga
 have eb : b.den / g * g = b.den := Nat.div_mul_cancel gb
 have aux := Rat.add.aux a b hg rfl rfl
 simp only at aux
 rw [<- hs] at aux
 have hnum : a.num * b.den + b.num * a.den = s * g := by
  rw [hs, Int.add_mul, Int.mul_assoc, Int.mul_assoc, <- Int.natCast_mul, <- Int.natCast_mul, ea, eb]
 have hden : a.den * b.den = a.den / g * b.den * g := by
  conv => lhs;rw [<- ea]
  rw [Nat.mul_right_comm]
 have hgcd : (a.num * b.den + b.num * a.den).natAbs.gcd (a.den * b.den) = c * g := by
  rw [hnum, hden, Int.natAbs_mul, Int.natAbs_natCast, Nat.gcd_mul_right, <- aux, <- hc]
 have cg : c ∣ g := hc ▸ Nat.gcd_dvd_right ..
 have cp : 0 < c := Nat.pos_of_dvd_of_pos cg gp
 have cb : c ∣ b.den := Nat.dvd_trans cg gb
 constructor
 ·rw [Rat.num_add, hgcd, hnum, Int.natCast_mul, Int.mul_ediv_mul_of_pos_left _ _ (by omega)]
 ·rw [Rat.den_add, hgcd, hden, Nat.mul_div_mul_right _ _ gp, Nat.mul_div_assoc _ cb]
theorem Ju (x : Int) (g : Nat) : x.tdiv (g : Int) = if x < 0 then -((x.natAbs / g : Nat) : Int) else ((x.natAbs / g : Nat) : Int) := by
 by_cases h : x < 0
 ·rw [if_pos h]
  have : x = -(x.natAbs : Int) := by omega
  conv => lhs;rw [this]
  rw [Int.neg_tdiv];rfl
 ·rw [if_neg h]
  have : x = (x.natAbs : Int) := by omega
  conv => lhs;rw [this]
  rfl
theorem Re (a b : Rat) (g h : Nat) (hg : g = a.num.natAbs.gcd b.den) (hh : h = b.num.natAbs.gcd a.den) :
  (a * b).num = a.num.tdiv g * b.num.tdiv h /\ (a * b).den = (a.den / h) * (b.den / g) := by
 subst hg hh
 show (Rat.mul a b).num = _ /\ (Rat.mul a b).den = _
 unfold Rat.mul
 simp only [Int.divExact_eq_tdiv]
 exact ⟨trivial, rfl⟩
theorem Pq {n d : Int} (h : Cr n d = true) (hn : n ≠ 0) : Cr (if n < 0 then -d else d) (n.natAbs : Int) = true /\ Be (if n < 0 then -d else d) (n.natAbs : Int) = (Be n d)⁻¹ := by
 obtain ⟨h1, h2, h3, h4, h5⟩ := validB_spec.1 h
 constructor
 ·rw [validB_spec]
  have e : Int.gcd (if n < 0 then -d else d) (n.natAbs : Int) = 1 := by
   rw [<- h5, Int.gcd_comm n d]
   by_cases hn : n < 0
   ·rw [if_pos hn, Int.neg_gcd];simp [Int.gcd]
   ·rw [if_neg hn];simp [Int.gcd]
  refine ⟨by omega, by omega, ?_, ?_, e⟩ <;> split <;> omega
 ·unfold Be
  rw [Rat.inv_divInt]
  by_cases hn : n < 0
  ·rw [if_pos hn, show ((n.natAbs : Nat) : Int) = -n by omega, Rat.neg_divInt_neg]
  ·rw [if_neg hn, show ((n.natAbs : Nat) : Int) = n by omega]
def Oy (p q : Rat) : Int := if p < q then -1 else if q < p then 1 else 0
end Go.Proofs.YtcfjofhapbkmfaaGreatDoor
namespace Go.Proofs.YtcfjofhapbkmfaaGreatDoor
open Go.RowKit Go.Sort
end Go.Proofs.YtcfjofhapbkmfaaGreatDoor
