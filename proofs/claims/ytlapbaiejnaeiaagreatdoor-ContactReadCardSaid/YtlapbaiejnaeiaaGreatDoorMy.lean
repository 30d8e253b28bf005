/- Contracts: strings.Builder's copyCheck, WriteString, Len;strings.Join;a line of words written into a builder. Conditions: those of each statement (bounds on lengths). -/
import Derived.Test.YtlapbaiejnaeiaaGreatDoorMc
import Derived.Test.YtlapbaiejnaeiaaGreatDoorMh
import Derived.Test.YtlapbaiejnaeiaaGreatDoorMd
import Derived.WalkKit
import Derived.Lib.Walk
import Derived.Lib.Hide
import Derived.Lib.ItoaLen
import Derived.Lib.Join
import Derived.Test.YtlapbaiejnaeiaaGreatDoorMi
set_option linter.unusedSimpArgs false
set_option linter.unusedVariables false
namespace Go.Proofs.YtlapbaiejnaeiaaGreatDoor
open Go.RowKit
theorem Ps : Dp 70 = #[] := by kernel_rfl
theorem Nt : (Tryz.prog.info? 70).map (·.size) = some 2 := by kernel_rfl
theorem Vu : liesAt Tryz.prog Tryz.prog.depth 70 (2 / Tryz.prog.cellsOf 70) 0 70 1 = true := by kernel_rfl
theorem Tj : (Tryz.prog.info? 5).map (fun i => (i.zero, i.size, i.bytes)) = some (some (.int .u8 0), 1, 1) := by kernel_rfl
theorem Lm : Tryz.prog.underlying 163 = some .unsafePointer := by kernel_rfl
theorem Z3 : Tryz.prog.funcs[100]? = some Tryz.f100 := by kernel_rfl
set_option maxHeartbeats 2000000 in
set_option maxRecDepth 100000 in
theorem M0 (b : Nat) (w : World) (h0 : w.cell? ⟨b, 0, none⟩ = some (.pointer (some ⟨b, 0, none⟩))) :
  Calls Tryz.prog 62 #[.pointer (some ⟨b, 0, none⟩)] w fun e w' => e = .returned (.tuple #[]) /\ w' = w := by
 obtain ⟨j, hj, _⟩ := Option.map_eq_some_iff.1 Nt
 have u66 := run_underlying (P := Tryz.prog) Tryz.underlying70
 have u63 := run_underlying (P := Tryz.prog) Tryz.underlying67
 go_enter Tryz.func62, Tryz.ntmps62
 go_wp2
 rw [Lib.run_neq_ptr_same w _ Tryz.underlying67 hj]
 go_wp2
 go_end0
 exact ⟨rfl, rfl⟩
set_option maxHeartbeats 2000000 in
set_option maxRecDepth 100000 in
theorem Kp (b : Nat) (w : World) (h0 : w.cell? ⟨b, 0, none⟩ = some (.pointer none)) (hsh : w.shape? b = some (70, 2)) (hfz : w.frozen? ⟨b, 0, none⟩ = false) :
  Calls Tryz.prog 62 #[.pointer (some ⟨b, 0, none⟩)] w fun e w' => e = .returned (.tuple #[]) /\ w' = w.setCell ⟨b, 0, none⟩ (.pointer (some ⟨b, 0, none⟩)) := by
 obtain ⟨j, hj, hjs⟩ := Option.map_eq_some_iff.1 Nt
 have u66 := run_underlying (P := Tryz.prog) Tryz.underlying70
 have u63 := run_underlying (P := Tryz.prog) Tryz.underlying67
 go_enter Tryz.func62, Tryz.ntmps62
 go_wp2
 rw [Lib.run_to_unsafe w ⟨b, 0, none⟩ Tryz.underlying67 Lm hj (by rw [hjs];decide) hsh (Nat.zero_lt_succ 1)]
 simp only [Result.andThen]
 rw [Oper.upon_value]
 go_wp2
 rw [run_callFunc_extern Z3 (by kernel_rfl) (by kernel_rfl) (by kernel_rfl) (e := Extern.AbiNoEscape.same) (by kernel_rfl)]
 rw [Lib.run_noEscape]
 simp only [Result.andThen]
 rw [Oper.upon_value]
 go_wp2
 rw [Lib.run_from_unsafe w ⟨b, 0, none⟩ Lm Tryz.underlying67 hj hsh Vu]
 simp only [Result.andThen]
 rw [Oper.upon_value]
 go_wp2
 go_end0
 exact ⟨rfl, rfl⟩
theorem Ls {P : Program} {w : World} {t u ty e : TypeId} {i : TypeInfo} (ht : P.underlying t = some (.slice e)) (hu : P.underlying u = some .string) (hi : P.info? e = some i) (hz : i.zero = some (.int .u8 0)) (hsize : i.size = 1) (hby : i.bytes = 1)
  {v : Value} {n : Nat} {xs : List Value} (hown : w.ownsRowF 0 e 1 v n xs) {s : ByteArray} (hbytes : n + s.size <= 140737488355328) :
  ∃ v' w', (Builtin.append_ #[t, u] ty #[v, .string s]).run P w = .ok v' w' /\ w'.ownsRowF 0 e 1 v' (n + s.size) (xs ++ Lib.strCells s) /\ w.grownBy w' v.ownBlock /\ (∀ g, v'.ownBlock = some g -> v.ownBlock = some g \/ w.heap.size <= g) /\ ∀ j x, w.shape? j = some x -> w'.shape? j = some x := by
 have h63 : n + s.size <= maxLen := by simp only [maxLen];omega
 rcases hown.2 with ⟨rfl, rfl⟩ | ⟨g, cap, cur, fz, rfl, hbg, hg, hfz, hnc, hcm, hcs, htake⟩
 ·obtain ⟨v', w', h1, h2, h3, _⟩ := Lib.run_append_own_stringF (P := P) w w.heap.size t u ty e i ht hu hi hz hsize hby (.slice none 0 0) 0 xs ⟨hown.1, .inl ⟨rfl, rfl⟩⟩ s h63 hbytes (Nat.le_refl _)
  refine ⟨v', w', h1, ⟨h2.1, ?_⟩, h3, fun g hg => ?_, fun j x hx => by rw [An (h3.block j (Cj hx) (by simp [Value.ownBlock]))];exact hx⟩
  ·rcases h2.2 with hh | ⟨g, cap, cur, fz, e1, e2, e3⟩
   ·exact .inl hh
   ·exact .inr ⟨g, cap, cur, fz, e1, Nat.zero_le _, e3⟩
  ·rcases h2.2 with ⟨rfl, _⟩ | ⟨g', cap, cur, fz, rfl, e2, e3⟩
   ·simp [Value.ownBlock] at hg
   ·simp only [Value.ownBlock, Option.some.injEq] at hg
    subst hg
    exact .inr e2
 ·obtain ⟨v', w', h1, h2, h3, _⟩ := Lib.run_append_own_stringF (P := P) w 0 t u ty e i ht hu hi hz hsize hby _ n xs hown s h63 hbytes (Nat.zero_le _)
  have hxl : xs.length = n := by simpa using hown.1
  by_cases hroom : n + s.size <= cap
  ·have hcs' : cur.size = cap := by simpa using hcs
   have hr := Lib.run_append_room_stringF (P := P) w t u ty e i ht hu hi hsize g n cap cur fz hg (by simpa using hfz) s hroom (by omega)
   rw [hr] at h1
   simp only [Result.ok.injEq] at h1
   obtain ⟨rfl, rfl⟩ := h1
   refine ⟨_, _, hr, h2, h3, fun g' hg' => .inl hg', fun j x hx => ?_⟩
   by_cases hj : j = g
   ·subst hj
    rw [Ci hg] at hx
    rw [Ci (setRow_heap w j cur _ e _ hg), <- hx]
    congr 2
    simp only [List.size_toArray, List.length_append, List.length_take, List.length_drop, Array.length_toList, Lib.strCells_length]
    omega
   ·rw [An (setRow_other w g j _ hj)]
    exact hx
  ·have holds : ∀ j u, xs[j]? = some u -> w.cell? ((⟨g, 0, none⟩ : Addr).add j) = some u := hown.cells (g := g) rfl
   have hr := Lib.run_append_grow_string (P := P) w t u ty e i (.int .u8 0) ht hu hi hz ⟨g, 0, none⟩ n cap xs (by rw [hsize];simpa using hxl) holds s (by omega) (by omega) (by rw [hby];exact growslice_fits (by omega) (by omega))
   rw [hr] at h1
   simp only [Result.ok.injEq] at h1
   obtain ⟨rfl, rfl⟩ := h1
   refine ⟨_, _, hr, h2, h3, fun g' hg' => ?_, fun j x hx => by rw [An (Af w.drew _ (Cj hx))];exact hx⟩
   simp only [Value.ownBlock, Option.some.injEq] at hg'
   subst hg'
   exact .inr (Nat.le_refl _)
theorem J6 {P : Program} {w : World} {ops : Array Oper} {rest : List Oper} {o : Oper} {a : Act} {Q : Exit -> Act -> World -> Prop} (hgd : o.guard = none) (sl x : Operand) (t u : TypeId)
  (ho : o.op = .call { callee := .builtin .append, args := #[sl, x], argTypes := #[t, u] }) {e : TypeId} {i : TypeInfo} (ht : P.underlying t = some (.slice e)) (hu : P.underlying u = some .string) (hi : P.info? e = some i) (hz : i.zero = some (.int .u8 0)) (hsize : i.size = 1) (hby : i.bytes = 1)
  {v : Value} {n : Nat} {xs : List Value} (hs : a.eval sl = v) (hown : w.ownsRowF 0 e 1 v n xs) {s : ByteArray} (hx : a.eval x = .string s) (hbytes : n + s.size <= 140737488355328)
  (h : ∀ v' w', w'.ownsRowF 0 e 1 v' (n + s.size) (xs ++ Lib.strCells s) -> w.grownBy w' v.ownBlock -> (∀ g, v'.ownBlock = some g -> v.ownBlock = some g \/ w.heap.size <= g) -> (∀ j x, w.shape? j = some x -> w'.shape? j = some x) -> wpList P ops Q rest (a.put o.dst v') w') : wpList P ops Q (o :: rest) a w := by
 refine wpList_plain hgd fun K hK => ?_
 obtain ⟨v', w', hr, h2, h3, h4, h5⟩ := Ls (P := P) (ty := o.type) ht hu hi hz hsize hby hown hbytes
 unfold Oper.wp execOp
 simp only [ho, resolve, invoke, builtin, Sem.run_bind, Sem.run_pure, Result.andThen_ok, List.map_toArray, List.map_cons, List.map_nil, hs, hx, hr]
 exact hK _ _ (h v' w' h2 h3 h4 h5)
set_option maxHeartbeats 4000000 in
set_option maxRecDepth 100000 in
theorem Lq {k : Nat} {p v : Value} {s : List Value} {w : World} (str : ByteArray) (hB : BAt w 70 5 k p v s) (hlen : s.length + str.size <= 140737488355328) :
  Calls Tryz.prog 31 #[.pointer (some ⟨k, 0, none⟩), .string str] w fun e w' => e = .returned (.tuple #[.int .i64 str.size, .nilIface]) /\
   (∃ v', BAt w' 70 5 k (.pointer (some ⟨k, 0, none⟩)) v' (s ++ Lib.strCells str) /\ ∀ g, v'.ownBlock = some g -> v.ownBlock = some g \/ w.heap.size <= g) /\
   (∀ j, j < w.heap.size -> j ≠ k -> v.ownBlock ≠ some j -> w'.heap[j]? = w.heap[j]?) /\ w'.os = w.os /\ w'.tape = w.tape /\ w'.output = w.output /\ w.heap.size <= w'.heap.size /\ ∀ j x, w.shape? j = some x -> w'.shape? j = some x := by
 obtain ⟨i0, hi, hz0, hz1, hz2⟩ := info_parts Tj
 obtain ⟨hbk, hp, hown, hne⟩ := hB
 rw [Ps, Array.append_empty] at hbk
 have hcc : Calls Tryz.prog 62 #[.pointer (some ⟨k, 0, none⟩)] w fun e w1 => e = .returned (.tuple #[]) /\ w1.heap[k]? = some (.cells #[.pointer (some ⟨k, 0, none⟩), v] 70 (0, 0)) /\ (∀ j, j ≠ k -> w1.heap[j]? = w.heap[j]?) /\ w1.os = w.os /\ w1.tape = w.tape /\ w1.output = w.output /\ w1.heap.size = w.heap.size /\ ∀ j, w1.shape? j = w.shape? j := by
  rcases hp with rfl | rfl
  ·refine (Kp k w (by rw [Lib.cell_of_heap hbk];rfl) (by unfold World.shape?;rw [hbk];rfl) (Lib.frozen_of_heap hbk 0)).mono ?_
   rintro e w1 ⟨rfl, rfl⟩
   refine ⟨rfl, ?_, fun j hj => Below.heap_setCell w _ _ j hj, rfl, rfl, rfl, by simp [World.setCell], fun j => Bt _ _ _ j⟩
   rw [heap_setCell w k 0 _ _ _ _ hbk]
   rfl
  ·refine (M0 k w (by rw [Lib.cell_of_heap hbk];rfl)).mono ?_
   rintro e w1 ⟨rfl, rfl⟩
   exact ⟨rfl, hbk, fun _ _ => rfl, rfl, rfl, rfl, rfl, fun _ => rfl⟩
 have hkl : k < w.heap.size := Bh hbk
 go_enter Tryz.func31, Tryz.ntmps31
 go_wp2_with (go_at_call 62;(with_reducible refine hcc.mono ?_))
 rintro e w1 ⟨rfl, h1, h2, h3, h4, h5, h6, h7⟩
 have hown1 : w1.ownsRowF 0 5 1 v s.length s := by
  refine ⟨hown.1, ?_⟩
  rcases hown.2 with hh | ⟨g, cap, cur, fz, e1, e2, e3, e4⟩
  ·exact .inl hh
  ·exact .inr ⟨g, cap, cur, fz, e1, e2, by rw [h2 g (fun e => hne (by rw [e1, e];rfl))];exact e3, e4⟩
 have c0 : w1.cell? ⟨k, 0, none⟩ = some (.pointer (some ⟨k, 0, none⟩)) := by rw [Lib.cell_of_heap h1];rfl
 have c1 : w1.cell? ⟨k, 1, none⟩ = some v := by rw [Lib.cell_of_heap h1];rfl
 go_wp2_with (at_builtin;refine J6 rfl _ _ 68 9 rfl Tryz.underlying68 Tryz.underlying9 hi hz0 hz1 hz2 rfl hown1 (s := str) rfl hlen ?_)
 intro v' w2 hown2 hgr hfresh hshp0
 have hshp := Lib.hid hshp0
 clear hshp0
 have hb2 : w2.heap[k]? = some (.cells #[.pointer (some ⟨k, 0, none⟩), v] 70 (0, 0)) := by
  rw [hgr.block k (by omega) (fun e => hne e.symm)]
  exact h1
 have d0 : w2.cell? ⟨k, 0, none⟩ = some (.pointer (some ⟨k, 0, none⟩)) := by rw [Lib.cell_of_heap hb2];rfl
 have d1 : w2.cell? ⟨k, 1, none⟩ = some v := by rw [Lib.cell_of_heap hb2];rfl
 have f1 : w2.frozen? ⟨k, 1, none⟩ = false := Lib.frozen_of_heap hb2 1
 obtain ⟨ao, n', cap, rfl⟩ : ∃ ao n' cap, v' = .slice ao n' cap := by
  rcases hown2.2 with ⟨hv, _⟩ | ⟨g, cap, cur, fz, hv, _⟩
  ·exact ⟨_, _, _, hv⟩
  ·exact ⟨_, _, _, hv⟩
 have hnk : (Value.slice ao n' cap).ownBlock ≠ some k := fun e => by
  rcases hfresh k e with hh | hh
  ·exact hne hh
  ·omega
 have hfresh' : ∀ g, (Value.slice ao n' cap).ownBlock = some g -> v.ownBlock = some g \/ w.heap.size <= g := fun g hg => (hfresh g hg).imp id (by omega)
 have hgs := hgr.size
 have hgb := hgr.block
 have hgo := hgr.os
 have hgt := hgr.tape
 have hgp := hgr.output
 go_wp2
 go_ret2
 refine ⟨rfl, ⟨_, ⟨?_, .inr rfl, ?_, hnk⟩, hfresh'⟩, fun j hj hjk hjv => ?_, ?_, ?_, ?_, ?_, fun j x hx => ?_⟩
 ·rw [Ps, Array.append_empty, heap_setCell _ k 1 _ _ _ _ hb2];rfl
 ·have hl : (s ++ Lib.strCells str).length = s.length + str.size := by rw [List.length_append, Lib.strCells_length]
  rw [hl]
  refine ⟨hown2.1, ?_⟩
  rcases hown2.2 with hh | ⟨g, cap', cur, fz, e1, e2, e3, e4⟩
  ·exact .inl hh
  ·exact .inr ⟨g, cap', cur, fz, e1, e2, by rw [Below.heap_setCell _ _ _ g (fun e => hnk (by rw [e1, e];rfl))];exact e3, e4⟩
 ·rw [Below.heap_setCell _ _ _ j hjk, hgb j (by omega) (fun e => hjv e.symm), h2 j hjk]
 ·exact hgo.trans h3
 ·exact hgt.trans h4
 ·exact hgp.trans h5
 ·simp [World.setCell];omega
 ·rw [Bt]
  obtain ⟨x1, x2⟩ := x
  exact hshp.out j x1 x2 hx
def Ad (n : Int) : ByteArray := ⟨(Lib.itoa n).toArray⟩
theorem Bl {a b : ByteArray} (h : a.data.toList = b.data.toList) : a = b := by
 cases a;cases b
 simp only [ByteArray.mk.injEq]
 exact Array.ext' h
theorem Cx (a b : ByteArray) : (a ++ b).data.toList = a.data.toList ++ b.data.toList := by simp [ByteArray.data_append]
theorem H5 {m : Nat} (h : ¬ m < 10) : Lib.decDigits m = Lib.decDigits (m / 10) ++ [UInt8.ofNat (48 + m % 10)] := by
 rw [Lib.decDigits, dif_neg h]
theorem Wi {n : Int} (h : 10 <= n) : Ad (n.tdiv 10) ++ ⟨#[UInt8.ofNat (48 + n.tmod 10).toNat]⟩ = Ad n := by
 obtain ⟨m, rfl⟩ : ∃ m : Nat, n = m := ⟨n.toNat, by omega⟩
 apply Bl
 rw [Cx]
 have h1 : ((m : Int).tdiv 10) = ((m / 10 : Nat) : Int) := by
  rw [Int.tdiv_eq_ediv_of_nonneg (by omega)];omega
 have h2 : ((m : Int).tmod 10) = ((m % 10 : Nat) : Int) := by
  rw [Int.tmod_eq_emod_of_nonneg (by omega)];omega
 rw [h1, h2]
 simp only [Ad, Lib.itoa]
 rw [if_neg (by omega), if_neg (by omega), Int.toNat_natCast, Int.toNat_natCast, H5 (m := m) (by omega), show (48 + ((m % 10 : Nat) : Int)).toNat = 48 + m % 10 by omega]
theorem S9 {n : Int} (h0 : 0 <= n) (h : n < 10) : (⟨#[UInt8.ofNat (48 + n.tmod 10).toNat]⟩ : ByteArray) = Ad n := by
 obtain ⟨m, rfl⟩ : ∃ m : Nat, n = m := ⟨n.toNat, by omega⟩
 apply Bl
 have h2 : ((m : Int).tmod 10) = ((m : Nat) : Int) := by
  rw [Int.tmod_eq_emod_of_nonneg (by omega)];omega
 rw [h2]
 simp only [Ad, Lib.itoa]
 rw [if_neg (by omega), Int.toNat_natCast, Lib.decDigits_one (by omega)]
 congr 1
theorem U9 {n : Int} (h0 : n < 0) (h : -10 < n) : (⟨#[45]⟩ : ByteArray) ++ ⟨#[UInt8.ofNat (48 - n).toNat]⟩ = Ad n := by
 obtain ⟨m, rfl⟩ : ∃ m : Nat, n = -(m : Int) := ⟨n.natAbs, by omega⟩
 apply Bl
 rw [Cx]
 simp only [Ad, Lib.itoa]
 rw [if_pos (by omega), show (-(m : Int)).natAbs = m by omega, Lib.decDigits_one (by omega), show (48 - -(m : Int)).toNat = 48 + m by omega]
 rfl
theorem Wh {n : Int} (h : n <= -10) : Ad (n.tdiv 10) ++ ⟨#[UInt8.ofNat (48 - n.tmod 10).toNat]⟩ = Ad n := by
 obtain ⟨m, rfl⟩ : ∃ m : Nat, n = -(m : Int) := ⟨n.natAbs, by omega⟩
 apply Bl
 rw [Cx]
 have h1 : ((-(m : Int)).tdiv 10) = -((m / 10 : Nat) : Int) := by
  rw [Int.neg_tdiv, Int.tdiv_eq_ediv_of_nonneg (by omega)];omega
 have h2 : ((-(m : Int)).tmod 10) = -((m % 10 : Nat) : Int) := by
  rw [Int.neg_tmod, Int.tmod_eq_emod_of_nonneg (by omega)];omega
 rw [h1, h2]
 simp only [Ad, Lib.itoa]
 rw [if_pos (by omega), if_pos (by omega), show (-(m : Int)).natAbs = m by omega, show (-((m / 10 : Nat) : Int)).natAbs = m / 10 by omega, H5 (m := m) (by omega), show (48 - -((m % 10 : Nat) : Int)).toNat = 48 + m % 10 by omega]
 simp
theorem E6 {n : Int} (h0 : -9223372036854775808 <= n) (h1 : n <= 9223372036854775807) : (Ad n).size <= 21 := by
 have h : (Ad n).size = (Lib.itoa n).length := by simp [Ad, ByteArray.size]
 rw [h]
 exact Lib.itoa_length_le n h0 h1
theorem Kb (x : UInt8) : (⟨#[x]⟩ : ByteArray).size = 1 := rfl
theorem Mn (n : Int) (h0 : -9223372036854775808 <= n) (h1 : n <= 9223372036854775807) (h2 : -10 < n) (h3 : n < 10) : Fn0 Tryz.prog 41 [.i n] (.val (.string (Ad n))) := by
 by_cases hn : n < 0
 ·have hg : n > -10 := h2
  have hw : IntKind.i32.wrap (48 - n) = 48 - n := by simp [IntKind.wrap, IntKind.signed, IntKind.bits];omega
  refine Fn0.of Tryz.func41 Tryz.ntmps41 rfl rfl rfl ?_
  simp only [A0]
  repeat' (first | refine W ?_|refine Za ?_|(apply S.conv;exact rfl;exact hw;exact rfl)|(apply S.convStr;exact rfl;(constructor <;> omega);exact rfl)|(apply S.strAdd;exact rfl;exact rfl;exact rfl;(simp only [Kb];omega)) | refine V ?_|(refine W2 ?_ ?_ <;> intro hc))
  all_goals exact A3 (by simp) Tryz.results41 rfl (by rw [U9 hn h2])
 ·have hr : n.tmod 10 = n := by rw [Int.tmod_eq_emod_of_nonneg (by omega)];omega
  have hb : ¬ n >= 10 := by omega
  have hw : IntKind.i32.wrap (48 + n.tmod 10) = 48 + n.tmod 10 := by rw [hr];simp [IntKind.wrap, IntKind.signed, IntKind.bits];omega
  refine Fn0.of Tryz.func41 Tryz.ntmps41 rfl rfl rfl ?_
  simp only [A0]
  repeat' (first | refine W ?_|refine Za ?_|(apply S.remT;exact rfl;exact rfl;exact rfl;omega)|(apply S.conv;exact rfl;exact hw;exact rfl)|(apply S.convStr;exact rfl;(rw [hr];constructor <;> omega);exact rfl) | refine V ?_|(refine W2 ?_ ?_ <;> intro hc))
  all_goals exact A3 (by simp) Tryz.results41 rfl (by rw [S9 (by omega) h3])
theorem Xq (n : Int) (h0 : -9223372036854775808 <= n) (h1 : n <= 9223372036854775807) (hs : ¬ (-10 < n /\ n < 10)) (ih : Fn0 Tryz.prog 41 [.i (n.tdiv 10)] (.val (.string (Ad (n.tdiv 10))))) (hsz : (Ad (n.tdiv 10)).size <= 21) (hq : -9223372036854775808 <= n.tdiv 10 /\ n.tdiv 10 <= 9223372036854775807) : Fn0 Tryz.prog 41 [.i n] (.val (.string (Ad n))) := by
 have hwq : IntKind.i64.wrap (n.tdiv 10) = n.tdiv 10 := by rw [IntKind.wrap_i64];omega
 by_cases hn : n < 0
 ·have hg : ¬ n > -10 := by omega
  have hr : -9 <= n.tmod 10 /\ n.tmod 10 <= 0 := by
   obtain ⟨m, rfl⟩ : ∃ m : Nat, n = -(m : Int) := ⟨n.natAbs, by omega⟩
   rw [Int.neg_tmod, Int.tmod_eq_emod_of_nonneg (by omega)];omega
  have hw : IntKind.i32.wrap (48 - n.tmod 10) = 48 - n.tmod 10 := by simp [IntKind.wrap, IntKind.signed, IntKind.bits];omega
  refine Fn0.of Tryz.func41 Tryz.ntmps41 rfl rfl rfl ?_
  simp only [A0]
  repeat' (first | refine W ?_|refine Zc ih ?_|refine Za ?_|(apply S.remT;exact rfl;exact rfl;exact rfl;omega)|(apply S.quoT;exact rfl;exact rfl;exact rfl;omega;exact hwq)|(apply S.conv;exact rfl;exact hw;exact rfl)|(apply S.convStr;exact rfl;(constructor <;> omega);exact rfl)|(apply S.strAdd;exact rfl;exact rfl;exact rfl;(simp only [Kb];omega)) | refine V ?_|(refine W2 ?_ ?_ <;> intro hc))
  all_goals exact A3 (by simp) Tryz.results41 rfl (by rw [Wh (by omega)])
 ·have hg : n >= 10 := by omega
  have hr : 0 <= n.tmod 10 /\ n.tmod 10 <= 9 := by
   rw [Int.tmod_eq_emod_of_nonneg (by omega)];omega
  have hw : IntKind.i32.wrap (48 + n.tmod 10) = 48 + n.tmod 10 := by simp [IntKind.wrap, IntKind.signed, IntKind.bits];omega
  refine Fn0.of Tryz.func41 Tryz.ntmps41 rfl rfl rfl ?_
  simp only [A0]
  repeat' (first | refine W ?_|refine Zc ih ?_|refine Za ?_|(apply S.remT;exact rfl;exact rfl;exact rfl;omega)|(apply S.quoT;exact rfl;exact rfl;exact rfl;omega;exact hwq)|(apply S.conv;exact rfl;exact hw;exact rfl)|(apply S.convStr;exact rfl;(constructor <;> omega);exact rfl)|(apply S.strAdd;exact rfl;exact rfl;exact rfl;(simp only [Kb];omega)) | refine V ?_|(refine W2 ?_ ?_ <;> intro hc))
  all_goals exact A3 (by simp) Tryz.results41 rfl (by rw [Wi (by omega)])
theorem Jn : ∀ (k : Nat) (n : Int), n.natAbs <= k -> -9223372036854775808 <= n -> n <= 9223372036854775807 -> Fn0 Tryz.prog 41 [.i n] (.val (.string (Ad n)))
 | 0, n, hk, h0, h1 => Mn n h0 h1 (by omega) (by omega)
 | k + 1, n, hk, h0, h1 => by
  by_cases hs : -10 < n /\ n < 10
  ·exact Mn n h0 h1 hs.1 hs.2
  ·have hq : (n.tdiv 10).natAbs <= k /\ -9223372036854775808 <= n.tdiv 10 /\ n.tdiv 10 <= 9223372036854775807 := by
    rcases (by omega : n < 0 \/ 0 <= n) with hn | hn
    ·obtain ⟨m, rfl⟩ : ∃ m : Nat, n = -(m : Int) := ⟨n.natAbs, by omega⟩
     have h1 : ((-(m : Int)).tdiv 10) = -((m / 10 : Nat) : Int) := by
      rw [Int.neg_tdiv, Int.tdiv_eq_ediv_of_nonneg (by omega)];omega
     rw [h1];omega
    ·rw [Int.tdiv_eq_ediv_of_nonneg hn];omega
   have ih := Jn k (n.tdiv 10) hq.1 hq.2.1 hq.2.2
   have hsz := E6 hq.2.1 hq.2.2
   exact Xq n h0 h1 hs ih hsz hq.2
theorem Jo (n : Int) (h0 : -9223372036854775808 <= n) (h1 : n <= 9223372036854775807) : Fn0 Tryz.prog 41 [.i n] (.val (.string (Ad n))) := Jn n.natAbs n (Nat.le_refl _) h0 h1
end Go.Proofs.YtlapbaiejnaeiaaGreatDoor
namespace Go.Proofs.YtlapbaiejnaeiaaGreatDoor
open Go.RowKit Go.Sort
theorem Ul : Tryz.prog.globalNamed "internal/strconv.uint64pow10" ≠ none := by
 have h : (Tryz.prog.globalNamed "internal/strconv.uint64pow10").isSome = true := by kernel_rfl
 intro e
 rw [e] at h
 cases h
theorem Pq (n : Int) (h0 : -9223372036854775808 <= n) (h1 : n <= 9223372036854775807) : Fn0 Tryz.prog 63 [.i n] (.val (.string (Ad n))) := by
 refine ⟨⟨_, Tryz.func63, rfl, rfl⟩, fun L w vs hG hL hl hv => ?_⟩
 match vs, hl with
 | [v], _ =>
  obtain rfl := (hv 0 (.i n) v rfl rfl).val_eq
  refine (Tryz.strconv_Itoa n h0 h1 w (hG.tab Ul)).mono ?_
  rintro e w' ⟨rfl, k, os, rfl⟩
  refine ⟨_, rfl, A5 _, ?_⟩
  exact ⟨rfl, rfl, rfl, by simp [grow], fun i hi => by simp [grow, Array.getElem?_append, hi]⟩
end Go.Proofs.YtlapbaiejnaeiaaGreatDoor
namespace Go.Proofs.YtlapbaiejnaeiaaGreatDoor
open Go.RowKit
def ofL (l : List UInt8) : ByteArray := ⟨l.toArray⟩
theorem Aq (l : List UInt8) : (ofL l).data.toList = l := by simp [ofL]
theorem Bs (l : List UInt8) : (ofL l).size = l.length := by simp [ofL, ByteArray.size]
theorem P4 (l : Array UInt8) : (ByteArray.mk l).size = l.size := rfl
def Aw (ws : List ByteArray) : List UInt8 := Lib.join (ws.map (·.data.toList)) [32] ++ [10]
def bytesOf (L : List (List ByteArray)) : List UInt8 := (L.map Aw).flatten
def M7 (ws : List ByteArray) : Prop := ws.length <= 7 /\ ∀ w ∈ ws, w.size <= 60
theorem Xw {B : Nat} (sep : List UInt8) : ∀ (ws : List (List UInt8)), (∀ w ∈ ws, w.length <= B) -> (Lib.join ws sep).length <= ws.length * (B + sep.length)
 | [], _ => by simp [Lib.join_nil]
 | w :: ws, h => by
  have h1 := h w (by simp)
  have h2 : (Lib.joinTail sep ws).length <= ws.length * (B + sep.length) := by
   have hw : ∀ x ∈ ws, x.length <= B := fun x hx => h x (by simp [hx])
   clear h h1
   induction ws with
   | nil => simp [Lib.joinTail]
   | cons x ws ih =>
    have := ih fun y hy => hw y (by simp [hy])
    have hx := hw x (by simp)
    simp only [Lib.joinTail, List.map_cons, List.flatten_cons, List.length_append, List.length_cons] at this ⊢
    rw [Nat.succ_mul]
    omega
  rw [Lib.join_cons, List.length_append, List.length_cons, Nat.succ_mul]
  omega
theorem M5 {ws : List ByteArray} (h : M7 ws) : (Aw ws).length <= 428 := by
 have := Xw (B := 60) [32] (ws.map (·.data.toList)) fun w hw => by
  obtain ⟨x, hx, rfl⟩ := List.mem_map.1 hw
  have := h.2 x hx
  rw [Array.length_toList]
  exact this
 simp only [List.length_map, List.length_cons, List.length_nil] at this
 have h7 := h.1
 simp only [Aw, List.length_append, List.length_cons, List.length_nil]
 omega
theorem Nx : ∀ (L : List (List ByteArray)), (∀ ws ∈ L, M7 ws) -> (bytesOf L).length <= L.length * 428
 | [], _ => by simp [bytesOf]
 | ws :: L, h => by
  have h1 := M5 (h ws (by simp))
  have h2 := Nx L fun x hx => h x (by simp [hx])
  have e : bytesOf (ws :: L) = Aw ws ++ bytesOf L := rfl
  rw [e, List.length_append, List.length_cons, Nat.succ_mul]
  omega
theorem Nw (L M : List (List ByteArray)) : bytesOf (L ++ M) = bytesOf L ++ bytesOf M := by simp [bytesOf]
def Yh (s : ByteArray) : Prop := (10 : UInt8) ∉ s.data.toList
theorem Kq (ws : List (List UInt8)) (h : ∀ w ∈ ws, (10 : UInt8) ∉ w) : (10 : UInt8) ∉ Lib.join ws [32] := by
 cases ws with
 | nil => simp [Lib.join_nil]
 | cons w ws =>
  rw [Lib.join_cons]
  intro hm
  rcases List.mem_append.1 hm with hm | hm
  ·exact h w (by simp) hm
  ·unfold Lib.joinTail at hm
   obtain ⟨l, hl, hm⟩ := List.mem_flatten.1 hm
   obtain ⟨x, hx, rfl⟩ := List.mem_map.1 hl
   rcases List.mem_append.1 hm with hm | hm
   ·simp at hm
   ·exact h x (by simp [hx]) hm
theorem S1 {ws : List ByteArray} (h : ∀ w ∈ ws, Yh w) : (Aw ws).count 10 = 1 := by
 have := Kq (ws.map (·.data.toList)) fun w hw => by
  obtain ⟨x, hx, rfl⟩ := List.mem_map.1 hw
  exact h x hx
 rw [Aw, List.count_append, List.count_eq_zero.2 this]
 rfl
theorem Jd : ∀ (L : List (List ByteArray)), (∀ ws ∈ L, ∀ w ∈ ws, Yh w) -> (bytesOf L).count 10 = L.length
 | [], _ => rfl
 | ws :: L, h => by
  have h1 := S1 (h ws (by simp))
  have h2 := Jd L fun x hx => h x (by simp [hx])
  have e : bytesOf (ws :: L) = Aw ws ++ bytesOf L := rfl
  rw [e, List.count_append, h1, h2, List.length_cons]
  omega
end Go.Proofs.YtlapbaiejnaeiaaGreatDoor
