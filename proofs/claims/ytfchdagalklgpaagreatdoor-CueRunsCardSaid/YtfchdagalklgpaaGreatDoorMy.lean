/- Contracts: strings.Builder's copyCheck, WriteString, Len; strings.Join; a line of words written into a builder. Conditions: those of each statement (bounds on lengths). | Contracts: the reference's decimals are strconv's. No conditions but those of each statement. | Contracts: strconv.Itoa, strings.Join, the builder's Len, a line of words written into a builder, the builder's bytes as a string. Conditions: those of each statement (bounds on lengths). -/
import Derived.Test.YtfchdagalklgpaaGreatDoorMx
import Derived.Test.YtfchdagalklgpaaGreatDoorMh
import Derived.Test.YtfchdagalklgpaaGreatDoorMd
import Derived.WalkKit
import Derived.Lib.Walk
import Derived.Lib.Hide
import Derived.Lib.ItoaLen
import Derived.Test.YtfchdagalklgpaaGreatDoorMc
set_option linter.unusedSimpArgs false
namespace Go.Proofs.YtfchdagalklgpaaGreatDoor
set_option linter.unusedVariables false
open Go.RowKit
abbrev tB : TypeId := 66
theorem bld_size : (Tryz.prog.info? 66).map (·.size) = some 2 := by kernel_rfl
theorem bld_lies : liesAt Tryz.prog Tryz.prog.depth 66 (2 / Tryz.prog.cellsOf 66) 0 66 1 = true := by kernel_rfl
theorem byte_info : (Tryz.prog.info? 5).map (fun i => (i.zero, i.size, i.bytes)) = some (some (.int .u8 0), 1, 1) := by kernel_rfl
theorem uptr_under : Tryz.prog.underlying 148 = some .unsafePointer := by kernel_rfl
theorem noesc : Tryz.prog.funcs[104]? = some Tryz.f104 := by kernel_rfl
set_option maxHeartbeats 2000000 in
set_option maxRecDepth 100000 in
theorem copyCheck_used (b : Nat) (w : World) (h0 : w.cell? ⟨b, 0, none⟩ = some (.pointer (some ⟨b, 0, none⟩))) :
    Calls Tryz.prog 74 #[.pointer (some ⟨b, 0, none⟩)] w fun e w' => e = .returned (.tuple #[]) ∧ w' = w := by
  obtain ⟨j, hj, _⟩ := Option.map_eq_some_iff.1 bld_size
  have u66 := run_underlying (P := Tryz.prog) Tryz.underlying66
  have u63 := run_underlying (P := Tryz.prog) Tryz.underlying63
  go_enter Tryz.func74, Tryz.ntmps74
  go_wp2
  rw [Lib.run_neq_ptr_same w _ Tryz.underlying63 hj]
  go_wp2
  go_end0
  exact ⟨rfl, rfl⟩
set_option maxHeartbeats 2000000 in
set_option maxRecDepth 100000 in
theorem copyCheck_fresh (b : Nat) (w : World) (h0 : w.cell? ⟨b, 0, none⟩ = some (.pointer none)) (hsh : w.shape? b = some (66, 2)) (hfz : w.frozen? ⟨b, 0, none⟩ = false) :
    Calls Tryz.prog 74 #[.pointer (some ⟨b, 0, none⟩)] w fun e w' => e = .returned (.tuple #[]) ∧ w' = w.setCell ⟨b, 0, none⟩ (.pointer (some ⟨b, 0, none⟩)) := by
  obtain ⟨j, hj, hjs⟩ := Option.map_eq_some_iff.1 bld_size
  have u66 := run_underlying (P := Tryz.prog) Tryz.underlying66
  have u63 := run_underlying (P := Tryz.prog) Tryz.underlying63
  go_enter Tryz.func74, Tryz.ntmps74
  go_wp2
  rw [Lib.run_to_unsafe w ⟨b, 0, none⟩ Tryz.underlying63 uptr_under hj (by rw [hjs]; decide) hsh (Nat.zero_lt_succ 1)]
  simp only [Result.andThen]
  rw [Oper.upon_value]
  go_wp2
  rw [run_callFunc_extern noesc (by kernel_rfl) (by kernel_rfl) (by kernel_rfl) (e := Extern.AbiNoEscape.same) (by kernel_rfl)]
  rw [Lib.run_noEscape]
  simp only [Result.andThen]
  rw [Oper.upon_value]
  go_wp2
  rw [Lib.run_from_unsafe w ⟨b, 0, none⟩ uptr_under Tryz.underlying63 hj hsh bld_lies]
  simp only [Result.andThen]
  rw [Oper.upon_value]
  go_wp2
  go_end0
  exact ⟨rfl, rfl⟩
/-- append(b, s...) onto a buffer of the call's own: in place, or at a new place. -/
theorem append_str_run {P : Program} {w : World} {t u ty e : TypeId} {i : TypeInfo} (ht : P.underlying t = some (.slice e)) (hu : P.underlying u = some .string) (hi : P.info? e = some i) (hz : i.zero = some (.int .u8 0)) (hsize : i.size = 1) (hby : i.bytes = 1)
    {v : Value} {n : Nat} {xs : List Value} (hown : w.ownsRowF 0 e 1 v n xs) {s : ByteArray} (hbytes : n + s.size ≤ 140737488355328) :
    ∃ v' w', (Builtin.append_ #[t, u] ty #[v, .string s]).run P w = .ok v' w' ∧ w'.ownsRowF 0 e 1 v' (n + s.size) (xs ++ Lib.strCells s) ∧ w.grownBy w' v.ownBlock ∧ (∀ g, v'.ownBlock = some g → v.ownBlock = some g ∨ w.heap.size ≤ g) ∧ ∀ j x, w.shape? j = some x → w'.shape? j = some x := by
  have h63 : n + s.size ≤ maxLen := by simp only [maxLen]; omega
  rcases hown.2 with ⟨rfl, rfl⟩ | ⟨g, cap, cur, fz, rfl, hbg, hg, hfz, hnc, hcm, hcs, htake⟩
  · obtain ⟨v', w', h1, h2, h3, _⟩ := Lib.run_append_own_stringF (P := P) w w.heap.size t u ty e i ht hu hi hz hsize hby (.slice none 0 0) 0 xs ⟨hown.1, .inl ⟨rfl, rfl⟩⟩ s h63 hbytes (Nat.le_refl _)
    refine ⟨v', w', h1, ⟨h2.1, ?_⟩, h3, fun g hg => ?_, fun j x hx => by rw [shape_of_block (h3.block j (shape_lt hx) (by simp [Value.ownBlock]))]; exact hx⟩
    · rcases h2.2 with hh | ⟨g, cap, cur, fz, e1, e2, e3⟩
      · exact .inl hh
      · exact .inr ⟨g, cap, cur, fz, e1, Nat.zero_le _, e3⟩
    · rcases h2.2 with ⟨rfl, _⟩ | ⟨g', cap, cur, fz, rfl, e2, e3⟩
      · simp [Value.ownBlock] at hg
      · simp only [Value.ownBlock, Option.some.injEq] at hg
        subst hg
        exact .inr e2
  · obtain ⟨v', w', h1, h2, h3, _⟩ := Lib.run_append_own_stringF (P := P) w 0 t u ty e i ht hu hi hz hsize hby _ n xs hown s h63 hbytes (Nat.zero_le _)
    have hxl : xs.length = n := by simpa using hown.1
    by_cases hroom : n + s.size ≤ cap
    · have hcs' : cur.size = cap := by simpa using hcs
      have hr := Lib.run_append_room_stringF (P := P) w t u ty e i ht hu hi hsize g n cap cur fz hg (by simpa using hfz) s hroom (by omega)
      rw [hr] at h1
      simp only [Result.ok.injEq] at h1
      obtain ⟨rfl, rfl⟩ := h1
      refine ⟨_, _, hr, h2, h3, fun g' hg' => .inl hg', fun j x hx => ?_⟩
      by_cases hj : j = g
      · subst hj
        rw [shape_is hg] at hx
        rw [shape_is (setRow_heap w j cur _ e _ hg), ← hx]
        congr 2
        simp only [List.size_toArray, List.length_append, List.length_take, List.length_drop, Array.length_toList, Lib.strCells_length]
        omega
      · rw [shape_of_block (setRow_other w g j _ hj)]
        exact hx
    · have holds : ∀ j u, xs[j]? = some u → w.cell? ((⟨g, 0, none⟩ : Addr).add j) = some u := hown.cells (g := g) rfl
      have hr := Lib.run_append_grow_string (P := P) w t u ty e i (.int .u8 0) ht hu hi hz ⟨g, 0, none⟩ n cap xs (by rw [hsize]; simpa using hxl) holds s (by omega) (by omega) (by rw [hby]; exact growslice_fits (by omega) (by omega))
      rw [hr] at h1
      simp only [Result.ok.injEq] at h1
      obtain ⟨rfl, rfl⟩ := h1
      refine ⟨_, _, hr, h2, h3, fun g' hg' => ?_, fun j x hx => by rw [shape_of_block (heap_alloc_lt w.drew _ (shape_lt hx))]; exact hx⟩
      simp only [Value.ownBlock, Option.some.injEq] at hg'
      subst hg'
      exact .inr (Nat.le_refl _)
theorem wpList_append_str {P : Program} {w : World} {ops : Array Oper} {rest : List Oper} {o : Oper} {a : Act} {Q : Exit → Act → World → Prop} (hgd : o.guard = none) (sl x : Operand) (t u : TypeId)
    (ho : o.op = .call { callee := .builtin .append, args := #[sl, x], argTypes := #[t, u] }) {e : TypeId} {i : TypeInfo} (ht : P.underlying t = some (.slice e)) (hu : P.underlying u = some .string) (hi : P.info? e = some i) (hz : i.zero = some (.int .u8 0)) (hsize : i.size = 1) (hby : i.bytes = 1)
    {v : Value} {n : Nat} {xs : List Value} (hs : a.eval sl = v) (hown : w.ownsRowF 0 e 1 v n xs) {s : ByteArray} (hx : a.eval x = .string s) (hbytes : n + s.size ≤ 140737488355328)
    (h : ∀ v' w', w'.ownsRowF 0 e 1 v' (n + s.size) (xs ++ Lib.strCells s) → w.grownBy w' v.ownBlock → (∀ g, v'.ownBlock = some g → v.ownBlock = some g ∨ w.heap.size ≤ g) → (∀ j x, w.shape? j = some x → w'.shape? j = some x) → wpList P ops Q rest (a.put o.dst v') w') : wpList P ops Q (o :: rest) a w := by
  refine wpList_plain hgd fun K hK => ?_
  obtain ⟨v', w', hr, h2, h3, h4, h5⟩ := append_str_run (P := P) (ty := o.type) ht hu hi hz hsize hby hown hbytes
  unfold Oper.wp execOp
  simp only [ho, resolve, invoke, builtin, Sem.run_bind, Sem.run_pure, Result.andThen_ok, List.map_toArray, List.map_cons, List.map_nil, hs, hx, hr]
  exact hK _ _ (h v' w' h2 h3 h4 h5)
set_option maxHeartbeats 4000000 in
set_option maxRecDepth 100000 in
theorem writeString_any {k : Nat} {p v : Value} {s : List Value} {w : World} (str : ByteArray) (hB : BAt w 66 5 k p v s) (hlen : s.length + str.size ≤ 140737488355328) :
    Calls Tryz.prog 47 #[.pointer (some ⟨k, 0, none⟩), .string str] w fun e w' => e = .returned (.tuple #[.int .i64 str.size, .nilIface]) ∧
      (∃ v', BAt w' 66 5 k (.pointer (some ⟨k, 0, none⟩)) v' (s ++ Lib.strCells str) ∧ ∀ g, v'.ownBlock = some g → v.ownBlock = some g ∨ w.heap.size ≤ g) ∧
      (∀ j, j < w.heap.size → j ≠ k → v.ownBlock ≠ some j → w'.heap[j]? = w.heap[j]?) ∧ w'.os = w.os ∧ w'.tape = w.tape ∧ w'.output = w.output ∧ w.heap.size ≤ w'.heap.size ∧ ∀ j x, w.shape? j = some x → w'.shape? j = some x := by
  obtain ⟨i0, hi, hz0, hz1, hz2⟩ := info_parts byte_info
  obtain ⟨hbk, hp, hown, hne⟩ := hB
  have hcc : Calls Tryz.prog 74 #[.pointer (some ⟨k, 0, none⟩)] w fun e w1 => e = .returned (.tuple #[]) ∧ w1.heap[k]? = some (.cells #[.pointer (some ⟨k, 0, none⟩), v] 66 (0, 0)) ∧ (∀ j, j ≠ k → w1.heap[j]? = w.heap[j]?) ∧ w1.os = w.os ∧ w1.tape = w.tape ∧ w1.output = w.output ∧ w1.heap.size = w.heap.size ∧ ∀ j, w1.shape? j = w.shape? j := by
    rcases hp with rfl | rfl
    · refine (copyCheck_fresh k w (by rw [Lib.cell_of_heap hbk]; rfl) (by unfold World.shape?; rw [hbk]; rfl) (Lib.frozen_of_heap hbk 0)).mono ?_
      rintro e w1 ⟨rfl, rfl⟩
      refine ⟨rfl, ?_, fun j hj => Below.heap_setCell w _ _ j hj, rfl, rfl, rfl, by simp [World.setCell], fun j => shape_setCell _ _ _ j⟩
      rw [heap_setCell w k 0 _ _ _ _ hbk]
      rfl
    · refine (copyCheck_used k w (by rw [Lib.cell_of_heap hbk]; rfl)).mono ?_
      rintro e w1 ⟨rfl, rfl⟩
      exact ⟨rfl, hbk, fun _ _ => rfl, rfl, rfl, rfl, rfl, fun _ => rfl⟩
  have hkl : k < w.heap.size := heap_lt hbk
  go_enter Tryz.func47, Tryz.ntmps47
  go_wp2_with (go_at_call 74; (with_reducible refine hcc.mono ?_))
  rintro e w1 ⟨rfl, h1, h2, h3, h4, h5, h6, h7⟩
  have hown1 : w1.ownsRowF 0 5 1 v s.length s := by
    refine ⟨hown.1, ?_⟩
    rcases hown.2 with hh | ⟨g, cap, cur, fz, e1, e2, e3, e4⟩
    · exact .inl hh
    · exact .inr ⟨g, cap, cur, fz, e1, e2, by rw [h2 g (fun e => hne (by rw [e1, e]; rfl))]; exact e3, e4⟩
  have c0 : w1.cell? ⟨k, 0, none⟩ = some (.pointer (some ⟨k, 0, none⟩)) := by rw [Lib.cell_of_heap h1]; rfl
  have c1 : w1.cell? ⟨k, 1, none⟩ = some v := by rw [Lib.cell_of_heap h1]; rfl
  go_wp2_with (at_builtin; refine wpList_append_str rfl _ _ 64 9 rfl Tryz.underlying64 Tryz.underlying9 hi hz0 hz1 hz2 rfl hown1 (s := str) rfl hlen ?_)
  intro v' w2 hown2 hgr hfresh hshp0
  have hshp := Lib.hid hshp0
  clear hshp0
  have hb2 : w2.heap[k]? = some (.cells #[.pointer (some ⟨k, 0, none⟩), v] 66 (0, 0)) := by
    rw [hgr.block k (by omega) (fun e => hne e.symm)]
    exact h1
  have d0 : w2.cell? ⟨k, 0, none⟩ = some (.pointer (some ⟨k, 0, none⟩)) := by rw [Lib.cell_of_heap hb2]; rfl
  have d1 : w2.cell? ⟨k, 1, none⟩ = some v := by rw [Lib.cell_of_heap hb2]; rfl
  have f1 : w2.frozen? ⟨k, 1, none⟩ = false := Lib.frozen_of_heap hb2 1
  obtain ⟨ao, n', cap, rfl⟩ : ∃ ao n' cap, v' = .slice ao n' cap := by
    rcases hown2.2 with ⟨hv, _⟩ | ⟨g, cap, cur, fz, hv, _⟩
    · exact ⟨_, _, _, hv⟩
    · exact ⟨_, _, _, hv⟩
  have hnk : (Value.slice ao n' cap).ownBlock ≠ some k := fun e => by
    rcases hfresh k e with hh | hh
    · exact hne hh
    · omega
  have hfresh' : ∀ g, (Value.slice ao n' cap).ownBlock = some g → v.ownBlock = some g ∨ w.heap.size ≤ g := fun g hg => (hfresh g hg).imp id (by omega)
  have hgs := hgr.size
  have hgb := hgr.block
  have hgo := hgr.os
  have hgt := hgr.tape
  have hgp := hgr.output
  go_wp2
  go_ret2
  refine ⟨rfl, ⟨_, ⟨?_, .inr rfl, ?_, hnk⟩, hfresh'⟩, fun j hj hjk hjv => ?_, ?_, ?_, ?_, ?_, fun j x hx => ?_⟩
  · rw [heap_setCell _ k 1 _ _ _ _ hb2]; rfl
  · have hl : (s ++ Lib.strCells str).length = s.length + str.size := by rw [List.length_append, Lib.strCells_length]
    rw [hl]
    refine ⟨hown2.1, ?_⟩
    rcases hown2.2 with hh | ⟨g, cap', cur, fz, e1, e2, e3, e4⟩
    · exact .inl hh
    · exact .inr ⟨g, cap', cur, fz, e1, e2, by rw [Below.heap_setCell _ _ _ g (fun e => hnk (by rw [e1, e]; rfl))]; exact e3, e4⟩
  · rw [Below.heap_setCell _ _ _ j hjk, hgb j (by omega) (fun e => hjv e.symm), h2 j hjk]
  · exact hgo.trans h3
  · exact hgt.trans h4
  · exact hgp.trans h5
  · simp [World.setCell]; omega
  · rw [shape_setCell]
    obtain ⟨x1, x2⟩ := x
    exact hshp.out j x1 x2 hx
end Go.Proofs.YtfchdagalklgpaaGreatDoor
set_option linter.unusedSimpArgs false
namespace Go.Proofs.YtfchdagalklgpaaGreatDoor
set_option linter.unusedVariables false
open Go.RowKit
/-- A number's text. -/
def itoaB (n : Int) : ByteArray := ⟨(Lib.itoa n).toArray⟩
theorem ba_ext {a b : ByteArray} (h : a.data.toList = b.data.toList) : a = b := by
  cases a; cases b
  simp only [ByteArray.mk.injEq]
  exact Array.ext' h
theorem ba_append (a b : ByteArray) : (a ++ b).data.toList = a.data.toList ++ b.data.toList := by simp [ByteArray.data_append]
theorem dec_step {m : Nat} (h : ¬ m < 10) : Lib.decDigits m = Lib.decDigits (m / 10) ++ [UInt8.ofNat (48 + m % 10)] := by
  rw [Lib.decDigits, dif_neg h]
theorem itoa_pos {n : Int} (h : 10 ≤ n) : itoaB (n.tdiv 10) ++ ⟨#[UInt8.ofNat (48 + n.tmod 10).toNat]⟩ = itoaB n := by
  obtain ⟨m, rfl⟩ : ∃ m : Nat, n = m := ⟨n.toNat, by omega⟩
  apply ba_ext
  rw [ba_append]
  have h1 : ((m : Int).tdiv 10) = ((m / 10 : Nat) : Int) := by
    rw [Int.tdiv_eq_ediv_of_nonneg (by omega)]; omega
  have h2 : ((m : Int).tmod 10) = ((m % 10 : Nat) : Int) := by
    rw [Int.tmod_eq_emod_of_nonneg (by omega)]; omega
  rw [h1, h2]
  simp only [itoaB, Lib.itoa]
  rw [if_neg (by omega), if_neg (by omega), Int.toNat_natCast, Int.toNat_natCast, dec_step (m := m) (by omega), show (48 + ((m % 10 : Nat) : Int)).toNat = 48 + m % 10 by omega]
theorem itoa_digit {n : Int} (h0 : 0 ≤ n) (h : n < 10) : (⟨#[UInt8.ofNat (48 + n.tmod 10).toNat]⟩ : ByteArray) = itoaB n := by
  obtain ⟨m, rfl⟩ : ∃ m : Nat, n = m := ⟨n.toNat, by omega⟩
  apply ba_ext
  have h2 : ((m : Int).tmod 10) = ((m : Nat) : Int) := by
    rw [Int.tmod_eq_emod_of_nonneg (by omega)]; omega
  rw [h2]
  simp only [itoaB, Lib.itoa]
  rw [if_neg (by omega), Int.toNat_natCast, Lib.decDigits_one (by omega)]
  congr 1
theorem itoa_neg1 {n : Int} (h0 : n < 0) (h : -10 < n) : (⟨#[45]⟩ : ByteArray) ++ ⟨#[UInt8.ofNat (48 - n).toNat]⟩ = itoaB n := by
  obtain ⟨m, rfl⟩ : ∃ m : Nat, n = -(m : Int) := ⟨n.natAbs, by omega⟩
  apply ba_ext
  rw [ba_append]
  simp only [itoaB, Lib.itoa]
  rw [if_pos (by omega), show (-(m : Int)).natAbs = m by omega, Lib.decDigits_one (by omega), show (48 - -(m : Int)).toNat = 48 + m by omega]
  rfl
theorem itoa_neg {n : Int} (h : n ≤ -10) : itoaB (n.tdiv 10) ++ ⟨#[UInt8.ofNat (48 - n.tmod 10).toNat]⟩ = itoaB n := by
  obtain ⟨m, rfl⟩ : ∃ m : Nat, n = -(m : Int) := ⟨n.natAbs, by omega⟩
  apply ba_ext
  rw [ba_append]
  have h1 : ((-(m : Int)).tdiv 10) = -((m / 10 : Nat) : Int) := by
    rw [Int.neg_tdiv, Int.tdiv_eq_ediv_of_nonneg (by omega)]; omega
  have h2 : ((-(m : Int)).tmod 10) = -((m % 10 : Nat) : Int) := by
    rw [Int.neg_tmod, Int.tmod_eq_emod_of_nonneg (by omega)]; omega
  rw [h1, h2]
  simp only [itoaB, Lib.itoa]
  rw [if_pos (by omega), if_pos (by omega), show (-(m : Int)).natAbs = m by omega, show (-((m / 10 : Nat) : Int)).natAbs = m / 10 by omega, dec_step (m := m) (by omega), show (48 - -((m % 10 : Nat) : Int)).toNat = 48 + m % 10 by omega]
  simp
theorem itoaB_size {n : Int} (h0 : -9223372036854775808 ≤ n) (h1 : n ≤ 9223372036854775807) : (itoaB n).size ≤ 21 := by
  have h : (itoaB n).size = (Lib.itoa n).length := by simp [itoaB, ByteArray.size]
  rw [h]
  exact Lib.itoa_length_le n h0 h1
theorem one_size (x : UInt8) : (⟨#[x]⟩ : ByteArray).size = 1 := rfl
theorem dec_small (n : Int) (h0 : -9223372036854775808 ≤ n) (h1 : n ≤ 9223372036854775807) (h2 : -10 < n) (h3 : n < 10) : Fn0 Tryz.prog 55 [.i n] (.val (.string (itoaB n))) := by
  by_cases hn : n < 0
  · have hg : n > -10 := h2
    have hw : IntKind.i32.wrap (48 - n) = 48 - n := by simp [IntKind.wrap, IntKind.signed, IntKind.bits]; omega
    refine Fn0.of Tryz.func55 Tryz.ntmps55 rfl rfl rfl ?_
    simp only [entryTm]
    repeat' (first
      | (apply S.move; exact rfl; exact rfl)
      | (apply S.assign; exact rfl; exact rfl)
      | (apply S.arith; exact rfl; exact rfl; exact rfl; exact rfl; omega)
      | (apply S.conv; exact rfl; exact hw; exact rfl)
      | (apply S.convStr; exact rfl; (constructor <;> omega); exact rfl)
      | (apply S.strAdd; exact rfl; exact rfl; exact rfl; (simp only [one_size]; omega))
      | (apply S.cmp; exact rfl; exact rfl; exact rfl; exact rfl)
      | apply S.nil
      | apply T.regs
      | (apply T.cT; exact rfl; assumption)
      | apply T.seq
      | (apply T.ret; change Done _ _ _ _ _))
    all_goals exact doneV (by simp) Tryz.results55 rfl (by rw [itoa_neg1 hn h2])
  · have hr : n.tmod 10 = n := by rw [Int.tmod_eq_emod_of_nonneg (by omega)]; omega
    have hb : ¬ n ≥ 10 := by omega
    have hw : IntKind.i32.wrap (48 + n.tmod 10) = 48 + n.tmod 10 := by rw [hr]; simp [IntKind.wrap, IntKind.signed, IntKind.bits]; omega
    refine Fn0.of Tryz.func55 Tryz.ntmps55 rfl rfl rfl ?_
    simp only [entryTm]
    repeat' (first
      | (apply S.move; exact rfl; exact rfl)
      | (apply S.assign; exact rfl; exact rfl)
      | (apply S.arith; exact rfl; exact rfl; exact rfl; exact rfl; omega)
      | (apply S.remT; exact rfl; exact rfl; exact rfl; omega)
      | (apply S.conv; exact rfl; exact hw; exact rfl)
      | (apply S.convStr; exact rfl; (rw [hr]; constructor <;> omega); exact rfl)
      | (apply S.cmp; exact rfl; exact rfl; exact rfl; exact rfl)
      | apply S.nil
      | apply T.regs
      | (apply T.cF; exact rfl; assumption)
      | apply T.seq
      | (apply T.skip; first | change T _ _ _ _ _ | change Done _ _ _ _ _ | change Next _ _ _ _ _ _ | skip)
      | (apply T.ret; change Done _ _ _ _ _))
    all_goals exact doneV (by simp) Tryz.results55 rfl (by rw [itoa_digit (by omega) h3])
theorem dec_big (n : Int) (h0 : -9223372036854775808 ≤ n) (h1 : n ≤ 9223372036854775807) (hs : ¬ (-10 < n ∧ n < 10)) (ih : Fn0 Tryz.prog 55 [.i (n.tdiv 10)] (.val (.string (itoaB (n.tdiv 10))))) (hsz : (itoaB (n.tdiv 10)).size ≤ 21) (hq : -9223372036854775808 ≤ n.tdiv 10 ∧ n.tdiv 10 ≤ 9223372036854775807) : Fn0 Tryz.prog 55 [.i n] (.val (.string (itoaB n))) := by
  have hwq : IntKind.i64.wrap (n.tdiv 10) = n.tdiv 10 := by rw [IntKind.wrap_i64]; omega
  by_cases hn : n < 0
  · have hg : ¬ n > -10 := by omega
    have hr : -9 ≤ n.tmod 10 ∧ n.tmod 10 ≤ 0 := by
      obtain ⟨m, rfl⟩ : ∃ m : Nat, n = -(m : Int) := ⟨n.natAbs, by omega⟩
      rw [Int.neg_tmod, Int.tmod_eq_emod_of_nonneg (by omega)]; omega
    have hw : IntKind.i32.wrap (48 - n.tmod 10) = 48 - n.tmod 10 := by simp [IntKind.wrap, IntKind.signed, IntKind.bits]; omega
    refine Fn0.of Tryz.func55 Tryz.ntmps55 rfl rfl rfl ?_
    simp only [entryTm]
    repeat' (first
      | (apply S.move; exact rfl; exact rfl)
      | (apply S.assign; exact rfl; exact rfl)
      | (apply S.call; exact rfl; exact rfl; exact ih; exact rfl)
      | (apply S.arith; exact rfl; exact rfl; exact rfl; exact rfl; omega)
      | (apply S.remT; exact rfl; exact rfl; exact rfl; omega)
      | (apply S.quoT; exact rfl; exact rfl; exact rfl; omega; exact hwq)
      | (apply S.conv; exact rfl; exact hw; exact rfl)
      | (apply S.convStr; exact rfl; (constructor <;> omega); exact rfl)
      | (apply S.strAdd; exact rfl; exact rfl; exact rfl; (simp only [one_size]; omega))
      | (apply S.cmp; exact rfl; exact rfl; exact rfl; exact rfl)
      | apply S.nil
      | apply T.regs
      | (apply T.cT; exact rfl; assumption)
      | (apply T.cF; exact rfl; assumption)
      | apply T.seq
      | (apply T.skip; first | change T _ _ _ _ _ | change Done _ _ _ _ _ | change Next _ _ _ _ _ _ | skip)
      | (apply T.ret; change Done _ _ _ _ _))
    all_goals exact doneV (by simp) Tryz.results55 rfl (by rw [itoa_neg (by omega)])
  · have hg : n ≥ 10 := by omega
    have hr : 0 ≤ n.tmod 10 ∧ n.tmod 10 ≤ 9 := by
      rw [Int.tmod_eq_emod_of_nonneg (by omega)]; omega
    have hw : IntKind.i32.wrap (48 + n.tmod 10) = 48 + n.tmod 10 := by simp [IntKind.wrap, IntKind.signed, IntKind.bits]; omega
    refine Fn0.of Tryz.func55 Tryz.ntmps55 rfl rfl rfl ?_
    simp only [entryTm]
    repeat' (first
      | (apply S.move; exact rfl; exact rfl)
      | (apply S.assign; exact rfl; exact rfl)
      | (apply S.call; exact rfl; exact rfl; exact ih; exact rfl)
      | (apply S.arith; exact rfl; exact rfl; exact rfl; exact rfl; omega)
      | (apply S.remT; exact rfl; exact rfl; exact rfl; omega)
      | (apply S.quoT; exact rfl; exact rfl; exact rfl; omega; exact hwq)
      | (apply S.conv; exact rfl; exact hw; exact rfl)
      | (apply S.convStr; exact rfl; (constructor <;> omega); exact rfl)
      | (apply S.strAdd; exact rfl; exact rfl; exact rfl; (simp only [one_size]; omega))
      | (apply S.cmp; exact rfl; exact rfl; exact rfl; exact rfl)
      | apply S.nil
      | apply T.regs
      | (apply T.cT; exact rfl; assumption)
      | (apply T.cF; exact rfl; assumption)
      | apply T.seq
      | (apply T.skip; first | change T _ _ _ _ _ | change Done _ _ _ _ _ | change Next _ _ _ _ _ _ | skip)
      | (apply T.ret; change Done _ _ _ _ _))
    all_goals exact doneV (by simp) Tryz.results55 rfl (by rw [itoa_pos (by omega)])
theorem r10_dec_aux : ∀ (k : Nat) (n : Int), n.natAbs ≤ k → -9223372036854775808 ≤ n → n ≤ 9223372036854775807 → Fn0 Tryz.prog 55 [.i n] (.val (.string (itoaB n)))
  | 0, n, hk, h0, h1 => dec_small n h0 h1 (by omega) (by omega)
  | k + 1, n, hk, h0, h1 => by
    by_cases hs : -10 < n ∧ n < 10
    · exact dec_small n h0 h1 hs.1 hs.2
    · have hq : (n.tdiv 10).natAbs ≤ k ∧ -9223372036854775808 ≤ n.tdiv 10 ∧ n.tdiv 10 ≤ 9223372036854775807 := by
        rcases (by omega : n < 0 ∨ 0 ≤ n) with hn | hn
        · obtain ⟨m, rfl⟩ : ∃ m : Nat, n = -(m : Int) := ⟨n.natAbs, by omega⟩
          have h1 : ((-(m : Int)).tdiv 10) = -((m / 10 : Nat) : Int) := by
            rw [Int.neg_tdiv, Int.tdiv_eq_ediv_of_nonneg (by omega)]; omega
          rw [h1]; omega
        · rw [Int.tdiv_eq_ediv_of_nonneg hn]; omega
      have ih := r10_dec_aux k (n.tdiv 10) hq.1 hq.2.1 hq.2.2
      have hsz := itoaB_size hq.2.1 hq.2.2
      exact dec_big n h0 h1 hs ih hsz hq.2
theorem r10_decimal (n : Int) (h0 : -9223372036854775808 ≤ n) (h1 : n ≤ 9223372036854775807) : Fn0 Tryz.prog 55 [.i n] (.val (.string (itoaB n))) := r10_dec_aux n.natAbs n (Nat.le_refl _) h0 h1
end Go.Proofs.YtfchdagalklgpaaGreatDoor
set_option linter.unusedSimpArgs false
namespace Go.Proofs.YtfchdagalklgpaaGreatDoor
set_option linter.unusedVariables false
open Go.RowKit Go.Sort
abbrev strRow (s : ByteArray) : List Lf := [.s s]
theorem pow_table : Tryz.prog.globalNamed "internal/strconv.uint64pow10" ≠ none := by
  have h : (Tryz.prog.globalNamed "internal/strconv.uint64pow10").isSome = true := by kernel_rfl
  intro e
  rw [e] at h
  cases h
theorem str_itoa (n : Int) (h0 : -9223372036854775808 ≤ n) (h1 : n ≤ 9223372036854775807) : Fn0 Tryz.prog 24 [.i n] (.val (.string (itoaB n))) := by
  refine ⟨⟨_, Tryz.func24, rfl, rfl⟩, fun L w vs hG hL hl hv => ?_⟩
  match vs, hl with
  | [v], _ =>
    obtain rfl := (hv 0 (.i n) v rfl rfl).val_eq
    refine (Tryz.strconv_Itoa n h0 h1 w (hG pow_table)).mono ?_
    rintro e w' ⟨rfl, k, os, rfl⟩
    refine ⟨_, rfl, relV_val _, ?_⟩
    exact ⟨rfl, rfl, rfl, by simp [grow], fun i hi => by simp [grow, Array.getElem?_append, hi]⟩
def joinB (xs : List ByteArray) (sep : ByteArray) : ByteArray := ⟨(Lib.join (xs.map (·.data.toList)) sep.data.toList).toArray⟩
theorem str_join (xs : List ByteArray) (sep : ByteArray) (hne : xs ≠ []) (hN : xs.length ≤ 140737488355328) (hlen : (joinB xs sep).size ≤ 140737488355328) : Fn0 Tryz.prog 48 [.sl (xs.map strRow), .val (.string sep)] (.val (.string (joinB xs sep))) := by
  refine ⟨⟨_, Tryz.func48, rfl, rfl⟩, fun L w vs hG hL hl hv => ?_⟩
  match vs, hl with
  | [v, u], _ =>
    obtain rfl := (hv 1 (.val (.string sep)) u rfl rfl).val_eq
    have h := (hv 0 (.sl (xs.map strRow)) v rfl rfl).lf_out
    obtain ⟨ad, cap, rfl, hs, hc, h1⟩ : ∃ ad cap, v = .slice (some ad) xs.length cap ∧ ad.spot = none ∧ xs.length ≤ cap ∧ ∀ (j : Nat) x, xs[j]? = some x → w.cell? ⟨ad.block, ad.off + j, none⟩ = some (.string x) := by
      generalize e : Lf.sl (xs.map strRow) = y at h
      cases h with
      | slnil =>
        simp only [Lf.sl.injEq] at e
        exact absurd (List.map_eq_nil_iff.1 e) hne
      | sl rows ad cap V hs hc h1 h2 =>
        simp only [Lf.sl.injEq] at e
        subst e
        have hpos : 0 < xs.length := List.length_pos_iff.2 hne
        rw [List.length_map] at hc
        refine ⟨ad, cap, by rw [List.length_map], hs.resolve_right (by omega), hc, fun j x hx => ?_⟩
        have hr : (xs.map strRow)[j]? = some (strRow x) := by rw [List.getElem?_map, hx]; rfl
        obtain ⟨_, q1⟩ := h1 j (strRow x) 0 (.s x) hr rfl
        have q2 := (h2 j (strRow x) 0 (.s x) hr rfl).val_eq
        rw [q2] at q1
        simpa using q1
      | val v => cases e
      | fn f caps ads V a b c d => cases e
    obtain ⟨bk, o, sp⟩ := ad
    simp only at hs h1
    subst hs
    have hpos : 0 < xs.length := List.length_pos_iff.2 hne
    refine (Tryz.strings_Join bk o cap xs sep w h1 (cell_lt (h1 0 _ (List.getElem?_eq_getElem hpos))) hN hc (by simpa [joinB, ByteArray.size] using hlen)).mono ?_
    rintro e w' ⟨rfl, hb⟩
    exact ⟨_, rfl, relV_val _, hb⟩
theorem BAt.below {w w' : World} {T e : TypeId} {k : Nat} {p v : Value} {s : List Value} (h : BAt w T e k p v s) (hb : Below w.heap.size w w') : BAt w' T e k p v s := by
  obtain ⟨h1, h2, h3, h4⟩ := h
  refine ⟨by rw [hb.block k (heap_lt h1)]; exact h1, h2, ⟨h3.1, ?_⟩, h4⟩
  rcases h3.2 with hh | ⟨g, cap, cur, fz, e1, e2, e3, e4⟩
  · exact .inl hh
  · exact .inr ⟨g, cap, cur, fz, e1, e2, by rw [hb.block g (heap_lt e3)]; exact e3, e4⟩
theorem bld_len (s : List Value) : FnBld Tryz.prog 66 5 25 [] s s (.i s.length) := by
  refine ⟨⟨_, Tryz.func25, rfl, rfl⟩, fun L w k p v vs hG hL hl hv hB => ?_⟩
  match vs, hl with
  | [], _ =>
    refine (Tryz.Builder_Len_f 0 k s w hB.f).mono ?_
    rintro e w' ⟨rfl, rfl⟩
    exact ⟨_, rfl, relV_val _, ⟨p, v, hB, fun g hg => .inl hg⟩, Fr.refl _ _⟩
/-- The line of some words. -/
def lineB (xs : List ByteArray) : ByteArray := joinB xs ⟨#[32]⟩ ++ ⟨#[10]⟩
set_option maxHeartbeats 4000000 in
theorem cue_line (xs : List ByteArray) (s : List Value) (hne : xs ≠ []) (hN : xs.length ≤ 140737488355328) (hlen : s.length + (lineB xs).size ≤ 140737488355328) : FnBld Tryz.prog 66 5 23 [.sl (xs.map strRow)] s (s ++ Lib.strCells (lineB xs)) (.tup []) := by
  refine ⟨⟨_, Tryz.func23, rfl, rfl⟩, fun L w k p v vs hG hL hl hv hB => ?_⟩
  have hjl : (joinB xs ⟨#[32]⟩).size ≤ 140737488355328 := by
    have : (lineB xs).size = (joinB xs ⟨#[32]⟩).size + 1 := by simp [lineB, ByteArray.size_append]; rfl
    omega
  match vs, hl with
  | [u], _ =>
    have hj := (str_join xs ⟨#[32]⟩ hne hN hjl).run L w [u, .string ⟨#[32]⟩] hG hL rfl fun i x y hx hy => by
      match i, hx, hy with
      | 0, hx, hy => exact hv 0 x y (by simpa using hx) (by simpa using hy)
      | 1, hx, hy => simp at hx hy; subst hx hy; exact relV_val _
    have hS := Lib.hid hv
    clear hv
    go_enter Tryz.func23, Tryz.ntmps23
    go_wp2_with (go_at_call 48; (with_reducible refine hj.mono ?_))
    rintro e w1 ⟨v1, rfl, hv1, hb1⟩
    obtain rfl := hv1.val_eq
    have hws := writeString_any (joinB xs ⟨#[32]⟩ ++ ⟨#[10]⟩) (hB.below hb1) hlen
    have hsz := hb1.size
    go_wp2_with (go_at_call 47; (with_reducible refine hws.mono ?_))
    rintro e w2 ⟨rfl, ⟨v', hB', hfr⟩, h1, h2, h3, h4, h5, h6⟩
    go_wp2
    go_end0
    refine ⟨_, rfl, .tup [] [] rfl (fun i x v h => by simp at h), ⟨_, v', hB', fun g hg => (hfr g hg).imp id (by omega)⟩, ⟨h2.trans hb1.os, h3.trans hb1.tape, h4.trans hb1.output, by omega, fun j hj hn => ?_, fun j x hx => ?_⟩⟩
    · rw [h1 j (by omega) (fun e => hn (.inl e)) (fun e => hn (.inr e)), hb1.block j hj]
    · refine h6 j x ?_
      rw [shape_of_block (hb1.block j (shape_lt hx))]
      exact hx
end Go.Proofs.YtfchdagalklgpaaGreatDoor
