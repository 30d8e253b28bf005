/- Contracts: strings.Builder's copyCheck, WriteString, Len;strings.Join;a line of words written into a builder. Conditions: those of each statement (bounds on lengths). -/
import Derived.Test.YtcfjofhapbkmfaaGreatDoorMc
import Derived.Test.YtcfjofhapbkmfaaGreatDoorMh
import Derived.Test.YtcfjofhapbkmfaaGreatDoorMd
import Derived.WalkKit
import Derived.Lib.Walk
import Derived.Lib.Hide
import Derived.Lib.ItoaLen
import Derived.Lib.Join
import Derived.Test.YtcfjofhapbkmfaaGreatDoorMi
set_option linter.unusedSimpArgs false
set_option linter.unusedVariables false
namespace Go.Proofs.YtcfjofhapbkmfaaGreatDoor
open Go.RowKit
theorem Lx : (Tryz.prog.info? 78).map (·.size) = some 2 := by kernel_rfl
theorem Q7 : (Tryz.prog.info? 5).map (fun i => (i.zero, i.size, i.bytes)) = some (some (.int .u8 0), 1, 1) := by kernel_rfl
theorem Jw : Tryz.prog.underlying 224 = some .unsafePointer := by kernel_rfl
theorem Wg : Tryz.prog.funcs[178]? = some Tryz.f178 := by kernel_rfl
set_option maxHeartbeats 2000000 in
set_option maxRecDepth 100000 in
theorem K5 (b : Nat) (w : World) (h0 : w.cell? ⟨b, 0, none⟩ = some (.pointer (some ⟨b, 0, none⟩))) :
  Calls Tryz.prog 117 #[.pointer (some ⟨b, 0, none⟩)] w fun e w' => e = .returned (.tuple #[]) /\ w' = w := by
 obtain ⟨j, hj, _⟩ := Option.map_eq_some_iff.1 Lx
 have u66 := run_underlying (P := Tryz.prog) Tryz.underlying78
 have u63 := run_underlying (P := Tryz.prog) Tryz.underlying75
 go_enter Tryz.func117, Tryz.ntmps117
 go_wp2
 rw [Lib.run_neq_ptr_same w _ Tryz.underlying75 hj]
 go_wp2
 go_end0
 exact ⟨rfl, rfl⟩
theorem K1 {P : Program} {w : World} {t u ty e : TypeId} {i : TypeInfo} (ht : P.underlying t = some (.slice e)) (hu : P.underlying u = some .string) (hi : P.info? e = some i) (hz : i.zero = some (.int .u8 0)) (hsize : i.size = 1) (hby : i.bytes = 1)
  {v : Value} {n : Nat} {xs : List Value} (hown : w.ownsRowF 0 e 1 v n xs) {s : ByteArray} (hbytes : n + s.size <= 140737488355328) :
  ∃ v' w', (Builtin.append_ #[t, u] ty #[v, .string s]).run P w = .ok v' w' /\ w'.ownsRowF 0 e 1 v' (n + s.size) (xs ++ Lib.strCells s) /\ w.grownBy w' v.ownBlock /\ (∀ g, v'.ownBlock = some g -> v.ownBlock = some g \/ w.heap.size <= g) /\ ∀ j x, w.shape? j = some x -> w'.shape? j = some x := by
 have h63 : n + s.size <= maxLen := by simp only [maxLen];omega
 rcases hown.2 with ⟨rfl, rfl⟩ | ⟨g, cap, cur, fz, rfl, hbg, hg, hfz, hnc, hcm, hcs, htake⟩
 ·obtain ⟨v', w', h1, h2, h3, _⟩ := Lib.run_append_own_stringF (P := P) w w.heap.size t u ty e i ht hu hi hz hsize hby (.slice none 0 0) 0 xs ⟨hown.1, .inl ⟨rfl, rfl⟩⟩ s h63 hbytes (Nat.le_refl _)
  refine ⟨v', w', h1, ⟨h2.1, ?_⟩, h3, fun g hg => ?_, fun j x hx => by rw [Ae (h3.block j (Bv hx) (by simp [Value.ownBlock]))];exact hx⟩
  ·rcases h2.2 with hh | ⟨g, cap, cur, fz, e1, e2, e3⟩
   ·exact .inl hh
   ·exact .inr ⟨g, cap, cur, fz, e1, Nat.zero_le _, e3⟩
  ·rcases h2.2 with ⟨rfl, _⟩ | ⟨g', cap, cur, fz, rfl, e2, e3⟩
   ·simp [Value.ownBlock] at hg
   ·simp only [Value.ownBlock, Option.some.injEq] at hg
    subst hg
    exact .inr e2
 ·obtain ⟨v', w', h1, h2, h3, _⟩ := Lib.run_append_own_stringF (P := P) w 0 t u ty e i ht hu hi hz hsize hby _ n xs hown s h63 hbytes (Nat.zero_le _)
  have hxl : xs.length = n := by simpa using hown.1
  by_cases hroom : n + s.size <= cap
  ·have hcs' : cur.size = cap := by simpa using hcs
   have hr := Lib.run_append_room_stringF (P := P) w t u ty e i ht hu hi hsize g n cap cur fz hg (by simpa using hfz) s hroom (by omega)
   rw [hr] at h1
   simp only [Result.ok.injEq] at h1
   obtain ⟨rfl, rfl⟩ := h1
   refine ⟨_, _, hr, h2, h3, fun g' hg' => .inl hg', fun j x hx => ?_⟩
   by_cases hj : j = g
   ·subst hj
    rw [Cp hg] at hx
    rw [Cp (setRow_heap w j cur _ e _ hg), <- hx]
    congr 2
    simp only [List.size_toArray, List.length_append, List.length_take, List.length_drop, Array.length_toList, Lib.strCells_length]
    omega
   ·rw [Ae (setRow_other w g j _ hj)]
    exact hx
  ·have holds : ∀ j u, xs[j]? = some u -> w.cell? ((⟨g, 0, none⟩ : Addr).add j) = some u := hown.cells (g := g) rfl
   have hr := Lib.run_append_grow_string (P := P) w t u ty e i (.int .u8 0) ht hu hi hz ⟨g, 0, none⟩ n cap xs (by rw [hsize];simpa using hxl) holds s (by omega) (by omega) (by rw [hby];exact growslice_fits (by omega) (by omega))
   rw [hr] at h1
   simp only [Result.ok.injEq] at h1
   obtain ⟨rfl, rfl⟩ := h1
   refine ⟨_, _, hr, h2, h3, fun g' hg' => ?_, fun j x hx => by rw [Ae (Aa w.drew _ (Bv hx))];exact hx⟩
   simp only [Value.ownBlock, Option.some.injEq] at hg'
   subst hg'
   exact .inr (Nat.le_refl _)
theorem Hp {P : Program} {w : World} {ops : Array Oper} {rest : List Oper} {o : Oper} {a : Act} {Q : Exit -> Act -> World -> Prop} (hgd : o.guard = none) (sl x : Operand) (t u : TypeId)
  (ho : o.op = .call { callee := .builtin .append, args := #[sl, x], argTypes := #[t, u] }) {e : TypeId} {i : TypeInfo} (ht : P.underlying t = some (.slice e)) (hu : P.underlying u = some .string) (hi : P.info? e = some i) (hz : i.zero = some (.int .u8 0)) (hsize : i.size = 1) (hby : i.bytes = 1)
  {v : Value} {n : Nat} {xs : List Value} (hs : a.eval sl = v) (hown : w.ownsRowF 0 e 1 v n xs) {s : ByteArray} (hx : a.eval x = .string s) (hbytes : n + s.size <= 140737488355328)
  (h : ∀ v' w', w'.ownsRowF 0 e 1 v' (n + s.size) (xs ++ Lib.strCells s) -> w.grownBy w' v.ownBlock -> (∀ g, v'.ownBlock = some g -> v.ownBlock = some g \/ w.heap.size <= g) -> (∀ j x, w.shape? j = some x -> w'.shape? j = some x) -> wpList P ops Q rest (a.put o.dst v') w') : wpList P ops Q (o :: rest) a w := by
 refine wpList_plain hgd fun K hK => ?_
 obtain ⟨v', w', hr, h2, h3, h4, h5⟩ := K1 (P := P) (ty := o.type) ht hu hi hz hsize hby hown hbytes
 unfold Oper.wp execOp
 simp only [ho, resolve, invoke, builtin, Sem.run_bind, Sem.run_pure, Result.andThen_ok, List.map_toArray, List.map_cons, List.map_nil, hs, hx, hr]
 exact hK _ _ (h v' w' h2 h3 h4 h5)
def Ad (n : Int) : ByteArray := ⟨(Lib.itoa n).toArray⟩
theorem V5 {a b : ByteArray} (h : a.data.toList = b.data.toList) : a = b := by
 cases a;cases b
 simp only [ByteArray.mk.injEq]
 exact Array.ext' h
theorem Kl (a b : ByteArray) : (a ++ b).data.toList = a.data.toList ++ b.data.toList := by simp [ByteArray.data_append]
theorem B6 {n : Int} (h0 : -9223372036854775808 <= n) (h1 : n <= 9223372036854775807) : (Ad n).size <= 21 := by
 have h : (Ad n).size = (Lib.itoa n).length := by simp [Ad, ByteArray.size]
 rw [h]
 exact Lib.itoa_length_le n h0 h1
end Go.Proofs.YtcfjofhapbkmfaaGreatDoor
namespace Go.Proofs.YtcfjofhapbkmfaaGreatDoor
open Go.RowKit Go.Sort
theorem Rj : Tryz.prog.globalNamed "internal/strconv.uint64pow10" ≠ none := by
 have h : (Tryz.prog.globalNamed "internal/strconv.uint64pow10").isSome = true := by kernel_rfl
 intro e
 rw [e] at h
 cases h
theorem Bn (n : Int) (h0 : -9223372036854775808 <= n) (h1 : n <= 9223372036854775807) : Fn0 Tryz.prog 23 [.i n] (.val (.string (Ad n))) := by
 refine ⟨⟨_, Tryz.func23, rfl, rfl⟩, fun L w vs hG hL hl hv => ?_⟩
 match vs, hl with
 | [v], _ =>
  obtain rfl := (hv 0 (.i n) v rfl rfl).val_eq
  refine (Tryz.strconv_Itoa n h0 h1 w (hG.tab Rj)).mono ?_
  rintro e w' ⟨rfl, k, os, rfl⟩
  refine ⟨_, rfl, A4 _, ?_⟩
  exact ⟨rfl, rfl, rfl, by simp [grow], fun i hi => by simp [grow, Array.getElem?_append, hi]⟩
end Go.Proofs.YtcfjofhapbkmfaaGreatDoor
namespace Go.Proofs.YtcfjofhapbkmfaaGreatDoor
open Go.RowKit
def ofL (l : List UInt8) : ByteArray := ⟨l.toArray⟩
theorem Ij (l : List UInt8) : (ofL l).data.toList = l := by simp [ofL]
theorem Ik (l : List UInt8) : (ofL l).size = l.length := by simp [ofL, ByteArray.size]
def By (ws : List ByteArray) : List UInt8 := Lib.join (ws.map (·.data.toList)) [32] ++ [10]
def bytesOf (L : List (List ByteArray)) : List UInt8 := (L.map By).flatten
theorem O7 {B : Nat} (sep : List UInt8) : ∀ (ws : List (List UInt8)), (∀ w ∈ ws, w.length <= B) -> (Lib.join ws sep).length <= ws.length * (B + sep.length)
 | [], _ => by simp [Lib.join_nil]
 | w :: ws, h => by
  have h1 := h w (by simp)
  have h2 : (Lib.joinTail sep ws).length <= ws.length * (B + sep.length) := by
   have hw : ∀ x ∈ ws, x.length <= B := fun x hx => h x (by simp [hx])
   clear h h1
   induction ws with
   | nil => simp [Lib.joinTail]
   | cons x ws ih =>
    have := ih fun y hy => hw y (by simp [hy])
    have hx := hw x (by simp)
    simp only [Lib.joinTail, List.map_cons, List.flatten_cons, List.length_append, List.length_cons] at this ⊢
    rw [Nat.succ_mul]
    omega
  rw [Lib.join_cons, List.length_append, List.length_cons, Nat.succ_mul]
  omega
theorem Dr (L M : List (List ByteArray)) : bytesOf (L ++ M) = bytesOf L ++ bytesOf M := by simp [bytesOf]
theorem Kn (ws : List ByteArray) : bytesOf [ws] = By ws := by simp [bytesOf]
theorem P2 (ws : List (List UInt8)) (h : ∀ w ∈ ws, (10 : UInt8) ∉ w) : (10 : UInt8) ∉ Lib.join ws [32] := by
 cases ws with
 | nil => simp [Lib.join_nil]
 | cons w ws =>
  rw [Lib.join_cons]
  intro hm
  rcases List.mem_append.1 hm with hm | hm
  ·exact h w (by simp) hm
  ·unfold Lib.joinTail at hm
   obtain ⟨l, hl, hm⟩ := List.mem_flatten.1 hm
   obtain ⟨x, hx, rfl⟩ := List.mem_map.1 hl
   rcases List.mem_append.1 hm with hm | hm
   ·simp at hm
   ·exact h x (by simp [hx]) hm
end Go.Proofs.YtcfjofhapbkmfaaGreatDoor
