/- Lemmas of the proof. -/
import Derived.Test.YtlapbaiejnaeiaaGreatDoorMc
import Derived.Test.YtlapbaiejnaeiaaGreatDoorMh
import Derived.Test.YtlapbaiejnaeiaaGreatDoorMd
import Derived.WalkKit
import Derived.Lib.Walk
import Derived.Lib.Hide
import Derived.Lib.ItoaLen
import Derived.Lib.Join
import Derived.Test.YtlapbaiejnaeiaaGreatDoorMi
set_option linter.all false
set_option maxHeartbeats 64000000
namespace Go.Proofs.YtlapbaiejnaeiaaGreatDoor
open Go.RowKit
def a3b := @Lib.cell_of_heap
def a6n := @Tryz.underlying67
def b0e := @Oper.upon_value
def b0n := @Lib.run_append_own_stringF
def b1g := @Option.map_eq_some_iff
def b2i := @Lib.strCells_length
def b3g := @Lib.frozen_of_heap
abbrev tB : TypeId := 70
theorem Z5 : Gf 70 = #[] := by kernel_rfl
theorem Wy : (Tryz.prog.info? 70).map (·.size) = some 2 := by kernel_rfl
theorem A7z : liesAt Tryz.prog Tryz.prog.depth 70 (2 / Tryz.prog.cellsOf 70) 0 70 1 = true := by kernel_rfl
theorem A4j : (Tryz.prog.info? 5).map (fun i => (i.zero, i.size, i.bytes)) = some (some (.int .u8 0), 1, 1) := by kernel_rfl
theorem Tf : Tryz.prog.underlying 163 = some .unsafePointer := by kernel_rfl
theorem Ae6 : Tryz.prog.funcs[100]? = some Tryz.f100 := by kernel_rfl
set_option maxRecDepth 100000 in
theorem Tu (b : Nat) (w : World) (h0 : w.cell? ⟨b, 0, none⟩ = some (.pointer (some ⟨b, 0, none⟩))) :
  Calls Tryz.prog 62 #[.pointer (some ⟨b, 0, none⟩)] w fun e w' => e = .returned (.tuple #[]) /\ w' = w := by
 obtain ⟨j, hj, _⟩ := b1g.1 Wy
 have u66 := run_underlying (P := Tryz.prog) Tryz.underlying70
 have u63 := run_underlying (P := Tryz.prog) a6n
 go_enter Tryz.func62, Tryz.ntmps62
 go_wp2
 rw [Lib.run_neq_ptr_same w _ a6n hj]
 go_wp2
 go_end0
 exact ⟨rfl, rfl⟩
set_option maxRecDepth 100000 in
theorem S0 (b : Nat) (w : World) (h0 : w.cell? ⟨b, 0, none⟩ = some (.pointer none)) (hsh : w.shape? b = some (70, 2)) (hfz : w.frozen? ⟨b, 0, none⟩ = false) :
  Calls Tryz.prog 62 #[.pointer (some ⟨b, 0, none⟩)] w fun e w' => e = .returned (.tuple #[]) /\ w' = w.setCell ⟨b, 0, none⟩ (.pointer (some ⟨b, 0, none⟩)) := by
 obtain ⟨j, hj, hjs⟩ := b1g.1 Wy
 have u66 := run_underlying (P := Tryz.prog) Tryz.underlying70
 have u63 := run_underlying (P := Tryz.prog) a6n
 go_enter Tryz.func62, Tryz.ntmps62
 go_wp2
 rw [Lib.run_to_unsafe w ⟨b, 0, none⟩ a6n Tf hj (by rw [hjs];decide) hsh (Nat.zero_lt_succ 1)]
 simp only [Result.andThen]
 rw [b0e]
 go_wp2
 rw [run_callFunc_extern Ae6 (by kernel_rfl) (by kernel_rfl) (by kernel_rfl) (e := Extern.AbiNoEscape.same) (by kernel_rfl)]
 rw [Lib.run_noEscape]
 simp only [Result.andThen]
 rw [b0e]
 go_wp2
 rw [Lib.run_from_unsafe w ⟨b, 0, none⟩ Tf a6n hj hsh A7z]
 simp only [Result.andThen]
 rw [b0e]
 go_wp2
 go_end0
 exact ⟨rfl, rfl⟩
theorem Tj {P : Program} {w : World} {t u ty e : TypeId} {i : TypeInfo} (ht : P.underlying t = some (.slice e)) (hu : P.underlying u = some .string) (hi : P.info? e = some i) (hz : i.zero = some (.int .u8 0)) (hsize : i.size = 1) (hby : i.bytes = 1)
  {v : Value} {n : Nat} {xs : List Value} (hown : w.ownsRowF 0 e 1 v n xs) {s : ByteArray} (hbytes : n + s.size <= 140737488355328) :
  ∃ v' w', (Builtin.append_ #[t, u] ty #[v, .string s]).run P w = .ok v' w' /\ w'.ownsRowF 0 e 1 v' (n + s.size) (xs ++ Lib.strCells s) /\ w.grownBy w' v.ownBlock /\ (∀ g, v'.ownBlock = some g -> v.ownBlock = some g \/ w.heap.size <= g) /\ ∀ j x, w.shape? j = some x -> w'.shape? j = some x := by
 have h63 : n + s.size <= maxLen := by simp only [maxLen];omega
 rcases hown.2 with ⟨rfl, rfl⟩ | ⟨g, cap, cur, fz, rfl, hbg, hg, hfz, hnc, hcm, hcs, htake⟩
 ·obtain ⟨v', w', h1, h2, h3, _⟩ := b0n (P := P) w w.heap.size t u ty e i ht hu hi hz hsize hby (.slice none 0 0) 0 xs ⟨hown.1, .inl ⟨rfl, rfl⟩⟩ s h63 hbytes (a0l _)
  refine ⟨v', w', h1, ⟨h2.1, ?_⟩, h3, fun g hg => ?_, fun j x hx => by rw [Au (h3.block j (D6 hx) (by simp [Value.ownBlock]))];exact hx⟩
  ·rcases h2.2 with hh | ⟨g, cap, cur, fz, e1, e2, e3⟩
   ·exact .inl hh
   ·exact .inr ⟨g, cap, cur, fz, e1, a0o _, e3⟩
  ·rcases h2.2 with ⟨rfl, _⟩ | ⟨g', cap, cur, fz, rfl, e2, e3⟩
   ·simp [Value.ownBlock] at hg
   ·simp only [Value.ownBlock, a0f] at hg
    subst hg
    exact .inr e2
 ·obtain ⟨v', w', h1, h2, h3, _⟩ := b0n (P := P) w 0 t u ty e i ht hu hi hz hsize hby _ n xs hown s h63 hbytes (a0o _)
  have hxl : xs.length = n := by simpa using hown.1
  by_cases hroom : n + s.size <= cap
  ·have hcs' : cur.size = cap := by simpa using hcs
   have hr := Lib.run_append_room_stringF (P := P) w t u ty e i ht hu hi hsize g n cap cur fz hg (by simpa using hfz) s hroom (by omega)
   rw [hr] at h1
   simp only [a3f] at h1
   obtain ⟨rfl, rfl⟩ := h1
   refine ⟨_, _, hr, h2, h3, fun g' hg' => .inl hg', fun j x hx => ?_⟩
   by_cases hj : j = g
   ·subst hj
    rw [Bs hg] at hx
    rw [Bs (setRow_heap w j cur _ e _ hg), <- hx]
    congr 2
    simp only [a3z, a0q, a0t, a1v, a4a, b2i]
    omega
   ·rw [Au (setRow_other w g j _ hj)]
    exact hx
  ·have holds : ∀ j u, xs[j]? = some u -> w.cell? ((⟨g, 0, none⟩ : Addr).add j) = some u := hown.cells (g := g) rfl
   have hr := Lib.run_append_grow_string (P := P) w t u ty e i (.int .u8 0) ht hu hi hz ⟨g, 0, none⟩ n cap xs (by rw [hsize];simpa using hxl) holds s (by omega) (by omega) (by rw [hby];exact growslice_fits (by omega) (by omega))
   rw [hr] at h1
   simp only [a3f] at h1
   obtain ⟨rfl, rfl⟩ := h1
   refine ⟨_, _, hr, h2, h3, fun g' hg' => ?_, fun j x hx => by rw [Au (Ai w.drew _ (D6 hx))];exact hx⟩
   simp only [Value.ownBlock, a0f] at hg'
   subst hg'
   exact .inr (a0l _)
theorem Po {P : Program} {w : World} {ops : Array Oper} {rest : List Oper} {o : Oper} {a : Act} {Q : Exit -> Act -> World -> Prop} (hgd : o.guard = none) (sl x : Operand) (t u : TypeId)
  (ho : o.op = .call { callee := .builtin .append, args := #[sl, x], argTypes := #[t, u] }) {e : TypeId} {i : TypeInfo} (ht : P.underlying t = some (.slice e)) (hu : P.underlying u = some .string) (hi : P.info? e = some i) (hz : i.zero = some (.int .u8 0)) (hsize : i.size = 1) (hby : i.bytes = 1)
  {v : Value} {n : Nat} {xs : List Value} (hs : a.eval sl = v) (hown : w.ownsRowF 0 e 1 v n xs) {s : ByteArray} (hx : a.eval x = .string s) (hbytes : n + s.size <= 140737488355328)
  (h : ∀ v' w', w'.ownsRowF 0 e 1 v' (n + s.size) (xs ++ Lib.strCells s) -> w.grownBy w' v.ownBlock -> (∀ g, v'.ownBlock = some g -> v.ownBlock = some g \/ w.heap.size <= g) -> (∀ j x, w.shape? j = some x -> w'.shape? j = some x) -> wpList P ops Q rest (a.put o.dst v') w') : wpList P ops Q (o :: rest) a w := by
 refine wpList_plain hgd fun K hK => ?_
 obtain ⟨v', w', hr, h2, h3, h4, h5⟩ := Tj (P := P) (ty := o.type) ht hu hi hz hsize hby hown hbytes
 unfold Oper.wp execOp
 simp only [ho, resolve, invoke, builtin, a0m, a1f, a0j, a9v, a1q, a4h, hs, hx, hr]
 exact hK _ _ (h v' w' h2 h3 h4 h5)
set_option maxRecDepth 100000 in
theorem Th {k : Nat} {p v : Value} {s : List Value} {w : World} (str : ByteArray) (hB : BAt w 70 5 k p v s) (hlen : s.length + str.size <= 140737488355328) :
  Calls Tryz.prog 31 #[.pointer (some ⟨k, 0, none⟩), .string str] w fun e w' => e = .returned (.tuple #[.int .i64 str.size, .nilIface]) /\
   (∃ v', BAt w' 70 5 k (.pointer (some ⟨k, 0, none⟩)) v' (s ++ Lib.strCells str) /\ ∀ g, v'.ownBlock = some g -> v.ownBlock = some g \/ w.heap.size <= g) /\
   (∀ j, j < w.heap.size -> j ≠ k -> v.ownBlock ≠ some j -> w'.heap[j]? = w.heap[j]?) /\ w'.os = w.os /\ w'.tape = w.tape /\ w'.output = w.output /\ w.heap.size <= w'.heap.size /\ ∀ j x, w.shape? j = some x -> w'.shape? j = some x := by
 obtain ⟨i0, hi, hz0, hz1, hz2⟩ := info_parts A4j
 obtain ⟨hbk, hp, hown, hne⟩ := hB
 rw [Z5, a9e] at hbk
 have hcc : Calls Tryz.prog 62 #[.pointer (some ⟨k, 0, none⟩)] w fun e w1 => e = .returned (.tuple #[]) /\ w1.heap[k]? = some (.cells #[.pointer (some ⟨k, 0, none⟩), v] 70 (0, 0)) /\ (∀ j, j ≠ k -> w1.heap[j]? = w.heap[j]?) /\ w1.os = w.os /\ w1.tape = w.tape /\ w1.output = w.output /\ w1.heap.size = w.heap.size /\ ∀ j, w1.shape? j = w.shape? j := by
  rcases hp with rfl | rfl
  ·refine (S0 k w (by rw [a3b hbk];rfl) (by unfold World.shape?;rw [hbk];rfl) (b3g hbk 0)).mono ?_
   rintro e w1 ⟨rfl, rfl⟩
   refine ⟨rfl, ?_, fun j hj => Below.heap_setCell w _ _ j hj, rfl, rfl, rfl, by simp [World.setCell], fun j => Cl _ _ _ j⟩
   rw [heap_setCell w k 0 _ _ _ _ hbk]
   rfl
  ·refine (Tu k w (by rw [a3b hbk];rfl)).mono ?_
   rintro e w1 ⟨rfl, rfl⟩
   exact ⟨rfl, hbk, fun _ _ => rfl, rfl, rfl, rfl, rfl, fun _ => rfl⟩
 have hkl : k < w.heap.size := Bq hbk
 go_enter Tryz.func31, Tryz.ntmps31
 go_wp2_with (go_at_call 62;(with_reducible refine hcc.mono ?_))
 rintro e w1 ⟨rfl, h1, h2, h3, h4, h5, h6, h7⟩
 have hown1 : w1.ownsRowF 0 5 1 v s.length s := by
  refine ⟨hown.1, ?_⟩
  rcases hown.2 with hh | ⟨g, cap, cur, fz, e1, e2, e3, e4⟩
  ·exact .inl hh
  ·exact .inr ⟨g, cap, cur, fz, e1, e2, by rw [h2 g (fun e => hne (by rw [e1, e];rfl))];exact e3, e4⟩
 have c0 : w1.cell? ⟨k, 0, none⟩ = some (.pointer (some ⟨k, 0, none⟩)) := by rw [a3b h1];rfl
 have c1 : w1.cell? ⟨k, 1, none⟩ = some v := by rw [a3b h1];rfl
 go_wp2_with (at_builtin;refine Po rfl _ _ 68 9 rfl Tryz.underlying68 a5s hi hz0 hz1 hz2 rfl hown1 (s := str) rfl hlen ?_)
 intro v' w2 hown2 hgr hfresh hshp0
 have hshp := Lib.hid hshp0
 clear hshp0
 have hb2 : w2.heap[k]? = some (.cells #[.pointer (some ⟨k, 0, none⟩), v] 70 (0, 0)) := by
  rw [hgr.block k (by omega) (fun e => hne e.symm)]
  exact h1
 have d0 : w2.cell? ⟨k, 0, none⟩ = some (.pointer (some ⟨k, 0, none⟩)) := by rw [a3b hb2];rfl
 have d1 : w2.cell? ⟨k, 1, none⟩ = some v := by rw [a3b hb2];rfl
 have f1 : w2.frozen? ⟨k, 1, none⟩ = false := b3g hb2 1
 obtain ⟨ao, n', cap, rfl⟩ : ∃ ao n' cap, v' = .slice ao n' cap := by
  rcases hown2.2 with ⟨hv, _⟩ | ⟨g, cap, cur, fz, hv, _⟩
  ·exact ⟨_, _, _, hv⟩
  ·exact ⟨_, _, _, hv⟩
 have hnk : (Value.slice ao n' cap).ownBlock ≠ some k := fun e => by
  rcases hfresh k e with hh | hh
  ·exact hne hh
  ·omega
 have hfresh' : ∀ g, (Value.slice ao n' cap).ownBlock = some g -> v.ownBlock = some g \/ w.heap.size <= g := fun g hg => (hfresh g hg).imp id (by omega)
 have hgs := hgr.size
 have hgb := hgr.block
 have hgo := hgr.os
 have hgt := hgr.tape
 have hgp := hgr.output
 go_wp2
 go_ret2
 refine ⟨rfl, ⟨_, ⟨?_, .inr rfl, ?_, hnk⟩, hfresh'⟩, fun j hj hjk hjv => ?_, ?_, ?_, ?_, ?_, fun j x hx => ?_⟩
 ·rw [Z5, a9e, heap_setCell _ k 1 _ _ _ _ hb2];rfl
 ·have hl : (s ++ Lib.strCells str).length = s.length + str.size := by rw [a0q, b2i]
  rw [hl]
  refine ⟨hown2.1, ?_⟩
  rcases hown2.2 with hh | ⟨g, cap', cur, fz, e1, e2, e3, e4⟩
  ·exact .inl hh
  ·exact .inr ⟨g, cap', cur, fz, e1, e2, by rw [Below.heap_setCell _ _ _ g (fun e => hnk (by rw [e1, e];rfl))];exact e3, e4⟩
 ·rw [Below.heap_setCell _ _ _ j hjk, hgb j (by omega) (fun e => hjv e.symm), h2 j hjk]
 ·exact hgo.trans h3
 ·exact hgt.trans h4
 ·exact hgp.trans h5
 ·simp [World.setCell];omega
 ·rw [Cl]
  obtain ⟨x1, x2⟩ := x
  exact hshp.out j x1 x2 hx
def Hc (n : Int) : ByteArray := ⟨(Lib.itoa n).toArray⟩
theorem Kz {a b : ByteArray} (h : a.data.toList = b.data.toList) : a = b := by
 cases a;cases b
 simp only [ByteArray.mk.injEq]
 exact a4y h
theorem A4b (a b : ByteArray) : (a ++ b).data.toList = a.data.toList ++ b.data.toList := by simp [ByteArray.data_append]
theorem Iv {n : Int} (h0 : -9223372036854775808 <= n) (h1 : n <= 9223372036854775807) : (Hc n).size <= 21 := by
 have h : (Hc n).size = (Lib.itoa n).length := by simp [Hc, ByteArray.size]
 rw [h]
 exact Lib.itoa_length_le n h0 h1
end Go.Proofs.YtlapbaiejnaeiaaGreatDoor
namespace Go.Proofs.YtlapbaiejnaeiaaGreatDoor
open Go.RowKit Go.Sort
theorem A6e : Tryz.prog.globalNamed "internal/strconv.uint64pow10" ≠ none := by
 have h : (Tryz.prog.globalNamed "internal/strconv.uint64pow10").isSome = true := by kernel_rfl
 intro e
 rw [e] at h
 cases h
theorem Z2 (n : Int) (h0 : -9223372036854775808 <= n) (h1 : n <= 9223372036854775807) : Fn0 Tryz.prog 63 [.i n] (.val (.string (Hc n))) := by
 refine ⟨⟨_, Tryz.func63, rfl, rfl⟩, fun L w vs hG hL hl hv => ?_⟩
 match vs, hl with
 | [v], _ =>
  obtain rfl := (hv 0 (.i n) v rfl rfl).val_eq
  refine (Tryz.strconv_Itoa n h0 h1 w (hG.tab A6e)).mono ?_
  rintro e w' ⟨rfl, k, os, rfl⟩
  refine ⟨_, rfl, A7 _, ?_⟩
  exact ⟨rfl, rfl, rfl, by simp [grow], fun i hi => by simp [grow, Array.getElem?_append, hi]⟩
end Go.Proofs.YtlapbaiejnaeiaaGreatDoor
namespace Go.Proofs.YtlapbaiejnaeiaaGreatDoor
open Go.RowKit
def ofL (l : List UInt8) : ByteArray := ⟨l.toArray⟩
theorem Fd (l : List UInt8) : (ofL l).data.toList = l := by simp [ofL]
theorem Jq (l : List UInt8) : (ofL l).size = l.length := by simp [ofL, ByteArray.size]
theorem A95 (l : Array UInt8) : (ByteArray.mk l).size = l.size := rfl
def Cm (ws : List ByteArray) : List UInt8 := Lib.join (ws.map (·.data.toList)) [32] ++ [10]
def bytesOf (L : List (List ByteArray)) : List UInt8 := (L.map Cm).flatten
def U6 (ws : List ByteArray) : Prop := ws.length <= 7 /\ ∀ w ∈ ws, w.size <= 60
theorem Abc {B : Nat} (sep : List UInt8) : ∀ (ws : List (List UInt8)), (∀ w ∈ ws, w.length <= B) -> (Lib.join ws sep).length <= ws.length * (B + sep.length)
 | [], _ => by simp [Lib.join_nil]
 | w :: ws, h => by
  have h1 := h w (by simp)
  have h2 : (Lib.joinTail sep ws).length <= ws.length * (B + sep.length) := by
   have hw : ∀ x ∈ ws, x.length <= B := fun x hx => h x (by simp [hx])
   clear h h1
   induction ws with
   | nil => simp [Lib.joinTail]
   | cons x ws ih =>
    have := ih fun y hy => hw y (by simp [hy])
    have hx := hw x (by simp)
    simp only [Lib.joinTail, a1q, a3d, a0q, a0i] at this ⊢
    rw [a4v]
    omega
  rw [Lib.join_cons, a0q, a0i, a4v]
  omega
theorem A1d {ws : List ByteArray} (h : U6 ws) : (Cm ws).length <= 428 := by
 have := Abc (B := 60) [32] (ws.map (·.data.toList)) fun w hw => by
  obtain ⟨x, hx, rfl⟩ := a1b.1 hw
  have := h.2 x hx
  rw [a4a]
  exact this
 simp only [a0a, a0i, a0n] at this
 have h7 := h.1
 simp only [Cm, a0q, a0i, a0n]
 omega
theorem X1 : ∀ (L : List (List ByteArray)), (∀ ws ∈ L, U6 ws) -> (bytesOf L).length <= L.length * 428
 | [], _ => by simp [bytesOf]
 | ws :: L, h => by
  have h1 := A1d (h ws (by simp))
  have h2 := X1 L fun x hx => h x (by simp [hx])
  have e : bytesOf (ws :: L) = Cm ws ++ bytesOf L := rfl
  rw [e, a0q, a0i, a4v]
  omega
theorem X0 (L M : List (List ByteArray)) : bytesOf (L ++ M) = bytesOf L ++ bytesOf M := by simp [bytesOf]
theorem A2n (ws : List (List UInt8)) (h : ∀ w ∈ ws, (10 : UInt8) ∉ w) : (10 : UInt8) ∉ Lib.join ws [32] := by
 cases ws with
 | nil => simp [Lib.join_nil]
 | cons w ws =>
  rw [Lib.join_cons]
  intro hm
  rcases a0u.1 hm with hm | hm
  ·exact h w (by simp) hm
  ·unfold Lib.joinTail at hm
   obtain ⟨l, hl, hm⟩ := List.mem_flatten.1 hm
   obtain ⟨x, hx, rfl⟩ := a1b.1 hl
   rcases a0u.1 hm with hm | hm
   ·simp at hm
   ·exact h x (by simp [hx]) hm
end Go.Proofs.YtlapbaiejnaeiaaGreatDoor
