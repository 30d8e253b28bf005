/- Contracts: strings.Builder's copyCheck, WriteString, Len;strings.Join;a line of words written into a builder. Conditions: those of each statement (bounds on lengths). -/
import Derived.Test.YtkboebgkcjcpfaaGreatDoorMc
import Derived.Test.YtkboebgkcjcpfaaGreatDoorMh
import Derived.Test.YtkboebgkcjcpfaaGreatDoorMd
import Derived.WalkKit
import Derived.Lib.Walk
import Derived.Lib.Hide
import Derived.Lib.ItoaLen
import Derived.Lib.Join
import Derived.Test.YtkboebgkcjcpfaaGreatDoorMi
set_option linter.unusedSimpArgs false
set_option linter.unusedVariables false
namespace Go.Proofs.YtkboebgkcjcpfaaGreatDoor
open Go.RowKit
theorem S6 : (Tryz.prog.info? 69).map (·.size) = some 2 := by kernel_rfl
theorem Yi : (Tryz.prog.info? 5).map (fun i => (i.zero, i.size, i.bytes)) = some (some (.int .u8 0), 1, 1) := by kernel_rfl
theorem P5 : Tryz.prog.underlying 209 = some .unsafePointer := by kernel_rfl
theorem A6c : Tryz.prog.funcs[120]? = some Tryz.f120 := by kernel_rfl
set_option maxHeartbeats 2000000 in
set_option maxRecDepth 100000 in
theorem Pf (b : Nat) (w : World) (h0 : w.cell? ⟨b, 0, none⟩ = some (.pointer (some ⟨b, 0, none⟩))) :
  Calls Tryz.prog 71 #[.pointer (some ⟨b, 0, none⟩)] w fun e w' => e = .returned (.tuple #[]) /\ w' = w := by
 obtain ⟨j, hj, _⟩ := Option.map_eq_some_iff.1 S6
 have u66 := run_underlying (P := Tryz.prog) Tryz.underlying69
 have u63 := run_underlying (P := Tryz.prog) Tryz.underlying66
 go_enter Tryz.func71, Tryz.ntmps71
 go_wp2
 rw [Lib.run_neq_ptr_same w _ Tryz.underlying66 hj]
 go_wp2
 go_end0
 exact ⟨rfl, rfl⟩
theorem P9 {P : Program} {w : World} {t u ty e : TypeId} {i : TypeInfo} (ht : P.underlying t = some (.slice e)) (hu : P.underlying u = some .string) (hi : P.info? e = some i) (hz : i.zero = some (.int .u8 0)) (hsize : i.size = 1) (hby : i.bytes = 1)
  {v : Value} {n : Nat} {xs : List Value} (hown : w.ownsRowF 0 e 1 v n xs) {s : ByteArray} (hbytes : n + s.size <= 140737488355328) :
  ∃ v' w', (Builtin.append_ #[t, u] ty #[v, .string s]).run P w = .ok v' w' /\ w'.ownsRowF 0 e 1 v' (n + s.size) (xs ++ Lib.strCells s) /\ w.grownBy w' v.ownBlock /\ (∀ g, v'.ownBlock = some g -> v.ownBlock = some g \/ w.heap.size <= g) /\ ∀ j x, w.shape? j = some x -> w'.shape? j = some x := by
 have h63 : n + s.size <= maxLen := by simp only [maxLen];omega
 rcases hown.2 with ⟨rfl, rfl⟩ | ⟨g, cap, cur, fz, rfl, hbg, hg, hfz, hnc, hcm, hcs, htake⟩
 ·obtain ⟨v', w', h1, h2, h3, _⟩ := Lib.run_append_own_stringF (P := P) w w.heap.size t u ty e i ht hu hi hz hsize hby (.slice none 0 0) 0 xs ⟨hown.1, .inl ⟨rfl, rfl⟩⟩ s h63 hbytes (Nat.le_refl _)
  refine ⟨v', w', h1, ⟨h2.1, ?_⟩, h3, fun g hg => ?_, fun j x hx => by rw [B5 (h3.block j (Dp hx) (by simp [Value.ownBlock]))];exact hx⟩
  ·rcases h2.2 with hh | ⟨g, cap, cur, fz, e1, e2, e3⟩
   ·exact .inl hh
   ·exact .inr ⟨g, cap, cur, fz, e1, Nat.zero_le _, e3⟩
  ·rcases h2.2 with ⟨rfl, _⟩ | ⟨g', cap, cur, fz, rfl, e2, e3⟩
   ·simp [Value.ownBlock] at hg
   ·simp only [Value.ownBlock, Option.some.injEq] at hg
    subst hg
    exact .inr e2
 ·obtain ⟨v', w', h1, h2, h3, _⟩ := Lib.run_append_own_stringF (P := P) w 0 t u ty e i ht hu hi hz hsize hby _ n xs hown s h63 hbytes (Nat.zero_le _)
  have hxl : xs.length = n := by simpa using hown.1
  by_cases hroom : n + s.size <= cap
  ·have hcs' : cur.size = cap := by simpa using hcs
   have hr := Lib.run_append_room_stringF (P := P) w t u ty e i ht hu hi hsize g n cap cur fz hg (by simpa using hfz) s hroom (by omega)
   rw [hr] at h1
   simp only [Result.ok.injEq] at h1
   obtain ⟨rfl, rfl⟩ := h1
   refine ⟨_, _, hr, h2, h3, fun g' hg' => .inl hg', fun j x hx => ?_⟩
   by_cases hj : j = g
   ·subst hj
    rw [Ed hg] at hx
    rw [Ed (setRow_heap w j cur _ e _ hg), <- hx]
    congr 2
    simp only [List.size_toArray, List.length_append, List.length_take, List.length_drop, Array.length_toList, Lib.strCells_length]
    omega
   ·rw [B5 (setRow_other w g j _ hj)]
    exact hx
  ·have holds : ∀ j u, xs[j]? = some u -> w.cell? ((⟨g, 0, none⟩ : Addr).add j) = some u := hown.cells (g := g) rfl
   have hr := Lib.run_append_grow_string (P := P) w t u ty e i (.int .u8 0) ht hu hi hz ⟨g, 0, none⟩ n cap xs (by rw [hsize];simpa using hxl) holds s (by omega) (by omega) (by rw [hby];exact growslice_fits (by omega) (by omega))
   rw [hr] at h1
   simp only [Result.ok.injEq] at h1
   obtain ⟨rfl, rfl⟩ := h1
   refine ⟨_, _, hr, h2, h3, fun g' hg' => ?_, fun j x hx => by rw [B5 (Ap w.drew _ (Dp hx))];exact hx⟩
   simp only [Value.ownBlock, Option.some.injEq] at hg'
   subst hg'
   exact .inr (Nat.le_refl _)
theorem M9 {P : Program} {w : World} {ops : Array Oper} {rest : List Oper} {o : Oper} {a : Act} {Q : Exit -> Act -> World -> Prop} (hgd : o.guard = none) (sl x : Operand) (t u : TypeId)
  (ho : o.op = .call { callee := .builtin .append, args := #[sl, x], argTypes := #[t, u] }) {e : TypeId} {i : TypeInfo} (ht : P.underlying t = some (.slice e)) (hu : P.underlying u = some .string) (hi : P.info? e = some i) (hz : i.zero = some (.int .u8 0)) (hsize : i.size = 1) (hby : i.bytes = 1)
  {v : Value} {n : Nat} {xs : List Value} (hs : a.eval sl = v) (hown : w.ownsRowF 0 e 1 v n xs) {s : ByteArray} (hx : a.eval x = .string s) (hbytes : n + s.size <= 140737488355328)
  (h : ∀ v' w', w'.ownsRowF 0 e 1 v' (n + s.size) (xs ++ Lib.strCells s) -> w.grownBy w' v.ownBlock -> (∀ g, v'.ownBlock = some g -> v.ownBlock = some g \/ w.heap.size <= g) -> (∀ j x, w.shape? j = some x -> w'.shape? j = some x) -> wpList P ops Q rest (a.put o.dst v') w') : wpList P ops Q (o :: rest) a w := by
 refine wpList_plain hgd fun K hK => ?_
 obtain ⟨v', w', hr, h2, h3, h4, h5⟩ := P9 (P := P) (ty := o.type) ht hu hi hz hsize hby hown hbytes
 unfold Oper.wp execOp
 simp only [ho, resolve, invoke, builtin, Sem.run_bind, Sem.run_pure, Result.andThen_ok, List.map_toArray, List.map_cons, List.map_nil, hs, hx, hr]
 exact hK _ _ (h v' w' h2 h3 h4 h5)
def Ao (n : Int) : ByteArray := ⟨(Lib.itoa n).toArray⟩
theorem I5 {a b : ByteArray} (h : a.data.toList = b.data.toList) : a = b := by
 cases a;cases b
 simp only [ByteArray.mk.injEq]
 exact Array.ext' h
theorem Hq (a b : ByteArray) : (a ++ b).data.toList = a.data.toList ++ b.data.toList := by simp [ByteArray.data_append]
theorem Sf {m : Nat} (h : ¬ m < 10) : Lib.decDigits m = Lib.decDigits (m / 10) ++ [UInt8.ofNat (48 + m % 10)] := by
 rw [Lib.decDigits, dif_neg h]
theorem A2p {n : Int} (h : 10 <= n) : Ao (n.tdiv 10) ++ ⟨#[UInt8.ofNat (48 + n.tmod 10).toNat]⟩ = Ao n := by
 obtain ⟨m, rfl⟩ : ∃ m : Nat, n = m := ⟨n.toNat, by omega⟩
 apply I5
 rw [Hq]
 have h1 : ((m : Int).tdiv 10) = ((m / 10 : Nat) : Int) := by
  rw [Int.tdiv_eq_ediv_of_nonneg (by omega)];omega
 have h2 : ((m : Int).tmod 10) = ((m % 10 : Nat) : Int) := by
  rw [Int.tmod_eq_emod_of_nonneg (by omega)];omega
 rw [h1, h2]
 simp only [Ao, Lib.itoa]
 rw [if_neg (by omega), if_neg (by omega), Int.toNat_natCast, Int.toNat_natCast, Sf (m := m) (by omega), show (48 + ((m % 10 : Nat) : Int)).toNat = 48 + m % 10 by omega]
theorem Wy {n : Int} (h0 : 0 <= n) (h : n < 10) : (⟨#[UInt8.ofNat (48 + n.tmod 10).toNat]⟩ : ByteArray) = Ao n := by
 obtain ⟨m, rfl⟩ : ∃ m : Nat, n = m := ⟨n.toNat, by omega⟩
 apply I5
 have h2 : ((m : Int).tmod 10) = ((m : Nat) : Int) := by
  rw [Int.tmod_eq_emod_of_nonneg (by omega)];omega
 rw [h2]
 simp only [Ao, Lib.itoa]
 rw [if_neg (by omega), Int.toNat_natCast, Lib.decDigits_one (by omega)]
 congr 1
theorem Ze {n : Int} (h0 : n < 0) (h : -10 < n) : (⟨#[45]⟩ : ByteArray) ++ ⟨#[UInt8.ofNat (48 - n).toNat]⟩ = Ao n := by
 obtain ⟨m, rfl⟩ : ∃ m : Nat, n = -(m : Int) := ⟨n.natAbs, by omega⟩
 apply I5
 rw [Hq]
 simp only [Ao, Lib.itoa]
 rw [if_pos (by omega), show (-(m : Int)).natAbs = m by omega, Lib.decDigits_one (by omega), show (48 - -(m : Int)).toNat = 48 + m by omega]
 rfl
theorem A2o {n : Int} (h : n <= -10) : Ao (n.tdiv 10) ++ ⟨#[UInt8.ofNat (48 - n.tmod 10).toNat]⟩ = Ao n := by
 obtain ⟨m, rfl⟩ : ∃ m : Nat, n = -(m : Int) := ⟨n.natAbs, by omega⟩
 apply I5
 rw [Hq]
 have h1 : ((-(m : Int)).tdiv 10) = -((m / 10 : Nat) : Int) := by
  rw [Int.neg_tdiv, Int.tdiv_eq_ediv_of_nonneg (by omega)];omega
 have h2 : ((-(m : Int)).tmod 10) = -((m % 10 : Nat) : Int) := by
  rw [Int.neg_tmod, Int.tmod_eq_emod_of_nonneg (by omega)];omega
 rw [h1, h2]
 simp only [Ao, Lib.itoa]
 rw [if_pos (by omega), if_pos (by omega), show (-(m : Int)).natAbs = m by omega, show (-((m / 10 : Nat) : Int)).natAbs = m / 10 by omega, Sf (m := m) (by omega), show (48 - -((m % 10 : Nat) : Int)).toNat = 48 + m % 10 by omega]
 simp
theorem Cr {n : Int} (h0 : -9223372036854775808 <= n) (h1 : n <= 9223372036854775807) : (Ao n).size <= 21 := by
 have h : (Ao n).size = (Lib.itoa n).length := by simp [Ao, ByteArray.size]
 rw [h]
 exact Lib.itoa_length_le n h0 h1
theorem Ni (x : UInt8) : (⟨#[x]⟩ : ByteArray).size = 1 := rfl
theorem Qh (n : Int) (h0 : -9223372036854775808 <= n) (h1 : n <= 9223372036854775807) (h2 : -10 < n) (h3 : n < 10) : Fn0 Tryz.prog 47 [.i n] (.val (.string (Ao n))) := by
 by_cases hn : n < 0
 ·have hg : n > -10 := h2
  have hw : IntKind.i32.wrap (48 - n) = 48 - n := by simp [IntKind.wrap, IntKind.signed, IntKind.bits];omega
  refine Fn0.of Tryz.func47 Tryz.ntmps47 rfl rfl rfl ?_
  simp only [A0]
  repeat' (first | refine W ?_|refine Za ?_|(apply S.conv;exact rfl;exact hw;exact rfl)|(apply S.convStr;exact rfl;(constructor <;> omega);exact rfl)|(apply S.strAdd;(iterate 3 exact rfl);(simp only [Ni];omega)) | refine V ?_|(refine W2 ?_ ?_ <;> intro hc))
  all_goals exact A5 (by simp) Tryz.results47 rfl (by rw [Ze hn h2])
 ·have hr : n.tmod 10 = n := by rw [Int.tmod_eq_emod_of_nonneg (by omega)];omega
  have hb : ¬ n >= 10 := by omega
  have hw : IntKind.i32.wrap (48 + n.tmod 10) = 48 + n.tmod 10 := by rw [hr];simp [IntKind.wrap, IntKind.signed, IntKind.bits];omega
  refine Fn0.of Tryz.func47 Tryz.ntmps47 rfl rfl rfl ?_
  simp only [A0]
  repeat' (first | refine W ?_|refine Za ?_|(apply S.remT;(iterate 3 exact rfl);omega)|(apply S.conv;exact rfl;exact hw;exact rfl)|(apply S.convStr;exact rfl;(rw [hr];constructor <;> omega);exact rfl) | refine V ?_|(refine W2 ?_ ?_ <;> intro hc))
  all_goals exact A5 (by simp) Tryz.results47 rfl (by rw [Wy (by omega) h3])
theorem A46 (n : Int) (h0 : -9223372036854775808 <= n) (h1 : n <= 9223372036854775807) (hs : ¬ (-10 < n /\ n < 10)) (ih : Fn0 Tryz.prog 47 [.i (n.tdiv 10)] (.val (.string (Ao (n.tdiv 10))))) (hsz : (Ao (n.tdiv 10)).size <= 21) (hq : -9223372036854775808 <= n.tdiv 10 /\ n.tdiv 10 <= 9223372036854775807) : Fn0 Tryz.prog 47 [.i n] (.val (.string (Ao n))) := by
 have hwq : IntKind.i64.wrap (n.tdiv 10) = n.tdiv 10 := by rw [IntKind.wrap_i64];omega
 by_cases hn : n < 0
 ·have hg : ¬ n > -10 := by omega
  have hr : -9 <= n.tmod 10 /\ n.tmod 10 <= 0 := by
   obtain ⟨m, rfl⟩ : ∃ m : Nat, n = -(m : Int) := ⟨n.natAbs, by omega⟩
   rw [Int.neg_tmod, Int.tmod_eq_emod_of_nonneg (by omega)];omega
  have hw : IntKind.i32.wrap (48 - n.tmod 10) = 48 - n.tmod 10 := by simp [IntKind.wrap, IntKind.signed, IntKind.bits];omega
  refine Fn0.of Tryz.func47 Tryz.ntmps47 rfl rfl rfl ?_
  simp only [A0]
  repeat' (first | refine W ?_|refine Zc ih ?_|refine Za ?_|(apply S.remT;(iterate 3 exact rfl);omega)|(apply S.quoT;(iterate 3 exact rfl);omega;exact hwq)|(apply S.conv;exact rfl;exact hw;exact rfl)|(apply S.convStr;exact rfl;(constructor <;> omega);exact rfl)|(apply S.strAdd;(iterate 3 exact rfl);(simp only [Ni];omega)) | refine V ?_|(refine W2 ?_ ?_ <;> intro hc))
  all_goals exact A5 (by simp) Tryz.results47 rfl (by rw [A2o (by omega)])
 ·have hg : n >= 10 := by omega
  have hr : 0 <= n.tmod 10 /\ n.tmod 10 <= 9 := by
   rw [Int.tmod_eq_emod_of_nonneg (by omega)];omega
  have hw : IntKind.i32.wrap (48 + n.tmod 10) = 48 + n.tmod 10 := by simp [IntKind.wrap, IntKind.signed, IntKind.bits];omega
  refine Fn0.of Tryz.func47 Tryz.ntmps47 rfl rfl rfl ?_
  simp only [A0]
  repeat' (first | refine W ?_|refine Zc ih ?_|refine Za ?_|(apply S.remT;(iterate 3 exact rfl);omega)|(apply S.quoT;(iterate 3 exact rfl);omega;exact hwq)|(apply S.conv;exact rfl;exact hw;exact rfl)|(apply S.convStr;exact rfl;(constructor <;> omega);exact rfl)|(apply S.strAdd;(iterate 3 exact rfl);(simp only [Ni];omega)) | refine V ?_|(refine W2 ?_ ?_ <;> intro hc))
  all_goals exact A5 (by simp) Tryz.results47 rfl (by rw [A2p (by omega)])
theorem Mn : ∀ (k : Nat) (n : Int), n.natAbs <= k -> -9223372036854775808 <= n -> n <= 9223372036854775807 -> Fn0 Tryz.prog 47 [.i n] (.val (.string (Ao n)))
 | 0, n, hk, h0, h1 => Qh n h0 h1 (by omega) (by omega)
 | k + 1, n, hk, h0, h1 => by
  by_cases hs : -10 < n /\ n < 10
  ·exact Qh n h0 h1 hs.1 hs.2
  ·have hq : (n.tdiv 10).natAbs <= k /\ -9223372036854775808 <= n.tdiv 10 /\ n.tdiv 10 <= 9223372036854775807 := by
    rcases (by omega : n < 0 \/ 0 <= n) with hn | hn
    ·obtain ⟨m, rfl⟩ : ∃ m : Nat, n = -(m : Int) := ⟨n.natAbs, by omega⟩
     have h1 : ((-(m : Int)).tdiv 10) = -((m / 10 : Nat) : Int) := by
      rw [Int.neg_tdiv, Int.tdiv_eq_ediv_of_nonneg (by omega)];omega
     rw [h1];omega
    ·rw [Int.tdiv_eq_ediv_of_nonneg hn];omega
   have ih := Mn k (n.tdiv 10) hq.1 hq.2.1 hq.2.2
   have hsz := Cr hq.2.1 hq.2.2
   exact A46 n h0 h1 hs ih hsz hq.2
theorem V8 (n : Int) (h0 : -9223372036854775808 <= n) (h1 : n <= 9223372036854775807) : Fn0 Tryz.prog 47 [.i n] (.val (.string (Ao n))) := Mn n.natAbs n (Nat.le_refl _) h0 h1
end Go.Proofs.YtkboebgkcjcpfaaGreatDoor
namespace Go.Proofs.YtkboebgkcjcpfaaGreatDoor
open Go.RowKit Go.Sort
theorem A03 : Tryz.prog.globalNamed "internal/strconv.uint64pow10" ≠ none := by
 have h : (Tryz.prog.globalNamed "internal/strconv.uint64pow10").isSome = true := by kernel_rfl
 intro e
 rw [e] at h
 cases h
theorem F3 (n : Int) (h0 : -9223372036854775808 <= n) (h1 : n <= 9223372036854775807) : Fn0 Tryz.prog 15 [.i n] (.val (.string (Ao n))) := by
 refine ⟨⟨_, Tryz.func15, rfl, rfl⟩, fun L w vs hG hL hl hv => ?_⟩
 match vs, hl with
 | [v], _ =>
  obtain rfl := (hv 0 (.i n) v rfl rfl).val_eq
  refine (Tryz.strconv_Itoa n h0 h1 w (hG.tab A03)).mono ?_
  rintro e w' ⟨rfl, k, os, rfl⟩
  refine ⟨_, rfl, A9 _, ?_⟩
  exact ⟨rfl, rfl, rfl, by simp [grow], fun i hi => by simp [grow, Array.getElem?_append, hi]⟩
end Go.Proofs.YtkboebgkcjcpfaaGreatDoor
namespace Go.Proofs.YtkboebgkcjcpfaaGreatDoor
open Go.RowKit
def ofL (l : List UInt8) : ByteArray := ⟨l.toArray⟩
theorem Jf (l : List UInt8) : (ofL l).data.toList = l := by simp [ofL]
theorem Jg (l : List UInt8) : (ofL l).size = l.length := by simp [ofL, ByteArray.size]
def Dm (ws : List ByteArray) : List UInt8 := Lib.join (ws.map (·.data.toList)) [32] ++ [10]
def bytesOf (L : List (List ByteArray)) : List UInt8 := (L.map Dm).flatten
def Pt (ws : List ByteArray) : Prop := ws.length <= 7 /\ ∀ w ∈ ws, w.size <= 60
theorem A4g {B : Nat} (sep : List UInt8) : ∀ (ws : List (List UInt8)), (∀ w ∈ ws, w.length <= B) -> (Lib.join ws sep).length <= ws.length * (B + sep.length)
 | [], _ => by simp [Lib.join_nil]
 | w :: ws, h => by
  have h1 := h w (by simp)
  have h2 : (Lib.joinTail sep ws).length <= ws.length * (B + sep.length) := by
   have hw : ∀ x ∈ ws, x.length <= B := fun x hx => h x (by simp [hx])
   clear h h1
   induction ws with
   | nil => simp [Lib.joinTail]
   | cons x ws ih =>
    have := ih fun y hy => hw y (by simp [hy])
    have hx := hw x (by simp)
    simp only [Lib.joinTail, List.map_cons, List.flatten_cons, List.length_append, List.length_cons] at this ⊢
    rw [Nat.succ_mul]
    omega
  rw [Lib.join_cons, List.length_append, List.length_cons, Nat.succ_mul]
  omega
theorem A4h {ws : List ByteArray} (h : Pt ws) : (Dm ws).length <= 428 := by
 have := A4g (B := 60) [32] (ws.map (·.data.toList)) fun w hw => by
  obtain ⟨x, hx, rfl⟩ := List.mem_map.1 hw
  have := h.2 x hx
  rw [Array.length_toList]
  exact this
 simp only [List.length_map, List.length_cons, List.length_nil] at this
 have h7 := h.1
 simp only [Dm, List.length_append, List.length_cons, List.length_nil]
 omega
theorem S9 : ∀ (L : List (List ByteArray)), (∀ ws ∈ L, Pt ws) -> (bytesOf L).length <= L.length * 428
 | [], _ => by simp [bytesOf]
 | ws :: L, h => by
  have h1 := A4h (h ws (by simp))
  have h2 := S9 L fun x hx => h x (by simp [hx])
  have e : bytesOf (ws :: L) = Dm ws ++ bytesOf L := rfl
  rw [e, List.length_append, List.length_cons, Nat.succ_mul]
  omega
theorem Kn (L M : List (List ByteArray)) : bytesOf (L ++ M) = bytesOf L ++ bytesOf M := by simp [bytesOf]
theorem Yk (ws : List ByteArray) : bytesOf [ws] = Dm ws := by simp [bytesOf]
theorem Wq (ws : List (List UInt8)) (h : ∀ w ∈ ws, (10 : UInt8) ∉ w) : (10 : UInt8) ∉ Lib.join ws [32] := by
 cases ws with
 | nil => simp [Lib.join_nil]
 | cons w ws =>
  rw [Lib.join_cons]
  intro hm
  rcases List.mem_append.1 hm with hm | hm
  ·exact h w (by simp) hm
  ·unfold Lib.joinTail at hm
   obtain ⟨l, hl, hm⟩ := List.mem_flatten.1 hm
   obtain ⟨x, hx, rfl⟩ := List.mem_map.1 hl
   rcases List.mem_append.1 hm with hm | hm
   ·simp at hm
   ·exact h x (by simp [hx]) hm
end Go.Proofs.YtkboebgkcjcpfaaGreatDoor
