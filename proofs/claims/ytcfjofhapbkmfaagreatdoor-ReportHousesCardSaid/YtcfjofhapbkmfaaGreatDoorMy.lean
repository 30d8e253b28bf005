/- Contracts: strings.Builder's copyCheck, WriteString, Len;strings.Join;a line of words written into a builder. Conditions: those of each statement (bounds on lengths). -/
import Derived.Test.YtcfjofhapbkmfaaGreatDoorMc
import Derived.Test.YtcfjofhapbkmfaaGreatDoorMh
import Derived.Test.YtcfjofhapbkmfaaGreatDoorMd
import Derived.WalkKit
import Derived.Lib.Walk
import Derived.Lib.Hide
import Derived.Lib.ItoaLen
import Derived.Lib.Join
import Derived.Test.YtcfjofhapbkmfaaGreatDoorMi
set_option linter.unusedSimpArgs false
set_option linter.unusedVariables false
namespace Go.Proofs.YtcfjofhapbkmfaaGreatDoor
open Go.RowKit
theorem Oz : (Tryz.prog.info? 78).map (·.size) = some 2 := by kernel_rfl
theorem Ue : (Tryz.prog.info? 5).map (fun i => (i.zero, i.size, i.bytes)) = some (some (.int .u8 0), 1, 1) := by kernel_rfl
theorem Ma : Tryz.prog.underlying 224 = some .unsafePointer := by kernel_rfl
theorem A1e : Tryz.prog.funcs[178]? = some Tryz.f178 := by kernel_rfl
set_option maxHeartbeats 2000000 in
set_option maxRecDepth 100000 in
theorem Mi (b : Nat) (w : World) (h0 : w.cell? ⟨b, 0, none⟩ = some (.pointer (some ⟨b, 0, none⟩))) :
  Calls Tryz.prog 117 #[.pointer (some ⟨b, 0, none⟩)] w fun e w' => e = .returned (.tuple #[]) /\ w' = w := by
 obtain ⟨j, hj, _⟩ := Option.map_eq_some_iff.1 Oz
 have u66 := run_underlying (P := Tryz.prog) Tryz.underlying78
 have u63 := run_underlying (P := Tryz.prog) Tryz.underlying75
 go_enter Tryz.func117, Tryz.ntmps117
 go_wp2
 rw [Lib.run_neq_ptr_same w _ Tryz.underlying75 hj]
 go_wp2
 go_end0
 exact ⟨rfl, rfl⟩
theorem Me {P : Program} {w : World} {t u ty e : TypeId} {i : TypeInfo} (ht : P.underlying t = some (.slice e)) (hu : P.underlying u = some .string) (hi : P.info? e = some i) (hz : i.zero = some (.int .u8 0)) (hsize : i.size = 1) (hby : i.bytes = 1)
  {v : Value} {n : Nat} {xs : List Value} (hown : w.ownsRowF 0 e 1 v n xs) {s : ByteArray} (hbytes : n + s.size <= 140737488355328) :
  ∃ v' w', (Builtin.append_ #[t, u] ty #[v, .string s]).run P w = .ok v' w' /\ w'.ownsRowF 0 e 1 v' (n + s.size) (xs ++ Lib.strCells s) /\ w.grownBy w' v.ownBlock /\ (∀ g, v'.ownBlock = some g -> v.ownBlock = some g \/ w.heap.size <= g) /\ ∀ j x, w.shape? j = some x -> w'.shape? j = some x := by
 have h63 : n + s.size <= maxLen := by simp only [maxLen];omega
 rcases hown.2 with ⟨rfl, rfl⟩ | ⟨g, cap, cur, fz, rfl, hbg, hg, hfz, hnc, hcm, hcs, htake⟩
 ·obtain ⟨v', w', h1, h2, h3, _⟩ := Lib.run_append_own_stringF (P := P) w w.heap.size t u ty e i ht hu hi hz hsize hby (.slice none 0 0) 0 xs ⟨hown.1, .inl ⟨rfl, rfl⟩⟩ s h63 hbytes (Nat.le_refl _)
  refine ⟨v', w', h1, ⟨h2.1, ?_⟩, h3, fun g hg => ?_, fun j x hx => by rw [Al (h3.block j (Ca hx) (by simp [Value.ownBlock]))];exact hx⟩
  ·rcases h2.2 with hh | ⟨g, cap, cur, fz, e1, e2, e3⟩
   ·exact .inl hh
   ·exact .inr ⟨g, cap, cur, fz, e1, Nat.zero_le _, e3⟩
  ·rcases h2.2 with ⟨rfl, _⟩ | ⟨g', cap, cur, fz, rfl, e2, e3⟩
   ·simp [Value.ownBlock] at hg
   ·simp only [Value.ownBlock, Option.some.injEq] at hg
    subst hg
    exact .inr e2
 ·obtain ⟨v', w', h1, h2, h3, _⟩ := Lib.run_append_own_stringF (P := P) w 0 t u ty e i ht hu hi hz hsize hby _ n xs hown s h63 hbytes (Nat.zero_le _)
  have hxl : xs.length = n := by simpa using hown.1
  by_cases hroom : n + s.size <= cap
  ·have hcs' : cur.size = cap := by simpa using hcs
   have hr := Lib.run_append_room_stringF (P := P) w t u ty e i ht hu hi hsize g n cap cur fz hg (by simpa using hfz) s hroom (by omega)
   rw [hr] at h1
   simp only [Result.ok.injEq] at h1
   obtain ⟨rfl, rfl⟩ := h1
   refine ⟨_, _, hr, h2, h3, fun g' hg' => .inl hg', fun j x hx => ?_⟩
   by_cases hj : j = g
   ·subst hj
    rw [Dg hg] at hx
    rw [Dg (setRow_heap w j cur _ e _ hg), <- hx]
    congr 2
    simp only [List.size_toArray, List.length_append, List.length_take, List.length_drop, Array.length_toList, Lib.strCells_length]
    omega
   ·rw [Al (setRow_other w g j _ hj)]
    exact hx
  ·have holds : ∀ j u, xs[j]? = some u -> w.cell? ((⟨g, 0, none⟩ : Addr).add j) = some u := hown.cells (g := g) rfl
   have hr := Lib.run_append_grow_string (P := P) w t u ty e i (.int .u8 0) ht hu hi hz ⟨g, 0, none⟩ n cap xs (by rw [hsize];simpa using hxl) holds s (by omega) (by omega) (by rw [hby];exact growslice_fits (by omega) (by omega))
   rw [hr] at h1
   simp only [Result.ok.injEq] at h1
   obtain ⟨rfl, rfl⟩ := h1
   refine ⟨_, _, hr, h2, h3, fun g' hg' => ?_, fun j x hx => by rw [Al (Aj w.drew _ (Ca hx))];exact hx⟩
   simp only [Value.ownBlock, Option.some.injEq] at hg'
   subst hg'
   exact .inr (Nat.le_refl _)
theorem Jb {P : Program} {w : World} {ops : Array Oper} {rest : List Oper} {o : Oper} {a : Act} {Q : Exit -> Act -> World -> Prop} (hgd : o.guard = none) (sl x : Operand) (t u : TypeId)
  (ho : o.op = .call { callee := .builtin .append, args := #[sl, x], argTypes := #[t, u] }) {e : TypeId} {i : TypeInfo} (ht : P.underlying t = some (.slice e)) (hu : P.underlying u = some .string) (hi : P.info? e = some i) (hz : i.zero = some (.int .u8 0)) (hsize : i.size = 1) (hby : i.bytes = 1)
  {v : Value} {n : Nat} {xs : List Value} (hs : a.eval sl = v) (hown : w.ownsRowF 0 e 1 v n xs) {s : ByteArray} (hx : a.eval x = .string s) (hbytes : n + s.size <= 140737488355328)
  (h : ∀ v' w', w'.ownsRowF 0 e 1 v' (n + s.size) (xs ++ Lib.strCells s) -> w.grownBy w' v.ownBlock -> (∀ g, v'.ownBlock = some g -> v.ownBlock = some g \/ w.heap.size <= g) -> (∀ j x, w.shape? j = some x -> w'.shape? j = some x) -> wpList P ops Q rest (a.put o.dst v') w') : wpList P ops Q (o :: rest) a w := by
 refine wpList_plain hgd fun K hK => ?_
 obtain ⟨v', w', hr, h2, h3, h4, h5⟩ := Me (P := P) (ty := o.type) ht hu hi hz hsize hby hown hbytes
 unfold Oper.wp execOp
 simp only [ho, resolve, invoke, builtin, Sem.run_bind, Sem.run_pure, Result.andThen_ok, List.map_toArray, List.map_cons, List.map_nil, hs, hx, hr]
 exact hK _ _ (h v' w' h2 h3 h4 h5)
def Af (n : Int) : ByteArray := ⟨(Lib.itoa n).toArray⟩
theorem Ei {a b : ByteArray} (h : a.data.toList = b.data.toList) : a = b := by
 cases a;cases b
 simp only [ByteArray.mk.injEq]
 exact Array.ext' h
theorem Ce (a b : ByteArray) : (a ++ b).data.toList = a.data.toList ++ b.data.toList := by simp [ByteArray.data_append]
theorem Kd {m : Nat} (h : ¬ m < 10) : Lib.decDigits m = Lib.decDigits (m / 10) ++ [UInt8.ofNat (48 + m % 10)] := by
 rw [Lib.decDigits, dif_neg h]
theorem Xs {n : Int} (h : 10 <= n) : Af (n.tdiv 10) ++ ⟨#[UInt8.ofNat (48 + n.tmod 10).toNat]⟩ = Af n := by
 obtain ⟨m, rfl⟩ : ∃ m : Nat, n = m := ⟨n.toNat, by omega⟩
 apply Ei
 rw [Ce]
 have h1 : ((m : Int).tdiv 10) = ((m / 10 : Nat) : Int) := by
  rw [Int.tdiv_eq_ediv_of_nonneg (by omega)];omega
 have h2 : ((m : Int).tmod 10) = ((m % 10 : Nat) : Int) := by
  rw [Int.tmod_eq_emod_of_nonneg (by omega)];omega
 rw [h1, h2]
 simp only [Af, Lib.itoa]
 rw [if_neg (by omega), if_neg (by omega), Int.toNat_natCast, Int.toNat_natCast, Kd (m := m) (by omega), show (48 + ((m % 10 : Nat) : Int)).toNat = 48 + m % 10 by omega]
theorem Sv {n : Int} (h0 : 0 <= n) (h : n < 10) : (⟨#[UInt8.ofNat (48 + n.tmod 10).toNat]⟩ : ByteArray) = Af n := by
 obtain ⟨m, rfl⟩ : ∃ m : Nat, n = m := ⟨n.toNat, by omega⟩
 apply Ei
 have h2 : ((m : Int).tmod 10) = ((m : Nat) : Int) := by
  rw [Int.tmod_eq_emod_of_nonneg (by omega)];omega
 rw [h2]
 simp only [Af, Lib.itoa]
 rw [if_neg (by omega), Int.toNat_natCast, Lib.decDigits_one (by omega)]
 congr 1
theorem Uy {n : Int} (h0 : n < 0) (h : -10 < n) : (⟨#[45]⟩ : ByteArray) ++ ⟨#[UInt8.ofNat (48 - n).toNat]⟩ = Af n := by
 obtain ⟨m, rfl⟩ : ∃ m : Nat, n = -(m : Int) := ⟨n.natAbs, by omega⟩
 apply Ei
 rw [Ce]
 simp only [Af, Lib.itoa]
 rw [if_pos (by omega), show (-(m : Int)).natAbs = m by omega, Lib.decDigits_one (by omega), show (48 - -(m : Int)).toNat = 48 + m by omega]
 rfl
theorem Xr {n : Int} (h : n <= -10) : Af (n.tdiv 10) ++ ⟨#[UInt8.ofNat (48 - n.tmod 10).toNat]⟩ = Af n := by
 obtain ⟨m, rfl⟩ : ∃ m : Nat, n = -(m : Int) := ⟨n.natAbs, by omega⟩
 apply Ei
 rw [Ce]
 have h1 : ((-(m : Int)).tdiv 10) = -((m / 10 : Nat) : Int) := by
  rw [Int.neg_tdiv, Int.tdiv_eq_ediv_of_nonneg (by omega)];omega
 have h2 : ((-(m : Int)).tmod 10) = -((m % 10 : Nat) : Int) := by
  rw [Int.neg_tmod, Int.tmod_eq_emod_of_nonneg (by omega)];omega
 rw [h1, h2]
 simp only [Af, Lib.itoa]
 rw [if_pos (by omega), if_pos (by omega), show (-(m : Int)).natAbs = m by omega, show (-((m / 10 : Nat) : Int)).natAbs = m / 10 by omega, Kd (m := m) (by omega), show (48 - -((m % 10 : Nat) : Int)).toNat = 48 + m % 10 by omega]
 simp
theorem Ar {n : Int} (h0 : -9223372036854775808 <= n) (h1 : n <= 9223372036854775807) : (Af n).size <= 21 := by
 have h : (Af n).size = (Lib.itoa n).length := by simp [Af, ByteArray.size]
 rw [h]
 exact Lib.itoa_length_le n h0 h1
theorem Km (x : UInt8) : (⟨#[x]⟩ : ByteArray).size = 1 := rfl
theorem Ng (n : Int) (h0 : -9223372036854775808 <= n) (h1 : n <= 9223372036854775807) (h2 : -10 < n) (h3 : n < 10) : Fn0 Tryz.prog 76 [.i n] (.val (.string (Af n))) := by
 by_cases hn : n < 0
 ·have hg : n > -10 := h2
  have hw : IntKind.i32.wrap (48 - n) = 48 - n := by simp [IntKind.wrap, IntKind.signed, IntKind.bits];omega
  refine Fn0.of Tryz.func76 Tryz.ntmps76 rfl rfl rfl ?_
  simp only [A0]
  repeat' (first | refine W ?_|refine Za ?_|(apply S.conv;exact rfl;exact hw;exact rfl)|(apply S.convStr;exact rfl;(constructor <;> omega);exact rfl)|(apply S.strAdd;(iterate 3 exact rfl);(simp only [Km];omega)) | refine V ?_|(refine W2 ?_ ?_ <;> intro hc))
  all_goals exact A7 (by simp) Tryz.results76 rfl (by rw [Uy hn h2])
 ·have hr : n.tmod 10 = n := by rw [Int.tmod_eq_emod_of_nonneg (by omega)];omega
  have hb : ¬ n >= 10 := by omega
  have hw : IntKind.i32.wrap (48 + n.tmod 10) = 48 + n.tmod 10 := by rw [hr];simp [IntKind.wrap, IntKind.signed, IntKind.bits];omega
  refine Fn0.of Tryz.func76 Tryz.ntmps76 rfl rfl rfl ?_
  simp only [A0]
  repeat' (first | refine W ?_|refine Za ?_|(apply S.remT;(iterate 3 exact rfl);omega)|(apply S.conv;exact rfl;exact hw;exact rfl)|(apply S.convStr;exact rfl;(rw [hr];constructor <;> omega);exact rfl) | refine V ?_|(refine W2 ?_ ?_ <;> intro hc))
  all_goals exact A7 (by simp) Tryz.results76 rfl (by rw [Sv (by omega) h3])
theorem Z2 (n : Int) (h0 : -9223372036854775808 <= n) (h1 : n <= 9223372036854775807) (hs : ¬ (-10 < n /\ n < 10)) (ih : Fn0 Tryz.prog 76 [.i (n.tdiv 10)] (.val (.string (Af (n.tdiv 10))))) (hsz : (Af (n.tdiv 10)).size <= 21) (hq : -9223372036854775808 <= n.tdiv 10 /\ n.tdiv 10 <= 9223372036854775807) : Fn0 Tryz.prog 76 [.i n] (.val (.string (Af n))) := by
 have hwq : IntKind.i64.wrap (n.tdiv 10) = n.tdiv 10 := by rw [IntKind.wrap_i64];omega
 by_cases hn : n < 0
 ·have hg : ¬ n > -10 := by omega
  have hr : -9 <= n.tmod 10 /\ n.tmod 10 <= 0 := by
   obtain ⟨m, rfl⟩ : ∃ m : Nat, n = -(m : Int) := ⟨n.natAbs, by omega⟩
   rw [Int.neg_tmod, Int.tmod_eq_emod_of_nonneg (by omega)];omega
  have hw : IntKind.i32.wrap (48 - n.tmod 10) = 48 - n.tmod 10 := by simp [IntKind.wrap, IntKind.signed, IntKind.bits];omega
  refine Fn0.of Tryz.func76 Tryz.ntmps76 rfl rfl rfl ?_
  simp only [A0]
  repeat' (first | refine W ?_|refine Zc ih ?_|refine Za ?_|(apply S.remT;(iterate 3 exact rfl);omega)|(apply S.quoT;(iterate 3 exact rfl);omega;exact hwq)|(apply S.conv;exact rfl;exact hw;exact rfl)|(apply S.convStr;exact rfl;(constructor <;> omega);exact rfl)|(apply S.strAdd;(iterate 3 exact rfl);(simp only [Km];omega)) | refine V ?_|(refine W2 ?_ ?_ <;> intro hc))
  all_goals exact A7 (by simp) Tryz.results76 rfl (by rw [Xr (by omega)])
 ·have hg : n >= 10 := by omega
  have hr : 0 <= n.tmod 10 /\ n.tmod 10 <= 9 := by
   rw [Int.tmod_eq_emod_of_nonneg (by omega)];omega
  have hw : IntKind.i32.wrap (48 + n.tmod 10) = 48 + n.tmod 10 := by simp [IntKind.wrap, IntKind.signed, IntKind.bits];omega
  refine Fn0.of Tryz.func76 Tryz.ntmps76 rfl rfl rfl ?_
  simp only [A0]
  repeat' (first | refine W ?_|refine Zc ih ?_|refine Za ?_|(apply S.remT;(iterate 3 exact rfl);omega)|(apply S.quoT;(iterate 3 exact rfl);omega;exact hwq)|(apply S.conv;exact rfl;exact hw;exact rfl)|(apply S.convStr;exact rfl;(constructor <;> omega);exact rfl)|(apply S.strAdd;(iterate 3 exact rfl);(simp only [Km];omega)) | refine V ?_|(refine W2 ?_ ?_ <;> intro hc))
  all_goals exact A7 (by simp) Tryz.results76 rfl (by rw [Xs (by omega)])
theorem Jj : ∀ (k : Nat) (n : Int), n.natAbs <= k -> -9223372036854775808 <= n -> n <= 9223372036854775807 -> Fn0 Tryz.prog 76 [.i n] (.val (.string (Af n)))
 | 0, n, hk, h0, h1 => Ng n h0 h1 (by omega) (by omega)
 | k + 1, n, hk, h0, h1 => by
  by_cases hs : -10 < n /\ n < 10
  ·exact Ng n h0 h1 hs.1 hs.2
  ·have hq : (n.tdiv 10).natAbs <= k /\ -9223372036854775808 <= n.tdiv 10 /\ n.tdiv 10 <= 9223372036854775807 := by
    rcases (by omega : n < 0 \/ 0 <= n) with hn | hn
    ·obtain ⟨m, rfl⟩ : ∃ m : Nat, n = -(m : Int) := ⟨n.natAbs, by omega⟩
     have h1 : ((-(m : Int)).tdiv 10) = -((m / 10 : Nat) : Int) := by
      rw [Int.neg_tdiv, Int.tdiv_eq_ediv_of_nonneg (by omega)];omega
     rw [h1];omega
    ·rw [Int.tdiv_eq_ediv_of_nonneg hn];omega
   have ih := Jj k (n.tdiv 10) hq.1 hq.2.1 hq.2.2
   have hsz := Ar hq.2.1 hq.2.2
   exact Z2 n h0 h1 hs ih hsz hq.2
theorem R7 (n : Int) (h0 : -9223372036854775808 <= n) (h1 : n <= 9223372036854775807) : Fn0 Tryz.prog 76 [.i n] (.val (.string (Af n))) := Jj n.natAbs n (Nat.le_refl _) h0 h1
end Go.Proofs.YtcfjofhapbkmfaaGreatDoor
namespace Go.Proofs.YtcfjofhapbkmfaaGreatDoor
open Go.RowKit Go.Sort
theorem Vk : Tryz.prog.globalNamed "internal/strconv.uint64pow10" ≠ none := by
 have h : (Tryz.prog.globalNamed "internal/strconv.uint64pow10").isSome = true := by kernel_rfl
 intro e
 rw [e] at h
 cases h
theorem Dh (n : Int) (h0 : -9223372036854775808 <= n) (h1 : n <= 9223372036854775807) : Fn0 Tryz.prog 23 [.i n] (.val (.string (Af n))) := by
 refine ⟨⟨_, Tryz.func23, rfl, rfl⟩, fun L w vs hG hL hl hv => ?_⟩
 match vs, hl with
 | [v], _ =>
  obtain rfl := (hv 0 (.i n) v rfl rfl).val_eq
  refine (Tryz.strconv_Itoa n h0 h1 w (hG.tab Vk)).mono ?_
  rintro e w' ⟨rfl, k, os, rfl⟩
  refine ⟨_, rfl, A9 _, ?_⟩
  exact ⟨rfl, rfl, rfl, by simp [grow], fun i hi => by simp [grow, Array.getElem?_append, hi]⟩
end Go.Proofs.YtcfjofhapbkmfaaGreatDoor
namespace Go.Proofs.YtcfjofhapbkmfaaGreatDoor
open Go.RowKit
def ofL (l : List UInt8) : ByteArray := ⟨l.toArray⟩
theorem Hk (l : List UInt8) : (ofL l).data.toList = l := by simp [ofL]
theorem Pw (l : List UInt8) : (ofL l).size = l.length := by simp [ofL, ByteArray.size]
def Bu (ws : List ByteArray) : List UInt8 := Lib.join (ws.map (·.data.toList)) [32] ++ [10]
def bytesOf (L : List (List ByteArray)) : List UInt8 := (L.map Bu).flatten
theorem Rs {B : Nat} (sep : List UInt8) : ∀ (ws : List (List UInt8)), (∀ w ∈ ws, w.length <= B) -> (Lib.join ws sep).length <= ws.length * (B + sep.length)
 | [], _ => by simp [Lib.join_nil]
 | w :: ws, h => by
  have h1 := h w (by simp)
  have h2 : (Lib.joinTail sep ws).length <= ws.length * (B + sep.length) := by
   have hw : ∀ x ∈ ws, x.length <= B := fun x hx => h x (by simp [hx])
   clear h h1
   induction ws with
   | nil => simp [Lib.joinTail]
   | cons x ws ih =>
    have := ih fun y hy => hw y (by simp [hy])
    have hx := hw x (by simp)
    simp only [Lib.joinTail, List.map_cons, List.flatten_cons, List.length_append, List.length_cons] at this ⊢
    rw [Nat.succ_mul]
    omega
  rw [Lib.join_cons, List.length_append, List.length_cons, Nat.succ_mul]
  omega
theorem Fs (L M : List (List ByteArray)) : bytesOf (L ++ M) = bytesOf L ++ bytesOf M := by simp [bytesOf]
theorem Nb (ws : List ByteArray) : bytesOf [ws] = Bu ws := by simp [bytesOf]
end Go.Proofs.YtcfjofhapbkmfaaGreatDoor
