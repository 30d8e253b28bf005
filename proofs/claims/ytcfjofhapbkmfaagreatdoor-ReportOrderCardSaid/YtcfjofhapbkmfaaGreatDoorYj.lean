/- Plain laws: a list put into order by insertion from the right. No conditions but those of each statement. -/
import Derived.Test.YtcfjofhapbkmfaaGreatDoorMa
import Derived.Test.YtcfjofhapbkmfaaGreatDoorPd
import Derived.Test.YtcfjofhapbkmfaaGreatDoorYa
import Derived.Test.YtcfjofhapbkmfaaGreatDoorYf
import Derived.Test.YtcfjofhapbkmfaaGreatDoorMm
set_option linter.unusedSimpArgs false
set_option linter.unusedVariables false
namespace Go.Proofs.YtcfjofhapbkmfaaGreatDoor
def Ck (key : Nat -> Int) (e : Nat) : List Nat -> List Nat
 | [] => [e]
 | a :: r => if key e < key a then a :: Ck key e r else e :: a :: r
def An (key : Nat -> Int) : Nat -> List Nat
 | 0 => []
 | n + 1 => (Ck key n (An key n).reverse).reverse
theorem Mh {key : Nat -> Int} {e x : Nat} : ∀ {l : List Nat}, x ∈ Ck key e l ↔ x = e \/ x ∈ l
 | [] => by simp [Ck]
 | a :: r => by
  unfold Ck
  split
  ·rw [List.mem_cons, Mh (l := r), List.mem_cons]
   constructor
   ·rintro (h | h | h) <;> simp [h]
   ·rintro (h | h | h) <;> simp [h]
  ·simp
theorem Mg {key : Nat -> Int} {e : Nat} : ∀ (l : List Nat), (Ck key e l).length = l.length + 1
 | [] => rfl
 | a :: r => by
  unfold Ck
  split
  ·rw [List.length_cons, Mg r, List.length_cons]
  ·rfl
theorem Bd (key : Nat -> Int) : ∀ n, (An key n).length = n
 | 0 => rfl
 | n + 1 => by rw [An, List.length_reverse, Mg, List.length_reverse, Bd key n]
theorem ordP_mem {key : Nat -> Int} {x : Nat} : ∀ {n : Nat}, x ∈ An key n ↔ x < n
 | 0 => by simp [An]
 | n + 1 => by
  rw [An, List.mem_reverse, Mh, List.mem_reverse, ordP_mem (n := n)]
  omega
def Bl (n i : Nat) : List Nat := (List.range n).drop i
theorem Jt {n i : Nat} (h : i < n) : Bl n i = i :: Bl n (i + 1) := by
 unfold Bl
 rw [List.drop_eq_getElem_cons (by simpa using h)]
 simp
theorem S8 (n : Nat) : Bl n n = [] := by unfold Bl;simp
def iN (l : List Nat) : List Int := l.map fun x : Nat => (x : Int)
theorem Mc (l : List Nat) : (iN l).length = l.length := List.length_map _
theorem Uo (key : Nat -> Int) {n : Nat} (h : 0 < n) : An key 1 ++ Bl n 1 = List.range n := by
 have h0 : Bl n 0 = List.range n := rfl
 rw [<- h0, Jt h]
 rfl
theorem Ug (r : List Nat) (a i : Nat) (T : List Nat) : (iN ((a :: r).reverse ++ i :: T))[r.length + 1]? = some (i : Int) := by
 unfold iN
 rw [List.getElem?_map, List.getElem?_append_right (by simp)]
 simp
theorem Uf (r : List Nat) (a i : Nat) (T : List Nat) : (iN ((a :: r).reverse ++ i :: T))[r.length]? = some (a : Int) := by
 unfold iN
 rw [List.getElem?_map, List.getElem?_append_left (by simp), List.reverse_cons, List.getElem?_append_right (by simp)]
 simp
theorem T4 (r : List Nat) (a i : Nat) (T : List Nat) : ((iN ((a :: r).reverse ++ i :: T)).set (r.length + 1) (a : Int)).set r.length (i : Int) = iN (r.reverse ++ i :: (a :: T)) := by
 apply List.ext_getElem?
 intro k
 rw [List.getElem?_set, List.getElem?_set]
 unfold iN
 simp only [List.length_set, List.length_map, List.length_append, List.length_reverse, List.length_cons, List.getElem?_map]
 by_cases h1 : r.length = k
 ·subst h1
  rw [if_pos rfl, if_pos (by omega), List.getElem?_append_right (by simp)]
  simp
 ·rw [if_neg h1]
  by_cases h2 : r.length + 1 = k
  ·subst h2
   rw [if_pos rfl, if_pos (by omega), List.getElem?_append_right (by simp)]
   simp
  ·rw [if_neg h2]
   rcases Nat.lt_or_ge k r.length with h3 | h3
   ·rw [List.getElem?_append_left (by simp;omega), List.getElem?_append_left (by simp;omega), List.reverse_cons, List.getElem?_append_left (by simp;omega)]
   ·rw [List.getElem?_append_right (by simp;omega), List.getElem?_append_right (by simp;omega)]
    simp only [List.length_reverse, List.length_cons]
    obtain ⟨m, rfl⟩ : ∃ m, k = r.length + 2 + m := ⟨k - (r.length + 2), by omega⟩
    rw [show r.length + 2 + m - (r.length + 1) = m + 1 by omega, show r.length + 2 + m - r.length = m + 2 by omega]
    simp
structure InsS where
 A : List Nat
 B : List Nat
end Go.Proofs.YtcfjofhapbkmfaaGreatDoor
namespace Go.Proofs.YtcfjofhapbkmfaaGreatDoor
open Go Go.RowKit
def Eu (ws : List ByteArray) : Prop := ws ≠ [] /\ ∀ w ∈ ws, (32 : UInt8) ∉ w.data.toList /\ (10 : UInt8) ∉ w.data.toList
theorem M4 : ∀ {a b : List ByteArray}, a.map (·.data.toList) = b.map (·.data.toList) -> a = b
 | [], [], _ => rfl
 | [], _ :: _, h => by simp at h
 | _ :: _, [], h => by simp at h
 | x :: a, y :: b, h => by
  simp only [List.map_cons, List.cons.injEq] at h
  rw [V5 h.1, M4 h.2]
theorem Q8 {ws : List ByteArray} (h : Eu ws) (t : List UInt8) : Lib.cut (By ws ++ t) [10] = (Lib.join (ws.map (·.data.toList)) [32], t, true) := by
 unfold By
 rw [List.append_assoc]
 refine U7 (P2 _ fun w hw => ?_)
 obtain ⟨x, hx, rfl⟩ := List.mem_map.1 hw
 exact (h.2 x hx).2
theorem N7 {ws : List ByteArray} (h : Eu ws) : Cs (ofL (Lib.join (ws.map (·.data.toList)) [32])) ⟨#[32]⟩ = ws := by
 apply M4
 rw [Ns, Ij]
 refine Js _ (by simpa using h.1) fun w hw => ?_
 obtain ⟨x, hx, rfl⟩ := List.mem_map.1 hw
 exact (h.2 x hx).1
def At (ws : List ByteArray) : List Lf := [.sl (ws.map Ao)]
theorem Hc (Ls : List (List ByteArray)) : ∀ r ∈ Ls.map At, r.length = 1 := by
 intro r hr
 obtain ⟨x, _, rfl⟩ := List.mem_map.1 hr
 rfl
abbrev Ea (Ls : List (List ByteArray)) : List AV := (Ls.map At).flatten.map .lf
theorem Ox (Ls : List (List ByteArray)) : (Ea Ls).length = Ls.length * 1 := by
 rw [List.length_map, Ax _ (Hc Ls), List.length_map]
theorem N6 {Ls : List (List ByteArray)} {k : Nat} {x : List ByteArray} (h : Ls[k]? = some x) : Ea (Ls.take (k + 1)) = Ea (Ls.take k) ++ (([At x] : List (List Lf)).flatten).map AV.lf := by rw [Ac h];simp [Ea]
theorem Vq (Ls : List (List ByteArray)) : OwnRows (Ea Ls) 0 Ls.length 1 (Ls.map At) := by
 have := OwnRows.of (Ls.map At).flatten (Hc Ls) rfl
 rwa [List.length_map] at this
theorem Si {Ls : List (List ByteArray)} (h : Ls ≠ []) : bytesOf Ls ≠ [] := by
 cases Ls with
 | nil => exact absurd rfl h
 | cons ws Ls => simp [bytesOf, By]
theorem Vo {l : List UInt8} (h : l ≠ []) : ¬ ofL l = (⟨#[]⟩ : ByteArray) := fun e => h (Ul e)
set_option maxHeartbeats 16000000 in
theorem Qx (Ls : List (List ByteArray)) (hw : ∀ ws ∈ Ls, Eu ws) (hs : (bytesOf Ls).length <= 1000000) (hW : Ls.length <= 1000) : Fn0 Tryz.prog 15 [.s (ofL (bytesOf Ls))] (.sl (Ls.map At)) := by
 refine Fn0.of Tryz.func15 Tryz.ntmps15 rfl rfl rfl ?_
 simp only [A0]
 repeat' (first
  | refine W ?_
  | refine Y ?_
  | refine V ?_
  | (refine W2 ?_ ?_ <;> intro hc))
 refine T.kill 0 ?_
 refine T.loopS (fun k => k <= Ls.length) (fun k => Ls.length - k) (fun k => [(0, .s (ofL (bytesOf (Ls.drop k)))), (3, rT 0 1 k)]) (fun k => [rB (Ea (Ls.take k)) k]) 0 (Nat.zero_le _) CW (.dead .nil) ?_
 intro k hk
 by_cases hlt : k < Ls.length
 ·obtain ⟨ws, hx⟩ := A7 hlt
  have hd : Ls.drop k = ws :: Ls.drop (k + 1) := by
   rw [List.drop_eq_getElem_cons hlt, (List.getElem?_eq_some_iff.1 hx).2]
  have hcl := hw ws (List.mem_of_getElem? hx)
  have hb : bytesOf (Ls.drop k) = By ws ++ bytesOf (Ls.drop (k + 1)) := by rw [hd];rfl
  have hbl : (bytesOf (Ls.drop k)).length <= 1000000 := by
   have h1 : bytesOf Ls = bytesOf (Ls.take k) ++ bytesOf (Ls.drop k) := by rw [<- Dr, List.take_append_drop]
   rw [h1, List.length_append] at hs
   omega
  have hne : ¬ ofL (bytesOf (Ls.drop k)) = (⟨#[]⟩ : ByteArray) := Vo (by rw [hd];exact Si (by simp))
  have cc := V8 (bytesOf (Ls.drop k)) (by omega)
  rw [hb, Q8 hcl] at cc
  rw [<- hb] at cc
  have cs := S5 (ofL (Lib.join (ws.map (·.data.toList)) [32])) ⟨#[32]⟩ (by
   rw [Ik]
   have h1 := congrArg List.length hb
   rw [List.length_append] at h1
   unfold By at h1
   rw [List.length_append] at h1
   omega) (by decide)
  rw [N7 hcl] at cs
  generalize ofL (Lib.join (ws.map (·.data.toList)) [32]) = ja at *
  have hC := N6 hx
  have hT : (Ls.take k).length = k := by rw [List.length_take];omega
  rcases Nat.eq_zero_or_pos k with h0 | hpos
  ·subst h0
   repeat' (first
    | refine W ?_
    | refine Y ?_|(apply S.buildSlice1;(iterate 7 exact rfl))|(apply S.appendN 0 (rows := []);(iterate 8 exact rfl);exact Ab rfl;exact rfl;exact Nat.le_of_ble_eq_true rfl;exact Nat.le_of_ble_eq_true rfl)
    | refine V ?_
    | (refine W2 ?_ ?_ <;> intro hc))
   all_goals (change Next _ _ _ _ _ _)
   all_goals exact Next.go 1 (by omega) (by omega) CW (by rw [hC];exact .live rfl .nil)
  ·rw [Co hpos, Cn hpos]
   have hcl2 : (Ea (Ls.take k)).length = k * 1 := by rw [Ox, hT]
   repeat' (first
    | refine W ?_
    | refine Y ?_|(apply S.buildSlice1;(iterate 7 exact rfl))|(apply S.appendO;(iterate 8 exact rfl);exact hcl2;exact Ab rfl;exact rfl;exact Bc _ _;simp only [List.length_cons, List.length_nil];omega;simp only [List.length_cons, List.length_nil];omega)
    | refine V ?_
    | (refine W2 ?_ ?_ <;> intro hc))
   all_goals (change Next _ _ _ _ _ _)
   all_goals exact Next.go (k + 1) (by omega) (by omega) CW (by show CovH _ _ [.live (Ea (Ls.take (k + 1)))];rw [hC];exact .live (by rw [<- List.map_append];exact As _ _) .nil)
 ·obtain rfl : k = Ls.length := by omega
  rw [List.drop_length, List.take_length]
  have hne : ¬ ¬ ofL (bytesOf []) = (⟨#[]⟩ : ByteArray) := fun k => k rfl
  cases Ls with
  | nil =>
   repeat' (first
    | refine W ?_
    | refine Y ?_|(refine T.nilU 2 rfl ?_;apply T.ret;change Ch _ _ _ _ _)
    | refine V ?_
    | (refine W2 ?_ ?_ <;> intro hc))
   all_goals exact J4 (by simp) Tryz.results15 rfl (.one (.one (.lf _)))
  | cons ws Ls =>
   repeat' (first
    | refine W ?_
    | refine Y ?_
    | refine V ?_
    | (refine W2 ?_ ?_ <;> intro hc))
   all_goals exact J4 (by simp) Tryz.results15 rfl (.one (.one (.own rfl (Vq (ws :: Ls)))))
end Go.Proofs.YtcfjofhapbkmfaaGreatDoor
