/- Plain laws: a list put into order by insertion from the right. No conditions but those of each statement. -/
import Derived.Test.YtcfjofhapbkmfaaGreatDoorMa
import Derived.Test.YtcfjofhapbkmfaaGreatDoorPd
import Derived.Test.YtcfjofhapbkmfaaGreatDoorYa
import Derived.Test.YtcfjofhapbkmfaaGreatDoorYf
import Derived.Test.YtcfjofhapbkmfaaGreatDoorMm
set_option linter.unusedSimpArgs false
set_option linter.unusedVariables false
namespace Go.Proofs.YtcfjofhapbkmfaaGreatDoor
def Cc (key : Nat -> Int) (e : Nat) : List Nat -> List Nat
 | [] => [e]
 | a :: r => if key e < key a then a :: Cc key e r else e :: a :: r
def Ac (key : Nat -> Int) : Nat -> List Nat
 | 0 => []
 | n + 1 => (Cc key n (Ac key n).reverse).reverse
theorem Pm {key : Nat -> Int} {e x : Nat} : ∀ {l : List Nat}, x ∈ Cc key e l ↔ x = e \/ x ∈ l
 | [] => by simp [Cc]
 | a :: r => by
  unfold Cc
  split
  ·rw [List.mem_cons, Pm (l := r), List.mem_cons]
   constructor
   ·rintro (h | h | h) <;> simp [h]
   ·rintro (h | h | h) <;> simp [h]
  ·simp
theorem Pk {key : Nat -> Int} {e : Nat} : ∀ (l : List Nat), (Cc key e l).length = l.length + 1
 | [] => rfl
 | a :: r => by
  unfold Cc
  split
  ·rw [List.length_cons, Pk r, List.length_cons]
  ·rfl
theorem Bk (key : Nat -> Int) : ∀ n, (Ac key n).length = n
 | 0 => rfl
 | n + 1 => by rw [Ac, List.length_reverse, Pk, List.length_reverse, Bk key n]
theorem ordP_mem {key : Nat -> Int} {x : Nat} : ∀ {n : Nat}, x ∈ Ac key n ↔ x < n
 | 0 => by simp [Ac]
 | n + 1 => by
  rw [Ac, List.mem_reverse, Pm, List.mem_reverse, ordP_mem (n := n)]
  omega
def Bq (n i : Nat) : List Nat := (List.range n).drop i
theorem M8 {n i : Nat} (h : i < n) : Bq n i = i :: Bq n (i + 1) := by
 unfold Bq
 rw [List.drop_eq_getElem_cons (by simpa using h)]
 simp
theorem Ws (n : Nat) : Bq n n = [] := by unfold Bq;simp
def iN (l : List Nat) : List Int := l.map fun x : Nat => (x : Int)
theorem Lk (l : List Nat) : (iN l).length = l.length := List.length_map _
theorem Zm (key : Nat -> Int) {n : Nat} (h : 0 < n) : Ac key 1 ++ Bq n 1 = List.range n := by
 have h0 : Bq n 0 = List.range n := rfl
 rw [<- h0, M8 h]
 rfl
theorem Zd (r : List Nat) (a i : Nat) (T : List Nat) : (iN ((a :: r).reverse ++ i :: T))[r.length + 1]? = some (i : Int) := by
 unfold iN
 rw [List.getElem?_map, List.getElem?_append_right (by simp)]
 simp
theorem Zb (r : List Nat) (a i : Nat) (T : List Nat) : (iN ((a :: r).reverse ++ i :: T))[r.length]? = some (a : Int) := by
 unfold iN
 rw [List.getElem?_map, List.getElem?_append_left (by simp), List.reverse_cons, List.getElem?_append_right (by simp)]
 simp
theorem Xq (r : List Nat) (a i : Nat) (T : List Nat) : ((iN ((a :: r).reverse ++ i :: T)).set (r.length + 1) (a : Int)).set r.length (i : Int) = iN (r.reverse ++ i :: (a :: T)) := by
 apply List.ext_getElem?
 intro k
 rw [List.getElem?_set, List.getElem?_set]
 unfold iN
 simp only [List.length_set, List.length_map, List.length_append, List.length_reverse, List.length_cons, List.getElem?_map]
 by_cases h1 : r.length = k
 ·subst h1
  rw [if_pos rfl, if_pos (by omega), List.getElem?_append_right (by simp)]
  simp
 ·rw [if_neg h1]
  by_cases h2 : r.length + 1 = k
  ·subst h2
   rw [if_pos rfl, if_pos (by omega), List.getElem?_append_right (by simp)]
   simp
  ·rw [if_neg h2]
   rcases Nat.lt_or_ge k r.length with h3 | h3
   ·rw [List.getElem?_append_left (by simp;omega), List.getElem?_append_left (by simp;omega), List.reverse_cons, List.getElem?_append_left (by simp;omega)]
   ·rw [List.getElem?_append_right (by simp;omega), List.getElem?_append_right (by simp;omega)]
    simp only [List.length_reverse, List.length_cons]
    obtain ⟨m, rfl⟩ : ∃ m, k = r.length + 2 + m := ⟨k - (r.length + 2), by omega⟩
    rw [show r.length + 2 + m - (r.length + 1) = m + 1 by omega, show r.length + 2 + m - r.length = m + 2 by omega]
    simp
structure InsS where
 A : List Nat
 B : List Nat
end Go.Proofs.YtcfjofhapbkmfaaGreatDoor
namespace Go.Proofs.YtcfjofhapbkmfaaGreatDoor
open Go Go.RowKit
end Go.Proofs.YtcfjofhapbkmfaaGreatDoor
