/- Contracts: the reference's numbers and texts of claims. Conditions: those of each statement (bounds on lengths). -/
import Derived.Test.YtkboebgkcjcpfaaGreatDoorYp
import Derived.Test.YtkboebgkcjcpfaaGreatDoorMp
import Derived.Test.YtkboebgkcjcpfaaGreatDoorNe
import Derived.Test.YtkboebgkcjcpfaaGreatDoorMr
set_option linter.unusedSimpArgs false
set_option linter.unusedVariables false
namespace Go.Proofs.YtkboebgkcjcpfaaGreatDoor
open Go Go.RowKit
section
variable {P : Program} {N : Nat} {ops : Array Oper} {m : Option Nat} {K : Tm -> AH -> Prop} {tm tm' : Tm} {H : AH} {rest : List Oper} {ty : TypeId} {pos : String} {af : Array Edge} {d : Nat} {t e u : TypeId} {x y z : Operand}
end
end Go.Proofs.YtkboebgkcjcpfaaGreatDoor
namespace Go.Proofs.YtkboebgkcjcpfaaGreatDoor
open Go.RowKit
theorem Mp (n d : Int) : Fn0 Tryz.prog 72 [A4 [.i n, .i d]] (.b (Bh n d)) := U0 n d

/-! ### Operations that keep the first error -/
def hiT : Nat -> AV
 | 0 => .val (.slice none 0 0)
 | k + 1 => .own 1 0 (k + 1) 1
theorem A4y {P : Program} {N : Nat} {c : Code} {Q : Exit -> St -> Prop} {tm : Tm} {H : AH} {h : HouseR} {k : Nat} (hk : k = h.sets.length) (ht : tm.get 3 = some (hiT k)) (hb : H.at 1 = Ry h.sets k) (hT : T P N c ⟨(3, .sl ((D0 h).map A1)) :: tm, H.put 1 .dead⟩ Q) : T P N c ⟨tm, H⟩ Q := by
 cases k with
 | zero =>
  have h0 : (D0 h).map A1 = [] := by rw [D0, List.eq_nil_of_length_eq_zero hk.symm];rfl
  rw [h0] at hT
  exact S.nilT 3 ht (T.kill 1 hT (by rw [hb];rfl))
 | succ k => exact T.freeze 3 ht hb (Qz hk) hT
set_option maxHeartbeats 16000000 in
theorem A3f (h : HouseR) (hf : h.fits) (h60 : h.sets.length <= 60) : Fn0 Tryz.prog 126 [A4 h.row] (.sl ((D0 h).map A1)) := by
 have hle : (h.sets.map SetR.row).length = h.sets.length := List.length_map _
 refine Fn0.of Tryz.func126 Tryz.ntmps126 rfl rfl rfl ?_
 simp only [A0]
 repeat' (first | refine W ?_ | refine V ?_|(refine W2 ?_ ?_ <;> intro hc))
 refine T.kill 1 ?_
 refine T.loopS (fun k => k <= h.sets.length) (fun k => h.sets.length - k) (fun k => [(4, .i k), (3, hiT k), (1, .ptr 0 0)]) (fun k => [.live (h.row.map .lf), Ry h.sets k]) 0 (Nat.zero_le _) CV CH ?_
 intro k hk
 by_cases hlt : k < h.sets.length
 ·have h1 : (k : Int) < ((h.sets.map SetR.row).length : Nat) := by omega
  obtain ⟨x, hx⟩ := Ac hlt
  have hb := Ad (R := SetR.row) hx
  have hsn := Af hx
  cases k with
  | zero =>
   repeat' (first | refine W ?_|(apply S.indexR;(iterate 3 exact rfl);exact hb;omega;exact rfl)|(apply S.buildSlice1;(iterate 7 exact rfl))|(apply S.appendN 1 (rows := []);(iterate 8 exact rfl);exact Ae rfl;exact rfl;exact Nat.le_of_ble_eq_true rfl;exact Nat.le_of_ble_eq_true rfl)|refine Za ?_ | refine V ?_|(refine W2 ?_ ?_ <;> intro hc))
   change Next _ _ _ _ _ _
   exact Next.go 1 (by omega) (by omega) CV (by
    show CovH _ _ [_, .live (Aa ((h.sets.take (0 + 1)).map SetR.high))]
    rw [G6 hsn]
    exact .live rfl (.live rfl .nil))
  | succ k =>
   have hcl : (Aa ((h.sets.take (k + 1)).map SetR.high)).length = (k + 1) * 1 := by rw [Bn, List.length_map, List.length_take];omega
   repeat' (first | refine W ?_|(apply S.indexR;(iterate 3 exact rfl);exact hb;omega;exact rfl)|(apply S.buildSlice1;(iterate 7 exact rfl))|(apply S.appendO;(iterate 8 exact rfl);exact hcl;exact Ae rfl;exact rfl;exact Bf _ _;simp only [List.length_cons, List.length_nil];omega;simp only [List.length_cons, List.length_nil];omega)|refine Za ?_ | refine V ?_|(refine W2 ?_ ?_ <;> intro hc))
   change Next _ _ _ _ _ _
   exact Next.go (k + 2) (by omega) (by omega) CV (by
    show CovH _ _ [_, .live (Aa ((h.sets.take (k + 1 + 1)).map SetR.high))]
    rw [G6 hsn]
    exact .live rfl (.live (by rw [<- List.map_append];exact Ar _ _) .nil))
 ·have h1 : ¬ (k : Int) < ((h.sets.map SetR.row).length : Nat) := by omega
  refine A4y (h := h) (k := k) (by omega) rfl rfl ?_
  repeat' (first | refine W ?_ | refine V ?_|(refine W2 ?_ ?_ <;> intro hc))
  exact Fh (by first | exact .inl rfl | exact .inr rfl) Tryz.results126 rfl (.one (.one (.lf _)))
theorem Yl (h : HouseR) (c : SheetR) (n k : Nat) (hk : k < n) : (D1 h c n)[k]? = some (.lf (.sl ((Bs h c k).map A1))) := by
 have e : ((C6 h c n).map Hm).flatten = (C6 h c n).map fun l => Lf.sl (l.map A1) := by
  generalize C6 h c n = L
  induction L with
  | nil => rfl
  | cons x L ih => rw [List.map_cons, List.flatten_cons, ih];rfl
 rw [D1, List.getElem?_map, e, List.getElem?_map, C6, List.getElem?_map, List.getElem?_range hk]
 rfl
set_option maxHeartbeats 16000000 in
theorem A0j (h : HouseR) (c : SheetR) (hf : h.fits) (hc : c.fits) (v : validP h c) : Fn0 Tryz.prog 77 [A4 h.row, A4 c.row] (.sl ((C6 h c (c.cues.length + 1)).map Hm)) := by
 obtain ⟨_, _, _, hs60, _⟩ := v.1
 have hc60 := v.2.1
 have hle2 : (c.cues.map CueR.row).length = c.cues.length := List.length_map _
 have ch := A3f h hf hs60
 refine Fn0.of Tryz.func77 Tryz.ntmps77 rfl rfl rfl ?_
 simp only [A0]
 repeat' (first | refine W ?_|refine Zc ch ?_|(apply S.buildSliceO;(iterate 6 exact rfl)) | refine V ?_|(refine W2 ?_ ?_ <;> intro hc))
 refine T.loopS (fun k => k <= c.cues.length) (fun k => c.cues.length - k) (fun k => [(6, .i k), (5, .own 2 0 (k + 1) 1), (2, .ptr 0 0), (3, .ptr 1 0)]) (fun k => [.live (h.row.map .lf), .live (c.row.map .lf), .live (D1 h c (k + 1))]) 0 (Nat.zero_le _) CV CH ?_
 intro j hj
 by_cases hlt2 : j < c.cues.length
 ·have h2 : (j : Int) < ((c.cues.map CueR.row).length : Nat) := by omega
  obtain ⟨y, hy⟩ := Ac hlt2
  have hb2 := Ad (R := CueR.row) hy
  have cm := A0g h (Bs h c j) y hf (by have := hc.2.2 y (List.mem_of_getElem? hy);omega) (Gk v hy)
  rw [<- Kz hy] at cm
  have hct := Nw h c (j + 1)
  have hcell : (D1 h c (j + 1))[0 + ((j : Nat) : Int).toNat * 1]? = some (.lf (.sl ((Bs h c j).map A1))) := by
   rw [Nat.zero_add, Nat.mul_one, Int.toNat_natCast];exact Yl h c (j + 1) j (by omega)
  repeat' (first | refine W ?_|(apply T.drawR 13 A3 (by decide +kernel);simp only [td])|(apply T.draw 13 A3 (by decide +kernel);simp only [td])|(apply S.indexR;(iterate 3 exact rfl);exact hb2;omega;exact rfl)|(apply S.buildSlice1;(iterate 7 exact rfl))|(apply S.appendO;(iterate 8 exact rfl);exact hct;exact Ae rfl;exact rfl;exact Bf _ _;simp only [List.length_cons, List.length_nil];omega;simp only [List.length_cons, List.length_nil];omega)|refine Zc cm ?_|(apply S.indexO;(iterate 4 exact rfl);omega;exact rfl)|(apply S.loadP;exact rfl;exact rfl;exact hcell;exact rfl)|refine Za ?_ | refine V ?_|(refine W2 ?_ ?_ <;> intro hc))
  change Next _ _ _ _ _ _
  exact Next.go (j + 1) (by omega) (by omega) CV (by
   show CovH _ _ [_, _, .live (D1 h c (j + 1 + 1))]
   rw [Mb]
   exact .live rfl (.live rfl (.live (by rw [<- List.map_append];exact Ar _ _) .nil)))
 ·have h2 : ¬ (j : Int) < ((c.cues.map CueR.row).length : Nat) := by omega
  have hj2 : j = c.cues.length := by omega
  repeat' (first | refine W ?_ | refine V ?_|(refine W2 ?_ ?_ <;> intro hc))
  refine Fh (by first | exact .inl rfl | exact .inr rfl) Tryz.results77 rfl (.one (.one (.own (cells := D1 h c (j + 1)) rfl ?_)))
  have := OwnRows.of ((C6 h c (j + 1)).map Hm).flatten (Np _) rfl
  rw [List.length_map, C6, List.length_map, List.length_range] at this
  rw [<- hj2]
  exact this
end Go.Proofs.YtkboebgkcjcpfaaGreatDoor
