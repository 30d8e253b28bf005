/- Contracts: the law's lines of a text, small houses and sheets;names looked for. Conditions: those of each statement (bounds on lengths). -/
import Derived.Test.YtkboebgkcjcpfaaGreatDoorYj
import Derived.Test.YtkboebgkcjcpfaaGreatDoorYg
import Derived.Test.YtkboebgkcjcpfaaGreatDoorMm
set_option linter.unusedSimpArgs false
set_option linter.unusedVariables false
namespace Go.Proofs.YtkboebgkcjcpfaaGreatDoor
open Go Go.RowKit
def Nx (ws : List ByteArray) : Prop := ws ≠ [] /\ ∀ w ∈ ws, (32 : UInt8) ∉ w.data.toList /\ (10 : UInt8) ∉ w.data.toList
theorem Se : ∀ {a b : List ByteArray}, a.map (·.data.toList) = b.map (·.data.toList) -> a = b
 | [], [], _ => rfl
 | [], _ :: _, h => by simp at h
 | _ :: _, [], h => by simp at h
 | x :: a, y :: b, h => by
  simp only [List.map_cons, List.cons.injEq] at h
  rw [I5 h.1, Se h.2]
theorem Ym {ws : List ByteArray} (h : Nx ws) (t : List UInt8) : Lib.cut (Dm ws ++ t) [10] = (Lib.join (ws.map (·.data.toList)) [32], t, true) := by
 unfold Dm
 rw [List.append_assoc]
 refine A45 (Wq _ fun w hw => ?_)
 obtain ⟨x, hx, rfl⟩ := List.mem_map.1 hw
 exact (h.2 x hx).2
theorem Ul {ws : List ByteArray} (h : Nx ws) : Ef (ofL (Lib.join (ws.map (·.data.toList)) [32])) ⟨#[32]⟩ = ws := by
 apply Se
 rw [Vc, Jf]
 refine P2 _ (by simpa using h.1) fun w hw => ?_
 obtain ⟨x, hx, rfl⟩ := List.mem_map.1 hw
 exact (h.2 x hx).1
def Dx (ws : List ByteArray) : List Lf := [.sl (ws.map C8)]
theorem Rf (Ls : List (List ByteArray)) : ∀ r ∈ Ls.map Dx, r.length = 1 := by
 intro r hr
 obtain ⟨x, _, rfl⟩ := List.mem_map.1 hr
 rfl
abbrev Gh (Ls : List (List ByteArray)) : List AV := (Ls.map Dx).flatten.map .lf
theorem Wj (Ls : List (List ByteArray)) : (Gh Ls).length = Ls.length * 1 := by
 rw [List.length_map, Bd _ (Rf Ls), List.length_map]
theorem Ui {Ls : List (List ByteArray)} {k : Nat} {x : List ByteArray} (h : Ls[k]? = some x) : Gh (Ls.take (k + 1)) = Gh (Ls.take k) ++ (([Dx x] : List (List Lf)).flatten).map AV.lf := by rw [Af h];simp [Gh]
theorem A5q (Ls : List (List ByteArray)) : OwnRows (Gh Ls) 0 Ls.length 1 (Ls.map Dx) := by
 have := OwnRows.of (Ls.map Dx).flatten (Rf Ls) rfl
 rwa [List.length_map] at this
theorem A24 {Ls : List (List ByteArray)} (h : Ls ≠ []) : bytesOf Ls ≠ [] := by
 cases Ls with
 | nil => exact absurd rfl h
 | cons ws Ls => simp [bytesOf, Dm]
theorem A5o {l : List UInt8} (h : l ≠ []) : ¬ ofL l = (⟨#[]⟩ : ByteArray) := fun e => h (A4m e)
set_option maxHeartbeats 16000000 in
theorem Qr (Ls : List (List ByteArray)) (hw : ∀ ws ∈ Ls, Nx ws) (hs : (bytesOf Ls).length <= 1000000) (hW : Ls.length <= 1000) : Fn0 Tryz.prog 11 [.s (ofL (bytesOf Ls))] (.sl (Ls.map Dx)) := by
 refine Fn0.of Tryz.func11 Tryz.ntmps11 rfl rfl rfl ?_
 simp only [A0]
 repeat' (first
  | refine W ?_
  | refine Y ?_
  | refine V ?_
  | (refine W2 ?_ ?_ <;> intro hc))
 refine T.kill 0 ?_
 refine T.loopS (fun k => k <= Ls.length) (fun k => Ls.length - k) (fun k => [(0, .s (ofL (bytesOf (Ls.drop k)))), (3, rT 0 1 k)]) (fun k => [rB (Gh (Ls.take k)) k]) 0 (Nat.zero_le _) CW (.dead .nil) ?_
 intro k hk
 by_cases hlt : k < Ls.length
 ·obtain ⟨ws, hx⟩ := Ac hlt
  have hd : Ls.drop k = ws :: Ls.drop (k + 1) := by
   rw [List.drop_eq_getElem_cons hlt, (List.getElem?_eq_some_iff.1 hx).2]
  have hcl := hw ws (List.mem_of_getElem? hx)
  have hb : bytesOf (Ls.drop k) = Dm ws ++ bytesOf (Ls.drop (k + 1)) := by rw [hd];rfl
  have hbl : (bytesOf (Ls.drop k)).length <= 1000000 := by
   have h1 : bytesOf Ls = bytesOf (Ls.take k) ++ bytesOf (Ls.drop k) := by rw [<- Kn, List.take_append_drop]
   rw [h1, List.length_append] at hs
   omega
  have hne : ¬ ofL (bytesOf (Ls.drop k)) = (⟨#[]⟩ : ByteArray) := A5o (by rw [hd];exact A24 (by simp))
  have cc := A5c (bytesOf (Ls.drop k)) (by omega)
  rw [hb, Ym hcl] at cc
  rw [<- hb] at cc
  have cs := A1e (ofL (Lib.join (ws.map (·.data.toList)) [32])) ⟨#[32]⟩ (by
   rw [Jg]
   have h1 := congrArg List.length hb
   rw [List.length_append] at h1
   unfold Dm at h1
   rw [List.length_append] at h1
   omega) (by decide)
  rw [Ul hcl] at cs
  generalize ofL (Lib.join (ws.map (·.data.toList)) [32]) = ja at *
  have hC := Ui hx
  have hT : (Ls.take k).length = k := by rw [List.length_take];omega
  rcases Nat.eq_zero_or_pos k with h0 | hpos
  ·subst h0
   repeat' (first
    | refine W ?_
    | refine Y ?_|(apply S.buildSlice1;(iterate 7 exact rfl))|(apply S.appendN 0 (rows := []);(iterate 8 exact rfl);exact Ae rfl;exact rfl;exact Nat.le_of_ble_eq_true rfl;exact Nat.le_of_ble_eq_true rfl)
    | refine V ?_
    | (refine W2 ?_ ?_ <;> intro hc))
   all_goals (change Next _ _ _ _ _ _)
   all_goals exact Next.go 1 (by omega) (by omega) CW (by rw [hC];exact .live rfl .nil)
  ·rw [Gn hpos, Gm hpos]
   have hcl2 : (Gh (Ls.take k)).length = k * 1 := by rw [Wj, hT]
   repeat' (first
    | refine W ?_
    | refine Y ?_|(apply S.buildSlice1;(iterate 7 exact rfl))|(apply S.appendO;(iterate 8 exact rfl);exact hcl2;exact Ae rfl;exact rfl;exact Bf _ _;simp only [List.length_cons, List.length_nil];omega;simp only [List.length_cons, List.length_nil];omega)
    | refine V ?_
    | (refine W2 ?_ ?_ <;> intro hc))
   all_goals (change Next _ _ _ _ _ _)
   all_goals exact Next.go (k + 1) (by omega) (by omega) CW (by show CovH _ _ [.live (Gh (Ls.take (k + 1)))];rw [hC];exact .live (by rw [<- List.map_append];exact Ar _ _) .nil)
 ·obtain rfl : k = Ls.length := by omega
  rw [List.drop_length, List.take_length]
  have hne : ¬ ¬ ofL (bytesOf []) = (⟨#[]⟩ : ByteArray) := fun k => k rfl
  cases Ls with
  | nil =>
   repeat' (first
    | refine W ?_
    | refine Y ?_|(refine T.nilU 2 rfl ?_;apply T.ret;change Cw _ _ _ _ _)
    | refine V ?_
    | (refine W2 ?_ ?_ <;> intro hc))
   all_goals exact Fh (by simp) Tryz.results11 rfl (.one (.one (.lf _)))
  | cons ws Ls =>
   repeat' (first
    | refine W ?_
    | refine Y ?_
    | refine V ?_
    | (refine W2 ?_ ?_ <;> intro hc))
   all_goals exact Fh (by simp) Tryz.results11 rfl (.one (.one (.own rfl (A5q (ws :: Ls)))))
set_option maxHeartbeats 8000000 in
theorem Uv (l : List ByteArray) (y : ByteArray) (hl : l.length <= 1000000) : Fn0 Tryz.prog 30 [.sl (l.map C8), .s y] (.i (idx (fun x => y = x) l)) := by
 have hle : (l.map C8).length = l.length := List.length_map _
 refine Fn0.of Tryz.func30 Tryz.ntmps30 rfl rfl rfl ?_
 simp only [A0]
 repeat' (first
  | refine W ?_
  | refine Y ?_
  | refine V ?_
  | (refine W2 ?_ ?_ <;> intro hc))
 refine T.loopS (fun k => k <= l.length /\ ∀ x ∈ l.take k, ¬ y = x) (fun k => l.length - k) (fun k => [(8, .i (k : Nat)), (7, .i (l.map C8).length), (0, .sl (l.map C8)), (1, .s y)]) (fun _ => []) 0 ⟨Nat.zero_le _, by simp⟩ CW .nil ?_
 rintro k ⟨hk, hno⟩
 by_cases hlt : k < l.length
 ·have h1 : (k : Int) < ((l.map C8).length : Nat) := by omega
  obtain ⟨x, hx⟩ := Ac hlt
  have hb := Ad (R := C8) hx
  by_cases e : y = x
  ·rw [Ca hx hno e]
   repeat' (first
    | refine W ?_
    | (apply S.indexR;(iterate 3 exact rfl);exact hb;omega;exact rfl) | refine Y ?_|refine Za ?_
    | refine V ?_
    | (refine W2 ?_ ?_ <;> intro hc))
   all_goals (first | exact A5 (by simp) Tryz.results30 rfl rfl|(exfalso;contradiction))
  ·skip
   repeat' (first
    | refine W ?_
    | (apply S.indexR;(iterate 3 exact rfl);exact hb;omega;exact rfl) | refine Y ?_|refine Za ?_
    | refine V ?_
    | (refine W2 ?_ ?_ <;> intro hc))
   all_goals (change Next _ _ _ _ _ _)
   all_goals exact Next.go (k + 1) ⟨by omega, by
    rw [Af hx]
    intro z hz
    rcases List.mem_append.1 hz with h | h
    ·exact hno z h
    ·obtain rfl := List.mem_singleton.1 h;exact e⟩ (by omega) CW .nil
 ·have h1 : ¬ (k : Int) < ((l.map C8).length : Nat) := by omega
  rw [Bw (by rw [List.take_of_length_le (by omega)] at hno;exact hno)]
  repeat' (first
   | refine W ?_
   | refine Y ?_
   | refine V ?_
   | (refine W2 ?_ ?_ <;> intro hc))
  all_goals exact A5 (by simp) Tryz.results30 rfl rfl
theorem Pe (l : List ByteArray) (y : ByteArray) (hl : l.length <= 1000000) : Fn0 Tryz.prog 12 [.sl (l.map C8), .s y] (.b (decide (∃ x ∈ l, y = x))) := by
 have c := Uv l y hl
 refine Fn0.of Tryz.func12 Tryz.ntmps12 rfl rfl rfl ?_
 simp only [A0]
 repeat' (first
  | refine W ?_
  | refine Y ?_
  | refine V ?_
  | (refine W2 ?_ ?_ <;> intro hc))
 all_goals exact A5 (by simp) Tryz.results12 rfl (by rw [<- Gi])
def Ik (h : HouseR) (c : SheetR) (G : List Int) : Prop := Lg h 5 /\ Ld c 6 /\ G.length <= 100
noncomputable instance instSmallY (h : HouseR) (c : SheetR) (G : List Int) : Decidable (Ik h c G) := Classical.propDecidable _
theorem Qs (h : HouseR) (c : SheetR) (hf : h.fits) (hc : c.fits) (G : List Int) : Fn0 Tryz.prog 6 [A4 h.row, A4 c.row, .sl (G.map A1)] (.b (decide (Ik h c G))) := by
 have c1 := A0d h 5 (by omega) hf
 have c2 := A0i c 6 (by omega) hc
 have hle : (G.map A1).length = G.length := List.length_map _
 by_cases h1 : Lg h 5
 ·rw [decide_eq_true h1] at c1
  by_cases h2 : Ld c 6
  ·rw [decide_eq_true h2] at c2
   refine Fn0.of Tryz.func6 Tryz.ntmps6 rfl rfl rfl ?_
   simp only [A0]
   repeat' (first
    | refine W ?_
    | refine Y ?_
    | refine V ?_
    | (refine W2 ?_ ?_ <;> intro hc))
   all_goals exact A5 (by simp) Tryz.results6 rfl (congrArg Value.bool (by rw [decide_eq_decide];constructor <;> (intro k;first | exact ⟨h1, h2, by omega⟩|(have := k.2.2;omega))))
  ·rw [decide_eq_false h2] at c2
   rw [decide_eq_false (fun k : Ik h c G => h2 k.2.1)]
   refine Fn0.of Tryz.func6 Tryz.ntmps6 rfl rfl rfl ?_
   simp only [A0]
   repeat' (first
    | refine W ?_
    | refine Y ?_
    | refine V ?_
    | (refine W2 ?_ ?_ <;> intro hc))
   all_goals exact A5 (by simp) Tryz.results6 rfl rfl
 ·rw [decide_eq_false h1] at c1
  rw [decide_eq_false (fun k : Ik h c G => h1 k.1)]
  refine Fn0.of Tryz.func6 Tryz.ntmps6 rfl rfl rfl ?_
  simp only [A0]
  repeat' (first
   | refine W ?_
   | refine Y ?_
   | refine V ?_
   | (refine W2 ?_ ?_ <;> intro hc))
  all_goals exact A5 (by simp) Tryz.results6 rfl rfl
theorem A1z {h : HouseR} {c : SheetR} {G : List Int} (e : alE h c G = 0) : validP h c := by
 unfold alE at e
 split at e
 ·rename_i v;exact v
 ·cases e
theorem Zx {h : HouseR} {c : SheetR} (v : validP h c) {i j : Nat} (hi : i < c.cues.length) (hj : j < c.cues.length) (e : nmI c i = nmI c j) : i = j := by
 have key : ∀ {i j : Nat}, i < j -> j < c.cues.length -> nmI c i = nmI c j -> False := fun {i j} hij hj e => by
  obtain ⟨q, hq⟩ := Ac hj
  obtain ⟨y, hy⟩ := Ac (l := c.cues) (k := i) (by omega)
  refine (v.2.2.1 j q hq).2.2.1 ⟨y, List.mem_of_getElem? (i := i) (by rw [List.getElem?_take, if_pos hij];exact hy), ?_⟩
  unfold nmI at e
  rw [hq, hy] at e
  exact e
 rcases Nat.lt_trichotomy i j with h | h | h
 ·exact (key h hj e).elim
 ·exact h
 ·exact (key h hi e.symm).elim
set_option maxHeartbeats 4000000 in
theorem Pm {α : Type} (l : List α) (R : α -> List Lf) (p : α -> Prop) [DecidablePred p] (g : FuncId) (caps : List AV) (hR : ∀ x, (R x).length = 2) (hl : l.length <= 9223372036854775807) (hcaps : caps.all AV.cap = true) (hg : ∀ x ∈ l, Fn0 Tryz.prog g (.agg ((R x).map .lf) :: caps) (.b (decide (p x)))) :
  Fn0 Tryz.prog 13 [.sl (l.map R), .fn (.func g) [] caps] (.i (idx p l)) := by
 refine Fn0.of Tryz.func13 Tryz.ntmps13 rfl rfl rfl ?_
 simp only [A0]
 repeat' (first
  | refine W ?_

  | refine V ?_
  | (refine W2 ?_ ?_ <;> intro hc))
 refine T.loopS (fun k => k <= l.length /\ ∀ x ∈ l.take k, ¬ p x) (fun k => l.length - k) (fun k => [(8, .i k), (7, .i (l.map R).length), (0, .sl (l.map R)), (1, .fn (.func g) [] caps)]) (fun _ => []) 0 ⟨Nat.zero_le _, by simp⟩ (.cons rfl rfl (.cons rfl rfl (.cons rfl rfl (.cons rfl (Ak hcaps) .nil)))) .nil ?_
 rintro k ⟨hk, hno⟩
 have hle : (l.map R).length = l.length := List.length_map _
 by_cases hlt : k < l.length
 ·have h1 : (k : Int) < ((l.map R).length : Nat) := by omega
  obtain ⟨x, hx⟩ : ∃ x, l[k]? = some x := ⟨l[k], List.getElem?_eq_getElem hlt⟩
  have hb : (l.map R)[((k : Nat) : Int).toNat]? = some (R x) := by rw [Int.toNat_natCast, List.getElem?_map, hx];rfl
  have hx2 := hg x (List.mem_of_getElem? hx)
  repeat' (first
   | refine W ?_
   | (apply S.indexR;(iterate 3 exact rfl);exact hb;omega;exact hR x)|(apply S.loadRW;(iterate 3 exact rfl);exact hR x)|(apply S.callF;exact rfl;exact rfl;exact hx2;exact Ch hcaps;exact rfl)|refine Za ?_
   | refine V ?_
   | (refine W2 ?_ ?_ <;> intro hc))
  all_goals first
   | exact Next.go (k + 1) ⟨by omega, by rw [List.take_add_one, hx];intro y hy;rcases List.mem_append.1 hy with hy | hy;exact hno y hy;obtain rfl : y = x := (by simpa using hy);assumption⟩ (by omega) (.cons rfl rfl (.cons rfl rfl (.cons rfl rfl (.cons rfl (Ak hcaps) .nil)))) .nil
   | exact A5 (by simp) Tryz.results13 rfl (by rw [Ca hx hno (by assumption)])
 ·have h1 : ¬ (k : Int) < ((l.map R).length : Nat) := by omega
  repeat' (first
   | refine W ?_

   | refine V ?_
   | (refine W2 ?_ ?_ <;> intro hc))
  exact A5 (by simp) Tryz.results13 rfl (by rw [Bw (by rw [List.take_of_length_le (by omega)] at hno;exact hno)])
theorem A2r (n : ByteArray) (s : Int) (ws : List ByteArray) (y : ByteArray) (hy : (ws.map C8)[(1 : Int).toNat]? = some [.s y]) : Fn0 Tryz.prog 14 [A4 [.s n, .i s], .rop [.sl (ws.map C8)]] (.b (decide (n = y))) := by
 refine Fn0.of Tryz.func14 Tryz.ntmps14 rfl rfl rfl ?_
 simp only [A0]
 repeat' (first
  | refine W ?_
  | (apply S.indexR;(iterate 3 exact rfl);exact hy;omega;exact rfl) | refine Y ?_|(apply T.drawAll A3 (by decide +kernel))|(apply T.draw 6 A3 (by decide +kernel);simp only [td])|(apply T.drawR 7 A3 (by decide +kernel);simp only [td])|(apply T.drawN 1 6 A3 (by decide +kernel);simp only [td])|(apply T.drawRN 1 6 A3 (by decide +kernel);simp only [td])
  | refine V ?_
  | (refine W2 ?_ ?_ <;> intro hc))
 all_goals exact A5 (by simp) Tryz.results14 rfl rfl
theorem A1t {h : HouseR} {c : SheetR} {G : List Int} (v : validP h c) {i : Nat} (hi : i < c.cues.length) : Nx (wdI h c G i) := by
 have hn := Ng v hi
 refine ⟨by simp [wdI], fun w hw => ?_⟩
 simp only [wdI, List.mem_cons, List.not_mem_nil, or_false] at hw
 rcases hw with rfl | rfl | rfl | rfl | rfl | rfl
 ·decide
 ·exact ⟨Tg hn (by decide), Tg hn (by decide)⟩
 ·decide
 ·exact ⟨Jd (by decide) _, Jd (by decide) _⟩
 ·decide
 ·exact ⟨Jd (by decide) _, Jd (by decide) _⟩
def Rz (key : Nat -> Int) (o : List Nat) : Nat -> Int
 | 0 => 0
 | k + 1 => key (o.getD k 0)
theorem A2s {key : Nat -> Int} {n k x : Nat} (h0 : ∀ i, 0 <= key i) (hx : (Ay key n)[k]? = some x) : Rz key (Ay key n) k <= key x := by
 cases k with
 | zero => exact h0 x
 | succ k =>
  have hk := (List.getElem?_eq_some_iff.1 hx)
  obtain ⟨hk1, hk2⟩ := hk
  have hs := List.pairwise_iff_getElem.1 (Gc key n) k (k + 1) (by omega) hk1 (by omega)
  show key ((Ay key n).getD k 0) <= key x
  rw [List.getD_eq_getElem?_getD, List.getElem?_eq_getElem (by omega)]
  rw [hk2] at hs
  unfold Fm at hs
  simp only [Option.getD_some]
  omega
set_option maxHeartbeats 64000000 in
theorem Po (h : HouseR) (c : SheetR) (hf : h.fits) (hc : c.fits) (G : List Int) (hG : G.length <= 4611686018427387904) : Fn0 Tryz.prog 4 [A4 h.row, A4 c.row, .sl (G.map A1)] (.b true) := by
 have ca := Qq
 have cs := Qs h c hf hc G
 by_cases hs : Ik h c G
 ·rw [decide_eq_true hs] at cs
  by_cases e0 : alE h c G = 0
  ·obtain ⟨p, _⟩ := Lk e0
   have v := A1z e0
   have cb := K5 h c hf hc G hG e0
   have ce := Nr h c hf hc G hG e0 trivial
   have hn6 : c.cues.length <= 6 := by
    have := hs.2.1.1
    omega
   obtain ⟨n, hcn⟩ : ∃ n, c.cues.length = n := ⟨_, rfl⟩
   have hbl := Is h c G n
   have hel : ((Di h c G).map A1).length = n := by rw [List.length_map, J7, hcn]
   have hcl : (c.cues.map CueR.row).length = n := by rw [List.length_map, hcn]
   rw [hcn] at cb
   have f1 : ¬ ¬ (((Bp h c G n).length : Nat) : Int) = ((c.cues.map CueR.row).length : Nat) := by omega
   have f2 : ¬ ¬ ((((Di h c G).map A1).length : Nat) : Int) = ((Bp h c G n).length : Nat) := by omega
   rcases Nat.eq_zero_or_pos n with hn0 | hn0
   ·have ct := Ki h c hf hc G hG e0 (by omega)
    have cl := Qr [] (by simp) (by simp [bytesOf]) (by simp)
    rw [show ofL (bytesOf []) = (⟨#[]⟩ : ByteArray) from rfl] at cl
    have f3 : ¬ ((⟨#[]⟩ : ByteArray).size : Int) > 5000 := by decide
    have f4 : ¬ ¬ (((([] : List (List ByteArray)).map Dx).length : Nat) : Int) = ((Bp h c G n).length : Nat) := by simp;omega
    refine Fn0.of Tryz.func4 Tryz.ntmps4 rfl rfl rfl ?_
    simp only [A0]
    repeat' (first
     | refine W ?_
     | refine Y ?_|(refine T.unroll ?_)|(refine TL.round ?_)|(dsimp only [B9, Ai];refine TL.round ?_)
     | refine V ?_
     | (refine W2 ?_ ?_ <;> intro hc))
    all_goals exact A5 (by simp) Tryz.results4 rfl rfl
   ·have ct := Rd h c hf hc G hG e0 p v n hcn hn0 (by omega)
    obtain ⟨key, hkey⟩ : ∃ key, key = stI h c G := ⟨_, rfl⟩
    have hk0 : ∀ i, 0 <= key i := fun i => by rw [hkey];exact (p.st i).1
    obtain ⟨o, ho⟩ : ∃ o, o = Ay key n := ⟨_, rfl⟩
    have hol : o.length = n := by rw [ho, E9]
    have hom : ∀ x ∈ o, x < n := fun x hx => by rw [ho] at hx;exact ordP_mem.1 hx
    have hond : o.Nodup := by rw [ho];exact Ok key n
    rw [<- hkey, <- ho] at ct
    have htl := Ub p v o fun x hx => by have := hom x hx;omega
    have cl := Qr (o.map (wdI h c G)) (fun ws hw => by
     obtain ⟨x, hx, rfl⟩ := List.mem_map.1 hw
     exact A1t v (by have := hom x hx;omega)) (by unfold txI at htl;omega) (by rw [List.length_map];omega)
    have htx : bytesOf (o.map (wdI h c G)) = txI h c G o := rfl
    rw [htx] at cl
    have f3 : ¬ ((ofL (txI h c G o)).size : Int) > 5000 := by rw [Jg];omega
    obtain ⟨Ls, hLs⟩ : ∃ Ls, Ls = o.map (wdI h c G) := ⟨_, rfl⟩
    rw [<- hLs] at cl
    have hll : (Ls.map Dx).length = n := by rw [List.length_map, hLs, List.length_map, hol]
    have f4 : ¬ ¬ (((Ls.map Dx).length : Nat) : Int) = ((Bp h c G n).length : Nat) := by omega
    generalize ofL (txI h c G o) = tx at *
    refine Fn0.of Tryz.func4 Tryz.ntmps4 rfl rfl rfl ?_
    simp only [A0]
    repeat' (first
     | refine W ?_
     | refine Y ?_
     | refine V ?_
     | (refine W2 ?_ ?_ <;> intro hc))
    refine T.kill 0 ?_
    refine T.kill 1 ?_
    refine T.kill 2 ?_
    refine T.loopS (fun k => k <= n) (fun k => n - k) (fun k => [(92, .i (k : Nat)), (91, .i (Ls.map Dx).length), (90, .sl (Ls.map Dx)), (9, .sl (Bp h c G n)), (11, .sl ((Di h c G).map A1)), (14, .i (Rz key o k)), (15, rT 2 1 k)]) (fun k => [.dead, .dead, rB (Ep ((o.take k).map (nmI c))) k]) 0 (Nat.zero_le _) CW CH ?_
    intro k hk
    by_cases hlt : k < n
    ·have h1 : ((k : Nat) : Int) < ((Ls.map Dx).length : Nat) := by omega
     obtain ⟨x, hx⟩ := Ac (l := o) (k := k) (by omega)
     have hxn := hom x (List.mem_of_getElem? hx)
     have hLx : Ls[k]? = some (wdI h c G x) := by rw [hLs, List.getElem?_map, hx];rfl
     have hb := Ad (R := Dx) hLx
     have w0 : ((wdI h c G x).map C8)[(0 : Int).toNat]? = some [.s ⟨#[99, 117, 101]⟩] := rfl
     have w1 : ((wdI h c G x).map C8)[(1 : Int).toNat]? = some [.s (nmI c x)] := rfl
     have w2 : ((wdI h c G x).map C8)[(2 : Int).toNat]? = some [.s ⟨#[102, 114, 111, 109]⟩] := rfl
     have w3 : ((wdI h c G x).map C8)[(3 : Int).toNat]? = some [.s (Ao (stI h c G x))] := rfl
     have w4 : ((wdI h c G x).map C8)[(4 : Int).toNat]? = some [.s ⟨#[116, 111]⟩] := rfl
     have w5 : ((wdI h c G x).map C8)[(5 : Int).toNat]? = some [.s (Ao (D5 h c G x))] := rfl
     have wl : ¬ ¬ ((((wdI h c G x).map C8).length : Nat) : Int) = 6 := fun k => k rfl
     have q0 : ¬ ¬ (⟨#[99, 117, 101]⟩ : ByteArray) = ⟨#[99, 117, 101]⟩ := fun k => k rfl
     have q2 : ¬ ¬ (⟨#[102, 114, 111, 109]⟩ : ByteArray) = ⟨#[102, 114, 111, 109]⟩ := fun k => k rfl
     have q4 : ¬ ¬ (⟨#[116, 111]⟩ : ByteArray) = ⟨#[116, 111]⟩ := fun k => k rfl
     have q3 : ¬ ¬ Ao (stI h c G x) = Ao (stI h c G x) := fun k => k rfl
     have q5 : ¬ ¬ Ao (D5 h c G x) = Ao (D5 h c G x) := fun k => k rfl
     have s1 := p.st x
     have s2 := p.end_ x
     have e1 : stI h c G x = (stL h c G).getD x 0 := rfl
     have ci := F3 (stI h c G x) (by omega) (by omega)
     have cj := F3 (D5 h c G x) (by omega) (by omega)
     have cn := Pe ((o.take k).map (nmI c)) (nmI c x) (by rw [List.length_map, List.length_take];omega)
     rw [decide_eq_false (fun ⟨y, hy, e⟩ => by
      obtain ⟨z, hz, rfl⟩ := List.mem_map.1 hy
      have hzn := hom z (List.mem_of_mem_take hz)
      have := Zx v (by omega) (by omega) e
      subst this
      obtain ⟨j, hj⟩ := List.getElem?_of_mem hz
      have hjk : j < k := by have := (List.getElem?_eq_some_iff.1 hj).1;rw [List.length_take] at this;omega
      rw [List.getElem?_take, if_pos hjk] at hj
      have := (List.getElem?_inj (i := j) (j := k) (by omega) hond).1 (hj.trans hx.symm)
      omega)] at cn
     have cx := Pm (List.range n) (H9 h c G) (fun i => nmI c i = nmI c x) 14 [.rop [.sl ((wdI h c G x).map C8)]] (fun _ => rfl) (by rw [List.length_range];omega) rfl (fun i hi => A2r (nmI c i) (stI h c G i) (wdI h c G x) (nmI c x) rfl)
     rw [Ca (p := fun i => nmI c i = nmI c x) (k := x) (x := x) (by rw [List.getElem?_range hxn]) (fun y hy e => by
      have hyx : y < x := by
       obtain ⟨j, hj⟩ := List.getElem?_of_mem hy
       have hjx : j < x := by have := (List.getElem?_eq_some_iff.1 hj).1;rw [List.length_take] at this;omega
       rw [List.getElem?_take, if_pos hjx, List.getElem?_range (by omega)] at hj
       injection hj with hj
       omega
      have := Zx v (by omega) (by omega) e
      omega) rfl] at cx
     have hb1 : (Bp h c G n)[((x : Nat) : Int).toNat]? = some [.s (nmI c x), .i (stI h c G x)] := by rw [Int.toNat_natCast];exact Nu h c G hxn
     have hb2 : ((Di h c G).map A1)[((x : Nat) : Int).toNat]? = some (A1 (D5 h c G x)) := by
      rw [Int.toNat_natCast, List.getElem?_map]
      unfold Di Fs
      rw [List.getElem?_map, List.getElem?_range (by omega)]
      rfl
     have hx0 : ¬ ((x : Nat) : Int) < 0 := by omega
     have hlv : ¬ stI h c G x < Rz key o k := by
      have := A2s (key := key) (n := n) (k := k) (x := x) hk0 (by rw [<- ho];exact hx)
      rw [<- ho] at this
      have e2 : key x = stI h c G x := by rw [hkey]
      omega
     have hls : Rz key o (k + 1) = stI h c G x := by
      show key (o.getD k 0) = _
      rw [List.getD_eq_getElem?_getD, hx, hkey]
      rfl
     have hC : Ep ((o.take (k + 1)).map (nmI c)) = Ep ((o.take k).map (nmI c)) ++ (([C8 (nmI c x)] : List (List Lf)).flatten).map AV.lf := by rw [Af hx, List.map_append];exact Uj _ _
     have hT : ((o.take k).map (nmI c)).length = k := by rw [List.length_map, List.length_take];omega
     have hown := A4r ((o.take k).map (nmI c))
     rw [hT] at hown
     rcases Nat.eq_zero_or_pos k with h0 | hpos
     ·subst h0
      have cn0 := Fn0.nils cn (args := [.val (.slice none 0 0), .s (nmI c x)]) rfl
      repeat' (first
       | refine W ?_
       | (apply S.indexR;(iterate 3 exact rfl);exact hb;omega;exact rfl)|(apply S.indexR;(iterate 3 exact rfl);exact w0;omega;exact rfl)|(apply S.indexR;(iterate 3 exact rfl);exact w1;omega;exact rfl)|(apply S.indexR;(iterate 3 exact rfl);exact w2;omega;exact rfl)|(apply S.indexR;(iterate 3 exact rfl);exact w3;omega;exact rfl)|(apply S.indexR;(iterate 3 exact rfl);exact w4;omega;exact rfl)|(apply S.indexR;(iterate 3 exact rfl);exact w5;omega;exact rfl)|(apply S.indexR;(iterate 3 exact rfl);exact hb1;omega;exact rfl)|(apply S.indexR;(iterate 3 exact rfl);exact hb2;omega;exact rfl) | refine Y ?_|(apply T.drawN 4 33 A3 (by decide +kernel);simp only [td])|(apply T.drawRN 4 33 A3 (by decide +kernel);simp only [td])|(apply S.callV;exact rfl;exact cn0;exact .cons (.one (.lf _)) (.cons (.one (.lf _)) .nil);exact rfl;exact rfl)|(apply S.callV;exact rfl;exact cx;exact .cons (.one (.lf _)) (.cons (.fn (.cons (.ptr0 (cs := [.sl ((wdI h c G x).map C8)]) rfl) .nil)) .nil);exact rfl;exact rfl)|(apply S.buildSlice1;(iterate 7 exact rfl))|(apply S.appendN 2 (rows := []);(iterate 8 exact rfl);exact Ae rfl;exact rfl;exact Nat.le_of_ble_eq_true rfl;exact Nat.le_of_ble_eq_true rfl)|refine Za ?_
       | refine V ?_
       | (refine W2 ?_ ?_ <;> intro hc))
      all_goals (change Next _ _ _ _ _ _)
      all_goals exact Next.go 1 (by omega) (by omega) (by rw [hls];exact CW) (by rw [hC];exact .dead CH)
     ·rw [Gn hpos, Gm hpos]
      have hcl2 : (Ep ((o.take k).map (nmI c))).length = k * 1 := by rw [Wk, hT]
      repeat' (first
       | refine W ?_
       | (apply S.indexR;(iterate 3 exact rfl);exact hb;omega;exact rfl)|(apply S.indexR;(iterate 3 exact rfl);exact w0;omega;exact rfl)|(apply S.indexR;(iterate 3 exact rfl);exact w1;omega;exact rfl)|(apply S.indexR;(iterate 3 exact rfl);exact w2;omega;exact rfl)|(apply S.indexR;(iterate 3 exact rfl);exact w3;omega;exact rfl)|(apply S.indexR;(iterate 3 exact rfl);exact w4;omega;exact rfl)|(apply S.indexR;(iterate 3 exact rfl);exact w5;omega;exact rfl)|(apply S.indexR;(iterate 3 exact rfl);exact hb1;omega;exact rfl)|(apply S.indexR;(iterate 3 exact rfl);exact hb2;omega;exact rfl) | refine Y ?_|(apply T.drawN 4 33 A3 (by decide +kernel);simp only [td])|(apply T.drawRN 4 33 A3 (by decide +kernel);simp only [td])|(apply S.callV;exact rfl;exact cn;exact .cons (.one (.own rfl hown)) (.cons (.one (.lf _)) .nil);exact rfl;exact rfl)|(apply S.callV;exact rfl;exact cx;exact .cons (.one (.lf _)) (.cons (.fn (.cons (.ptr0 (cs := [.sl ((wdI h c G x).map C8)]) rfl) .nil)) .nil);exact rfl;exact rfl)|(apply S.buildSlice1;(iterate 7 exact rfl))|(apply S.appendO;(iterate 8 exact rfl);exact hcl2;exact Ae rfl;exact rfl;exact Bf _ _;simp only [List.length_cons, List.length_nil];omega;simp only [List.length_cons, List.length_nil];omega)|refine Za ?_
       | refine V ?_
       | (refine W2 ?_ ?_ <;> intro hc))
      all_goals (change Next _ _ _ _ _ _)
      all_goals exact Next.go (k + 1) (by omega) (by omega) (by rw [hls];exact CW) (by show CovH _ _ [_, _, .live (Ep ((o.take (k + 1)).map (nmI c)))];rw [hC];exact .dead (.dead (.live (by rw [<- List.map_append];exact Ar _ _) .nil)))
    ·obtain rfl : n = k := by omega
     have h1 : ¬ ((n : Nat) : Int) < ((Ls.map Dx).length : Nat) := by omega
     repeat' (first
      | refine W ?_
      | refine Y ?_
      | refine V ?_
      | (refine W2 ?_ ?_ <;> intro hc))
     all_goals exact A5 (by simp) Tryz.results4 rfl rfl
  ·have ct := Kh h c hf hc G hG e0
   have cb := Iq h c hf hc G hG e0
   have ce := U7 h c hf hc G hG e0
   have h1 : alE h c G = alE h c G := rfl
   generalize alE h c G = e at *
   refine Fn0.of Tryz.func4 Tryz.ntmps4 rfl rfl rfl ?_
   simp only [A0]
   repeat' (first
    | refine W ?_
    | refine Y ?_
    | refine V ?_
    | (refine W2 ?_ ?_ <;> intro hc))
   all_goals exact A5 (by simp) Tryz.results4 rfl (by simp)
 ·rw [decide_eq_false hs] at cs
  refine Fn0.of Tryz.func4 Tryz.ntmps4 rfl rfl rfl ?_
  simp only [A0]
  repeat' (first
   | refine W ?_
   | refine Y ?_
   | refine V ?_
   | (refine W2 ?_ ?_ <;> intro hc))
  all_goals exact A5 (by simp) Tryz.results4 rfl rfl
end Go.Proofs.YtkboebgkcjcpfaaGreatDoor
