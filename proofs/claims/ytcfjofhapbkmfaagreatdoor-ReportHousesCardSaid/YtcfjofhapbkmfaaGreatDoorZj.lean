/- Contracts: the reference's order and report of a house. No conditions but those of each statement. -/
import Derived.Test.YtcfjofhapbkmfaaGreatDoorZi
import Derived.Test.YtcfjofhapbkmfaaGreatDoorZa
import Derived.Test.YtcfjofhapbkmfaaGreatDoorYf
import Derived.Test.YtcfjofhapbkmfaaGreatDoorZg
set_option linter.unusedSimpArgs false
set_option linter.unusedVariables false
namespace Go.Proofs.YtcfjofhapbkmfaaGreatDoor
open Go Go.RowKit
theorem A1r {R1 R2 R3 : List (List Lf)} (h1 : ∀ r ∈ R1, r.length = 1) (h2 : ∀ r ∈ R2, r.length = 1) (h3 : ∀ r ∈ R3, r.length = 1) : OwnRows ((([] ++ (R1.flatten).map AV.lf) ++ (R2.flatten).map AV.lf) ++ (R3.flatten).map AV.lf) 0 (0 + R1.length + R2.length + R3.length) 1 (R1 ++ R2 ++ R3) := by
 have := OwnRows.of (R1 ++ R2 ++ R3).flatten (rows := R1 ++ R2 ++ R3) (n := 1) (fun r hr => by
  rcases List.mem_append.1 hr with hr | hr
  ·rcases List.mem_append.1 hr with hr | hr
   ·exact h1 r hr
   ·exact h2 r hr
  ·exact h3 r hr) rfl
 rw [List.flatten_append, List.flatten_append, List.map_append, List.map_append, List.length_append, List.length_append] at this
 rw [List.nil_append, Nat.zero_add]
 exact this
theorem Wu (l : List Int) (k : Nat) : ∀ r ∈ (l.map A8).take k, r.length = 1 := fun r hr => D0 l r (List.mem_of_mem_take hr)
theorem Um (l : List Int) (k : Nat) : ∀ r ∈ (l.map A8).drop k, r.length = 1 := fun r hr => D0 l r (List.mem_of_mem_drop hr)
theorem Yn (l : List Int) (k : Nat) : (((l.map A8).take k).flatten).all Lf.one = true := by rw [<- List.map_take];exact Po _
theorem Xc (l : List Int) (k : Nat) : (((l.map A8).drop k).flatten).all Lf.one = true := by rw [<- List.map_drop];exact Po _
set_option maxRecDepth 20000 in
set_option maxHeartbeats 64000000 in
theorem Vy (h : HouseR) (hp : Az h) : Fn0 Tryz.prog 49 [A6 h.row] (.sl ((iN (Ac (Ak h) h.sets.length)).map A8)) := by
 obtain ⟨n, hn⟩ : ∃ n, n = h.sets.length := ⟨_, rfl⟩
 rw [<- hn]
 have hle : (h.sets.map SetR.row).length = n := by rw [List.length_map, hn]
 have hn60 : n <= 60 := by have := hp.2.2.2.1;omega
 refine Fn0.of Tryz.func49 Tryz.ntmps49 rfl rfl rfl ?_
 simp only [A0]
 repeat' (first
  | refine W ?_
  | refine Y ?_
  | refine V ?_
  | (refine W2 ?_ ?_ <;> intro hc))
 refine T.nilU 3 rfl ?_
 refine T.loopS (fun i => i <= n) (fun i => n - i) (fun i => [(4, .i (i : Nat)), (1, .ptr 0 0), (3, .sl ((iN (Ac (Ak h) i)).map A8))]) (fun i => [.live (h.row.map .lf)]) 0 (Nat.zero_le _) CW (.live rfl .nil) ?_
 intro i hi
 by_cases hit : i < n
 ·have h1 : ((i : Nat) : Int) < ((h.sets.map SetR.row).length : Nat) := by omega
  obtain ⟨s, hs⟩ := Aa (l := h.sets) (k := i) (by omega)
  have hbs := Ab (R := SetR.row) hs
  have hks := Iy hs
  have hol := Bk (Ak h) i
  have hml : ∀ x ∈ Ac (Ak h) i, x < i := fun x hx => ordP_mem.1 hx
  have hput := fun k => @Y5 (Ak h) i k
  obtain ⟨o, ho⟩ : ∃ o, o = Ac (Ak h) i := ⟨_, rfl⟩
  rw [<- ho] at hol hml hput ⊢
  have hLl : (iN o).length = i := by rw [Lk, hol]
  have hrl : ((iN o).map A8).length = i := by rw [List.length_map, hLl]
  repeat' (first
   | refine W ?_
   | refine Y ?_
   | refine V ?_
   | (refine W2 ?_ ?_ <;> intro hc))
  rw [hrl]
  refine T.loopS (fun k => k <= i /\ ∀ x ∈ o.drop k, Ak h i < Ak h x) (fun k => k) (fun k => [(5, .i (k : Nat)), (4, .i (i : Nat)), (1, .ptr 0 0), (3, .sl ((iN o).map A8))]) (fun k => [.live (h.row.map .lf)]) i ⟨Nat.le_refl _, by rw [List.drop_of_length_le (by omega)];intro x hx;cases hx⟩ CW (.live rfl .nil) ?_
  rintro k ⟨hk, hall⟩
  have htr := Wu (iN o) ((k : Nat) : Int).toNat
  have hdr := Um (iN o) ((k : Nat) : Int).toNat
  have hto := Yn (iN o) ((k : Nat) : Int).toNat
  have hdo := Xc (iN o) ((k : Nat) : Int).toNat
  have htl : (((iN o).map A8).take ((k : Nat) : Int).toNat).length = k := by rw [List.length_take, hrl];omega
  have hdl : (((iN o).map A8).drop ((k : Nat) : Int).toNat).length = i - k := by rw [List.length_drop, hrl];omega
  have how := A1r htr (R2 := [[.i (i : Int)]]) (by intro r hr;simp at hr;subst hr;rfl) hdr
  have hc2 : (([] : List AV) ++ ((((iN o).map A8).take ((k : Nat) : Int).toNat).flatten).map AV.lf).length = (0 + (((iN o).map A8).take ((k : Nat) : Int).toNat).length) * 1 := by
   rw [List.nil_append, List.length_map, B6 _ htr, Nat.zero_add]
  have hc3 : ((([] : List AV) ++ ((((iN o).map A8).take ((k : Nat) : Int).toNat).flatten).map AV.lf) ++ ([[Lf.i (i : Int)]].flatten).map AV.lf).length = (0 + (((iN o).map A8).take ((k : Nat) : Int).toNat).length + [[Lf.i (i : Int)]].length) * 1 := by
   rw [List.length_append, hc2];simp
  have hcl2 : (([] : List AV) ++ ((((iN o).map A8).take ((k : Nat) : Int).toNat).flatten).map AV.lf).all (AV.clear 1) = true := B8 _ _
  have hcl3 : ((([] : List AV) ++ ((((iN o).map A8).take ((k : Nat) : Int).toNat).flatten).map AV.lf) ++ ([[Lf.i (i : Int)]].flatten).map AV.lf).all (AV.clear 1) = true := by
   rw [List.nil_append, <- List.map_append];exact B8 _ _
  have hend : (∀ j x, k = j + 1 -> o[j]? = some x -> ¬ Ak h i < Ak h x) -> ((iN (Ac (Ak h) (i + 1))).map A8) = ((iN o).map A8).take ((k : Nat) : Int).toNat ++ [[.i (i : Int)]] ++ ((iN o).map A8).drop ((k : Nat) : Int).toNat := fun h2 => by
   rw [hput k hall h2 hk, Int.toNat_natCast]
   simp [iN, A8]
  cases k with
  | zero =>
   have g1 : ¬ ((0 : Nat) : Int) > 0 := by decide
   have hend := hend (fun j x e => by omega)
   repeat' (first
    | (refine T.freeze 3 rfl rfl how ?_)
    | refine W ?_
    | refine Y ?_|(apply T.drawAll A3 (by decide +kernel))|(apply S.buildSlice1;(iterate 7 exact rfl))|(apply S.buildSliceO;(iterate 6 exact rfl))|(apply S.sliceTo;(iterate 3 exact rfl);omega;exact D0 _)|(apply S.sliceFrom;(iterate 3 exact rfl);omega;exact D0 _)|(apply S.appendO;(iterate 9 exact rfl);exact htr;exact hto;exact rfl;omega;omega)|(apply S.appendO;(iterate 8 exact rfl);exact hc2;exact Ad rfl;exact rfl;exact hcl2;simp only [List.length_cons, List.length_nil];omega;simp only [List.length_cons, List.length_nil];omega)|(apply S.appendO;(iterate 8 exact rfl);exact hc3;exact hdr;exact hdo;exact hcl3;simp only [List.length_cons, List.length_nil];omega;simp only [List.length_cons, List.length_nil];omega)|refine Za ?_
    | refine V ?_
    | (refine W2 ?_ ?_ <;> intro hc))
   all_goals (change Next _ _ _ _ _ _)
   all_goals exact Next.go (i + 1) (by omega) (by omega) (by rw [hend];exact CW) (.live rfl .nil)
  | succ j =>
   have g1 : ((j + 1 : Nat) : Int) > 0 := by omega
   obtain ⟨x, hx⟩ := Aa (l := o) (k := j) (by omega)
   have hxi := hml x (List.mem_of_getElem? hx)
   have hxr : ((iN o).map A8)[(((j + 1 : Nat) : Int) - 1).toNat]? = some (A8 (x : Int)) := by
    rw [show (((j + 1 : Nat) : Int) - 1).toNat = j by omega, List.getElem?_map, iN, List.getElem?_map, hx];rfl
   obtain ⟨y, hy⟩ := Aa (l := h.sets) (k := x) (by omega)
   have hby := Ab (R := SetR.row) hy
   have hky := Iy hy
   by_cases hd : y.depth > s.depth
   ·repeat' (first
    | refine W ?_
    | (apply S.indexR;(iterate 3 exact rfl);exact hbs;omega;exact rfl)|(apply S.indexR;(iterate 3 exact rfl);exact hby;omega;exact rfl)|(apply S.indexR;(iterate 3 exact rfl);exact hxr;omega;exact rfl) | refine Y ?_|(apply T.drawAll A3 (by decide +kernel))|refine Za ?_
    | refine V ?_
    | (refine W2 ?_ ?_ <;> intro hc))
    all_goals (change Next _ _ _ _ _ _)
    all_goals exact Next.go j ⟨by omega, fun z hz => by
     rw [List.drop_eq_getElem_cons (by omega)] at hz
     rcases List.mem_cons.1 hz with rfl | hz
     ·rw [List.getElem?_eq_getElem (by omega)] at hx
      injection hx with hx
      rw [hx, hks, hky]
      omega
     ·exact hall z hz⟩ (Nat.lt_succ_self j) (by rw [show ((j : Nat) : Int) = ((j + 1 : Nat) : Int) - 1 by omega];exact CW) (.live rfl .nil)
   ·have hend := hend (fun j2 z e hz => by
     obtain rfl : j2 = j := by omega
     rw [hx] at hz
     injection hz with hz
     rw [<- hz, hks, hky]
     omega)
    repeat' (first
     | (refine T.freeze 3 rfl rfl how ?_)
     | refine W ?_
     | (apply S.indexR;(iterate 3 exact rfl);exact hbs;omega;exact rfl)|(apply S.indexR;(iterate 3 exact rfl);exact hby;omega;exact rfl)|(apply S.indexR;(iterate 3 exact rfl);exact hxr;omega;exact rfl) | refine Y ?_|(apply T.drawAll A3 (by decide +kernel))|(apply S.buildSlice1;(iterate 7 exact rfl))|(apply S.buildSliceO;(iterate 6 exact rfl))|(apply S.sliceTo;(iterate 3 exact rfl);omega;exact D0 _)|(apply S.sliceFrom;(iterate 3 exact rfl);omega;exact D0 _)|(apply S.appendO;(iterate 9 exact rfl);exact htr;exact hto;exact rfl;omega;omega)|(apply S.appendO;(iterate 8 exact rfl);exact hc2;exact Ad rfl;exact rfl;exact hcl2;simp only [List.length_cons, List.length_nil];omega;simp only [List.length_cons, List.length_nil];omega)|(apply S.appendO;(iterate 8 exact rfl);exact hc3;exact hdr;exact hdo;exact hcl3;simp only [List.length_cons, List.length_nil];omega;simp only [List.length_cons, List.length_nil];omega)|refine Za ?_
     | refine V ?_
     | (refine W2 ?_ ?_ <;> intro hc))
    all_goals (change Next _ _ _ _ _ _)
    all_goals exact Next.go (i + 1) (by omega) (by omega) (by rw [hend];exact CW) (.live rfl .nil)
 ·have h1 : ¬ ((i : Nat) : Int) < ((h.sets.map SetR.row).length : Nat) := by omega
  obtain rfl : n = i := by omega
  repeat' (first
   | refine W ?_
   | refine Y ?_
   | refine V ?_
   | (refine W2 ?_ ?_ <;> intro hc))
  all_goals exact ⟨.inr rfl, [.sl ((iN (Ac (Ak h) n)).map A8)], .cons (.tmp rfl) .nil, .one (.one (.lf _))⟩
theorem A1i (a b : ByteArray) : ⟨#[104, 111, 117, 115, 101, 32]⟩ ++ a ++ ⟨#[32]⟩ ++ b ++ ⟨#[10]⟩ = ofL (Bu [⟨#[104, 111, 117, 115, 101]⟩, a, b]) := by
 apply Ei
 simp only [Ce, Hk]
 simp [Bu, Lib.join, List.intercalate]
theorem A1j (L : List UInt8) (a b c d : ByteArray) : ofL L ++ ⟨#[115, 101, 116, 32]⟩ ++ a ++ ⟨#[32, 100, 101, 112, 116, 104, 32]⟩ ++ b ++ ⟨#[32, 119, 101, 105, 103, 104, 116, 32]⟩ ++ c ++ ⟨#[32, 105, 109, 98, 97, 108, 97, 110, 99, 101, 32]⟩ ++ d ++ ⟨#[32, 104, 111, 108, 100, 115, 10]⟩ = ofL (L ++ Bu [⟨#[115, 101, 116]⟩, a, ⟨#[100, 101, 112, 116, 104]⟩, b, ⟨#[119, 101, 105, 103, 104, 116]⟩, c, ⟨#[105, 109, 98, 97, 108, 97, 110, 99, 101]⟩, d, ⟨#[104, 111, 108, 100, 115]⟩]) := by
 apply Ei
 simp only [Ce, Hk]
 simp [Bu, Lib.join, List.intercalate]
theorem A1k (L : List UInt8) (a b c d : ByteArray) : ofL L ++ ⟨#[115, 101, 116, 32]⟩ ++ a ++ ⟨#[32, 100, 101, 112, 116, 104, 32]⟩ ++ b ++ ⟨#[32, 119, 101, 105, 103, 104, 116, 32]⟩ ++ c ++ ⟨#[32, 105, 109, 98, 97, 108, 97, 110, 99, 101, 32]⟩ ++ d ++ ⟨#[32, 115, 108, 105, 112, 115, 10]⟩ = ofL (L ++ Bu [⟨#[115, 101, 116]⟩, a, ⟨#[100, 101, 112, 116, 104]⟩, b, ⟨#[119, 101, 105, 103, 104, 116]⟩, c, ⟨#[105, 109, 98, 97, 108, 97, 110, 99, 101]⟩, d, ⟨#[115, 108, 105, 112, 115]⟩]) := by
 apply Ei
 simp only [Ce, Hk]
 simp [Bu, Lib.join, List.intercalate]
theorem A1l (L : List UInt8) (a b c : ByteArray) : ofL L ++ ⟨#[98, 101, 97, 109, 32]⟩ ++ a ++ ⟨#[32, 98, 101, 97, 114, 115, 32]⟩ ++ b ++ ⟨#[32, 111, 102, 32]⟩ ++ c ++ ⟨#[10]⟩ = ofL (L ++ Bu [⟨#[98, 101, 97, 109]⟩, a, ⟨#[98, 101, 97, 114, 115]⟩, b, ⟨#[111, 102]⟩, c]) := by
 apply Ei
 simp only [Ce, Hk]
 simp [Bu, Lib.join, List.intercalate]
theorem Oh (h : HouseR) (hf : h.fits) (hp : Az h) (h5 : h.sets.length <= 5) (b : Ek h) : Fn0 Tryz.prog 53 [A6 h.row] (.tup [.sl (h.roofs.map fun x => frR (brQ h.roofs h.sets x)), .i 0]) :=
 Ip h hf hp _ _ (fun _ => Vq h.roofs hp.2.2.2.2.1.1 h.sets h5 (fun s hs => ⟨(G9 (hp.2.2.2.2.2.1 s hs).1).1, b.1 s hs⟩) b.2) fun hn => absurd b.1 hn
theorem Q3 (h : HouseR) (hf : h.fits) (hp : Az h) (h5 : h.sets.length <= 5) (b : ¬ Ek h) : ∃ e : Int, ¬ e = 0 /\ Fn0 Tryz.prog 53 [A6 h.row] (.tup [.sl [], .i e]) := by
 by_cases h1 : ∀ s ∈ h.sets, ptW s <= 67108864
 ·have h2 : ∃ s ∈ h.sets, Ap h.roofs s.depth = 0 := Classical.byContradiction fun hn => b ⟨h1, fun s hs => Nat.pos_of_ne_zero fun e => hn ⟨s, hs, e⟩⟩
  exact ⟨12, by decide, Ip h hf hp [] 12 (fun _ => Mx h.roofs hp.2.2.2.2.1.1 h.sets (by omega) h2) fun hn => absurd h1 hn⟩
 ·exact ⟨5, by decide, Ip h hf hp [] 5 (fun hh => absurd hh h1) fun _ => ⟨rfl, rfl⟩⟩
set_option maxRecDepth 20000 in
set_option maxHeartbeats 64000000 in
theorem M4 (h : HouseR) (hf : h.fits) (hp : Az h) (h5 : h.sets.length <= 5) (rs : List (List Lf)) (e : Int) (T2 : List UInt8) (cl : Fn0 Tryz.prog 53 [A6 h.row] (.tup [.sl rs, .i e])) (he : ¬ e = 0 -> T2 = hT1 h (Ac (Ak h) h.sets.length)) (hb : e = 0 -> Ek h /\ rs = h.roofs.map (fun x => frR (brQ h.roofs h.sets x)) /\ T2 = hT2 h (Ac (Ak h) h.sets.length) h.roofs) : Fn0 Tryz.prog 19 [A6 h.row] (.s (ofL T2)) := by
 have co := Vy h hp
 obtain ⟨L, hL⟩ : ∃ L, L = iN (Ac (Ak h) h.sets.length) := ⟨_, rfl⟩
 have hLl : L.length = h.sets.length := by rw [hL, Lk, Bk]
 have hll : (L.map A8).length = h.sets.length := by rw [List.length_map, hLl]
 rw [<- hL] at co
 have sN := Ch hp.1
 have hh := hp.2.1
 have hh2 := hp.2.2.1
 have ci := It h.height (by omega) (by omega)
 have si := Ar (n := h.height) (by omega) (by omega)
 have hst := A1i h.name (Af h.height)
 have hT0 : hT1 h [] = Bu (hwN h) := Ro h
 unfold hwN at hT0
 rw [<- hT0] at hst
 have za0 : (⟨#[104, 111, 117, 115, 101, 32]⟩ : ByteArray).size = 6 := rfl
 have za1 : (⟨#[32]⟩ : ByteArray).size = 1 := rfl
 have za2 : (⟨#[10]⟩ : ByteArray).size = 1 := rfl
 refine Fn0.of Tryz.func19 Tryz.ntmps19 rfl rfl rfl ?_
 simp only [A0]
 repeat' (first
  | refine W ?_
  | refine Y ?_|(apply S.strAdd;(iterate 3 exact rfl);first | omega|(simp only [ByteArray.size_append];omega))|(apply T.drawAll A3 (by decide +kernel))|refine Za ?_
  | refine V ?_
  | (refine W2 ?_ ?_ <;> intro hc))
 obtain ⟨n, hn⟩ : ∃ n, n = h.sets.length := ⟨_, rfl⟩
 rw [<- hn] at hL hLl hll he hb h5
 refine T.loopS (fun k => k <= n) (fun k => n - k) (fun k => [(5, .i (k : Nat)), (4, .sl (L.map A8)), (1, .ptr 0 0), (3, .s (ofL (hT1 h ((Ac (Ak h) n).take k))))]) (fun k => [.live (h.row.map .lf)]) 0 (Nat.zero_le _) (by rw [List.take_zero, <- hst];exact CW) (.live rfl .nil) ?_
 intro k hk
 by_cases hlt : k < n
 ·have h2 : ((k : Nat) : Int) < ((L.map A8).length : Nat) := by omega
  obtain ⟨x, hx⟩ := Aa (l := Ac (Ak h) n) (k := k) (by rw [Bk];exact hlt)
  have hxn : x < n := ordP_mem.1 (List.mem_of_getElem? hx)
  have hxL : L[k]? = some (x : Int) := by rw [hL, iN, List.getElem?_map, hx];rfl
  have hb1 := Ab (R := A8) hxL
  obtain ⟨s, hs⟩ := Aa (l := h.sets) (k := x) (by omega)
  have hb2 := Ab (R := SetR.row) hs
  have hsm := List.mem_of_getElem? hs
  have hsp := (hp.2.2.2.2.2.1 s hsm).1
  have cw := Hm s hsp
  have cb := Jl s hsp
  have ch := Vx s hsp
  have r1 := C5 hsp
  have r2 := Ej hsp
  have r3 := hsp.2.1
  have hts := Pd hx hs
  have htl := Pc hp (l := (Ac (Ak h) n).take k) fun y hy => by have := ordP_mem.1 (List.mem_of_mem_take hy);omega
  have htk : ((Ac (Ak h) n).take k).length <= 5 := by rw [List.length_take, Bk];omega
  have hsz := Pw (hT1 h ((Ac (Ak h) n).take k))
  have c1 := It s.depth (by omega) (by omega)
  have c2 := It (wtS s) (by omega) (by omega)
  have c3 := It (Br s) (by omega) (by omega)
  have s1 := Ar (n := s.depth) (by omega) (by omega)
  have s2 := Ar (n := wtS s) (by omega) (by omega)
  have s3 := Ar (n := Br s) (by omega) (by omega)
  have s4 := Ch hsp.1
  have zb0 : (⟨#[115, 101, 116, 32]⟩ : ByteArray).size = 4 := rfl
  have zb1 : (⟨#[32, 100, 101, 112, 116, 104, 32]⟩ : ByteArray).size = 7 := rfl
  have zb2 : (⟨#[32, 119, 101, 105, 103, 104, 116, 32]⟩ : ByteArray).size = 8 := rfl
  have zb3 : (⟨#[32, 105, 109, 98, 97, 108, 97, 110, 99, 101, 32]⟩ : ByteArray).size = 11 := rfl
  have zb4 : (⟨#[32, 104, 111, 108, 100, 115, 10]⟩ : ByteArray).size = 7 := rfl
  have zb5 : (⟨#[32, 115, 108, 105, 112, 115, 10]⟩ : ByteArray).size = 7 := rfl
  unfold hwS at hts
  generalize hT1 h ((Ac (Ak h) n).take k) = tt at *
  by_cases hold : Gf s
  ·have hX : hwX s = ⟨#[104, 111, 108, 100, 115]⟩ := if_pos hold
   rw [decide_eq_true hold] at ch
   rw [hX] at hts
   have hls := A1j tt s.name (Af s.depth) (Af (wtS s)) (Af (Br s))
   rw [<- hts] at hls
   repeat' (first
    | refine W ?_
    | (apply S.indexR;(iterate 3 exact rfl);exact hb1;omega;exact rfl)|(apply S.indexR;(iterate 3 exact rfl);exact hb2;omega;exact rfl) | refine Y ?_|(apply S.strAdd;(iterate 3 exact rfl);first | omega|(simp only [ByteArray.size_append];omega))|(apply T.drawN 1 8 A3 (by decide +kernel);simp only [td])|(apply T.drawRN 1 8 A3 (by decide +kernel);simp only [td])|(apply T.drawAll A3 (by decide +kernel))|refine Za ?_
    | refine V ?_
    | (refine W2 ?_ ?_ <;> intro hc))
   all_goals (change Next _ _ _ _ _ _)
   all_goals exact Next.go (k + 1) (by omega) (by omega) (by rw [<- hls];exact CW) (.live rfl .nil)
  ·have hX : hwX s = ⟨#[115, 108, 105, 112, 115]⟩ := if_neg hold
   rw [decide_eq_false hold] at ch
   rw [hX] at hts
   have hls := A1k tt s.name (Af s.depth) (Af (wtS s)) (Af (Br s))
   rw [<- hts] at hls
   repeat' (first
    | refine W ?_
    | (apply S.indexR;(iterate 3 exact rfl);exact hb1;omega;exact rfl)|(apply S.indexR;(iterate 3 exact rfl);exact hb2;omega;exact rfl) | refine Y ?_|(apply S.strAdd;(iterate 3 exact rfl);first | omega|(simp only [ByteArray.size_append];omega))|(apply T.drawN 1 8 A3 (by decide +kernel);simp only [td])|(apply T.drawRN 1 8 A3 (by decide +kernel);simp only [td])|(apply T.drawAll A3 (by decide +kernel))|refine Za ?_
    | refine V ?_
    | (refine W2 ?_ ?_ <;> intro hc))
   all_goals (change Next _ _ _ _ _ _)
   all_goals exact Next.go (k + 1) (by omega) (by omega) (by rw [<- hls];exact CW) (.live rfl .nil)
 have h2 : ¬ ((k : Nat) : Int) < ((L.map A8).length : Nat) := by omega
 obtain rfl : n = k := by omega
 rw [List.take_of_length_le (by rw [Bk];omega)]
 by_cases e0 : e = 0
 ·obtain ⟨bk, hrs, hT⟩ := hb e0
  subst hrs hT e0
  have hTb := fun (r : List RoofR) hr => Ut hp bk (by omega) (l := Ac (Ak h) n) (r := r) (fun y hy => by have := ordP_mem.1 hy;omega) hr
  have hol := Bk (Ak h) n
  have hr20 : h.roofs.length <= 20 := hp.2.2.2.2.1.1
  have hle : (h.roofs.map fun x => frR (brQ h.roofs h.sets x)).length = h.roofs.length := List.length_map _
  have hle2 : (h.roofs.map RoofR.row).length = h.roofs.length := List.length_map _
  repeat' (first
   | refine W ?_
   | refine Y ?_
   | refine V ?_
   | (refine W2 ?_ ?_ <;> intro hc))
  refine T.loopS (fun j => j <= h.roofs.length) (fun j => h.roofs.length - j) (fun j => [(9, .i (j : Nat)), (7, .sl (h.roofs.map fun x => frR (brQ h.roofs h.sets x))), (1, .ptr 0 0), (3, .s (ofL (hT2 h (Ac (Ak h) n) (h.roofs.take j))))]) (fun j => [.live (h.row.map .lf)]) 0 (Nat.zero_le _) (by rw [List.take_zero, Rp];exact CW) (.live rfl .nil) ?_
  intro j hj
  have hT2j := hTb (h.roofs.take j) fun y hy => List.mem_of_mem_take hy
  have hjl : (h.roofs.take j).length <= 20 := by rw [List.length_take];omega
  have hsz := Pw (hT2 h (Ac (Ak h) n) (h.roofs.take j))
  by_cases hlt : j < h.roofs.length
  ·have h3 : ((j : Nat) : Int) < ((h.roofs.map fun x => frR (brQ h.roofs h.sets x)).length : Nat) := by omega
   obtain ⟨x, hx⟩ := Aa hlt
   have hb1 := Ab (R := RoofR.row) hx
   have hxm := List.mem_of_getElem? hx
   have hb2 := Ab (R := fun x => frR (brQ h.roofs h.sets x)) hx
   have hxp := hp.2.2.2.2.1.2.1 x hxm
   have hfit := I7 hp bk (by omega) hxm (k := h.sets.length) (Nat.le_refl _)
   rw [List.take_length] at hfit
   have hts := Pe (h := h) (l := Ac (Ak h) n) hx
   have r3 := hxp.2.2.2.2
   have s4 := Ch hxp.1
   have c1 := It x.most (by omega) (by omega)
   have s1 := Ar (n := x.most) (by omega) (by omega)
   have ctq := Yb (brQ h.roofs h.sets x) hfit
   have s2 := Hv hfit
   have zc0 : (⟨#[98, 101, 97, 109, 32]⟩ : ByteArray).size = 5 := rfl
   have zc1 : (⟨#[32, 98, 101, 97, 114, 115, 32]⟩ : ByteArray).size = 7 := rfl
   have zc2 : (⟨#[32, 111, 102, 32]⟩ : ByteArray).size = 4 := rfl
   have zc3 : (⟨#[10]⟩ : ByteArray).size = 1 := rfl
   unfold hwB at hts
   have hls := A1l (hT2 h (Ac (Ak h) n) (h.roofs.take j)) x.name (D9 (brQ h.roofs h.sets x)) (Af x.most)
   rw [<- hts] at hls
   generalize hT2 h (Ac (Ak h) n) (h.roofs.take j) = tt at *
   generalize D9 (brQ h.roofs h.sets x) = tq at *
   repeat' (first
    | refine W ?_
    | (apply S.indexR;(iterate 3 exact rfl);exact hb1;omega;exact rfl)|(apply S.indexR;(iterate 3 exact rfl);exact hb2;omega;exact rfl) | refine Y ?_|(apply S.strAdd;(iterate 3 exact rfl);first | omega|(simp only [ByteArray.size_append];omega))|(apply T.drawAll A3 (by decide +kernel))|(apply T.drawR 26 A3 (by decide +kernel);simp only [td])|refine Za ?_
    | refine V ?_
    | (refine W2 ?_ ?_ <;> intro hc))
   all_goals (change Next _ _ _ _ _ _)
   all_goals exact Next.go (j + 1) (by omega) (by omega) (by rw [<- hls];exact CW) (.live rfl .nil)
  ·have h3 : ¬ ((j : Nat) : Int) < ((h.roofs.map fun x => frR (brQ h.roofs h.sets x)).length : Nat) := by omega
   rw [List.take_of_length_le (by omega)]
   generalize ofL (hT2 h (Ac (Ak h) n) h.roofs) = X at *
   repeat' (first
    | refine W ?_
    | refine Y ?_
    | refine V ?_
    | (refine W2 ?_ ?_ <;> intro hc))
   all_goals exact A7 (by simp) Tryz.results19 rfl rfl
 ·have hT := he e0
  subst hT
  generalize ofL (hT1 h (Ac (Ak h) n)) = X at *
  repeat' (first
   | refine W ?_
   | refine Y ?_
   | refine V ?_
   | (refine W2 ?_ ?_ <;> intro hc))
  all_goals exact A7 (by simp) Tryz.results19 rfl rfl
theorem W0 (h : HouseR) (hf : h.fits) (hp : Az h) (h5 : h.sets.length <= 5) : Fn0 Tryz.prog 19 [A6 h.row] (.s (ofL (hTx h))) := by
 by_cases b : Ek h
 ·exact M4 h hf hp h5 _ 0 _ (Oh h hf hp h5 b) (fun hn => absurd rfl hn) fun _ => ⟨b, rfl, Rq b⟩
 ·obtain ⟨e, he, cl⟩ := Q3 h hf hp h5 b
  exact M4 h hf hp h5 _ e _ cl (fun _ => Uu b) fun h0 => absurd h0 he
theorem Kh (h : HouseR) (hf : h.fits) : Fn0 Tryz.prog 5 [A6 h.row] (.b true) := by
 have ca := Uz
 have csm := Vz h 5 (by decide) hf
 have cv := Nu h hf
 by_cases hs : Q9 h 5
 ·have h5 : h.sets.length <= 5 := by have := hs.1;omega
  rw [decide_eq_true hs] at csm
  by_cases hp : Az h
  ·rw [decide_eq_true hp] at cv
   have ct := Oi h hf hp h5
   have cr := W0 h hf hp h5
   have q : ofL (hTx h) = ofL (hTx h) := rfl
   generalize ofL (hTx h) = X at *
   refine Fn0.of Tryz.func5 Tryz.ntmps5 rfl rfl rfl ?_
   simp only [A0]
   repeat' (first
    | refine W ?_
    | refine Y ?_
    | refine V ?_
    | (refine W2 ?_ ?_ <;> intro hc))
   all_goals exact A7 (by simp) Tryz.results5 rfl (by simp)
  ·rw [decide_eq_false hp] at cv
   have ct := Oj h hf hp
   have q : (⟨#[]⟩ : ByteArray) = ⟨#[]⟩ := rfl
   refine Fn0.of Tryz.func5 Tryz.ntmps5 rfl rfl rfl ?_
   simp only [A0]
   repeat' (first
    | refine W ?_
    | refine Y ?_
    | refine V ?_
    | (refine W2 ?_ ?_ <;> intro hc))
   all_goals exact A7 (by simp) Tryz.results5 rfl (by simp)
 ·rw [decide_eq_false hs] at csm
  refine Fn0.of Tryz.func5 Tryz.ntmps5 rfl rfl rfl ?_
  simp only [A0]
  repeat' (first
   | refine W ?_
   | refine Y ?_
   | refine V ?_
   | (refine W2 ?_ ?_ <;> intro hc))
  all_goals exact A7 (by simp) Tryz.results5 rfl rfl
end Go.Proofs.YtcfjofhapbkmfaaGreatDoor
