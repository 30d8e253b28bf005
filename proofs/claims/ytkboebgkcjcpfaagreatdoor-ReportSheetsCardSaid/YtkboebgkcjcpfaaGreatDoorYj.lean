/- Plain laws: a list put into order by insertion from the right. No conditions but those of each statement. -/
import Derived.Test.YtkboebgkcjcpfaaGreatDoorMa
import Derived.Test.YtkboebgkcjcpfaaGreatDoorPe
import Derived.Test.YtkboebgkcjcpfaaGreatDoorYa
import Derived.Test.YtkboebgkcjcpfaaGreatDoorYf
set_option linter.unusedSimpArgs false
set_option linter.unusedVariables false
namespace Go.Proofs.YtkboebgkcjcpfaaGreatDoor
def D8 (key : Nat -> Int) (e : Nat) : List Nat -> List Nat
 | [] => [e]
 | a :: r => if key e < key a then a :: D8 key e r else e :: a :: r
def Ay (key : Nat -> Int) : Nat -> List Nat
 | 0 => []
 | n + 1 => (D8 key n (Ay key n).reverse).reverse
def Fm (key : Nat -> Int) (x y : Nat) : Prop := key x < key y \/ (key x = key y /\ x < y)
theorem insV_mem {key : Nat -> Int} {e x : Nat} : ∀ {l : List Nat}, x ∈ D8 key e l ↔ x = e \/ x ∈ l
 | [] => by simp [D8]
 | a :: r => by
  unfold D8
  split
  ·rw [List.mem_cons, insV_mem (l := r), List.mem_cons]
   constructor
   ·rintro (h | h | h) <;> simp [h]
   ·rintro (h | h | h) <;> simp [h]
  ·simp
theorem Sy {key : Nat -> Int} {e : Nat} : ∀ (l : List Nat), (D8 key e l).length = l.length + 1
 | [] => rfl
 | a :: r => by
  unfold D8
  split
  ·rw [List.length_cons, Sy r, List.length_cons]
  ·rfl
theorem E9 (key : Nat -> Int) : ∀ n, (Ay key n).length = n
 | 0 => rfl
 | n + 1 => by rw [Ay, List.length_reverse, Sy, List.length_reverse, E9 key n]
theorem ordP_mem {key : Nat -> Int} {x : Nat} : ∀ {n : Nat}, x ∈ Ay key n ↔ x < n
 | 0 => by simp [Ay]
 | n + 1 => by
  rw [Ay, List.mem_reverse, insV_mem, List.mem_reverse, ordP_mem (n := n)]
  omega
theorem Mj {key : Nat -> Int} {e : Nat} : ∀ {l : List Nat}, l.Pairwise (fun x y => Fm key y x) -> (∀ x ∈ l, x < e) -> (D8 key e l).Pairwise (fun x y => Fm key y x)
 | [], _, _ => by simp [D8]
 | a :: r, h, hl => by
  rw [List.pairwise_cons] at h
  obtain ⟨h1, h2⟩ := h
  have ha := hl a (by simp)
  have ih := Mj h2 fun x hx => hl x (by simp [hx])
  unfold D8
  split
  ·rename_i hk
   rw [List.pairwise_cons]
   refine ⟨fun x hx => ?_, ih⟩
   rcases insV_mem.1 hx with rfl | hx
   ·exact .inl hk
   ·exact h1 x hx
  ·rename_i hk
   rw [List.pairwise_cons]
   refine ⟨fun x hx => ?_, List.pairwise_cons.2 ⟨h1, h2⟩⟩
   rcases List.mem_cons.1 hx with rfl | hx
   ·unfold Fm;omega
   ·have := h1 x hx
    have := hl x (by simp [hx])
    unfold Fm at *
    omega
theorem Gc (key : Nat -> Int) : ∀ n, (Ay key n).Pairwise (Fm key)
 | 0 => List.Pairwise.nil
 | n + 1 => by
  rw [Ay, List.pairwise_reverse]
  refine Mj ?_ fun x hx => ?_
  ·rw [List.pairwise_reverse];exact Gc key n
  ·rw [List.mem_reverse] at hx;exact ordP_mem.1 hx
theorem Ok (key : Nat -> Int) (n : Nat) : (Ay key n).Nodup := by
 refine (Gc key n).imp fun h e => ?_
 subst e
 unfold Fm at h
 omega
def C5 (n i : Nat) : List Nat := (List.range n).drop i
theorem P3 {n i : Nat} (h : i < n) : C5 n i = i :: C5 n (i + 1) := by
 unfold C5
 rw [List.drop_eq_getElem_cons (by simpa using h)]
 simp
theorem A1h (n : Nat) : C5 n n = [] := by unfold C5;simp
def iN (l : List Nat) : List Int := l.map fun x : Nat => (x : Int)
theorem A5e (l : List Nat) : (iN l).length = l.length := List.length_map _
theorem A4q (key : Nat -> Int) {n : Nat} (h : 0 < n) : Ay key 1 ++ C5 n 1 = List.range n := by
 have h0 : C5 n 0 = List.range n := rfl
 rw [<- h0, P3 h]
 rfl
theorem A4f (r : List Nat) (a i : Nat) (T : List Nat) : (iN ((a :: r).reverse ++ i :: T))[r.length + 1]? = some (i : Int) := by
 unfold iN
 rw [List.getElem?_map, List.getElem?_append_right (by simp)]
 simp
theorem A4e (r : List Nat) (a i : Nat) (T : List Nat) : (iN ((a :: r).reverse ++ i :: T))[r.length]? = some (a : Int) := by
 unfold iN
 rw [List.getElem?_map, List.getElem?_append_left (by simp), List.reverse_cons, List.getElem?_append_right (by simp)]
 simp
theorem A2n (r : List Nat) (a i : Nat) (T : List Nat) : ((iN ((a :: r).reverse ++ i :: T)).set (r.length + 1) (a : Int)).set r.length (i : Int) = iN (r.reverse ++ i :: (a :: T)) := by
 apply List.ext_getElem?
 intro k
 rw [List.getElem?_set, List.getElem?_set]
 unfold iN
 simp only [List.length_set, List.length_map, List.length_append, List.length_reverse, List.length_cons, List.getElem?_map]
 by_cases h1 : r.length = k
 ·subst h1
  rw [if_pos rfl, if_pos (by omega), List.getElem?_append_right (by simp)]
  simp
 ·rw [if_neg h1]
  by_cases h2 : r.length + 1 = k
  ·subst h2
   rw [if_pos rfl, if_pos (by omega), List.getElem?_append_right (by simp)]
   simp
  ·rw [if_neg h2]
   rcases Nat.lt_or_ge k r.length with h3 | h3
   ·rw [List.getElem?_append_left (by simp;omega), List.getElem?_append_left (by simp;omega), List.reverse_cons, List.getElem?_append_left (by simp;omega)]
   ·rw [List.getElem?_append_right (by simp;omega), List.getElem?_append_right (by simp;omega)]
    simp only [List.length_reverse, List.length_cons]
    obtain ⟨m, rfl⟩ : ∃ m, k = r.length + 2 + m := ⟨k - (r.length + 2), by omega⟩
    rw [show r.length + 2 + m - (r.length + 1) = m + 1 by omega, show r.length + 2 + m - r.length = m + 2 by omega]
    simp
structure InsS where
 A : List Nat
 B : List Nat
end Go.Proofs.YtkboebgkcjcpfaaGreatDoor
namespace Go.Proofs.YtkboebgkcjcpfaaGreatDoor
open Go Go.RowKit
def stI (h : HouseR) (c : SheetR) (G : List Int) (i : Nat) : Int := (stL h c G).getD i 0
def nmI (c : SheetR) (i : Nat) : ByteArray := (c.cues[i]?.map CueR.name).getD ⟨#[]⟩
theorem Nu (h : HouseR) (c : SheetR) (G : List Int) {n i : Nat} (hi : i < n) : (Bp h c G n)[i]? = some (H9 h c G i) := by
 unfold Bp
 rw [List.getElem?_map, List.getElem?_range hi]
 rfl
set_option maxHeartbeats 4000000 in
theorem A4z (h : HouseR) (c : SheetR) (G : List Int) (p : PlanOk h c G) (n x y : Nat) (hx : x < n) (hy : y < n) : Fn0 Tryz.prog 22 [.i x, .i y, .rop [.sl (Bp h c G n)]] (.i (stI h c G x - stI h c G y)) := by
 have b1 : (Bp h c G n)[((x : Nat) : Int).toNat]? = some (H9 h c G x) := by rw [Int.toNat_natCast];exact Nu h c G hx
 have b2 : (Bp h c G n)[((y : Nat) : Int).toNat]? = some (H9 h c G y) := by rw [Int.toNat_natCast];exact Nu h c G hy
 have s1 := p.st x
 have s2 := p.st y
 have h1 : H9 h c G x = [.s (nmI c x), .i (stI h c G x)] := rfl
 have h2 : H9 h c G y = [.s (nmI c y), .i (stI h c G y)] := rfl
 rw [h1] at b1
 rw [h2] at b2
 have e1 : stI h c G x = (stL h c G).getD x 0 := rfl
 have e2 : stI h c G y = (stL h c G).getD y 0 := rfl
 generalize stI h c G x = u at *
 generalize stI h c G y = v at *
 refine Fn0.of Tryz.func22 Tryz.ntmps22 rfl rfl rfl ?_
 simp only [A0]
 repeat' (first
  | refine W ?_
  | refine Y ?_|(apply S.indexR;(iterate 3 exact rfl);exact b1;omega;exact rfl)|(apply S.indexR;(iterate 3 exact rfl);exact b2;omega;exact rfl)|refine Za ?_|(apply T.drawAll A3 (by decide +kernel))|(apply T.draw 11 A3 (by decide +kernel);simp only [td])|(apply T.drawR 12 A3 (by decide +kernel);simp only [td])
  | refine V ?_
  | (refine W2 ?_ ?_ <;> intro hc))
 all_goals exact A5 (by simp) Tryz.results22 rfl rfl
def wdI (h : HouseR) (c : SheetR) (G : List Int) (i : Nat) : List ByteArray := [⟨#[99, 117, 101]⟩, nmI c i, ⟨#[102, 114, 111, 109]⟩, Ao (stI h c G i), ⟨#[116, 111]⟩, Ao (D5 h c G i)]
def txI (h : HouseR) (c : SheetR) (G : List Int) (l : List Nat) : List UInt8 := bytesOf (l.map (wdI h c G))
theorem Uc {h : HouseR} {c : SheetR} {G : List Int} {l : List Nat} {k x : Nat} (hx : l[k]? = some x) : txI h c G (l.take (k + 1)) = txI h c G (l.take k) ++ Dm (wdI h c G x) := by
 unfold txI
 rw [Af hx, List.map_append, Kn, List.map_cons, List.map_nil, Yk]
theorem Wz (L : List UInt8) (a b : ByteArray) (d : ByteArray) : L ++ (⟨#[99, 117, 101]⟩ : ByteArray).data.toList ++ (⟨#[32]⟩ : ByteArray).data.toList ++ a.data.toList ++ (⟨#[32]⟩ : ByteArray).data.toList ++ (⟨#[102, 114, 111, 109]⟩ : ByteArray).data.toList ++ (⟨#[32]⟩ : ByteArray).data.toList ++ b.data.toList ++ (⟨#[32]⟩ : ByteArray).data.toList ++ (⟨#[116, 111]⟩ : ByteArray).data.toList ++ (⟨#[32]⟩ : ByteArray).data.toList ++ d.data.toList ++ (⟨#[10]⟩ : ByteArray).data.toList = L ++ Dm [⟨#[99, 117, 101]⟩, a, ⟨#[102, 114, 111, 109]⟩, b, ⟨#[116, 111]⟩, d] := by
 simp [Dm, Lib.join, List.intercalate]
theorem Ng {h : HouseR} {c : SheetR} (v : validP h c) {i : Nat} (hi : i < c.cues.length) : B8 (nmI c i) = true := by
 obtain ⟨q, hq⟩ := Ac hi
 unfold nmI
 rw [hq]
 exact (v.2.2.1 i q hq).2.1.1
theorem A5v {h : HouseR} {c : SheetR} {G : List Int} (p : PlanOk h c G) (v : validP h c) {i : Nat} (hi : i < c.cues.length) : Pt (wdI h c G i) := by
 have hn := Ng v hi
 simp only [B8, Bool.and_eq_true, decide_eq_true_eq] at hn
 have := hn.1.1.2
 have s1 := p.st i
 have s2 := p.end_ i
 have i1 := Cr (n := stI h c G i) (by unfold stI;omega) (by unfold stI;omega)
 have i2 := Cr (n := D5 h c G i) (by omega) (by omega)
 refine ⟨by simp [wdI], fun w hw => ?_⟩
 simp only [wdI, List.mem_cons, List.not_mem_nil, or_false] at hw
 rcases hw with rfl | rfl | rfl | rfl | rfl | rfl
 ·decide
 ·omega
 ·decide
 ·omega
 ·decide
 ·omega
theorem Ub {h : HouseR} {c : SheetR} {G : List Int} (p : PlanOk h c G) (v : validP h c) (l : List Nat) (hl : ∀ x ∈ l, x < c.cues.length) : (txI h c G l).length <= l.length * 428 := by
 have := S9 (l.map (wdI h c G)) fun ws hw => by
  obtain ⟨x, hx, rfl⟩ := List.mem_map.1 hw
  exact A5v p v (hl x hx)
 rwa [List.length_map] at this
set_option maxHeartbeats 8000000 in
theorem Kh (h : HouseR) (c : SheetR) (hf : h.fits) (hc : c.fits) (G : List Int) (hG : G.length <= 4611686018427387904) (e0 : ¬ alE h c G = 0) : Fn0 Tryz.prog 7 [A4 h.row, A4 c.row, .sl (G.map A1)] (.tup [.s ⟨#[]⟩, .i (alE h c G)]) := by
 have cb := Iq h c hf hc G hG e0
 have e1 : ¬ alE h c G = 0 := e0
 generalize alE h c G = e at *
 refine Fn0.of Tryz.func7 Tryz.ntmps7 rfl rfl rfl ?_
 simp only [A0]
 repeat' (first
  | refine W ?_
  | refine Y ?_
  | refine V ?_
  | (refine W2 ?_ ?_ <;> intro hc))
 all_goals exact D2 rfl rfl rfl
set_option maxHeartbeats 16000000 in
theorem Ki (h : HouseR) (c : SheetR) (hf : h.fits) (hc : c.fits) (G : List Int) (hG : G.length <= 4611686018427387904) (e0 : alE h c G = 0) (hn : c.cues.length = 0) : Fn0 Tryz.prog 7 [A4 h.row, A4 c.row, .sl (G.map A1)] (.tup [.s ⟨#[]⟩, .i 0]) := by
 have cb := K5 h c hf hc G hG e0
 have ce := Nr h c hf hc G hG e0 trivial
 rw [hn] at cb
 rw [show Di h c G = [] by unfold Di;rw [hn];rfl] at ce
 refine Fn0.of Tryz.func7 Tryz.ntmps7 rfl rfl rfl ?_
 simp only [A0]
 repeat' (first
  | refine W ?_
  | refine Y ?_|(apply S.lenN;exact rfl;exact rfl)|(refine T.unroll ?_)|(refine TL.round ?_)|(dsimp only [B9, Ai];refine TL.round ?_)|(apply S.arith;(iterate 4 exact rfl);decide)|(refine ⟨by first | exact .inl rfl | exact .inr rfl, [], .nil, rfl, ?_⟩;show Reg none _ _ _ _ _ _ _)|(refine S.inline [(11, .val (.slice none 0 0))] Tryz.func21 Tryz.ntmps21 rfl rfl rfl rfl rfl rfl rfl CW rfl ?_;intro vs1;simp only [A0, List.cons_append, List.nil_append])|(refine S.inline [] Tryz.func40 Tryz.ntmps40 rfl rfl rfl rfl rfl rfl rfl CW rfl ?_;intro vs2;simp only [A0, List.cons_append, List.nil_append])|(refine S.inline [(6, .i 20), (1, .i 0)] Tryz.func69 Tryz.ntmps69 rfl rfl rfl rfl rfl rfl rfl CW rfl ?_;intro vs3;simp only [A0, List.cons_append, List.nil_append])|(apply S.papN;exact rfl;exact rfl)|(apply S.papT;exact rfl;exact (rfl : _ = Nj _ []);exact rfl)
  | refine V ?_
  | (refine W2 ?_ ?_ <;> intro hc))
 all_goals exact D2 rfl rfl rfl
set_option maxRecDepth 20000 in
set_option maxHeartbeats 64000000 in
theorem Rd (h : HouseR) (c : SheetR) (hf : h.fits) (hc : c.fits) (G : List Int) (hG : G.length <= 4611686018427387904) (e0 : alE h c G = 0) (p : PlanOk h c G) (v : validP h c) (n : Nat) (hcn : c.cues.length = n) (hn0 : 0 < n) (hn : n <= 19) : Fn0 Tryz.prog 7 [A4 h.row, A4 c.row, .sl (G.map A1)] (.tup [.s (ofL (txI h c G (Ay (stI h c G) n))), .i 0]) := by
 have cb := K5 h c hf hc G hG e0
 have ce := Nr h c hf hc G hG e0 trivial
 rw [hcn] at cb
 have hel : ((Di h c G).map A1).length = n := by rw [List.length_map, J7, hcn]
 have hcmp := fun x y hx hy => A4z h c G p n x y hx hy
 have hbl := Is h c G n
 obtain ⟨key, hkey⟩ : ∃ key, key = stI h c G := ⟨_, rfl⟩
 rw [<- hkey] at hcmp ⊢
 have h20 : ¬ (20 : Int) <= (n : Nat) := by omega
 have h20b : ¬ (20 : Int) < (n : Nat) := by omega
 refine Fn0.of Tryz.func7 Tryz.ntmps7 rfl rfl rfl ?_
 simp only [A0]
 repeat' (first
  | refine W ?_
  | refine Y ?_
  | refine V ?_
  | (refine W2 ?_ ?_ <;> intro hc))
 refine T.kill 0 ?_
 refine T.kill 1 ?_
 refine T.kill 3 ?_
 refine T.loopS (fun k => k <= n) (fun k => n - k) (fun k => [(38, .i (k : Nat)), (37, .i (Bp h c G n).length), (8, .ptr 2 0), (10, .sl ((Di h c G).map A1)), (11, rT 3 1 k)]) (fun k => [.dead, .dead, .live [.sl (Bp h c G n)], rB (Aa (upL k)) k]) 0 (Nat.zero_le _) CW CH ?_
 intro k hk
 by_cases hlt : k < n
 ·have h1 : ((k : Nat) : Int) < ((Bp h c G n).length : Nat) := by omega
  rcases Nat.eq_zero_or_pos k with h0 | hpos
  ·subst h0
   repeat' (first
    | refine W ?_
    | refine Y ?_|(apply S.buildSlice1;(iterate 7 exact rfl))|(apply S.appendN 3 (rows := []);(iterate 8 exact rfl);exact Ae rfl;exact rfl;exact Nat.le_of_ble_eq_true rfl;exact Nat.le_of_ble_eq_true rfl)|refine Za ?_
    | refine V ?_
    | (refine W2 ?_ ?_ <;> intro hc))
   all_goals (change Next _ _ _ _ _ _)
   all_goals exact Next.go 1 (by omega) (by omega) CW CH
  ·rw [Gn hpos, Gm hpos]
   have hul : (Aa (upL k)).length = k * 1 := by rw [Bn, El, Nat.mul_one]
   have hus : Aa (upL (k + 1)) = Aa (upL k) ++ ([A1 (k : Int)].flatten).map AV.lf := by rw [Kc];simp [Aa]
   repeat' (first
    | refine W ?_
    | refine Y ?_|(apply S.buildSlice1;(iterate 7 exact rfl))|(apply S.appendO;(iterate 8 exact rfl);exact hul;exact Ae rfl;exact rfl;exact Bf _ _;simp only [List.length_cons, List.length_nil];omega;simp only [List.length_cons, List.length_nil];omega)|refine Za ?_
    | refine V ?_
    | (refine W2 ?_ ?_ <;> intro hc))
   all_goals (change Next _ _ _ _ _ _)
   all_goals exact Next.go (k + 1) (by omega) (by omega) CW (by show CovH _ _ [_, _, _, .live (Aa (upL (k + 1)))];rw [hus];exact .dead (.dead (.live rfl (.live (by rw [<- List.map_append];exact Ar _ _) .nil))))
 obtain rfl : n = k := by omega
 have h1 : ¬ ((n : Nat) : Int) < ((Bp h c G n).length : Nat) := by omega
 rw [Gn hn0, Gm hn0]
 rw [show Aa (upL n) = iA (iN (List.range n)) from (Na _).symm]
 clear cb ce
 repeat' (first
  | refine W ?_
  | refine Y ?_|(refine T.unroll (N := Tryz.f40.ntmps) ?_)|(refine TL.round ?_)|(dsimp only [B9, Ai];refine TL.round ?_)|(refine ⟨by first | exact .inl rfl | exact .inr rfl, [], .nil, rfl, ?_⟩;show Reg none _ _ _ _ _ _ _)|(refine S.inline [(8, .ptr 2 0), (10, .sl ((Di h c G).map A1)), (11, .own 3 0 n 1)] Tryz.func21 Tryz.ntmps21 rfl rfl rfl rfl rfl rfl rfl CW rfl ?_;intro vs1;simp only [A0, List.cons_append, List.nil_append])|(refine S.inline [] Tryz.func40 Tryz.ntmps40 rfl rfl rfl rfl rfl rfl rfl CW rfl ?_;intro vs2;simp only [A0, List.cons_append, List.nil_append])|(refine S.inline [(6, .i 20), (1, .i n)] Tryz.func69 Tryz.ntmps69 rfl rfl rfl rfl rfl rfl rfl CW rfl ?_;intro vs3;simp only [A0, List.cons_append, List.nil_append])|refine Za ?_
  | refine V ?_
  | (refine W2 ?_ ?_ <;> intro hc))
 refine T.loopS (fun i : Nat => 1 <= i /\ i <= n) (fun i => n - i) (fun i => [(0, .own 3 0 n 1), (1, .i 0), (2, .i n), (3, .fn (.func 22) [] [.ptr 2 0]), (8, .i (i : Nat))]) (fun i => [.dead, .dead, .live [.sl (Bp h c G n)], .live (iA (iN (Ay key i ++ C5 n i))), .gho ([.ptr 2 0, .sl ((Di h c G).map A1), .own 3 0 n 1]) vs1, .gho [] vs2, .gho [.i 20, .i n] vs3]) 1 ⟨Nat.le_refl _, by omega⟩ CW (by rw [show Ay key 1 ++ C5 n 1 = List.range n from A4q key hn0];exact .dead (.dead (.live rfl (.live (Bl _ _) (.gho rfl (.gho rfl (.gho rfl .nil))))))) ?_
 rintro i ⟨hi1, hin⟩
 by_cases hlt : i < n
 ·have h1 : ((i : Nat) : Int) < (n : Nat) := by omega
  have hpl := E9 key i
  repeat' (first
   | refine W ?_
   | refine Y ?_|refine Za ?_
   | refine V ?_
   | (refine W2 ?_ ?_ <;> intro hc))
  refine T.loopS (fun a : InsS => (Ay key i).reverse = a.B.reverse ++ a.A /\ D8 key i (Ay key i).reverse = a.B.reverse ++ D8 key i a.A) (fun a => a.A.length) (fun a => [(0, .own 3 0 n 1), (1, .i 0), (2, .i n), (3, .fn (.func 22) [] [.ptr 2 0]), (8, .i (i : Nat)), (9, .i (a.A.length : Nat))]) (fun a => [.dead, .dead, .live [.sl (Bp h c G n)], .live (iA (iN (a.A.reverse ++ i :: (a.B ++ C5 n (i + 1))))), .gho ([.ptr 2 0, .sl ((Di h c G).map A1), .own 3 0 n 1]) vs1, .gho [] vs2, .gho [.i 20, .i n] vs3]) ⟨(Ay key i).reverse, []⟩ ⟨rfl, rfl⟩ (by rw [List.length_reverse, hpl];exact CW) (by rw [List.reverse_reverse, List.nil_append, <- P3 hlt];exact .dead (.dead (.live rfl (.live (Bl _ _) (.gho rfl (.gho rfl (.gho rfl .nil))))))) ?_
  rintro ⟨A, B⟩ ⟨q1, q2⟩
  dsimp only at q1 q2 ⊢
  have hAB : A.length <= i := by
   have := congrArg List.length q1
   rw [List.length_reverse, hpl, List.length_append, List.length_reverse] at this
   omega
  have hBl : A.length + B.length = i := by
   have := congrArg List.length q1
   rw [List.length_reverse, hpl, List.length_append, List.length_reverse] at this
   omega
  cases A with
  | nil =>
   have g1 : ¬ (((([] : List Nat).length : Nat)) : Int) > 0 := by simp
   have hend : iN (([] : List Nat).reverse ++ i :: (B ++ C5 n (i + 1))) = iN (Ay key (i + 1) ++ C5 n (i + 1)) := by
    rw [show Ay key (i + 1) = (D8 key i (Ay key i).reverse).reverse from rfl, q2]
    simp [D8]
   rw [hend]
   repeat' (first
    | refine W ?_
    | refine Y ?_|(apply T.drawN 7 17 A3 (by decide +kernel);simp only [td])|(apply T.drawRN 7 17 A3 (by decide +kernel);simp only [td])|refine Za ?_
    | refine V ?_
    | (refine W2 ?_ ?_ <;> intro hc))
   all_goals (change Next _ _ _ _ _ _)
   all_goals exact Next.go (i + 1) ⟨by omega, by omega⟩ (by omega) CW (.dead (.dead (.live rfl (.live (Bl _ _) (.gho rfl (.gho rfl (.gho rfl .nil)))))))
  | cons a r =>
   rw [List.length_cons]
   have hr1 : r.length + 1 <= i := hAB
   have g1 : (((r.length + 1 : Nat) : Nat) : Int) > 0 := by omega
   have hai : a < n := by
    have : a ∈ (Ay key i).reverse := by rw [q1];simp
    rw [List.mem_reverse, ordP_mem] at this
    omega
   have ce : (iN ((a :: r).reverse ++ i :: (B ++ C5 n (i + 1))))[r.length + 1]? = some (i : Int) := A4f r a i _
   have ca : (iN ((a :: r).reverse ++ i :: (B ++ C5 n (i + 1))))[r.length]? = some (a : Int) := A4e r a i _
   have cc := hcmp i a hlt hai
   by_cases hk : key i < key a
   ·have hk2 : key i - key a < 0 := by omega
    have hs : iN (r.reverse ++ i :: ((a :: B) ++ C5 n (i + 1))) = _ := (A2n r a i (B ++ C5 n (i + 1))).symm
    have hlen : (iN ((a :: r).reverse ++ i :: (B ++ C5 n (i + 1)))).length = n := by
     rw [iN, List.length_map, List.length_append, List.length_cons, List.length_append, List.length_reverse, C5, List.length_drop, List.length_range]
     simp only [List.length_cons] at hBl ⊢
     omega
    have hi2 : D8 key i (a :: r) = a :: D8 key i r := by rw [D8, if_pos hk]
    generalize iN ((a :: r).reverse ++ i :: (B ++ C5 n (i + 1))) = D at *
    repeat' (first
     | refine W ?_
     | refine Y ?_|(refine T.ordersR (N := Tryz.f69.ntmps) (id := 6) A3 ?_)|(refine T.orders (N := Tryz.f69.ntmps) (id := 6) A3 ?_)|(apply Ords.nil;decide +kernel)|(apply Ords.takeMove 0;exact rfl;decide +kernel;decide +kernel;decide +kernel;exact rfl;exact rfl)|(apply Ords.takeMove 1;exact rfl;decide +kernel;decide +kernel;decide +kernel;exact rfl;exact rfl)|(apply Ords.takeMove 2;exact rfl;decide +kernel;decide +kernel;decide +kernel;exact rfl;exact rfl)|(apply Ords.takeMove 3;exact rfl;decide +kernel;decide +kernel;decide +kernel;exact rfl;exact rfl)|(apply Ords.takeMove 5;exact rfl;decide +kernel;decide +kernel;decide +kernel;exact rfl;exact rfl)|(apply Ords.takeMove 6;exact rfl;decide +kernel;decide +kernel;decide +kernel;exact rfl;exact rfl)|(apply Ords.takeMove 10;exact rfl;decide +kernel;decide +kernel;decide +kernel;exact rfl;exact rfl)|(apply Ords.takeMove 11;exact rfl;decide +kernel;decide +kernel;decide +kernel;exact rfl;exact rfl)|(apply Ords.takeArith 4;exact rfl;decide +kernel;decide +kernel;decide +kernel;(iterate 4 exact rfl);omega)|(apply Ords.takeArith 7;exact rfl;decide +kernel;decide +kernel;decide +kernel;(iterate 4 exact rfl);omega)|(apply Ords.takeIdxO 8 r.length;exact rfl;decide +kernel;decide +kernel;decide +kernel;exact inferInstance;exact inferInstance;(iterate 4 exact rfl);omega;omega)|(apply Ords.takeIdxO 12 (r.length + 1);exact rfl;decide +kernel;decide +kernel;decide +kernel;exact inferInstance;exact inferInstance;(iterate 4 exact rfl);omega;omega)|(apply Ords.takeIdxO 14 (r.length + 1);exact rfl;decide +kernel;decide +kernel;decide +kernel;exact inferInstance;exact inferInstance;(iterate 4 exact rfl);omega;omega)|(apply Ords.takeIdxO 16 r.length;exact rfl;decide +kernel;decide +kernel;decide +kernel;exact inferInstance;exact inferInstance;(iterate 4 exact rfl);omega;omega)|(apply Ords.two (i := 9) (j := 13);decide +kernel;exact rfl;exact rfl)|(apply Ords.one (i := 9);decide +kernel;exact rfl)|(apply Ords.one (i := 13);decide +kernel;exact rfl)|(apply Ords.one (i := 15);decide +kernel;exact rfl)|(apply Ords.one (i := 17);decide +kernel;exact rfl)|(apply T.drawN 7 17 A3 (by decide +kernel);simp only [td])|(apply T.drawRN 7 17 A3 (by decide +kernel);simp only [td])|(apply S.indexO (o2 := r.length);(iterate 4 exact rfl);omega;omega)|(apply S.indexO (o2 := (r.length + 1));(iterate 4 exact rfl);omega;omega)|(apply S.loadP;exact rfl;exact rfl;exact Hu ce;exact rfl)|(apply S.loadP;exact rfl;exact rfl;exact Hu ca;exact rfl)|(apply S.callFV;(iterate 3 exact rfl);exact cc;exact .cons (.one (.lf _)) (.cons (.one (.lf _)) (.cons (.one (.ptr0 rfl)) .nil));exact rfl;exact rfl)|(apply S.storeI;(iterate 3 exact rfl);first | omega|(rw [List.length_set];omega))|refine Za ?_
     | refine V ?_
     | (refine W2 ?_ ?_ <;> intro hc))
    all_goals (change Next _ _ _ _ _ _)
    all_goals exact Next.go ⟨r, a :: B⟩ ⟨by dsimp only;rw [q1];simp, by dsimp only;rw [q2, hi2];simp⟩ (by dsimp only [List.length_cons];omega) (by dsimp only;rw [show ((r.length : Nat) : Int) = ((r.length + 1 : Nat) : Int) - 1 by omega];exact CW) (by dsimp only;rw [hs];exact .dead (.dead (.live rfl (.live (Bl _ _) (.gho rfl (.gho rfl (.gho rfl .nil)))))))
   ·have hk2 : ¬ key i - key a < 0 := by omega
    have hi2 : D8 key i (a :: r) = i :: a :: r := by rw [D8, if_neg hk]
    have hend : iN ((a :: r).reverse ++ i :: (B ++ C5 n (i + 1))) = iN (Ay key (i + 1) ++ C5 n (i + 1)) := by
     rw [show Ay key (i + 1) = (D8 key i (Ay key i).reverse).reverse from rfl, q2, hi2]
     simp
    rw [hend] at ce ca ⊢
    generalize hD : iN (Ay key (i + 1) ++ C5 n (i + 1)) = D at *
    repeat' (first
     | refine W ?_
     | refine Y ?_|(apply T.drawN 7 17 A3 (by decide +kernel);simp only [td])|(apply T.drawRN 7 17 A3 (by decide +kernel);simp only [td])|(apply S.indexO (o2 := r.length);(iterate 4 exact rfl);omega;omega)|(apply S.indexO (o2 := (r.length + 1));(iterate 4 exact rfl);omega;omega)|(apply S.loadP;exact rfl;exact rfl;exact Hu ce;exact rfl)|(apply S.loadP;exact rfl;exact rfl;exact Hu ca;exact rfl)|(apply S.callFV;(iterate 3 exact rfl);exact cc;exact .cons (.one (.lf _)) (.cons (.one (.lf _)) (.cons (.one (.ptr0 rfl)) .nil));exact rfl;exact rfl)|refine Za ?_
     | refine V ?_
     | (refine W2 ?_ ?_ <;> intro hc))
    all_goals (change Next _ _ _ _ _ _)
    all_goals exact Next.go (i + 1) ⟨by omega, by omega⟩ (by omega) CW (by (try dsimp only);rw [hD];exact .dead (.dead (.live rfl (.live (Bl _ _) (.gho rfl (.gho rfl (.gho rfl .nil)))))))
 obtain rfl : n = i := by omega
 have h1 : ¬ ((n : Nat) : Int) < (n : Nat) := by omega
 rw [A1h, List.append_nil]
 obtain ⟨L, hL⟩ : ∃ L, L = iN (Ay key n) := ⟨_, rfl⟩
 have hLl : L.length = n := by rw [hL, A5e, E9]
 have how : OwnRows (iA L) 0 n 1 (L.map A1) := by
  rw [Na]
  have := OwnRows.of (L.map A1).flatten (Bx L) rfl
  rw [List.length_map, hLl] at this
  exact this
 have hll : (L.map A1).length = n := by rw [List.length_map, hLl]
 rw [<- hL]
 repeat' (first
  | (refine T.freeze 11 rfl rfl how ?_)
  | refine W ?_
  | refine Y ?_|(refine T.unroll (N := Tryz.f40.ntmps) ?_)|(refine TL.round ?_)|(dsimp only [B9, Ai];refine TL.round ?_)|(refine ⟨by first | exact .inl rfl | exact .inr rfl, [], .nil, rfl, ?_⟩;show Reg none _ _ _ _ _ _ _)|(apply S.papN;exact rfl;exact rfl)
  | refine V ?_
  | (refine W2 ?_ ?_ <;> intro hc))
 refine T.loopS (fun k => k <= n) (fun k => n - k) (fun k => [(51, .i (k : Nat)), (50, .i (L.map A1).length), (49, .sl (L.map A1)), (8, .ptr 2 0), (10, .sl ((Di h c G).map A1)), (13, .ptr 7 0)]) (fun k => [.dead, .dead, .live [.sl (Bp h c G n)], .dead, .gho [.ptr 2 0, .sl ((Di h c G).map A1), .own 3 0 n 1] vs1, .gho [] vs2, .gho [.i 20, .i n] vs3, Nj 8 (txI h c G ((Ay key n).take k)), .hid]) 0 (Nat.zero_le _) CW (.dead (.dead (.live rfl (.dead (.gho rfl (.gho rfl (.gho rfl (.bld rfl (.hid .nil))))))))) ?_
 intro k hk
 by_cases hlt : k < n
 ·have h2 : ((k : Nat) : Int) < ((L.map A1).length : Nat) := by omega
  obtain ⟨x, hx⟩ := Ac (l := Ay key n) (k := k) (by rw [E9];exact hlt)
  have hxn : x < n := ordP_mem.1 (List.mem_of_getElem? hx)
  have hxL : L[k]? = some (x : Int) := by rw [hL, iN, List.getElem?_map, hx];rfl
  have hb := Ad (R := A1) hxL
  have hb1 : (Bp h c G n)[((x : Nat) : Int).toNat]? = some [.s (nmI c x), .i (stI h c G x)] := by rw [Int.toNat_natCast];exact Nu h c G hxn
  have hb2 : ((Di h c G).map A1)[((x : Nat) : Int).toNat]? = some (A1 (D5 h c G x)) := by
   rw [Int.toNat_natCast, List.getElem?_map]
   unfold Di Fs
   rw [List.getElem?_map, List.getElem?_range (by omega)]
   rfl
  have hts := Uc (h := h) (c := c) (G := G) hx
  have htl := Ub p v ((Ay key n).take k) fun y hy => by have := ordP_mem.1 (List.mem_of_mem_take hy);omega
  have htk : ((Ay key n).take k).length <= 19 := by rw [List.length_take, E9];omega
  have s1 := p.st x
  have s2 := p.end_ x
  have e1 : stI h c G x = (stL h c G).getD x 0 := rfl
  have ci := F3 (stI h c G x) (by omega) (by omega)
  have cj := F3 (D5 h c G x) (by omega) (by omega)
  have si := Cr (n := stI h c G x) (by omega) (by omega)
  have sj := Cr (n := D5 h c G x) (by omega) (by omega)
  have sn : (nmI c x).size <= 20 := by
   have := Ng v (i := x) (by omega)
   simp only [B8, Bool.and_eq_true, decide_eq_true_eq] at this
   have := this.1.1.2
   omega
  have hls := Wz (txI h c G ((Ay key n).take k)) (nmI c x) (Ao (stI h c G x)) (Ao (D5 h c G x))
  have z1 : (⟨#[99, 117, 101]⟩ : ByteArray).size = 3 := rfl
  have z2 : (⟨#[32]⟩ : ByteArray).size = 1 := rfl
  have z3 : (⟨#[102, 114, 111, 109]⟩ : ByteArray).size = 4 := rfl
  have z4 : (⟨#[116, 111]⟩ : ByteArray).size = 2 := rfl
  have z5 : (⟨#[10]⟩ : ByteArray).size = 1 := rfl
  repeat' (first
   | refine W ?_
   | (apply S.indexR;(iterate 3 exact rfl);exact hb;omega;exact rfl)|(apply S.indexR;(iterate 3 exact rfl);exact hb1;omega;exact rfl)|(apply S.indexR;(iterate 3 exact rfl);exact hb2;omega;exact rfl) | refine Y ?_|(apply T.drawN 9 21 A3 (by decide +kernel);simp only [td])|(apply T.drawRN 9 21 A3 (by decide +kernel);simp only [td])|(apply S.mkIface;(iterate 4 exact rfl))|(refine T.unroll (N := Tryz.f23.ntmps) ?_)|(refine TL.round ?_)|(dsimp only [B9, Ai];refine TL.round ?_)|(apply S.arith;(iterate 4 exact rfl);decide)|(apply S.indexR;(iterate 4 exact rfl);decide;exact rfl)|(apply S.buildSliceF;(iterate 8 exact rfl))|(refine ⟨by first | exact .inl rfl | exact .inr rfl, [], .nil, rfl, ?_⟩;show Reg none _ _ _ _ _ _ _)|(refine S.inline [(51, .i k), (50, .i (L.map A1).length), (49, .sl (L.map A1)), (8, .ptr 2 0), (10, .sl ((Di h c G).map A1)), (13, .ptr 7 0)] Tryz.func23 Tryz.ntmps23 rfl rfl rfl rfl rfl rfl rfl CW rfl ?_;intro vs4;simp only [A0, List.cons_append, List.nil_append])|(apply S.papW;(iterate 6 exact rfl);first | omega|(simp only [List.length_append, Y4, List.length_cons, List.length_nil];omega))|(apply S.papW;(iterate 6 exact rfl);exact Nat.le_of_ble_eq_true rfl)|(apply S.fieldB;(iterate 3 exact rfl))|(apply S.nilCheckB;(iterate 3 exact rfl))|(apply S.assertYes;(iterate 3 exact rfl))|(apply S.assertNo;(iterate 4 exact rfl))|(refine T.ordersR (N := Tryz.f23.ntmps) (id := 11) A3 ?_)|(apply Ords.nil;decide +kernel)|(apply Ords.takeMove 0;exact rfl;decide +kernel;decide +kernel;decide +kernel;exact rfl;exact rfl)|(apply Ords.takeMove 3;exact rfl;decide +kernel;decide +kernel;decide +kernel;exact rfl;exact rfl)|(apply Ords.takeNilB 1;exact rfl;decide +kernel;decide +kernel;decide +kernel;(iterate 3 exact rfl))|(apply Ords.takeFieldB 2;exact rfl;decide +kernel;decide +kernel;decide +kernel;exact inferInstance;(iterate 3 exact rfl))|(apply Ords.one (i := 4);decide +kernel;exact rfl)|(apply Ords.one (i := 5);decide +kernel;exact rfl)|refine Za ?_
   | refine V ?_
   | (refine W2 ?_ ?_ <;> intro hc))
  all_goals (change Next _ _ _ _ _ _)
  all_goals exact Next.go (k + 1) (by omega) (by omega) CW (.dead (.dead (.live rfl (.dead (.gho rfl (.gho rfl (.gho rfl (.bldE (hts.trans hls.symm) rfl (.hid .nil)))))))))
 ·have h2 : ¬ ((k : Nat) : Int) < ((L.map A1).length : Nat) := by omega
  have hkt : (Ay key n).take k = Ay key n := List.take_of_length_le (by rw [E9];omega)
  rw [hkt]
  repeat' (first
   | refine W ?_
   | refine Y ?_|(apply S.papT;(iterate 3 exact rfl))
   | refine V ?_
   | (refine W2 ?_ ?_ <;> intro hc))
  all_goals exact D2 rfl rfl rfl
end Go.Proofs.YtkboebgkcjcpfaaGreatDoor
