/- Contracts: the text of a sheet, by the reference. Conditions: short names, few cues and moves, numbers in their ranges. | Contracts: the reference's Text of a sheet. Conditions: short names, few cues and moves, numbers in their ranges. | Contracts: the reference's Text of a sheet: the walk. Conditions: short names, few cues and moves, numbers in their ranges. -/
import Derived.Test.YtfchdagalklgpaaGreatDoorMy
import Derived.Test.YtfchdagalklgpaaGreatDoorMn
import Derived.Lib.Join
set_option linter.unusedSimpArgs false
namespace Go.Proofs.YtfchdagalklgpaaGreatDoor
set_option linter.unusedVariables false
open Go.RowKit
def ofL (l : List UInt8) : ByteArray := ⟨l.toArray⟩
theorem ofL_list (l : List UInt8) : (ofL l).data.toList = l := by simp [ofL]
theorem ofL_size (l : List UInt8) : (ofL l).size = l.length := by simp [ofL, ByteArray.size]
theorem lit_size (l : Array UInt8) : (ByteArray.mk l).size = l.size := rfl
/-- The line of some words, its end with it. -/
def lineL (ws : List ByteArray) : List UInt8 := Lib.join (ws.map (·.data.toList)) [32] ++ [10]
def bytesOf (L : List (List ByteArray)) : List UInt8 := (L.map lineL).flatten
def okWords (ws : List ByteArray) : Prop := ws.length ≤ 7 ∧ ∀ w ∈ ws, w.size ≤ 60
theorem join_le {B : Nat} (sep : List UInt8) : ∀ (ws : List (List UInt8)), (∀ w ∈ ws, w.length ≤ B) → (Lib.join ws sep).length ≤ ws.length * (B + sep.length)
  | [], _ => by simp [Lib.join_nil]
  | w :: ws, h => by
    have h1 := h w (by simp)
    have h2 : (Lib.joinTail sep ws).length ≤ ws.length * (B + sep.length) := by
      have hw : ∀ x ∈ ws, x.length ≤ B := fun x hx => h x (by simp [hx])
      clear h h1
      induction ws with
      | nil => simp [Lib.joinTail]
      | cons x ws ih =>
        have := ih fun y hy => hw y (by simp [hy])
        have hx := hw x (by simp)
        simp only [Lib.joinTail, List.map_cons, List.flatten_cons, List.length_append, List.length_cons] at this ⊢
        rw [Nat.succ_mul]
        omega
    rw [Lib.join_cons, List.length_append, List.length_cons, Nat.succ_mul]
    omega
theorem line_le {ws : List ByteArray} (h : okWords ws) : (lineL ws).length ≤ 428 := by
  have := join_le (B := 60) [32] (ws.map (·.data.toList)) fun w hw => by
    obtain ⟨x, hx, rfl⟩ := List.mem_map.1 hw
    have := h.2 x hx
    rw [Array.length_toList]
    exact this
  simp only [List.length_map, List.length_cons, List.length_nil] at this
  have h7 := h.1
  simp only [lineL, List.length_append, List.length_cons, List.length_nil]
  omega
theorem bytes_le : ∀ (L : List (List ByteArray)), (∀ ws ∈ L, okWords ws) → (bytesOf L).length ≤ L.length * 428
  | [], _ => by simp [bytesOf]
  | ws :: L, h => by
    have h1 := line_le (h ws (by simp))
    have h2 := bytes_le L fun x hx => h x (by simp [hx])
    have e : bytesOf (ws :: L) = lineL ws ++ bytesOf L := rfl
    rw [e, List.length_append, List.length_cons, Nat.succ_mul]
    omega
theorem bytes_append (L M : List (List ByteArray)) : bytesOf (L ++ M) = bytesOf L ++ bytesOf M := by simp [bytesOf]
def sCue : ByteArray := ⟨#[99, 117, 101]⟩
def sManual : ByteArray := ⟨#[109, 97, 110, 117, 97, 108]⟩
def sFollow : ByteArray := ⟨#[102, 111, 108, 108, 111, 119]⟩
def sWith : ByteArray := ⟨#[119, 105, 116, 104]⟩
def sMove : ByteArray := ⟨#[109, 111, 118, 101]⟩
def sApart : ByteArray := ⟨#[97, 112, 97, 114, 116]⟩
def linkWords (q : CueR) : List ByteArray := if q.link = 1 then [sManual] else if q.link = 2 then [sFollow, q.after] else [sWith, q.after]
def cueWords (q : CueR) : List ByteArray := [sCue, q.name] ++ linkWords q ++ [itoaB q.delay, itoaB q.crew, itoaB q.power]
def moveWords (m : MoveR) : List ByteArray := [sMove, m.set, itoaB m.to, itoaB m.speed, itoaB m.rise, itoaB m.fall]
def pairWords (p : ByteArray × ByteArray) : List ByteArray := [sApart, p.1, p.2]
def cueLines (q : CueR) : List (List ByteArray) := cueWords q :: q.moves.map moveWords
def linesC (c : SheetR) (k : Nat) : List (List ByteArray) := (c.cues.take k).flatMap cueLines
def linesQ (q : CueR) (j : Nat) : List (List ByteArray) := cueWords q :: (q.moves.take j).map moveWords
def linesA (c : SheetR) (k : Nat) : List (List ByteArray) := c.cues.flatMap cueLines ++ (c.apart.take k).map pairWords
def sheetL (c : SheetR) : List UInt8 := bytesOf (linesA c c.apart.length)
def cueR (q : CueR) : Prop := (0 ≤ q.delay ∧ q.delay ≤ 2147483648) ∧ (0 ≤ q.crew ∧ q.crew ≤ 100) ∧ (0 ≤ q.power ∧ q.power ≤ 100) ∧ ∀ m ∈ q.moves, moveP m
structure TextOk (c : SheetR) : Prop where
  small : smallC c 8
  cue : ∀ q ∈ c.cues, cueR q
theorem small_i {n : Int} (h0 : -2147483648 ≤ n) (h1 : n ≤ 2147483648) : (itoaB n).size ≤ 21 := itoaB_size (by omega) (by omega)
theorem TextOk.q {c : SheetR} (h : TextOk c) {q : CueR} (hq : q ∈ c.cues) : okWords (cueWords q) ∧ q.moves.length ≤ 8 ∧ ∀ m ∈ q.moves, okWords (moveWords m) := by
  obtain ⟨h1, h2, h3, h4⟩ := h.small
  obtain ⟨m1, m2, m3, m4⟩ := h3 q hq
  obtain ⟨c1, c2, c3, c4⟩ := h.cue q hq
  have i1 := small_i (n := q.delay) (by omega) (by omega)
  have i2 := small_i (n := q.crew) (by omega) (by omega)
  have i3 := small_i (n := q.power) (by omega) (by omega)
  have w1 : sCue.size = 3 := rfl
  have w2 : sManual.size = 6 := rfl
  have w3 : sFollow.size = 6 := rfl
  have w4 : sWith.size = 4 := rfl
  have w5 : sMove.size = 4 := rfl
  refine ⟨?_, by omega, fun m hm => ⟨by simp [moveWords], fun w hw => ?_⟩⟩
  · unfold cueWords linkWords
    split
    · refine ⟨by simp, fun w hw => ?_⟩
      simp only [List.cons_append, List.nil_append, List.mem_cons, List.not_mem_nil, or_false] at hw
      rcases hw with rfl | rfl | rfl | rfl | rfl | rfl <;> omega
    · split
      · refine ⟨by simp, fun w hw => ?_⟩
        simp only [List.cons_append, List.nil_append, List.mem_cons, List.not_mem_nil, or_false] at hw
        rcases hw with rfl | rfl | rfl | rfl | rfl | rfl | rfl <;> omega
      · refine ⟨by simp, fun w hw => ?_⟩
        simp only [List.cons_append, List.nil_append, List.mem_cons, List.not_mem_nil, or_false] at hw
        rcases hw with rfl | rfl | rfl | rfl | rfl | rfl | rfl <;> omega
  · have := m4 m hm
    obtain ⟨_, a2, a3, a4, a5⟩ := c4 m hm
    have j1 := small_i (n := m.to) (by omega) (by omega)
    have j2 := small_i (n := m.speed) (by omega) (by omega)
    have j3 := small_i (n := m.rise) (by omega) (by omega)
    have j4 := small_i (n := m.fall) (by omega) (by omega)
    simp only [moveWords, List.mem_cons, List.not_mem_nil, or_false] at hw
    rcases hw with rfl | rfl | rfl | rfl | rfl | rfl <;> omega
end Go.Proofs.YtfchdagalklgpaaGreatDoor
set_option linter.unusedSimpArgs false
namespace Go.Proofs.YtfchdagalklgpaaGreatDoor
set_option linter.unusedVariables false
open Go.RowKit
def numL (l : List Int) : List UInt8 := l.flatMap fun n => 32 :: Lib.itoa n
def numsB (l : List Int) : ByteArray := ofL (numL l ++ [10])
theorem numL_le : ∀ (l : List Int), (∀ n ∈ l, -9223372036854775808 ≤ n ∧ n ≤ 9223372036854775807) → (numL l).length ≤ l.length * 22
  | [], _ => by simp [numL]
  | n :: l, h => by
    have h1 := numL_le l fun x hx => h x (by simp [hx])
    have h2 := Lib.itoa_length_le n (h n (by simp)).1 (h n (by simp)).2
    have e : numL (n :: l) = (32 :: Lib.itoa n) ++ numL l := rfl
    rw [e, List.length_append, List.length_cons, List.length_cons, Nat.succ_mul]
    omega
theorem numL_snoc (l : List Int) (n : Int) : ofL (numL l) ++ ⟨#[32]⟩ ++ itoaB n = ofL (numL (l ++ [n])) := by
  apply ba_ext
  rw [ba_append, ba_append, ofL_list, ofL_list]
  simp [numL, itoaB]
theorem nums_end (l : List Int) : ofL (numL l) ++ ⟨#[10]⟩ = numsB l := by
  apply ba_ext
  rw [ba_append, ofL_list, numsB, ofL_list]
theorem str_eq {a b : ByteArray} (h : a = b) : some (AV.val (.string a)) = some (AV.val (.string b)) := by rw [h]
set_option maxHeartbeats 4000000 in
theorem r36_numbers (l : List Int) (hl : l.length ≤ 10) (hr : ∀ n ∈ l, -9223372036854775808 ≤ n ∧ n ≤ 9223372036854775807) : Fn0 Tryz.prog 32 [.sl (l.map intRow)] (.val (.string (numsB l))) := by
  have hle : (l.map intRow).length = l.length := List.length_map _
  refine Fn0.of Tryz.func32 Tryz.ntmps32 rfl rfl rfl ?_
  simp only [entryTm]
  repeat' (first
    | (apply S.assign; exact rfl; exact rfl)
    | apply S.nil
    | apply T.regs
    | apply T.seq
    | apply T.block)
  refine T.loopS (fun k => k ≤ l.length) (fun k => l.length - k) (fun k => [(3, .val (.string (ofL (numL (l.take k))))), (4, .i k), (0, .sl (l.map intRow))]) (fun _ => []) 0 (Nat.zero_le _) (.cons rfl rfl (.cons rfl rfl (.cons rfl rfl .nil))) .nil ?_
  intro k hk
  have hsz : (ofL (numL (l.take k))).size ≤ 220 := by
    rw [ofL_size]
    have := numL_le (l.take k) fun n hn => hr n (List.mem_of_mem_take hn)
    have h2 : (l.take k).length ≤ 10 := by rw [List.length_take]; omega
    omega
  by_cases hlt : k < l.length
  · have h1 : (k : Int) < ((l.map intRow).length : Nat) := by omega
    obtain ⟨n, hn⟩ := get_at hlt
    have hb := row_at (R := intRow) hn
    have hsn := snoc_at hn
    have hnr := hr n (List.mem_of_getElem? hn)
    have hd := r10_decimal n hnr.1 hnr.2
    have hds := itoaB_size hnr.1 hnr.2
    repeat' (first
      | (apply S.move; exact rfl; exact rfl)
      | (apply S.assign; exact rfl; exact rfl)
      | (apply S.loadR; exact rfl; exact rfl; exact rfl)
      | (apply S.indexR; exact rfl; exact rfl; exact rfl; exact hb; omega; exact rfl)
      | (apply S.call; exact rfl; exact rfl; exact hd; exact rfl)
      | (apply S.strAdd; exact rfl; exact rfl; exact rfl; (simp only [ByteArray.size_append, lit_size, List.size_toArray, List.length_cons, List.length_nil]; omega))
      | (apply S.arith; exact rfl; exact rfl; exact rfl; exact rfl; omega)
      | (apply S.cmp; exact rfl; exact rfl; exact rfl; exact rfl)
      | (apply S.lenR; exact rfl; exact rfl)
      | apply S.nil
      | apply T.regs
      | apply T.reg
      | (apply T.cT; exact rfl; assumption)
      | apply T.seq
      | (apply T.skip; first | change T _ _ _ _ _ | change Done _ _ _ _ _ | change Next _ _ _ _ _ _ | skip)
      | apply T.block)
    change Next _ _ _ _ _ _
    exact Next.go (k + 1) (by omega) (by omega) (.cons (by rw [hsn, ← numL_snoc]; rfl) rfl (.cons rfl rfl (.cons rfl rfl .nil))) .nil
  · have h1 : ¬ (k : Int) < ((l.map intRow).length : Nat) := by omega
    have hkt : l.take k = l := List.take_of_length_le (by omega)
    repeat' (first
      | (apply S.move; exact rfl; exact rfl)
      | (apply S.assign; exact rfl; exact rfl)
      | (apply S.strAdd; exact rfl; exact rfl; exact rfl; (simp only [ByteArray.size_append, lit_size, List.size_toArray, List.length_cons, List.length_nil]; omega))
      | (apply S.cmp; exact rfl; exact rfl; exact rfl; exact rfl)
      | (apply S.lenR; exact rfl; exact rfl)
      | apply S.nil
      | apply T.regs
      | (apply T.cF; exact rfl; assumption)
      | apply T.seq
      | (apply T.ret; change Done _ _ _ _ _)
      | (apply T.exit; first | change T _ _ _ _ _ | change Done _ _ _ _ _ | change Next _ _ _ _ _ _ | skip))
    all_goals exact doneV (by simp) Tryz.results32 rfl (by rw [hkt, nums_end])
theorem head_1 (l : List UInt8) (q : CueR) (h : q.link = 1) : ofL l ++ ⟨#[99, 117, 101, 32]⟩ ++ q.name ++ ⟨#[32, 109, 97, 110, 117, 97, 108]⟩ ++ numsB [q.delay, q.crew, q.power] = ofL (l ++ lineL (cueWords q)) := by
  apply ba_ext
  simp only [ba_append, ofL_list, numsB, numL, lineL, cueWords, linkWords, if_pos h]
  simp [Lib.join, List.intercalate, sCue, sManual, itoaB]
theorem head_2 (l : List UInt8) (q : CueR) (h : ¬ q.link = 1) (h2 : q.link = 2) : ofL l ++ ⟨#[99, 117, 101, 32]⟩ ++ q.name ++ ⟨#[32, 102, 111, 108, 108, 111, 119, 32]⟩ ++ q.after ++ numsB [q.delay, q.crew, q.power] = ofL (l ++ lineL (cueWords q)) := by
  apply ba_ext
  simp only [ba_append, ofL_list, numsB, numL, lineL, cueWords, linkWords, if_neg h, if_pos h2]
  simp [Lib.join, List.intercalate, sCue, sFollow, itoaB]
theorem head_3 (l : List UInt8) (q : CueR) (h : ¬ q.link = 1) (h2 : ¬ q.link = 2) : ofL l ++ ⟨#[99, 117, 101, 32]⟩ ++ q.name ++ ⟨#[32, 119, 105, 116, 104, 32]⟩ ++ q.after ++ numsB [q.delay, q.crew, q.power] = ofL (l ++ lineL (cueWords q)) := by
  apply ba_ext
  simp only [ba_append, ofL_list, numsB, numL, lineL, cueWords, linkWords, if_neg h, if_neg h2]
  simp [Lib.join, List.intercalate, sCue, sWith, itoaB]
theorem move_text (l : List UInt8) (m : MoveR) : ofL l ++ ⟨#[109, 111, 118, 101, 32]⟩ ++ m.set ++ numsB [m.to, m.speed, m.rise, m.fall] = ofL (l ++ lineL (moveWords m)) := by
  apply ba_ext
  simp only [ba_append, ofL_list, numsB, numL, lineL, moveWords]
  simp [Lib.join, List.intercalate, sMove, itoaB]
theorem pair_text (l : List UInt8) (p : ByteArray × ByteArray) : ofL l ++ ⟨#[97, 112, 97, 114, 116, 32]⟩ ++ p.1 ++ ⟨#[32]⟩ ++ p.2 ++ ⟨#[10]⟩ = ofL (l ++ lineL (pairWords p)) := by
  apply ba_ext
  simp only [ba_append, ofL_list, lineL, pairWords]
  simp [Lib.join, List.intercalate, sApart]
end Go.Proofs.YtfchdagalklgpaaGreatDoor
set_option linter.unusedSimpArgs false
namespace Go.Proofs.YtfchdagalklgpaaGreatDoor
set_option linter.unusedVariables false
open Go.RowKit
theorem nums_size (l : List Int) (hl : l.length ≤ 4) (hr : ∀ n ∈ l, -9223372036854775808 ≤ n ∧ n ≤ 9223372036854775807) : (numsB l).size ≤ 100 := by
  have := numL_le l hr
  rw [numsB, ofL_size, List.length_append, List.length_cons, List.length_nil]
  omega
theorem bytes_one (ws : List ByteArray) : bytesOf [ws] = lineL ws := by simp [bytesOf]
theorem linesQ_zero (q : CueR) : linesQ q 0 = [cueWords q] := by simp [linesQ]
theorem linesQ_snoc {q : CueR} {j : Nat} {m : MoveR} (h : q.moves.take (j + 1) = q.moves.take j ++ [m]) : linesQ q (j + 1) = linesQ q j ++ [moveWords m] := by simp [linesQ, h]
theorem linesC_snoc {c : SheetR} {k : Nat} {q : CueR} (h : c.cues.take (k + 1) = c.cues.take k ++ [q]) : linesC c (k + 1) = linesC c k ++ linesQ q q.moves.length := by simp [linesC, linesQ, h, cueLines]
theorem linesC_all (c : SheetR) : linesC c c.cues.length = linesA c 0 := by simp [linesC, linesA]
theorem linesA_snoc {c : SheetR} {k : Nat} {p : ByteArray × ByteArray} (h : c.apart.take (k + 1) = c.apart.take k ++ [p]) : linesA c (k + 1) = linesA c k ++ [pairWords p] := by simp [linesA, h]
theorem TextOk.p {c : SheetR} (h : TextOk c) {p : ByteArray × ByteArray} (hp : p ∈ c.apart) : okWords (pairWords p) := by
  have h4 := h.small.2.2.2 p hp
  refine ⟨by simp [pairWords], fun w hw => ?_⟩
  simp only [pairWords, List.mem_cons, List.not_mem_nil, or_false] at hw
  have w6 : sApart.size = 5 := rfl
  rcases hw with rfl | rfl | rfl <;> omega
theorem TextOk.c {c : SheetR} (h : TextOk c) (k : Nat) : (∀ ws ∈ linesC c k, okWords ws) ∧ (linesC c k).length ≤ 72 := by
  have hk : (c.cues.take k).length ≤ 8 := by
    have := h.small.1
    rw [List.length_take]; omega
  have hm : ∀ q ∈ c.cues.take k, q ∈ c.cues := fun q hq => List.mem_of_mem_take hq
  unfold linesC
  generalize c.cues.take k = l at hk hm
  refine ⟨fun ws hw => ?_, ?_⟩
  · obtain ⟨q, hq, hw⟩ := List.mem_flatMap.1 hw
    obtain ⟨a1, a2, a3⟩ := h.q (hm q hq)
    rcases List.mem_cons.1 hw with rfl | hw
    · exact a1
    · obtain ⟨m, hm, rfl⟩ := List.mem_map.1 hw
      exact a3 m hm
  · have : (l.flatMap cueLines).length ≤ l.length * 9 := by
      clear hk
      induction l with
      | nil => simp
      | cons q l ih =>
        have := ih fun x hx => hm x (by simp [hx])
        have a2 := (h.q (hm q (by simp))).2.1
        rw [List.flatMap_cons, List.length_append, List.length_cons, Nat.succ_mul]
        simp only [cueLines, List.length_cons, List.length_map]
        omega
    omega
theorem TextOk.szC {c : SheetR} (h : TextOk c) (k : Nat) : (ofL (bytesOf (linesC c k))).size ≤ 40000 := by
  rw [ofL_size]
  have := bytes_le _ (h.c k).1
  have := (h.c k).2
  omega
theorem TextOk.szQ {c : SheetR} (h : TextOk c) (k j : Nat) {q : CueR} (hq : q ∈ c.cues) : (ofL (bytesOf (linesC c k ++ linesQ q j))).size ≤ 50000 := by
  rw [ofL_size, bytes_append, List.length_append]
  have h1 := bytes_le _ (h.c k).1
  have h2 := (h.c k).2
  obtain ⟨a1, a2, a3⟩ := h.q hq
  have h3 := bytes_le (linesQ q j) fun ws hw => by
    rcases List.mem_cons.1 hw with rfl | hw
    · exact a1
    · obtain ⟨m, hm, rfl⟩ := List.mem_map.1 hw
      exact a3 m (List.mem_of_mem_take hm)
  have h4 : (linesQ q j).length ≤ 9 := by
    simp only [linesQ, List.length_cons, List.length_map, List.length_take]
    omega
  omega
theorem TextOk.szA {c : SheetR} (h : TextOk c) (k : Nat) : (ofL (bytesOf (linesA c k))).size ≤ 50000 := by
  have e : linesA c k = linesC c c.cues.length ++ (c.apart.take k).map pairWords := by simp [linesA, linesC]
  rw [ofL_size, e, bytes_append, List.length_append]
  have h1 := bytes_le _ (h.c c.cues.length).1
  have h2 := (h.c c.cues.length).2
  have h3 := bytes_le ((c.apart.take k).map pairWords) fun ws hw => by
    obtain ⟨p, hp, rfl⟩ := List.mem_map.1 hw
    exact h.p (List.mem_of_mem_take hp)
  have h4 : ((c.apart.take k).map pairWords).length ≤ 16 := by
    have := h.small.2.1
    rw [List.length_map, List.length_take]
    omega
  omega
set_option maxHeartbeats 32000000 in
theorem r36_text (c : SheetR) (ht : TextOk c) : Fn0 Tryz.prog 13 [rowA c.row] (.val (.string (ofL (sheetL c)))) := by
  have hle : (c.cues.map CueR.row).length = c.cues.length := List.length_map _
  have hle2 : (c.apart.map pairRow).length = c.apart.length := List.length_map _
  have hs := ht.small
  have hs1 := hs.1
  have hs2 := hs.2.1
  refine Fn0.of Tryz.func13 Tryz.ntmps13 rfl rfl rfl ?_
  simp only [entryTm]
  repeat' (first
    | (apply S.assign; exact rfl; exact rfl)
    | (apply S.box; exact rfl; exact rfl; exact rfl; exact rfl; exact rfl; exact rfl)
    | apply S.nil
    | apply T.regs
    | apply T.seq
    | apply T.block)
  refine T.loopS (fun k => k ≤ c.cues.length) (fun k => c.cues.length - k) (fun k => [(4, .i k), (3, .val (.string (ofL (bytesOf (linesC c k))))), (1, .ptr 0 0)]) (fun _ => [.live (c.row.map .lf)]) 0 (Nat.zero_le _) (.cons rfl rfl (.cons rfl rfl (.cons rfl rfl .nil))) (.live rfl .nil) ?_
  intro k hk
  by_cases hlt : k < c.cues.length
  · have h1 : (k : Int) < ((c.cues.map CueR.row).length : Nat) := by omega
    obtain ⟨q, hq⟩ := get_at hlt
    have hb := row_at (R := CueR.row) hq
    have hsn := snoc_at hq
    have hmem : q ∈ c.cues := List.mem_of_getElem? hq
    obtain ⟨m1, m2, m3, m4⟩ := hs.2.2.1 q hmem
    obtain ⟨c1, c2, c3, c4⟩ := ht.cue q hmem
    have hr3 : ∀ n ∈ [q.delay, q.crew, q.power], -9223372036854775808 ≤ n ∧ n ≤ 9223372036854775807 := fun n hn => by
      simp only [List.mem_cons, List.not_mem_nil, or_false] at hn
      rcases hn with rfl | rfl | rfl <;> omega
    have cn := r36_numbers [q.delay, q.crew, q.power] (by simp) hr3
    have ns := nums_size [q.delay, q.crew, q.power] (by simp) hr3
    have z1 := ht.szC k
    have e0 : bytesOf (linesC c k ++ linesQ q 0) = bytesOf (linesC c k) ++ lineL (cueWords q) := by rw [linesQ_zero, bytes_append, bytes_one]
    have e1 := head_1 (bytesOf (linesC c k)) q
    have e2 := head_2 (bytesOf (linesC c k)) q
    have e3 := head_3 (bytesOf (linesC c k)) q
    rw [← e0] at e1 e2 e3
    have hlm : (q.moves.map MoveR.row).length = q.moves.length := List.length_map _
    repeat' (first
      | (apply S.move; exact rfl; exact rfl)
      | (apply S.assign; exact rfl; exact rfl)
      | (apply S.fieldP; exact rfl; exact rfl; exact rfl)
      | (apply S.loadP; exact rfl; exact rfl; exact rfl; exact rfl)
      | (apply S.indexR; exact rfl; exact rfl; exact rfl; exact hb; omega; exact rfl)
      | (apply S.buildSliceF; exact rfl; exact rfl; exact rfl; exact rfl; exact rfl; exact rfl; exact rfl; exact rfl)
      | (apply S.call; exact rfl; exact rfl; exact cn; exact rfl)
      | (apply S.strAdd; exact rfl; exact rfl; exact rfl; (simp only [ByteArray.size_append, lit_size, List.size_toArray, List.length_cons, List.length_nil]; omega))
      | (apply S.loadRA; exact rfl; exact rfl; exact rfl; exact rfl)
      | (apply S.alloc; exact rfl; exact rfl; exact rfl; exact rfl; exact rfl)
      | (apply S.store; exact rfl; exact rfl; exact rfl; exact rfl; exact rfl; exact rfl; exact rfl)
      | (apply S.cmp; exact rfl; exact rfl; exact rfl; exact rfl)
      | (apply S.lenR; exact rfl; exact rfl)
      | apply S.nil
      | apply T.regs
      | apply T.reg
      | (apply T.cT; exact rfl; assumption)
      | (apply T.cS; exact rfl; intro hc; rotate_left; intro hc; rotate_right)
      | apply T.seq
      | (apply T.skip; first | change T _ _ _ _ _ | change Done _ _ _ _ _ | change Next _ _ _ _ _ _ | skip)
      | apply T.block)
    all_goals refine T.loopS (fun j => j ≤ q.moves.length) (fun j => q.moves.length - j) (fun j => [(6, .i j), (4, .i k), (3, .val (.string (ofL (bytesOf (linesC c k ++ linesQ q j))))), (1, .ptr 0 0), (5, .ptr 1 0)]) (fun _ => [.live (c.row.map .lf), .live (q.row.map .lf)]) 0 (Nat.zero_le _) (.cons rfl rfl (.cons rfl rfl (.cons (by first | exact str_eq (e1 (by assumption)) | exact str_eq (e2 (by assumption) (by assumption)) | exact str_eq (e3 (by assumption) (by assumption))) rfl (.cons rfl rfl (.cons rfl rfl .nil))))) (.live rfl (.live rfl .nil)) ?_
    all_goals
      intro j hj
      by_cases hlj : j < q.moves.length
      · have h2 : (j : Int) < ((q.moves.map MoveR.row).length : Nat) := by omega
        obtain ⟨m, hm⟩ := get_at hlj
        have hbm := row_at (R := MoveR.row) hm
        have hsm := snoc_at hm
        have hmm : m ∈ q.moves := List.mem_of_getElem? hm
        have ms := m4 m hmm
        obtain ⟨_, d2, d3, d4, d5⟩ := c4 m hmm
        have hr4 : ∀ n ∈ [m.to, m.speed, m.rise, m.fall], -9223372036854775808 ≤ n ∧ n ≤ 9223372036854775807 := fun n hn => by
          simp only [List.mem_cons, List.not_mem_nil, or_false] at hn
          rcases hn with rfl | rfl | rfl | rfl <;> omega
        have cm := r36_numbers [m.to, m.speed, m.rise, m.fall] (by simp) hr4
        have nm := nums_size [m.to, m.speed, m.rise, m.fall] (by simp) hr4
        have z2 := ht.szQ k j hmem
        have f0 : bytesOf (linesC c k ++ linesQ q (j + 1)) = bytesOf (linesC c k ++ linesQ q j) ++ lineL (moveWords m) := by rw [linesQ_snoc hsm, ← List.append_assoc, bytes_append, bytes_one]
        have f1 := move_text (bytesOf (linesC c k ++ linesQ q j)) m
        rw [← f0] at f1
        repeat' (first
          | (apply S.move; exact rfl; exact rfl)
          | (apply S.assign; exact rfl; exact rfl)
          | (apply S.fieldP; exact rfl; exact rfl; exact rfl)
          | (apply S.loadP; exact rfl; exact rfl; exact rfl; exact rfl)
          | (apply T.drawR 17 anyOrder (by decide +kernel); simp only [List.take_succ_cons, List.take_zero, List.drop_succ_cons, List.drop_zero])
          | (apply S.indexR; exact rfl; exact rfl; exact rfl; exact hbm; omega; exact rfl)
          | (apply S.buildSliceF; exact rfl; exact rfl; exact rfl; exact rfl; exact rfl; exact rfl; exact rfl; exact rfl)
          | (apply S.call; exact rfl; exact rfl; exact cm; exact rfl)
          | (apply S.strAdd; exact rfl; exact rfl; exact rfl; (simp only [ByteArray.size_append, lit_size, List.size_toArray, List.length_cons, List.length_nil]; omega))
          | (apply S.arith; exact rfl; exact rfl; exact rfl; exact rfl; omega)
          | (apply S.loadRA; exact rfl; exact rfl; exact rfl; exact rfl)
          | (apply S.alloc; exact rfl; exact rfl; exact rfl; exact rfl; exact rfl)
          | (apply S.store; exact rfl; exact rfl; exact rfl; exact rfl; exact rfl; exact rfl; exact rfl)
          | (apply S.cmp; exact rfl; exact rfl; exact rfl; exact rfl)
          | (apply S.lenR; exact rfl; exact rfl)
          | apply S.nil
          | apply T.regs
          | apply T.reg
          | (apply T.cT; exact rfl; assumption)
          | apply T.seq
          | (apply T.skip; first | change T _ _ _ _ _ | change Done _ _ _ _ _ | change Next _ _ _ _ _ _ | skip)
          | apply T.block)
        change Next _ _ _ _ _ _
        exact Next.go (j + 1) (by omega) (by omega) (.cons rfl rfl (.cons rfl rfl (.cons (str_eq f1) rfl (.cons rfl rfl (.cons rfl rfl .nil))))) (.live rfl (.live rfl .nil))
      · have h2 : ¬ (j : Int) < ((q.moves.map MoveR.row).length : Nat) := by omega
        have hje : j = q.moves.length := by omega
        have g0 : bytesOf (linesC c (k + 1)) = bytesOf (linesC c k ++ linesQ q j) := by rw [linesC_snoc hsn, hje]
        repeat' (first
          | (apply S.move; exact rfl; exact rfl)
          | (apply S.assign; exact rfl; exact rfl)
          | (apply S.fieldP; exact rfl; exact rfl; exact rfl)
          | (apply S.loadP; exact rfl; exact rfl; exact rfl; exact rfl)
          | (apply S.arith; exact rfl; exact rfl; exact rfl; exact rfl; omega)
          | (apply S.cmp; exact rfl; exact rfl; exact rfl; exact rfl)
          | (apply S.lenR; exact rfl; exact rfl)
          | apply S.nil
          | apply T.regs
          | apply T.reg
          | (apply T.cF; exact rfl; assumption)
          | apply T.seq
          | (apply T.exit; first | change T _ _ _ _ _ | change Done _ _ _ _ _ | change Next _ _ _ _ _ _ | skip))
        change Next _ _ _ _ _ _
        exact Next.go (k + 1) (by omega) (by omega) (.cons rfl rfl (.cons (by rw [g0]; rfl) rfl (.cons rfl rfl .nil))) (.live rfl .nil)
  · have h1 : ¬ (k : Int) < ((c.cues.map CueR.row).length : Nat) := by omega
    have hke : k = c.cues.length := by omega
    have g0 : bytesOf (linesA c 0) = bytesOf (linesC c k) := by rw [hke, linesC_all]
    repeat' (first
      | (apply S.move; exact rfl; exact rfl)
      | (apply S.assign; exact rfl; exact rfl)
      | (apply S.fieldP; exact rfl; exact rfl; exact rfl)
      | (apply S.loadP; exact rfl; exact rfl; exact rfl; exact rfl)
      | (apply S.cmp; exact rfl; exact rfl; exact rfl; exact rfl)
      | (apply S.lenR; exact rfl; exact rfl)
      | apply S.nil
      | apply T.regs
      | (apply T.cF; exact rfl; assumption)
      | apply T.seq
      | (apply T.exit; first | change T _ _ _ _ _ | change Done _ _ _ _ _ | change Next _ _ _ _ _ _ | skip)
      | apply T.block)
    refine T.loopS (fun j => j ≤ c.apart.length) (fun j => c.apart.length - j) (fun j => [(8, .i j), (3, .val (.string (ofL (bytesOf (linesA c j))))), (1, .ptr 0 0)]) (fun _ => [.live (c.row.map .lf)]) 0 (Nat.zero_le _) (.cons rfl rfl (.cons (by rw [g0]; rfl) rfl (.cons rfl rfl .nil))) (.live rfl .nil) ?_
    intro j hj
    by_cases hlj : j < c.apart.length
    · have h2 : (j : Int) < ((c.apart.map pairRow).length : Nat) := by omega
      obtain ⟨p, hp⟩ := get_at hlj
      have hbp := row_at (R := pairRow) hp
      have hsp := snoc_at hp
      have hps := hs.2.2.2 p (List.mem_of_getElem? hp)
      have z3 := ht.szA j
      have f0 : bytesOf (linesA c (j + 1)) = bytesOf (linesA c j) ++ lineL (pairWords p) := by rw [linesA_snoc hsp, bytes_append, bytes_one]
      have f1 := pair_text (bytesOf (linesA c j)) p
      rw [← f0] at f1
      repeat' (first
        | (apply S.move; exact rfl; exact rfl)
        | (apply S.assign; exact rfl; exact rfl)
        | (apply S.fieldP; exact rfl; exact rfl; exact rfl)
        | (apply S.loadP; exact rfl; exact rfl; exact rfl; exact rfl)
        | (apply S.loadR; exact rfl; exact rfl; exact rfl)
        | (apply T.drawR 19 anyOrder (by decide +kernel); simp only [List.take_succ_cons, List.take_zero, List.drop_succ_cons, List.drop_zero])
        | (apply S.indexR; exact rfl; exact rfl; exact rfl; exact hbp; omega; exact rfl)
        | (apply S.idxAR; exact rfl; exact rfl; exact rfl; exact ⟨by decide, by decide⟩; exact rfl)
        | (apply S.strAdd; exact rfl; exact rfl; exact rfl; (simp only [ByteArray.size_append, lit_size, List.size_toArray, List.length_cons, List.length_nil]; omega))
        | (apply S.arith; exact rfl; exact rfl; exact rfl; exact rfl; omega)
        | (apply S.cmp; exact rfl; exact rfl; exact rfl; exact rfl)
        | (apply S.lenR; exact rfl; exact rfl)
        | apply S.nil
        | apply T.regs
        | apply T.reg
        | (apply T.cT; exact rfl; assumption)
        | apply T.seq
        | (apply T.skip; first | change T _ _ _ _ _ | change Done _ _ _ _ _ | change Next _ _ _ _ _ _ | skip)
        | apply T.block)
      change Next _ _ _ _ _ _
      exact Next.go (j + 1) (by omega) (by omega) (.cons rfl rfl (.cons (str_eq f1) rfl (.cons rfl rfl .nil))) (.live rfl .nil)
    · have h2 : ¬ (j : Int) < ((c.apart.map pairRow).length : Nat) := by omega
      have hje : j = c.apart.length := by omega
      repeat' (first
        | (apply S.move; exact rfl; exact rfl)
        | (apply S.assign; exact rfl; exact rfl)
        | (apply S.fieldP; exact rfl; exact rfl; exact rfl)
        | (apply S.loadP; exact rfl; exact rfl; exact rfl; exact rfl)
        | (apply S.cmp; exact rfl; exact rfl; exact rfl; exact rfl)
        | (apply S.lenR; exact rfl; exact rfl)
        | apply S.nil
        | apply T.regs
        | (apply T.cF; exact rfl; assumption)
        | apply T.seq
        | (apply T.ret; change Done _ _ _ _ _)
        | (apply T.exit; first | change T _ _ _ _ _ | change Done _ _ _ _ _ | change Next _ _ _ _ _ _ | skip))
      all_goals exact doneV (by simp) Tryz.results13 rfl (by rw [hje]; rfl)
end Go.Proofs.YtfchdagalklgpaaGreatDoor
