/- Contracts: the trims after a cue (both sides): the same list. No conditions but those of each statement. -/
import Derived.Test.YtlapbaiejnaeiaaGreatDoorMq
import Derived.Test.YtlapbaiejnaeiaaGreatDoorMn
set_option linter.unusedSimpArgs false
set_option linter.unusedVariables false
namespace Go.Proofs.YtlapbaiejnaeiaaGreatDoor
open Go.RowKit
abbrev A6 (l : List Int) : List AV := (l.map A1).flatten.map .lf
theorem Bn (l : List Int) : ∀ r ∈ l.map A1, r.length = 1 := by
 intro r hr
 obtain ⟨n, _, rfl⟩ := List.mem_map.1 hr
 rfl
theorem Wg (l : List Int) : (l.map A1).flatten.all Lf.one = true := by
 rw [List.all_eq_true]
 intro x hx
 obtain ⟨r, hr, hxr⟩ := List.mem_flatten.1 hx
 obtain ⟨n, _, rfl⟩ := List.mem_map.1 hr
 simp only [A1, List.mem_cons, List.not_mem_nil, or_false] at hxr
 subst hxr
 rfl
theorem Bw (l : List Int) : (A6 l).length = l.length := by
 rw [List.length_map, Av _ (Bn l), List.length_map, Nat.mul_one]
theorem Km : ∀ (l : List Int) (i : Nat) (n : Int), i < l.length -> B8 i [.i n] (A6 l) = A6 (l.set i n)
 | [], i, n, h => by simp at h
 | x :: l, 0, n, _ => by simp [A6, A1, B8, Eo]
 | x :: l, i + 1, n, h => by
  have ih := Km l i n (by simpa using h)
  simp only [A6, List.map_cons, A1, List.flatten_cons, List.map_append, List.map_nil, List.cons_append, List.nil_append, List.set_cons_succ] at ih ⊢
  rw [B8]
  exact congrArg _ ih
theorem J8 {l : List Int} {i : Nat} {n : Int} (h : i < l.length) : A6 (l.set i n) = B8 (0 + i * 1) [.i n] (A6 l) := by
 rw [<- Km l i n h, Nat.mul_one, Nat.zero_add]
theorem Res.own0 {P : Program} {st : St} {t b k n : Nat} (h : st.tm.get t = some (.own b 0 (0 + k) n)) : Res P st (.tmp t) (.own b 0 k n) := by
 rw [Nat.zero_add] at h
 exact .tmp h
set_option maxHeartbeats 8000000 in
theorem Rz (l : List Int) (hl : l.length <= 1000) : FnOwn Tryz.prog 216 [.sl (l.map A1)] (l.map A1) 1 := by
 have hle : (l.map A1).length = l.length := List.length_map _
 refine FnOwn.of Tryz.func216 Tryz.ntmps216 rfl rfl rfl ?_
 simp only [A0]
 repeat' (first | refine W ?_|(apply S.eqNil;exact rfl;exact rfl;intro hnil;rotate_left;rotate_right)|(apply S.buildSliceO;(iterate 6 exact rfl))|(apply S.appendO;(iterate 9 exact rfl);exact Bn l;exact Wg l;exact rfl;omega;omega) | refine V ?_|(refine W2 ?_ ?_ <;> intro hc))
 all_goals (apply T.ret;change Xf _ _ _ _ _ _)
 ·exact ⟨.inr rfl, .inl ⟨_, .cons (.tmp rfl) .nil, rfl, hnil⟩⟩
 ·exact ⟨.inr rfl, .inr (.inr ⟨0, .cons (Res.own0 rfl) .nil, rfl⟩)⟩
def B5 (h : HouseR) (l : List Int) (ms : List MoveR) : List Int := ms.foldl (fun l m => l.set (As h m.set).toNat m.to) l
theorem Q5 (h : HouseR) (l : List Int) (ms : List MoveR) (m : MoveR) : B5 h l (ms ++ [m]) = (B5 h l ms).set (As h m.set).toNat m.to := by simp [B5]
theorem F2 (h : HouseR) : ∀ (ms : List MoveR) (l : List Int), (B5 h l ms).length = l.length
 | [], l => rfl
 | m :: ms, l => by
  have := F2 h ms (l.set (As h m.set).toNat m.to)
  rw [List.length_set] at this
  exact this
theorem Ll (n : Nat) (l : List Int) : (A6 l).all (AV.under n) = true := Ao n _
theorem Wt (h : HouseR) (l : List Int) (ms : List MoveR) : OwnRows (A6 (B5 h l ms)) 0 (l.map A1).length 1 ((B5 h l ms).map A1) := by
 have := OwnRows.of ((B5 h l ms).map A1).flatten (Bn (B5 h l ms)) rfl
 rw [List.length_map, F2] at this
 rw [List.length_map]
 exact this
set_option maxHeartbeats 16000000 in
theorem Tv (h : HouseR) (l : List Int) (q : CueR) (hf : h.fits) (hq : q.moves.length <= 9223372036854775807) (g : GivenOk h l q) : Fn0 Tryz.prog 158 [A4 h.row, .sl (l.map A1), A4 q.row] (.sl ((B5 h l q.moves).map A1)) := by
 have hf1 := hf.1
 obtain ⟨_, _, _, hs60, _⟩ := g.house
 have hl60 : l.length <= 60 := by rw [g.len];exact hs60
 have hle : (q.moves.map MoveR.row).length = q.moves.length := List.length_map _
 have hle2 : (l.map A1).length = l.length := List.length_map _
 refine Fn0.of Tryz.func158 Tryz.ntmps158 rfl rfl rfl ?_
 simp only [A0]
 repeat' (first | refine W ?_|(apply S.callOwn 2;exact Rz l (by omega);(iterate 6 exact rfl);exact Bn l;intro hnil;rotate_left;rotate_right) | refine V ?_|(refine W2 ?_ ?_ <;> intro hc))
 ·have hl0 : l = [] := List.map_eq_nil_iff.1 hnil
  have hm0 : q.moves = [] := by
   cases hmv : q.moves with
   | nil => rfl
   | cons m ms =>
    obtain ⟨_, _, m3, _⟩ := g.move (m := m) (by rw [hmv];simp)
    rw [hl0] at m3
    simp at m3
  have h1 : ¬ ((0 : Nat) : Int) < ((q.moves.map MoveR.row).length : Nat) := by rw [hle, hm0];simp
  refine T.loopS (fun _ : Nat => True) (fun _ => 0) (fun k => [(15, .i ((0 : Nat) : Int)), (14, .i (q.moves.map MoveR.row).length), (7, .sl [])]) (fun _ => []) 0 trivial CV .nil ?_
  intro k _
  repeat' (first | refine W ?_ | refine V ?_|(refine W2 ?_ ?_ <;> intro hc))
  have hres : (B5 h l q.moves).map A1 = [] := by rw [hl0, hm0];rfl
  rw [hres]
  exact Ku (by first | exact .inl rfl | exact .inr rfl) Tryz.results158 rfl (.one (.one (.lf _)))
 ·refine T.loopS (fun k => k <= q.moves.length) (fun k => q.moves.length - k) (fun k => [(15, .i k), (14, .i (q.moves.map MoveR.row).length), (13, .sl (q.moves.map MoveR.row)), (7, .own 2 0 (l.map A1).length 1), (3, .ptr 0 0)]) (fun k => [.live (h.row.map .lf), .live (q.row.map .lf), .live (A6 (B5 h l (q.moves.take k)))]) 0 (Nat.zero_le _) CV (.live rfl (.live rfl (.live (Ll _ _) .nil))) ?_
  intro k hk
  by_cases hlt : k < q.moves.length
  ·have h1 : (k : Int) < ((q.moves.map MoveR.row).length : Nat) := by omega
   obtain ⟨x, hx⟩ := Ac hlt
   have hb := Ae (R := MoveR.row) hx
   have hsn := Bd hx
   have hmem : x ∈ q.moves := List.mem_of_getElem? hx
   have hst : B5 h l (q.moves.take (k + 1)) = (B5 h l (q.moves.take k)).set (As h x.set).toNat x.to := by rw [hsn, Q5]
   have hal := F2 h (q.moves.take k) l
   have hcl := Bw (B5 h l (q.moves.take k))
   obtain ⟨m1, m2, m3, n, hn, m4, m5, m6⟩ := g.move hmem
   repeat' (first | refine W ?_|(apply T.drawR 8 A2 (by decide +kernel);simp only [td])|(apply T.draw 8 A2 (by decide +kernel);simp only [td])|refine Zi hb ?_|refine Zc (Iz h x.set hf1) ?_|(apply S.indexO;(iterate 4 exact rfl);omega;exact rfl)|(apply S.storeW;(iterate 6 exact rfl);omega)|refine Za ?_ | refine V ?_|(refine W2 ?_ ?_ <;> intro hc))
   change Next _ _ _ _ _ _
   exact Next.go (k + 1) (by omega) (by omega) CV (by
    show CovH _ _ [_, _, .live (A6 (B5 h l (q.moves.take (k + 1))))]
    have hlt2 : (As h x.set).toNat < (B5 h l (q.moves.take k)).length := by omega
    have hu := Ll 3 ((B5 h l (q.moves.take k)).set (As h x.set).toNat x.to)
    rw [J8 hlt2] at hu
    rw [hst, J8 hlt2]
    exact .live rfl (.live rfl (.live hu .nil)))
  ·have h1 : ¬ (k : Int) < ((q.moves.map MoveR.row).length : Nat) := by omega
   have hkt : q.moves.take k = q.moves := List.take_of_length_le (by omega)
   rw [show (B5 h l q.moves).map A1 = (B5 h l (q.moves.take k)).map A1 by rw [hkt]]
   repeat' (first | refine W ?_ | refine V ?_|(refine W2 ?_ ?_ <;> intro hc))
   refine Ku (by first | exact .inl rfl | exact .inr rfl) Tryz.results158 rfl (.one (.one ?_))
   exact .own rfl (Wt h l (q.moves.take k))
/-! ### The reference -/
end Go.Proofs.YtlapbaiejnaeiaaGreatDoor
