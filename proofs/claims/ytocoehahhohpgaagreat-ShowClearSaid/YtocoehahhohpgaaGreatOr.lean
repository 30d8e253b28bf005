/- Contracts: collide's Closest and Touch, of valid sets and paths. No conditions but those of each statement. -/
import Derived.Test.YtocoehahhohpgaaGreatPa
import Derived.Test.YtocoehahhohpgaaGreatOq
import Derived.Test.YtocoehahhohpgaaGreatOs
set_option linter.unusedSimpArgs false
set_option linter.unusedVariables false
namespace Go.Proofs.YtocoehahhohpgaaGreat
open Go Go.RowKit
theorem A5r (l : List PcQ) (fr te : Rat) : ∃ u v e : Int, Fi l fr te = .tup [A1 [.i u, .i v], .i e] := by
 unfold Fi D1
 split
 ·exact ⟨_, _, 0, rfl⟩
 ·exact ⟨_, _, _, rfl⟩
set_option maxHeartbeats 16000000 in
theorem Zn (a b : SetR) (x y : List PcQ) (h : Two a b x y) (te : Rat) (ht : Fits te) (h0 : 0 <= te) (h1 : te <= 1099511627776) :
  Fn0 Tryz.prog 63 [A1 a.row, A1 b.row, .sl (x.map PcQ.row), .sl (y.map PcQ.row), A1 (frR te)] (A31 a b x y te) := by
 have cg := Uu a b x y h te ht h0 h1
 have cn := J2 a b h.pa h.pb h.fa h.fb
 have cd := O3 a b x y h
 unfold A31
 by_cases e1 : Dc a b
 ·rw [decide_eq_true e1] at cn
  rw [if_pos e1]
  by_cases e3 : dsE (Ai a) (Ai b) x y = 0
  ·rw [if_pos e3]
   rw [e3] at cd
   obtain ⟨d1, d2, d3, d4⟩ := Sy h.ox h.oy h.x0 h.y0 h.sx h.sy e3
   generalize dsL (Ai a) (Ai b) x y = l at *
   have cf := A4y l 0 te d1 d3 d4 Kj ht (Ha l d1 d2 (List.length_pos_iff.2 d3) d4) h0
   rw [Jk] at cf
   obtain ⟨u1, u2, u3, hu⟩ := A5r l 0 te
   rw [hu] at cf ⊢
   refine Fn0.of Tryz.func63 Tryz.ntmps63 rfl rfl rfl ?_
   simp only [A2]
   repeat' (first | refine W ?_|refine Zc cg ?_|refine Zc cn ?_|refine Zc cd ?_|refine Zc cf ?_|(apply S.buildN;exact rfl;exact rfl;exact rfl)|(apply T.drawAll A0 (by decide +kernel)) | refine V ?_|(refine W2 ?_ ?_ <;> intro hc))
   all_goals exact ⟨.inr rfl, [A1 [.i u1, .i u2], .i u3], .cons (Res.row [.i u1, .i u2] rfl rfl rfl rfl rfl) (.cons (.tmp rfl) .nil), .tup (.cons (.agg (A7 [.i u1, .i u2])) (.cons (.one (.lf _)) .nil))⟩
  ·rw [if_neg e3]
   generalize dsL (Ai a) (Ai b) x y = l at *
   generalize dsE (Ai a) (Ai b) x y = e at *
   refine Fn0.of Tryz.func63 Tryz.ntmps63 rfl rfl rfl ?_
   simp only [A2]
   repeat' (first | refine W ?_|refine Zc cg ?_|refine Zc cn ?_|refine Zc cd ?_|(apply S.buildN;exact rfl;exact rfl;exact rfl)|(apply T.drawAll A0 (by decide +kernel)) | refine V ?_|(refine W2 ?_ ?_ <;> intro hc))
   all_goals exact ⟨.inr rfl, [A1 [.i 0, .i 0], .i e], .cons (Res.row [.i 0, .i 0] rfl rfl rfl rfl rfl) (.cons (.tmp rfl) .nil), .tup (.cons (.agg (A7 [.i 0, .i 0])) (.cons (.one (.lf _)) .nil))⟩
 ·rw [if_neg e1]
  rw [decide_eq_false e1] at cn
  refine Fn0.of Tryz.func63 Tryz.ntmps63 rfl rfl rfl ?_
  simp only [A2]
  repeat' (first | refine W ?_|refine Zc cg ?_|refine Zc cn ?_|(apply S.buildN;exact rfl;exact rfl;exact rfl)|(apply T.drawAll A0 (by decide +kernel)) | refine V ?_|(refine W2 ?_ ?_ <;> intro hc))
  all_goals exact ⟨.inr rfl, [A1 [.i 0, .i 0], .i 12], .cons (Res.row [.i 0, .i 0] rfl rfl rfl rfl rfl) (.cons (.tmp rfl) .nil), .tup (.cons (.agg (A7 [.i 0, .i 0])) (.cons (.one (.lf _)) .nil))⟩
theorem mem_innN {l : List SetR} {k : Nat} {a : SetR} {x : ByteArray × ByteArray} : ∀ {m : Nat}, x ∈ Al l k a m ↔ ∃ j, j < m /\ ∃ b, l[k + 1 + j]? = some b /\ Dc a b /\ x = (a.name, b.name)
 | 0 => by simp [Al]
 | m + 1 => by
  rw [Al, List.mem_append, mem_innN]
  constructor
  ·rintro (⟨j, h1, h2⟩ | h)
   ·exact ⟨j, by omega, h2⟩
   ·split at h
    ·rename_i b hb
     split at h
     ·rename_i hn
      exact ⟨m, by omega, b, hb, hn, List.mem_singleton.1 h⟩
     ·cases h
    ·cases h
  ·rintro ⟨j, h1, b, hb, hn, hx⟩
   by_cases e : j = m
   ·subst e
    refine .inr ?_
    rw [hb]
    simp only [hn, if_true]
    exact List.mem_singleton.2 hx
   ·exact .inl ⟨j, by omega, b, hb, hn, hx⟩
theorem mem_prsK {l : List SetR} {x : ByteArray × ByteArray} : ∀ {n : Nat}, x ∈ Cr l n ↔ ∃ k, k < n /\ ∃ a, l[k]? = some a /\ x ∈ Al l k a (l.length - (k + 1))
 | 0 => by simp [Cr]
 | n + 1 => by
  rw [Cr, List.mem_append, mem_prsK]
  constructor
  ·rintro (⟨k, h1, h2⟩ | h)
   ·exact ⟨k, by omega, h2⟩
   ·split at h
    ·rename_i a ha
     exact ⟨n, by omega, a, ha, h⟩
    ·cases h
  ·rintro ⟨k, h1, a, ha, hx⟩
   by_cases e : k = n
   ·subst e
    refine .inr ?_
    rw [ha]
    exact hx
   ·exact .inl ⟨k, by omega, a, ha, hx⟩
end Go.Proofs.YtocoehahhohpgaaGreat
