/- Contracts: sheets of cues that are valid (both sides). No conditions but those of each statement. | Contracts: sheets of cues that are valid (the reference's side). No conditions but those of each statement. | Contracts: the example of the chapter on cues. No conditions but those of each statement. | Contracts: what a law on cues asks ahead;the error of a house, trims and a cue (both sides). No conditions but those of each statement. -/
import Derived.Test.YtgegcgfdffmoeaaGreatMm
import Derived.Test.YtgegcgfdffmoeaaGreatMb
set_option linter.unusedSimpArgs false
namespace Go.Proofs.YtgegcgfdffmoeaaGreat
set_option linter.unusedVariables false
open Go.RowKit

def sumM (l : List CueR) : Int := (l.map fun q => (q.moves.length : Int)).sum
def okQ (h : HouseR) (l : List CueR) (i : Nat) (q : CueR) : Prop := sumM (l.take (i + 1)) ≤ 100 ∧ rightP h q ∧ (¬ ∃ y ∈ l.take i, y.name = q.name) ∧ (q.link = 1 → q.after = ⟨#[]⟩) ∧ (¬ q.link = 1 → ∃ y ∈ l.take i, y.name = q.after)
def cuesP (h : HouseR) (l : List CueR) : Prop := ∀ i q, l[i]? = some q → okQ h l i q
def validP (h : HouseR) (c : SheetR) : Prop := houseP h ∧ (c.cues.length : Int) ≤ 60 ∧ cuesP h c.cues ∧ pairsP c
noncomputable instance (h : HouseR) (c : SheetR) : Decidable (validP h c) := Classical.propDecidable _
end Go.Proofs.YtgegcgfdffmoeaaGreat
set_option linter.unusedSimpArgs false
namespace Go.Proofs.YtgegcgfdffmoeaaGreat
set_option linter.unusedVariables false
open Go.RowKit
end Go.Proofs.YtgegcgfdffmoeaaGreat
set_option linter.unusedSimpArgs false
namespace Go.Proofs.YtgegcgfdffmoeaaGreat
set_option linter.unusedVariables false
open Go.RowKit
def exS : SetR := ⟨⟨#[115]⟩, 0, 0, 6000, 2000, [0, 2000], 0, 0, 1, 500, 0, [], []⟩
def exM : MoveR := ⟨⟨#[115]⟩, 2000, 500, 250, 500⟩
def exQ : CueR := ⟨⟨#[113]⟩, ⟨#[]⟩, 1, 0, [exM], 0, 0⟩
def exH : HouseR := ⟨⟨#[104]⟩, 7000, [exS], []⟩
theorem outL_refl {H : AH} (l : List Lf) : OutL H (l.map .lf) (l.map .lf) := by
  induction l with
  | nil => exact .nil
  | cons x l ih => exact .cons (.lf x) ih
theorem Res.row {P : Program} {st : St} {t b n : Nat} {ty : TypeId} {cells : List AV} {ds : TypeDesc} (cs : List Lf) [hu : HasU P ty ds] [hi : HasS P ty n] (h : st.tm.get t = some (.ptr b 0)) (hb : st.H.at b = .live cells) (hd : ds.isRow = true) (hc : cells = cs.map .lf) (hn : Nat.beq cs.length n = true) : Res P st (.cell t ty) (rowA cs) := by
  subst hc
  have hn' := Nat.eq_of_beq_eq_true hn
  have := Res.cells h hb hu.out hd hi.out (Nat.ble_eq_true_of_le (by simp;omega))
  rw [List.drop_zero, List.take_of_length_le (by simp;omega)] at this
  exact this
end Go.Proofs.YtgegcgfdffmoeaaGreat
set_option linter.unusedSimpArgs false
namespace Go.Proofs.YtgegcgfdffmoeaaGreat
set_option linter.unusedVariables false
open Go.RowKit
noncomputable instance (h : HouseR) (c : SheetR) : Decidable (¬ smallH h 8 ∨ ¬ smallC c 8) := Classical.propDecidable _
def loneOf (q : CueR) : SheetR := ⟨[q], []⟩
def trimsIn (h : HouseR) (l : List Int) : Prop := ∀ (i : Nat) (n : Int) (s : SetR), l[i]? = some n → h.sets[i]? = some s → s.low ≤ n ∧ n ≤ s.high
open Classical in
noncomputable def givenE (h : HouseR) (l : List Int) (q : CueR) : Int := if houseP h ∧ rightP h q then (if l.length = h.sets.length then (if trimsIn h l then 0 else 2) else 3) else 1
end Go.Proofs.YtgegcgfdffmoeaaGreat
