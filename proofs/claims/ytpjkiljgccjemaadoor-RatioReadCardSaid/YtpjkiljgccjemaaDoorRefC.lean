/- Contract of the reference's Div. -/
import Derived.Test.YtpjkiljgccjemaaDoorRefB
import Derived.Test.YtpjkiljgccjemaaDoorRatE
namespace Go.Proofs.YtpjkiljgccjemaaDoor
set_option linter.unusedVariables false
open Go.RowKit Go.Sort

/-- The two words of a number. -/
def Wd (x h l : Int) : Prop := h = x / 18446744073709551616 ∧ l = x % 18446744073709551616

theorem rdiv_small (al bl : Int) (w : World) (hb : 1 ≤ bl) (hb' : bl < 18446744073709551616) (ha : 0 ≤ al) (ha' : al < 18446744073709551616) :
    Calls Tryd.prog 69 #[.agg #[.int .u64 0, .int .u64 al], .agg #[.int .u64 0, .int .u64 bl]] w fun e w' =>
      e = .returned (.tuple #[.agg #[.int .u64 0, .int .u64 (al / bl)], .agg #[.int .u64 0, .int .u64 (al % bl)]]) ∧ Tr w w' := by
  have g1 : ¬ bl = 0 := by omega
  go_enter Tryd.func69, Tryd.ntmps69
  go_wp2
  go_region
  go_wp2
  simp [bodyPost, results, Tryd.results69, go_sem, *]
  exact (by repeat (first | exact Tr.refl _ | assumption | apply Tr.al | apply Tr.drN | apply Tr.dr | (refine Tr.set ?_ (by first | omega | (simp; done) | (simp; omega)) _)))
end Go.Proofs.YtpjkiljgccjemaaDoor
