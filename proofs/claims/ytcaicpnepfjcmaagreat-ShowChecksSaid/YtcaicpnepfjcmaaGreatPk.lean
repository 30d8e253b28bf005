/- Lemmas of the proof. -/
import Derived.Test.YtcaicpnepfjcmaaGreatNb
set_option linter.all false
namespace Go.Proofs.YtcaicpnepfjcmaaGreat
open Go Go.RowKit
end Go.Proofs.YtcaicpnepfjcmaaGreat
