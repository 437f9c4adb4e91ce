/- skew.moved. -/
import Derived.Test.YtecfjdladcmhjaaMovedLaw
import Derived.Test.YtecfjdladcmhjaaFlow2
namespace Go.Proofs.Ytecfjdladcmhjaa
open Go.RowKit

end Go.Proofs.Ytecfjdladcmhjaa
