/- bedref2.LeanOf and SlantOf. -/
import Derived.Test.YtecfjdladcmhjaaLean
namespace Go.Proofs.Ytecfjdladcmhjaa
open Go.RowKit

end Go.Proofs.Ytecfjdladcmhjaa
