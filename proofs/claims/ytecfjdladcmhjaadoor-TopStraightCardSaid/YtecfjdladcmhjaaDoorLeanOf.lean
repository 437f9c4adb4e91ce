/- bedref2.LeanOf and SlantOf. -/
import Derived.Test.YtecfjdladcmhjaaDoorLean
namespace Go.Proofs.YtecfjdladcmhjaaDoor
open Go.RowKit

end Go.Proofs.YtecfjdladcmhjaaDoor
