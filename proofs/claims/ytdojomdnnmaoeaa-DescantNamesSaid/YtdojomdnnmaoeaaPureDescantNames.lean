/- Every error, limit and kind is the document's. -/
import Derived.Test.YtdojomdnnmaoeaaPDescantNamesx
namespace Go.Proofs.Ytdojomdnnmaoeaa.Pure
open Go.RowKit Go.Proofs.Ytdojomdnnmaoeaa.PDescantNames Go.Proofs.YtdojomdnnmaoeaaW.PrintWords Go.Proofs.YtdojomdnnmaoeaaW.PrintLast

theorem DescantNames : descantlaw0_DescantNames.Pure := by
  show descantlaw0_DescantNames.f = some true
  decide +kernel

end Go.Proofs.Ytdojomdnnmaoeaa.Pure
