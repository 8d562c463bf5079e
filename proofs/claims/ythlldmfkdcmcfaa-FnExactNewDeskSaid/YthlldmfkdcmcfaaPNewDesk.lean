/- The plain law of NewDesk: all is closed. -/
import Derived.Test.YthlldmfkdcmcfaaD0
import Derived.Test.YthlldmfkdcmcfaaXRow
namespace Go.Proofs.Ythlldmfkdcmcfaa.X
open Go
theorem newDesk_true : f4G 64 = some true := by kernel_rfl
theorem FnExactNewDesk_pure {x} (_ : WfA [] x) : ∃ K, f4G K = some true := ⟨64, newDesk_true⟩
end Go.Proofs.Ythlldmfkdcmcfaa.X
