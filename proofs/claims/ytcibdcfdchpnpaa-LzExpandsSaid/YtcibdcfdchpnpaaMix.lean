/- The program's regions draw their orders. Nothing is assumed. -/
import Derived.Test.YtcibdcfdchpnpaaX8
import Derived.Test.YtcibdcfdchpnpaaT
namespace Go.Proofs.Ytcibdcfdchpnpaa.X
open Go Go.RowKit
instance : Mixed Try.prog := ⟨by kernel_rfl⟩
end Go.Proofs.Ytcibdcfdchpnpaa.X
