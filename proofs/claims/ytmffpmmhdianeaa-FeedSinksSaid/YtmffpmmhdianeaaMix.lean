/- The program's regions draw their orders. Nothing is assumed. -/
import Derived.Test.YtmffpmmhdianeaaX8
import Derived.Test.YtmffpmmhdianeaaT
namespace Go.Proofs.Ytmffpmmhdianeaa.X
open Go Go.RowKit
instance : Mixed Try.prog := ⟨by kernel_rfl⟩
end Go.Proofs.Ytmffpmmhdianeaa.X
