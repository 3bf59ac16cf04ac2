/- DERIVED. The words of this seat. -/
import Derived.Test.YtckjalpomcaamaaChecked
import Derived.Test.YtckjalpomcaamaaEd

/- DERIVED. The seat's own words. -/
namespace Go.Ev
open Go Go.Proofs
abbrev hI : Sh := .int .i64
abbrev hIs : Sh := .sl hI
abbrev hN : Sh := .st (.pair hI (.pair hI (.pair hI hI)))
abbrev hNs : Sh := .sl hN
abbrev hE : Sh := .st hNs
theorem prog_fol : Try.prog.follows .mixedOrders = true := by kernel_rfl
end Go.Ev
