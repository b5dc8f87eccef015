/- The longest time as the program answers it; plain Lean. -/
import Derived.Test.YtgpnododcbkflaaDoorPureTailV
import Derived.Test.YtgpnododcbkflaaDoorHLong
namespace Go.Proofs.YtgpnododcbkflaaDoor.H
open Go.RowKit Go.Proofs.YtgpnododcbkflaaDoorW.PrintWords Go.Proofs.YtgpnododcbkflaaDoor.Q
theorem implLong_is {g : List S30} (h : held g = true) : impl_LongestTime.f g = some (longestTime g) := if_pos h
end Go.Proofs.YtgpnododcbkflaaDoor.H
