/- The longest time as the program answers it; plain Lean. -/
import Derived.Test.YtokikapljmakbaaDoorPureTailV
import Derived.Test.YtokikapljmakbaaDoorHLong
namespace Go.Proofs.YtokikapljmakbaaDoor.H
open Go.RowKit Go.Proofs.YtokikapljmakbaaDoorW.PrintWords Go.Proofs.YtokikapljmakbaaDoor.Q
theorem implLong_is {g : List S29} (h : held g = true) : impl_LongestTime.f g = some (longestTime g) := if_pos h
end Go.Proofs.YtokikapljmakbaaDoor.H
