/- All users of a task, the program's answer; plain Lean. -/
import Derived.Test.YtgpnododcbkflaaDoorPureRel
import Derived.Test.YtgpnododcbkflaaDoorHUsers
namespace Go.Proofs.YtgpnododcbkflaaDoor.H
open Go.RowKit Go.Proofs.YtgpnododcbkflaaDoorW.PrintWords Go.Proofs.YtgpnododcbkflaaDoor.Q
theorem implUsers_is {g : List S30} (h : held g = true) {a : Int} : impl_AllUsers.f g a = some (rel2 g a) := if_pos h
end Go.Proofs.YtgpnododcbkflaaDoor.H
