/- All users of a task, the program's answer; plain Lean. -/
import Derived.Test.YtamomflollhofaaDoorPureRel
import Derived.Test.YtamomflollhofaaDoorHUsers
namespace Go.Proofs.YtamomflollhofaaDoor.H
open Go.RowKit Go.Proofs.YtamomflollhofaaDoorW.PrintWords Go.Proofs.YtamomflollhofaaDoor.Q
theorem implUsers_is {g : List S32} (h : held g = true) {a : Int} : impl_AllUsers.f g a = some (rel2 g a) := if_pos h
end Go.Proofs.YtamomflollhofaaDoor.H
