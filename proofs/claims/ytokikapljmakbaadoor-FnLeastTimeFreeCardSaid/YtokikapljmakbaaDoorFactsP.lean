/- Closed facts on the program of this seat, each asked once for all rows: those that take long; no condition. -/
import Derived.Test.YtokikapljmakbaaDoorRows
import Derived.JoinedOf
import Derived.KernelRfl
namespace Go.Proofs.YtokikapljmakbaaDoor.Facts
open Go
theorem tt {a b : Bool} (ha : a = true) (hb : b = true) : (a && b) = true := by
  rw [ha, hb]
  rfl
theorem laidOut_ : laidOutB Tryd.prog = true := by kernel_rfl
theorem mapsRowed_ : mapsRowed Tryd.prog = true := by kernel_rfl
theorem stops_ : (Tryd.prog.stops == []) = true := by kernel_rfl
theorem knobs_ : (Tryd.prog.stopKnobs == []) = true := by kernel_rfl
theorem heard_ : Tryd.prog.stopsHeard = true := by kernel_rfl
theorem enter_ : Tryd.prog.mayEnter = true := by kernel_rfl
theorem lifts_ : (Rows.fnLeastTimeFreeRow.lifted == Tryd.prog.liftsFinal) = true := by kernel_rfl
theorem make_ : (Tryd.prog.make == some Rows.fnLeastTimeFreeRow.make) = true := by kernel_rfl
theorem plain_ : (Rows.fnLeastTimeFreeRow.plainKeys == Tryd.prog.plainKeys) = true := by kernel_rfl
theorem lifts_of (c : OpenClaim) (h : c.lifted = Rows.fnLeastTimeFreeRow.lifted) : (c.lifted == Tryd.prog.liftsFinal) = true := h ▸ lifts_
theorem make_of (c : OpenClaim) (h : c.make = Rows.fnLeastTimeFreeRow.make) : (Tryd.prog.make == some c.make) = true := h ▸ make_
theorem plain_of (c : OpenClaim) (h : c.plainKeys = Rows.fnLeastTimeFreeRow.plainKeys) : (c.plainKeys == Tryd.prog.plainKeys) = true := h ▸ plain_
end Go.Proofs.YtokikapljmakbaaDoor.Facts
