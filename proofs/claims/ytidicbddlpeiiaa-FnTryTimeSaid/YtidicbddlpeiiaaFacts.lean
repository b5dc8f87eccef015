/- Closed facts on the program of this seat, each asked once for all rows; no condition. -/
import Derived.Test.YtidicbddlpeiiaaRows
import Derived.JoinedOf
import Derived.KernelRfl
namespace Go.Proofs.Ytidicbddlpeiiaa.Facts
open Go
theorem tt {a b : Bool} (ha : a = true) (hb : b = true) : (a && b) = true := by
  rw [ha, hb]
  rfl
theorem laidOut_ : laidOutB Try.prog = true := by kernel_rfl
theorem mapsRowed_ : mapsRowed Try.prog = true := by kernel_rfl
theorem stops_ : (Try.prog.stops == []) = true := by kernel_rfl
theorem knobs_ : (Try.prog.stopKnobs == []) = true := by kernel_rfl
theorem heard_ : Try.prog.stopsHeard = true := by kernel_rfl
theorem enter_ : Try.prog.mayEnter = true := by kernel_rfl
theorem lifts_ : (Rows.fnExactConstantsRow.lifted == Try.prog.liftsFinal) = true := by kernel_rfl
theorem make_ : (Try.prog.make == some Rows.fnExactConstantsRow.make) = true := by kernel_rfl
theorem plain_ : (Rows.fnExactConstantsRow.plainKeys == Try.prog.plainKeys) = true := by kernel_rfl
theorem lifts_of (c : OpenClaim) (h : c.lifted = Rows.fnExactConstantsRow.lifted) : (c.lifted == Try.prog.liftsFinal) = true := h ▸ lifts_
theorem make_of (c : OpenClaim) (h : c.make = Rows.fnExactConstantsRow.make) : (Try.prog.make == some c.make) = true := h ▸ make_
theorem plain_of (c : OpenClaim) (h : c.plainKeys = Rows.fnExactConstantsRow.plainKeys) : (c.plainKeys == Try.prog.plainKeys) = true := h ▸ plain_
end Go.Proofs.Ytidicbddlpeiiaa.Facts
