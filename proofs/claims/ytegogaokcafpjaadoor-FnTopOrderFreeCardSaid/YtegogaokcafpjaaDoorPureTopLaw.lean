/- What the laws of TopOrder have in common; plain Lean. -/
import Derived.Test.YtegogaokcafpjaaDoorPC
import Derived.Test.YtegogaokcafpjaaDoorQx13
namespace Go.Proofs.YtegogaokcafpjaaDoor.H
open Go.RowKit Go.Proofs.YtegogaokcafpjaaDoorW.PrintWords Go.Proofs.YtegogaokcafpjaaDoor.Q
theorem ints_take (l : List Nat) (j : Nat) : (ints l).take j = ints (l.take j) := by
  unfold ints
  rw [List.map_take]
theorem drawTop_y (l0 : List Int) (hw : ∀ x ∈ l0, (Lit.int .u8 x).wf = true) : ∃ g, Evn (fun k => spec_DrawTopOrder.f k l0) g ∧ Few 16 10 g := by
  obtain ⟨b, e, hb⟩ := reader_y l0 hw
  unfold spec_DrawTopOrder.f
  rw [e]
  simp only [Option.bind_some]
  obtain ⟨g, q, hg, _, _, hf⟩ := anyGraph_y hb (p := 0) (Int.le_refl _) (by omega)
  exact ⟨g, Evn.bind hg (Evn.const rfl), hf⟩
end Go.Proofs.YtegogaokcafpjaaDoor.H
