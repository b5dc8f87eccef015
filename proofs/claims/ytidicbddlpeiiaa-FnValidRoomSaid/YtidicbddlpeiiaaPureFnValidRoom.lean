/- Rooms can be larger: the law returns true for every code; no condition. -/
import Derived.Laws.BitsLemmas
import Derived.Test.YtidicbddlpeiiaaPurePick
import Derived.Test.YtidicbddlpeiiaaQx20
namespace Go.Proofs.Ytidicbddlpeiiaa.Pure
open Go.RowKit Go.Proofs.YtidicbddlpeiiaaW.PrintWords Go.Proofs.YtidicbddlpeiiaaW.PrintLast Go.Proofs.YtidicbddlpeiiaaW.PrintMore Go.Proofs.Ytidicbddlpeiiaa.Q
set_option linter.unusedSimpArgs false
set_option linter.unusedVariables false

def spoilSet (l : List Int) (n : Int) : List (List Int) :=
  [l ++ [n], l.drop 1, l] ++ (List.range l.length).flatMap fun i => ([-1, n, 0, 1] : List Int).map fun v => l.set i v
theorem spoil_all (b : List Int) (hb : ∀ x ∈ b, 0 ≤ x ∧ x ≤ 255) (hl : b.length ≤ 2000) (p : Int) (h0 : 0 ≤ p) (h1 : p ≤ 1000000) (l : List Int) (hll : l.length ≤ 1000) (n : Int) :
    ∃ y q, (∀ k, spec_reader_spoil.f (k + 1) b p l n = some (y, q)) ∧ y ∈ spoilSet l n ∧ 0 ≤ q ∧ q ≤ p + 10 := by
  obtain ⟨r, hr, r0, r1, _⟩ := pick_all b hb hl p 20 h0 (by omega)
  have r1 := r1 (by omega)
  have hcopy : spec_copyInts.f l = some l := by
    unfold spec_copyInts.f
    simp only [Option.bind_some]
    rw [if_pos (by simp; omega)]
    rfl
  unfold spec_reader_spoil.f
  simp only [hcopy, hr, Option.bind_some]
  by_cases c0 : r = 0
  · refine ⟨l ++ [n], p + 1, fun k => ?_, by simp [spoilSet], by omega, by omega⟩
    rw [if_pos c0, if_pos (by omega)]
  by_cases c1 : r = 1
  · by_cases cl : (l.length : Int) > 0
    · refine ⟨l.drop 1, p + 1, fun k => ?_, by simp [spoilSet], by omega, by omega⟩
      rw [if_neg c0, if_pos c1, if_pos cl, if_pos (by omega)]
      rfl
    · refine ⟨l, p + 1, fun k => ?_, by simp [spoilSet], by omega, by omega⟩
      rw [if_neg c0, if_pos c1, if_neg cl]
  by_cases c2 : r = 2
  · by_cases cl : (l.length : Int) > 0
    · obtain ⟨s, hs, s0, s1, _⟩ := pick_all b hb hl (p + 1) (l.length : Int) (by omega) (by omega)
      have s1 := s1 (by omega)
      obtain ⟨v, hv, mv⟩ := one_all b hb hl (p + 1 + 1) (by omega) (by omega) ([-1, n, 0, 1] : List Int) (by simp)
      refine ⟨l.set s.toNat v, p + 1 + 1 + 1, fun k => ?_, ?_, by omega, by omega⟩
      · rw [if_neg c0, if_neg c1, if_pos c2, if_pos cl, hs]
        simp only [Option.bind_some]
        rw [hv]
        simp only [Option.bind_some]
        rw [if_pos s0, if_pos s1]
      · refine List.mem_append_right _ (List.mem_flatMap.2 ⟨s.toNat, by simp; omega, List.mem_map.2 ⟨v, mv, rfl⟩⟩)
    · refine ⟨l, p + 1, fun k => ?_, by simp [spoilSet], by omega, by omega⟩
      rw [if_neg c0, if_neg c1, if_pos c2, if_neg cl]
  · refine ⟨l, p + 1, fun k => ?_, by simp [spoilSet], by omega, by omega⟩
    rw [if_neg c0, if_neg c1, if_neg c2]
theorem DrawValidRoom_all (code : List Int) (h : ∀ x ∈ code, (Lit.int .u8 x).wf = true) :
    ∃ a ∈ ([4, 5, 8, 4] : List Int), ∃ b ∈ ([4, 6, 8] : List Int), ∃ c ∈ ([4, 4, 7] : List Int), ∃ y ∈ spoilSet [a, b, c] 9, ∀ k, spec_DrawValidRoom.f (k + 1) code = some y := by
  obtain ⟨d, hd0, hdl, hd⟩ := newReader_all code h
  obtain ⟨a, ha, ma⟩ := one_all d hd hdl 0 (by omega) (by omega) ([4, 5, 8, 4] : List Int) (by decide)
  obtain ⟨b, hb, mb⟩ := one_all d hd hdl (0 + 1) (by omega) (by omega) ([4, 6, 8] : List Int) (by decide)
  obtain ⟨c, hc, mc⟩ := one_all d hd hdl (0 + 1 + 1) (by omega) (by omega) ([4, 4, 7] : List Int) (by decide)
  obtain ⟨y, q, hy, my, _, _⟩ := spoil_all d hd hdl (0 + 1 + 1 + 1) (by omega) (by omega) [a, b, c] (by simp) 9
  refine ⟨a, ma, b, mb, c, mc, y, my, fun k => ?_⟩
  unfold spec_DrawValidRoom.f spec_someRoom.f
  rw [hd0]
  simp only [Option.bind_some]
  rw [ha]
  simp only [Option.bind_some]
  rw [hb]
  simp only [Option.bind_some]
  rw [hc]
  simp only [Option.bind_some]
  rw [hy]
  simp only [Option.bind_some]
set_option maxRecDepth 100000 in
theorem FnValidRoom : laws_FnValidRoom.Pure := by
  intro code _ _ hw
  by_cases hc : (code.length : Int) > 1048576
  · exact ⟨0, by unfold laws_FnValidRoom.f; rw [if_pos hc]⟩
  obtain ⟨a, ha, b, hb, c, hc', y, hy, hd⟩ := DrawValidRoom_all code hw
  refine ⟨20, ?_⟩
  unfold laws_FnValidRoom.f
  rw [if_neg hc, hd 19]
  simp only [Option.bind_some]
  clear hd hc hw
  revert y
  revert c
  revert b
  revert a
  decide +kernel

end Go.Proofs.Ytidicbddlpeiiaa.Pure
