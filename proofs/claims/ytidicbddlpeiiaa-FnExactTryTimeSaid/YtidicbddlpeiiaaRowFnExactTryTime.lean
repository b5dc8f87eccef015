/- The statement of FnExactTryTime, proved: the law returns true for every input and leaves the input as it was; no condition. -/
import Derived.Test.YtidicbddlpeiiaaRows
import Derived.Test.YtidicbddlpeiiaaFacts
import Derived.Test.YtidicbddlpeiiaaQx24
import Derived.Test.YtidicbddlpeiiaaPureFnExactTryTime
import Derived.WalkKit
import Derived.ProofKit
import Derived.OpenShut
import Derived.ShutString
import Derived.ChangeOld
import Derived.Below
import Derived.SizedLaws
import Derived.Deep.Grids
namespace Go.Proofs.Ytidicbddlpeiiaa.fnExactTryTime
open Go.ChangeShapes Go.WideShapes Go.ChangeAt Go.RowKit Go.Deep
open Go.Proofs.YtidicbddlpeiiaaW.PrintWords Go.Proofs.YtidicbddlpeiiaaW.PrintLast
set_option linter.unusedVariables false
theorem own : ownKnob Try.prog.godebug = none := by kernel_rfl
theorem laidOut : laidOutB Try.prog = true := Facts.laidOut_
set_option maxRecDepth 100000 in
theorem lifted (os : Os) (started : os.Started) (H : Type) (enc : TypeId × Value → H) :
    ReturnsInHanded {} Try.checked os 15 .any (Rows.fnExactTryTimeSpec.pre6 enc Try.prog Try.f15 Rows.fnExactTryTimeRow.domain false) (Rows.fnExactTryTimeSpec.post enc Try.prog Try.f15 false true false false) := by
  refine returnsInHanded_of_change_sized (C := Try.checked) own started (by kernel_rfl) Try.func15
    (ChangeSpec.witness6 (enc := enc) (C := Try.checked) false ⟨#[], #[.slice none 0 0, .int .i64 0, .int .i64 0], []⟩ 8 (by kernel_rfl) (by kernel_rfl) (by kernel_rfl) (by kernel_rfl)) ?_
  intro W base args ds gs before hval0 hW hcnd hsz0 _
  have hval : ∀ (j : Nat) t v, Try.f15.params[j]? = some t → args[j]? = some v → Value.okWide Try.prog W .any base t v := hval0
  have hW' := hW
  obtain ⟨p, q, hA0, hV, rfl, hfz, hnd⟩ := hW
  have hA : DataW.TrodAll enc Try.prog W 0 (fun _ => true) true Try.f15.params.toList args.toList ds p := hA0
  rw [Try.params15] at hA hval
  obtain ⟨v0, vs0, d0, ds0, p0, q0, hargs, rfl, rfl, h0, r0⟩ := trodAll_cons hA
  obtain ⟨v1, vs1, d1, ds1, p1, q1, rfl, rfl, rfl, h1, r1⟩ := trodAll_cons r0
  obtain ⟨v2, vs2, d2, ds2, p2, q2, rfl, rfl, rfl, h2, r2⟩ := trodAll_cons r1
  obtain ⟨rfl, rfl, rfl⟩ := trodAll_nil r2
  obtain rfl : args = #[v0, v1, v2] := by cases args; simp_all
  obtain ⟨rfl, rfl⟩ := trodVars_none hV
  obtain ⟨a0, len0, cap0, rfl⟩ := okWide_slice Try.underlying29 (hval 0 29 v0 rfl rfl)
  have k0 := h0
  have lt0 : ∀ x ∈ p0, x.block < W.heap.size := by obtain ⟨m, hm⟩ := k0; exact DataW.trod_lt m _ _ _ hm
  obtain ⟨l0, hlen, hr0, hc0⟩ : ∃ l0 : List Bool, len0 = l0.length ∧ ReadsOf Value.bool false W a0 l0.length l0 ∧ l0.length ≤ cap0 := by
    obtain ⟨fuel, hf⟩ := h0
    rcases open_bools Try.underlying29 Try.underlying4 (by kernel_rfl) hf with ⟨hcs, _⟩ | ⟨x, l, c, B, hcs, _, hl, hm, _, hcell⟩
    · simp [Value.cells] at hcs
      obtain ⟨rfl, rfl, rfl⟩ := hcs
      exact ⟨[], rfl, ⟨rfl, by simp, fun h => by simp at h⟩, by simp⟩
    · simp [Value.cells] at hcs
      obtain ⟨rfl, rfl, rfl⟩ := hcs
      have e : ((List.range len0).map B).length = len0 := by simp
      refine ⟨(List.range len0).map B, e.symm, ⟨rfl, by rw [e]; unfold maxLen at hm; omega, fun _ => ⟨x, rfl, fun j hj => ?_⟩⟩, by rw [e]; exact hl⟩
      rw [e] at hj
      rw [hcell j (by omega), List.getD_eq_getElem?_getD, List.getElem?_map, List.getElem?_range hj]
      rfl
  subst hlen
  obtain ⟨a1, rfl, rfl, rfl, w1⟩ := open_int Try.underlying3 (hval 1 3 v1 rfl rfl) h1
  obtain ⟨a2, rfl, rfl, rfl, w2⟩ := open_int Try.underlying3 (hval 2 3 v2 rfl rfl) h2
  clear hA0 hval0 hsz0
  obtain ⟨k, h⟩ := Pure.FnExactTryTime l0 a1 a2
  refine (Q.laws_FnExactTryTime.calls k _ _ l0 a1 a2 true W (Kd.C_of_reads (d := false) (h1 := fun _ => rfl) hr0) hc0 h).mono fun e W' ⟨he, bel⟩ => ?_
  subst he
  exact ⟨_, rfl, _, _, _, [], _, [], hW', trodAll_mk1 (shut_bool Try.underlying4 _), (trodAll_cons_mk (Below.trod laidOut (by kernel_rfl) (of_decide_eq_true (by kernel_rfl)) k0 bel lt0) (trodAll_cons_mk (shut_int Try.underlying3 w1) (trodAll_cons_mk (shut_int Try.underlying3 w2) trodAll_mk0))), rfl, bel.frame _, fun h => by cases h⟩
set_option maxHeartbeats 4000000 in
theorem facts : joinedFacts Try.prog 15 Try.f15 Rows.fnExactTryTimeSpec Rows.fnExactTryTimeRow = true := by
  unfold joinedFacts
  repeat' (with_reducible refine Facts.tt ?_ ?_)
  all_goals first
    | (with_reducible exact Facts.laidOut_)
    | (with_reducible exact Facts.mapsRowed_)
    | (with_reducible exact Facts.stops_)
    | (with_reducible exact Facts.knobs_)
    | (with_reducible exact Facts.heard_)
    | (with_reducible exact Facts.enter_)
    | ((with_reducible refine Facts.lifts_of _ ?_); rfl)
    | ((with_reducible refine Facts.make_of _ ?_); rfl)
    | ((with_reducible refine Facts.plain_of _ ?_); rfl)
    | (as_aux_lemma => kernel_rfl)
theorem named : Try.prog.funcNamed Rows.fnExactTryTimeRow.func = some 15 := by kernel_rfl
theorem inst : Try.f15.isInstance Try.prog Rows.fnExactTryTimeRow.origin Rows.fnExactTryTimeRow.targs := of_decide_eq_true (by kernel_rfl)
theorem wrap : Try.f15.isWrapper Try.prog Rows.fnExactTryTimeRow.wrapper Rows.fnExactTryTimeRow.mainSum := by unfold Func.isWrapper; first | (rw [if_pos (by decide +kernel)]; kernel_rfl) | (rw [if_neg (by decide +kernel)]; exact ⟨rfl, rfl⟩)
theorem over : Rows.fnExactTryTimeRow.holds Try.pinned (OpenSpec.ofChange Rows.fnExactTryTimeSpec) :=
  OpenClaim.holds_of_wide 15 Try.f15 rfl rfl rfl rfl rfl rfl rfl ⟨rfl, rfl, rfl, rfl, rfl⟩ rfl rfl rfl rfl rfl named Try.func15 facts inst wrap
    (fun os started H enc _ => lifted os started H enc)
theorem proved : Rows.FnExactTryTimeSaid := over
#print axioms proved
end Go.Proofs.Ytidicbddlpeiiaa.fnExactTryTime
namespace Go.Proofs.Ytidicbddlpeiiaa
/-- The row, under a short name, for the claim. -/
theorem fnExactTryTime_holds : Rows.FnExactTryTimeSaid := fnExactTryTime.proved
end Go.Proofs.Ytidicbddlpeiiaa
