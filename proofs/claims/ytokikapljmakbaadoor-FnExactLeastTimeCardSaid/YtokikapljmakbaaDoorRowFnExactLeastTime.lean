/- The statement of FnExactLeastTime, proved: the law returns true for every input and leaves the input as it was, the table of math/bits tied to its text; no condition. -/
import Derived.Test.YtokikapljmakbaaDoorFacts
import Derived.Test.YtokikapljmakbaaDoorHT
import Derived.Test.YtokikapljmakbaaDoorQx42
import Derived.Test.YtokikapljmakbaaDoorPureFnExactLeastTime
import Derived.Test.YtokikapljmakbaaDoorWAll
import Derived.ShutString
import Derived.ChangeOld
import Derived.Below
import Derived.SizedLaws
namespace Go.Proofs.YtokikapljmakbaaDoor.fnExactLeastTime
open Go.ChangeShapes Go.WideShapes Go.ChangeAt Go.RowKit Go.Proofs.YtokikapljmakbaaDoorW.PrintWords
set_option linter.unusedVariables false
theorem reads (os : Os) {H : Type} (enc : TypeId × Value → H) : ∃ places, DataW.whole enc Tryd.prog ((Facts.laidWorld os).forCall (fun _ _ => 0) ⟨#[], #[.slice none 0 0, .slice none 0 0, .int .i64 0], []⟩).memory Tryd.f5.params.toList Rows.fnExactLeastTimeSpec.vars false (#[.slice none 0 0, .slice none 0 0, .int .i64 0] : Array Value).toList 8 = some ([.nil, .nil, .lit (.int .i64 0)], [], places) :=
  ⟨[], by kernel_rfl⟩
set_option maxRecDepth 100000 in
theorem lifted (os : Os) (started : os.Started) (H : Type) (enc : TypeId × Value → H) (F : Stop.Interp) :
    ReturnsInHanded {} Tryd.checked os 5 .any ((OpenSpec.ofChange Rows.fnExactLeastTimeSpec).preRow enc Tryd.prog Tryd.f5 Rows.fnExactLeastTimeRow.domain false Rows.fnExactLeastTimeRow.laid) (((OpenSpec.ofChange Rows.fnExactLeastTimeSpec).at F).post enc Tryd.prog Tryd.f5 false true false false) := by
  obtain ⟨places, hx⟩ := reads os enc
  refine returnsInHanded_of_row (C := Tryd.checked) (s := OpenSpec.ofChange Rows.fnExactLeastTimeSpec) Facts.own started (by kernel_rfl) Tryd.func5
    (witness_row_at (enc := enc) (C := Tryd.checked) false (Facts.laidWorld os) #[.slice none 0 0, .slice none 0 0, .int .i64 0] rfl (Facts.w1 os _) (Facts.w2 os _) (by kernel_rfl)
      (OpenSpec.preRow_of_cond 8 hx (by kernel_rfl) (fun k hk => by cases hk) (by kernel_rfl) (Facts.laid_met os _))) ?_
  intro W base args ds gs before hval0 hW _ _ hsz0 hL _ _
  have hT := Facts.tabbed hL
  have hsz : (DataW.weightsEach Tryd.prog (Tryd.f5.params.toList ++ Rows.fnExactLeastTimeSpec.plain.varTypes Tryd.prog) (ds ++ gs)).all (· ≤ reachBytes) = true := hsz0
  have hval : ∀ (j : Nat) t v, Tryd.f5.params[j]? = some t → args[j]? = some v → Value.okWide Tryd.prog W .any base t v := hval0
  have hW' := hW
  obtain ⟨p, q, hA0, hV, rfl, hfz, hnd⟩ := hW
  have hA : DataW.TrodAll enc Tryd.prog W 0 (fun _ => true) true Tryd.f5.params.toList args.toList ds p := hA0
  rw [Tryd.params5] at hA hval hsz
  obtain ⟨v0, vs0, d0, ds0, p0, q0, hargs, rfl, rfl, h0, r0⟩ := trodAll_cons hA
  obtain ⟨v1, vs1, d1, ds1, p1, q1, rfl, rfl, rfl, h1, r1⟩ := trodAll_cons r0
  obtain ⟨v2, vs2, d2, ds2, p2, q2, rfl, rfl, rfl, h2, r2⟩ := trodAll_cons r1
  obtain ⟨rfl, rfl, rfl⟩ := trodAll_nil r2
  obtain rfl : args = #[v0, v1, v2] := by cases args; simp_all
  obtain ⟨rfl, rfl⟩ := trodVars_none hV
  obtain ⟨a0, len0, cap0, rfl⟩ := okWide_slice Tryd.underlying33 (hval 0 33 v0 rfl rfl)
  have k0 := h0
  have lt0 : ∀ x ∈ p0, x.block < W.heap.size := by obtain ⟨m, hm⟩ := k0; exact DataW.trod_lt m _ _ _ hm
  obtain ⟨l0, hlen0, hr0, hc0⟩ : ∃ l, len0 = l.length ∧ Q.k64.C W a0 l.length l ∧ l.length ≤ cap0 := by
    obtain ⟨fuel, hf⟩ := h0
    obtain ⟨a, l, cap, hcs, hr, hc⟩ := Go.Proofs.YtokikapljmakbaaDoor.H.tasks_of_trod hf
    simp only [Value.cells, List.cons.injEq, Value.slice.injEq, and_true] at hcs
    obtain ⟨rfl, rfl, rfl⟩ := hcs
    exact ⟨l, rfl, hr, hc⟩
  subst hlen0
  obtain ⟨a1, len1, cap1, rfl⟩ := okWide_slice Tryd.underlying24 (hval 1 24 v1 rfl rfl)
  have k1 := h1
  have lt1 : ∀ x ∈ p1, x.block < W.heap.size := by obtain ⟨m, hm⟩ := k1; exact DataW.trod_lt m _ _ _ hm
  obtain ⟨l1, hlen1, hr1, hc1⟩ : ∃ l, len1 = l.length ∧ (Kd.int .i64).C W a1 l.length l ∧ l.length ≤ cap1 := by
    obtain ⟨fuel, hf⟩ := h1
    obtain ⟨a, l, cap, hcs, hr, hc⟩ := Go.Proofs.YtokikapljmakbaaDoor.H.ints_of_trod hf
    simp only [Value.cells, List.cons.injEq, Value.slice.injEq, and_true] at hcs
    obtain ⟨rfl, rfl, rfl⟩ := hcs
    exact ⟨l, rfl, hr, hc⟩
  subst hlen1
  obtain ⟨a2, rfl, rfl, rfl, w2⟩ := open_int Tryd.underlying3 (hval 2 3 v2 rfl rfl) h2
  clear hA0 hval0 hsz0 hsz
  obtain ⟨k, h⟩ := Pure.FnExactLeastTime l0 l1 a2 (Go.Proofs.YtokikapljmakbaaDoor.H.tasks_bound hr0) hr1.2.1 w2
  refine (Q.laws_FnExactLeastTime.calls k _ _ l0 _ _ l1 a2 true W hT hr0 hc0 hr1 hc1  h).mono fun e W' ⟨he, bel⟩ => ?_
  subst he
  exact ⟨_, rfl, _, _, _, [], _, [], hW', trodAll_mk1 (shut_bool Tryd.underlying4 _), (trodAll_cons_mk (Below.trod Facts.laidOut_ (by kernel_rfl) (of_decide_eq_true (by kernel_rfl)) k0 bel lt0) (trodAll_cons_mk (Below.trod Facts.laidOut_ (by kernel_rfl) (of_decide_eq_true (by kernel_rfl)) k1 bel lt1) (trodAll_cons_mk (shut_int Tryd.underlying3 w2) trodAll_mk0))), rfl, bel.frame _, fun h => by cases h⟩
set_option maxHeartbeats 4000000 in
theorem facts : joinedFacts Tryd.prog 5 Tryd.f5 (OpenSpec.ofChange Rows.fnExactLeastTimeSpec).bare Rows.fnExactLeastTimeRow = true := by
  unfold joinedFacts
  repeat' (with_reducible refine Facts.tt ?_ ?_)
  all_goals first
    | (with_reducible exact Facts.laidOut_)
    | (with_reducible exact Facts.mapsRowed_)
    | (with_reducible exact Facts.stops_)
    | (with_reducible exact Facts.knobs_)
    | (with_reducible exact Facts.heard_)
    | (with_reducible exact Facts.enter_)
    | ((with_reducible refine Facts.lifts_of _ ?_); rfl)
    | ((with_reducible refine Facts.make_of _ ?_); rfl)
    | ((with_reducible refine Facts.plain_of _ ?_); rfl)
    | (as_aux_lemma => kernel_rfl)
theorem named : Tryd.prog.funcNamed Rows.fnExactLeastTimeRow.func = some 5 := by kernel_rfl
theorem inst : Tryd.f5.isInstance Tryd.prog Rows.fnExactLeastTimeRow.origin Rows.fnExactLeastTimeRow.targs := of_decide_eq_true (by kernel_rfl)
theorem wrap : Tryd.f5.isWrapper Tryd.prog Rows.fnExactLeastTimeRow.wrapper Rows.fnExactLeastTimeRow.mainSum := by unfold Func.isWrapper; first | (rw [if_pos (by decide +kernel)]; kernel_rfl) | (rw [if_neg (by decide +kernel)]; exact ⟨rfl, rfl⟩)
theorem said : Rows.FnExactLeastTimeSaid :=
  OpenClaim.holds_of_cond 5 Tryd.f5 rfl rfl rfl rfl rfl rfl rfl ⟨rfl, rfl, rfl, rfl, rfl⟩ rfl rfl rfl rfl rfl named Tryd.func5 facts inst wrap
    (fun os started H enc _ F => by rw [OpenClaim.pre_eq_preRow]; exact lifted os started H enc F)
theorem plain (f : FuncId) (fn : Func) (hf : Tryd.pinned.checked.prog.funcNamed "loop.example/buildscheduler/laws.FnExactLeastTime" = some f) (hfn : Tryd.pinned.checked.prog.funcs[f]? = some fn) :
    false = Tryd.pinned.checked.prog.looks [] ∧ ∀ (j : Nat) t, fn.params[j]? = some t → Tryd.pinned.checked.prog.wantsStandIn t = false := by
  obtain rfl : f = 5 := Option.some.inj (named.symm.trans hf) |>.symm
  obtain rfl : fn = Tryd.f5 := (Option.some.inj (Tryd.func5.symm.trans hfn)).symm
  refine ⟨by kernel_rfl, fun j t ht => ?_⟩
  rw [Tryd.params5] at ht
  have hm := Array.mem_of_getElem? ht
  simp only [List.mem_toArray, List.mem_cons, List.not_mem_nil, or_false] at hm
  rcases hm with rfl | hm; exact (show Tryd.prog.wantsStandIn 33 = false by kernel_rfl); rcases hm with rfl | hm; exact (show Tryd.prog.wantsStandIn 24 = false by kernel_rfl); obtain rfl := hm
  exact (show Tryd.prog.wantsStandIn 3 = false by kernel_rfl)
theorem card : Rows.FnExactLeastTimeCardSaid :=
  Claim7.holds_tied_plain_at .later [] _ _ _ _ said (fun _ h => by cases h) (by kernel_rfl) (fun _ h => by cases h) fnExactLeastTime_row_tie rfl ⟨rfl, rfl⟩ (by kernel_rfl) rfl plain (by kernel_rfl)
end Go.Proofs.YtokikapljmakbaaDoor.fnExactLeastTime
namespace Go.Proofs.YtokikapljmakbaaDoor
/-- The card, under a short name, for the claim. -/
theorem fnExactLeastTime_holds : Rows.FnExactLeastTimeCardSaid := fnExactLeastTime.card
end Go.Proofs.YtokikapljmakbaaDoor
