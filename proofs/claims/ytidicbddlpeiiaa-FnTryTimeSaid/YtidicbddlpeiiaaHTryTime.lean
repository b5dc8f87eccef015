/- The contract of impl.TryTime: -1 for arguments that are not valid, else the time of the runs and the delays before the further ones; no condition on the arguments. -/
import Derived.Test.YtidicbddlpeiiaaHDelay
import Derived.Test.YtidicbddlpeiiaaHTryTask
namespace Go.Proofs.Ytidicbddlpeiiaa.H
open Go.RowKit Go.Shelf Go.Proofs.YtidicbddlpeiiaaW.PrintWords Go.Proofs.YtidicbddlpeiiaaW.PrintLast Go.Proofs.Ytidicbddlpeiiaa.Q
attribute [local go_sem] Oper.semAt_some
set_option linter.unusedSimpArgs false

def addAll (s : Int) (l : List (Int × Int)) : Int := l.foldl (fun s p => wrap64 (s + p.2)) s
theorem addAll_snoc (s : Int) (l : List (Int × Int)) (x : Int × Int) : addAll s (l ++ [x]) = wrap64 (addAll s l + x.2) := by simp [addAll]
def runTime (runs time : Int) : Int := addAll (wrap64 (runs * time)) (pairs.takeWhile fun p => decide (p.1 < runs))
def AllLt (r : Int) (l : List (Int × Int)) : Prop := ∀ p ∈ l, p.1 < r
theorem AllLt.snoc {r : Int} {l : List (Int × Int)} {x : Int × Int} (h : AllLt r l) (hx : x.1 < r) : AllLt r (l ++ [x]) := by
  intro p hp
  rcases List.mem_append.1 hp with hp | hp
  · exact h p hp
  · rw [List.mem_singleton.1 hp]
    exact hx
def Broke (r S : Int) (B : Nat) (pre : List (Int × Int)) (W : World) : Prop := ∃ q x, pre = q ++ [x] ∧ AllLt r q ∧ (¬ x.1 < r) ∧ W.cell? ⟨B, 0, none⟩ = some (.int .i64 (addAll S q))
theorem take_all {runs : Int} {l : List (Int × Int)} (h : ∀ p ∈ l, p.1 < runs) : l.takeWhile (fun p => decide (p.1 < runs)) = l := by
  have := List.takeWhile_append_of_pos (p := fun p : Int × Int => decide (p.1 < runs)) (l₁ := l) (l₂ := []) (by intro p hp; simpa using h p hp)
  simpa using this
theorem take_break {runs : Int} {q : List (Int × Int)} {x : Int × Int} (hp : q ++ [x] <+: pairs) (h : ∀ p ∈ q, p.1 < runs) (hx : ¬ x.1 < runs) : pairs.takeWhile (fun p => decide (p.1 < runs)) = q := by
  obtain ⟨t, ht⟩ := hp
  rw [← ht, List.append_assoc, List.takeWhile_append_of_pos (by intro p hp; simpa using h p hp)]
  simp [hx]

set_option maxRecDepth 100000 in
set_option maxHeartbeats 4000000 in
theorem TryTime_yes (A0 : Option Addr) (c0 : Nat) (l0 : List Bool) (a1 a2 : Int) (r1 : Int) (r2 : Bool) (w : World) (hr0 : Kd.C Kd.bool w A0 l0.length l0) (hc0 : l0.length ≤ c0)
    (hv : impl_triesValid.f l0 a1 = some true) (ht : impl_within.f a2 1 20 = some true) (h : impl_TryTask.f l0 a1 = some (r1, r2)) :
    Calls Try.prog 35 #[.slice A0 l0.length c0, .int .i64 a1, .int .i64 a2] w fun e w' => e = .returned (.int .i64 (runTime r1 a2)) ∧ Below w.heap.size w w' := by
  have HR0 := Aside0.mk hr0
  have HC0 := Aside0.mk hc0
  have HV := Aside0.mk hv
  have HT := Aside0.mk ht
  have HH := Aside0.mk h
  clear hr0 hc0 hv ht h
  refine (callsIn_wide (n := 9)).1 ?_
  have h1 : 1 ≤ 9 := by omega
  have hro : Fence.wide.round = none := rfl
  refine callsIn_of_wp_marks Try.func35 rfl trivial ?_ hro
  simp only [Try.ntmps35, List.size_toArray, List.length_cons, List.length_nil, Nat.reduceAdd, Nat.reduceSub, Array.replicate_succ, Array.replicate_zero, List.push_toArray, List.append_toArray, List.nil_append, List.cons_append]
  gi_wp2_with (first
    | (refine ⟨trivial, ?_⟩; gi_at_call 44; refine (callsIn_wide.2 (impl_triesValid.calls A0 c0 l0 a1 true _ HR0.out HC0.out HV.out)).mono ?_; rintro e w' ⟨rfl, ⟨nd, rfl⟩⟩)
    | (refine ⟨trivial, ?_⟩; gi_at_call 41; refine (callsIn_wide.2 (impl_within.calls a2 1 20 true _ HT.out)).mono ?_; rintro e w' ⟨rfl, ⟨nd2, rfl⟩⟩)
    | (refine ⟨trivial, ?_⟩; gi_at_call 26; refine (callsIn_wide.2 (impl_TryTask.calls A0 c0 l0 a1 r1 r2 _ ?side HC0.out HH.out)).mono ?_; (case side => repeat (first | exact HR0.out | (with_reducible refine Kd.C_drewN ?_ _))); rintro e w1 ⟨rfl, hB1⟩; have HB1 := Aside0.mk hB1; clear hB1)
    | (refine ⟨trivial, ?_⟩; gi_at_call 39; refine (delays_any _ _ trivial rfl _).mono ?_; rintro e w' ⟨rfl, rfl⟩))
  have hb1 : Below w.heap.size w w1 := by
    have h2 := HB1.out
    have h3 : Below w.heap.size w (w.drewN (nd + nd2)) := pw_below_drewN (Below.refl _ _) _
    exact h3.trans (by simpa using h2)
  clear HB1
  have hle : w.heap.size ≤ w1.heap.size := hb1.size
  obtain ⟨S, hS⟩ : ∃ S, wrap64 (r1 * a2) = S := ⟨_, rfl⟩
  rw [hS]
  have HS := Aside0.mk hS
  clear hS
  have c0' := cell_new_l w1 (.int .i64 r1) 3
  have c1 := cell_new_l (w1.alloc (.cells #[.int .i64 r1] 3)) (.int .i64 S) 3
  simp only [World.size_alloc] at c1
  have hB0 : Below w.heap.size w ((w1.alloc (.cells #[.int .i64 r1] 3)).alloc (.cells #[.int .i64 S] 3)) := (hb1.alloc hle _).alloc (by simp; omega) _
  refine wpIn_rangeFunc_ownF hro h1 (gf := 50) (lb := #[]) rfl trivial (enters_of Try.func50 (by kernel_rfl) rfl)
    (delays_stops Fence.wide 8 trivial hro (by omega) _) (fun _ _ => trivial) (fun _ _ _ _ _ _ _ _ => trivial) (Below.refl _ _) (fun _ => by rfl)
    (fun pre W => (AllLt r1 pre ∧ W.cell? ⟨w1.heap.size, 0, none⟩ = some (.int .i64 r1) ∧ W.cell? ⟨w1.heap.size + 1, 0, none⟩ = some (.int .i64 (addAll S pre)) ∧ W.frozen? ⟨w1.heap.size + 1, 0, none⟩ = false) ∧ Below w.heap.size w W)
    (fun c pre W => (c = .exit 0 ∧ Broke r1 S (w1.heap.size + 1) pre W) ∧ Below w.heap.size w W)
    (OwnFrom.and (Own.from (fun s A B row hs hg hr => ⟨hs.1, cell_kept hs.2.1 hg hr, cell_kept hs.2.2.1 hg hr, (frozen_kept hs.2.2.1 hg hr).trans hs.2.2.2⟩) _) (ownFrom_below (Nat.le_refl _) (by simp; omega)))
    (fun c => OwnFrom.and (Own.from (fun s A B row hs hg hr => by obtain ⟨hc, ⟨q, x, e1, e2, e3, hcell⟩⟩ := hs; exact ⟨hc, q, x, e1, e2, e3, cell_kept hcell hg hr⟩) _) (ownFrom_below (Nat.le_refl _) (by simp; omega)))
    ⟨⟨fun p hp => by simp at hp, cell_alloc_l _ c0'.1, c1.1, c1.2⟩, hB0⟩
    (fun x => { tmps := #[Value.slice A0 l0.length c0, Value.int IntKind.i64 a1, Value.int IntKind.i64 a2, undef, undef, undef,
          Value.int IntKind.i64 0, Value.pointer (some { block := w1.heap.size, off := 0 }), Value.bool r2,
          Value.pointer (some { block := w1.heap.size + 1, off := 0 }), .int .i64 x.1, .int .i64 x.2, Value.slice A0 l0.length c0,
          Value.int IntKind.i64 a1, Value.bool true, Value.bool false, Value.bool false, Value.int IntKind.i64 a2,
          Value.bool true, Value.bool false, Value.bool false, Value.tuple #[Value.int IntKind.i64 r1, Value.bool r2],
          Value.slice A0 l0.length c0, Value.int IntKind.i64 a1, Value.tuple #[Value.int IntKind.i64 r1, Value.bool r2],
          Value.int IntKind.i64 r1, Value.bool r2, Value.int IntKind.i64 r1, Value.int IntKind.i64 a2,
          Value.int IntKind.i64 S, Value.func (Fn.func 50) #[] #[], .int .i64 x.1, .int .i64 x.2, undef, undef, undef,
          undef, undef, undef, undef], defers := [] }) ?assign ?body ?done ?stop
  case assign =>
    intro l x W K hK
    gi_wp2
    exact hK
  case body =>
    rintro l pre x W ⟨⟨hb, hcl, hcr, hfr⟩, hB⟩ _
    by_cases hx : x.1 < r1
    · have hxb : decide (r1 ≤ x.1) = false := by simpa using hx
      have H := Lib.hid hx
      clear hx
      gi_wp2
      exact ⟨KeepsOthers.setCell _ _ _, trivial, ⟨hb.snoc H.out, (World.cell?_setCell_other _ _ _ _ (by simp)).trans hcl, by rw [addAll_snoc]; exact World.cell?_setCell_same' _ _ _ (by rw [hcr]; rfl), by rw [World.frozen?_setCell]; exact hfr⟩, hB.setCell (p := ⟨w1.heap.size + 1, 0, none⟩) (by simp; omega) _⟩
    · have hxb : decide (r1 ≤ x.1) = true := by simpa using hx
      have H := Lib.hid hx
      clear hx
      gi_wp2
      exact ⟨KeepsOthers.refl _, ⟨rfl, pre, x, rfl, hb, by have := H.out; omega, hcr⟩, hB⟩
  case done =>
    rintro D xs W hD rfl ⟨⟨hb, _, hcr, hfr⟩, hB⟩ hK
    gi_wp2
    refine ⟨by simp, .inl ⟨_, _, rfl, run_takeDeferred hK, ?_⟩⟩
    exact ⟨_, results_tmp rfl _ _ _, by unfold runTime; rw [HS.out, take_all hb]; rfl, hB.trans (belowK_b (w := w) (Nat.le_refl _) W D _ _ (by simp at hD; omega) hK rfl rfl)⟩
  case stop =>
    rintro D c pre W hD hpre ⟨⟨rfl, ⟨q, x, rfl, hq, hx, hcr⟩⟩, hB⟩ hK
    have HQ := Aside0.mk (take_break hpre hq hx)
    clear hq hx hpre
    gi_wp2
    refine ⟨by simp, .inl ⟨_, _, rfl, run_takeDeferred hK, ?_⟩⟩
    exact ⟨_, results_tmp rfl _ _ _, by unfold runTime; rw [HS.out, HQ.out]; rfl, hB.trans (belowK_b (w := w) (Nat.le_refl _) W D _ _ (by simp at hD; omega) hK rfl rfl)⟩

set_option maxHeartbeats 4000000 in
set_option maxRecDepth 100000 in
theorem TryTime_no (A0 : Option Addr) (c0 : Nat) (l0 : List Bool) (a1 a2 : Int) (w : World) (hr0 : Kd.C Kd.bool w A0 l0.length l0) (hc0 : l0.length ≤ c0) (hv : impl_triesValid.f l0 a1 = some false) :
    Calls Try.prog 35 #[.slice A0 l0.length c0, .int .i64 a1, .int .i64 a2] w fun e w' => e = .returned (.int .i64 (-1)) ∧ Below w.heap.size w w' := by
  have HR0 := Aside0.mk hr0
  have HC0 := Aside0.mk hc0
  have HV := Aside0.mk hv
  clear hr0 hc0 hv
  go_enter Try.func35, Try.ntmps35
  go_wp2_with (go_at_call 44; refine (impl_triesValid.calls A0 c0 l0 a1 false _ HR0.out HC0.out HV.out).mono ?_; rintro e w' ⟨rfl, ⟨nd, rfl⟩⟩)
  go_ret
  exact ⟨rfl, pw_below_drewN (Below.refl _ _) _⟩
set_option maxHeartbeats 4000000 in
set_option maxRecDepth 100000 in
theorem TryTime_not (A0 : Option Addr) (c0 : Nat) (l0 : List Bool) (a1 a2 : Int) (w : World) (hr0 : Kd.C Kd.bool w A0 l0.length l0) (hc0 : l0.length ≤ c0) (hv : impl_triesValid.f l0 a1 = some true) (ht : impl_within.f a2 1 20 = some false) :
    Calls Try.prog 35 #[.slice A0 l0.length c0, .int .i64 a1, .int .i64 a2] w fun e w' => e = .returned (.int .i64 (-1)) ∧ Below w.heap.size w w' := by
  have HR0 := Aside0.mk hr0
  have HC0 := Aside0.mk hc0
  have HV := Aside0.mk hv
  have HT := Aside0.mk ht
  clear hr0 hc0 hv ht
  go_enter Try.func35, Try.ntmps35
  go_wp2_with (first
    | (go_at_call 44; refine (impl_triesValid.calls A0 c0 l0 a1 true _ HR0.out HC0.out HV.out).mono ?_; rintro e w' ⟨rfl, ⟨nd, rfl⟩⟩)
    | (go_at_call 41; refine (impl_within.calls a2 1 20 false _ HT.out).mono ?_; rintro e w' ⟨rfl, ⟨nd2, rfl⟩⟩))
  go_ret
  exact ⟨rfl, by repeat (first | exact Below.refl _ _ | refine pw_below_drewN ?_ _)⟩

theorem within_is (a b c : Int) : impl_within.f a b c = some (decide (b ≤ a ∧ a ≤ c)) := by
  unfold impl_within.f
  by_cases h : a ≥ b
  · rw [if_pos h]
    congr 1
    rw [decide_eq_decide]
    omega
  · rw [if_neg h]
    congr 1
    symm
    rw [decide_eq_false_iff_not]
    omega
def impl_TryTime.f (l0 : List Bool) (a1 a2 : Int) : Option Int :=
  some (if (1 ≤ l0.length ∧ l0.length ≤ 6 ∧ 0 ≤ a1 ∧ a1 ≤ 5) ∧ 1 ≤ a2 ∧ a2 ≤ 20 then runTime (scan (l0.take (min l0.length (a1.toNat + 1))) 0).1 a2 else -1)
theorem impl_TryTime.calls (A0 : Option Addr) (c0 : Nat) (l0 : List Bool) (a1 a2 : Int) (r : Int) (w : World) (hr0 : Kd.C Kd.bool w A0 l0.length l0) (hc0 : l0.length ≤ c0) (h : impl_TryTime.f l0 a1 a2 = some r) :
    Calls Try.prog 35 #[.slice A0 l0.length c0, .int .i64 a1, .int .i64 a2] w fun e w' => e = .returned (.int .i64 r) ∧ Below w.heap.size w w' := by
  have hv := triesValid_is l0 a1
  have ht := within_is a2 1 20
  unfold impl_TryTime.f at h
  have h := Option.some.inj h
  by_cases hc : 1 ≤ l0.length ∧ l0.length ≤ 6 ∧ 0 ≤ a1 ∧ a1 ≤ 5
  · rw [decide_eq_true hc] at hv
    by_cases hd : 1 ≤ a2 ∧ a2 ≤ 20
    · rw [decide_eq_true hd] at ht
      rw [if_pos ⟨hc, hd⟩] at h
      subst h
      exact TryTime_yes A0 c0 l0 a1 a2 _ (scan (l0.take (min l0.length (a1.toNat + 1))) 0).2 w hr0 hc0 hv ht (by unfold impl_TryTask.f; rw [if_pos hc])
    · rw [decide_eq_false hd] at ht
      rw [if_neg (fun x => hd x.2)] at h
      subst h
      exact TryTime_not A0 c0 l0 a1 a2 w hr0 hc0 hv ht
  · rw [decide_eq_false hc] at hv
    rw [if_neg (fun x => hc x.1)] at h
    subst h
    exact TryTime_no A0 c0 l0 a1 a2 w hr0 hc0 hv
end Go.Proofs.Ytidicbddlpeiiaa.H
