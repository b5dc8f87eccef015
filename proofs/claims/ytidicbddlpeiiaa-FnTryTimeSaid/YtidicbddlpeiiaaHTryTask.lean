/- The contract of impl.TryTask: the number of runs and whether the last one succeeds, 0 and false for arguments that are not valid; no condition on the arguments. -/
import Derived.Test.YtidicbddlpeiiaaQx7
import Derived.LoopTactic
import Derived.Lib.Hide
namespace Go.Proofs.Ytidicbddlpeiiaa.H
open Go.RowKit Go.Proofs.YtidicbddlpeiiaaW.PrintWords Go.Proofs.YtidicbddlpeiiaaW.PrintLast Go.Proofs.Ytidicbddlpeiiaa.Q
set_option linter.unusedSimpArgs false
set_option linter.unusedVariables false

def scan : List Bool → Nat → Int × Bool
  | [], n => ((n : Int), false)
  | b :: t, n => if b then ((n : Int) + 1, true) else scan t (n + 1)
def impl_TryTask.f (l0 : List Bool) (a1 : Int) : Option (Int × Bool) :=
  some (if 1 ≤ l0.length ∧ l0.length ≤ 6 ∧ 0 ≤ a1 ∧ a1 ≤ 5 then scan (l0.take (min l0.length (a1.toNat + 1))) 0 else (0, false))

theorem scan_end (l : List Bool) (k m : Nat) (h : m ≤ l.length) (hk : k = m) : scan ((l.take m).drop k) k = ((m : Int), false) := by
  subst hk
  rw [List.drop_eq_nil_of_le (by simp; omega)]
  rfl
theorem scan_step (l : List Bool) (k m : Nat) (h : m ≤ l.length) (hk : k < m) : scan ((l.take m).drop k) k = if l.getD k false then ((k : Int) + 1, true) else scan ((l.take m).drop (k + 1)) (k + 1) := by
  rw [List.drop_eq_getElem_cons (show k < (l.take m).length by simp; omega)]
  have e : (l.take m)[k]'(by simp; omega) = l.getD k false := by
    rw [List.getElem_take, List.getD_eq_getElem?_getD, List.getElem?_eq_getElem (by omega)]
    rfl
  rw [e]
  rfl
theorem ret_ib {a b : Int} {x y : Bool} (h : (a, x) = (b, y)) : Ending.returned (.tuple #[.int .i64 a, .bool x]) = .returned (.tuple #[.int .i64 b, .bool y]) := by
  cases h
  rfl
theorem cells_bool {w : World} {A0 : Option Addr} {l0 : List Bool} (h : Kd.C Kd.bool w A0 l0.length l0) (h1 : 1 ≤ l0.length) : ∃ ad, A0 = some ad ∧ ∀ j : Nat, j < l0.length → w.cell? (ad.add j) = some (.bool (l0.getD j false)) := by
  obtain ⟨ad, e, _⟩ := Kd.at_bool h 0 (by omega) (by omega)
  refine ⟨ad, e, fun j hj => ?_⟩
  obtain ⟨ad', e', hc⟩ := Kd.at_bool h j (by omega) (by omega)
  rw [e] at e'
  cases e'
  simpa [rdOf] using hc

set_option maxHeartbeats 4000000 in
set_option maxRecDepth 100000 in
theorem TryTask_no (A0 : Option Addr) (c0 : Nat) (l0 : List Bool) (a1 : Int) (w : World) (hr0 : Kd.C Kd.bool w A0 l0.length l0) (hc0 : l0.length ≤ c0) (hv : impl_triesValid.f l0 a1 = some false) :
    Calls Try.prog 26 #[.slice A0 l0.length c0, .int .i64 a1] w fun e w' => e = .returned (.tuple #[.int .i64 0, .bool false]) ∧ Below w.heap.size w w' := by
  have HR0 := Aside0.mk hr0
  have HC0 := Aside0.mk hc0
  have HV := Aside0.mk hv
  clear hr0 hc0 hv
  go_enter Try.func26, Try.ntmps26
  go_wp2_with (go_at_call 44; refine (impl_triesValid.calls A0 c0 l0 a1 false _ HR0.out HC0.out HV.out).mono ?_; rintro e w' ⟨rfl, ⟨nd, rfl⟩⟩)
  go_ret2
  exact ⟨rfl, pw_below_drewN (Below.refl _ _) _⟩

set_option maxHeartbeats 4000000 in
set_option maxRecDepth 100000 in
theorem TryTask_few (ad : Addr) (c0 : Nat) (l0 : List Bool) (t : Nat) (w : World) (hr0 : Kd.C Kd.bool w (some ad) l0.length l0) (hc0 : l0.length ≤ c0) (hv : impl_triesValid.f l0 t = some true)
    (hc : ∀ j : Nat, j < l0.length → w.cell? (ad.add j) = some (.bool (l0.getD j false))) (ht : t + 1 < l0.length) (h6 : l0.length ≤ 6) (r1 : Int) (r2 : Bool) (hs : scan ((l0.take (t + 1)).drop 0) 0 = (r1, r2)) :
    Calls Try.prog 26 #[.slice (some ad) l0.length c0, .int .i64 t] w fun e w' => e = .returned (.tuple #[.int .i64 r1, .bool r2]) ∧ Below w.heap.size w w' := by
  have HR0 := Aside0.mk hr0
  have HC0 := Aside0.mk hc0
  have HV := Aside0.mk hv
  have HS := Aside0.mk hs
  have HCC := Aside0.mk hc
  clear hr0 hc0 hv hs hc
  have hc1 := HC0.out
  go_enter Try.func26, Try.ntmps26
  go_wp2_with (go_at_call 44; refine (impl_triesValid.calls (some ad) c0 l0 t true _ HR0.out HC0.out HV.out).mono ?_; rintro e w' ⟨rfl, ⟨nd, rfl⟩⟩)
  go_loop [7, 8, 22] (fun _ _ i => ∃ k : Nat, k ≤ t + 1 ∧ i = .int .i64 k ∧ Aside0 (scan ((l0.take (t + 1)).drop k) k = (r1, r2))) (fun _ _ i => t + 1 - (intOf i).toNat)
  case atStart => exact ⟨0, Nat.zero_le _, rfl, HS⟩
  case round =>
    obtain ⟨k, hk, rfl, HA⟩ := hrel
    by_cases hlt : k < t + 1
    · have HA2 := Aside0.mk ((scan_step l0 k (t + 1) (by omega) hlt).symm.trans HA.out)
      have hcell := HCC.out k (by omega)
      cases hb : l0.getD k false with
      | true =>
        rw [hb] at HA2 hcell
        have HB := Aside0.mk hb
        clear hb HA
        go_wp2
        go_ret2
        exact ⟨ret_ib HA2.out, pw_below_drewN (Below.refl _ _) _⟩
      | false =>
        rw [hb] at HA2 hcell
        have HB := Aside0.mk hb
        clear hb HA
        go_wp2
        go_round
        case rel => exact ⟨k + 1, by omega, by go_num, ⟨HA2.out⟩⟩
        case measure => simp [intOf]; omega
    · obtain rfl : k = t + 1 := by omega
      go_wp2
      go_ret2
      exact ⟨ret_ib ((scan_end l0 _ (t + 1) (by omega) rfl).symm.trans HA.out), pw_below_drewN (Below.refl _ _) _⟩
set_option maxHeartbeats 4000000 in
set_option maxRecDepth 100000 in
theorem TryTask_all (ad : Addr) (c0 : Nat) (l0 : List Bool) (t : Nat) (w : World) (hr0 : Kd.C Kd.bool w (some ad) l0.length l0) (hc0 : l0.length ≤ c0) (hv : impl_triesValid.f l0 t = some true)
    (hc : ∀ j : Nat, j < l0.length → w.cell? (ad.add j) = some (.bool (l0.getD j false))) (ht : l0.length ≤ t + 1) (h0 : 1 ≤ l0.length) (h5 : t ≤ 5) (h6 : l0.length ≤ 6) (r1 : Int) (r2 : Bool) (hs : scan ((l0.take l0.length).drop 0) 0 = (r1, r2)) :
    Calls Try.prog 26 #[.slice (some ad) l0.length c0, .int .i64 t] w fun e w' => e = .returned (.tuple #[.int .i64 r1, .bool r2]) ∧ Below w.heap.size w w' := by
  have HR0 := Aside0.mk hr0
  have HC0 := Aside0.mk hc0
  have HV := Aside0.mk hv
  have HS := Aside0.mk hs
  have HCC := Aside0.mk hc
  clear hr0 hc0 hv hs hc
  have hc1 := HC0.out
  go_enter Try.func26, Try.ntmps26
  go_wp2_with (go_at_call 44; refine (impl_triesValid.calls (some ad) c0 l0 t true _ HR0.out HC0.out HV.out).mono ?_; rintro e w' ⟨rfl, ⟨nd, rfl⟩⟩)
  go_loop [7, 8, 22] (fun _ _ i => ∃ k : Nat, k ≤ l0.length ∧ i = .int .i64 k ∧ Aside0 (scan ((l0.take l0.length).drop k) k = (r1, r2))) (fun _ _ i => l0.length - (intOf i).toNat)
  case atStart => exact ⟨0, Nat.zero_le _, rfl, HS⟩
  case round =>
    obtain ⟨k, hk, rfl, HA⟩ := hrel
    by_cases hlt : k < l0.length
    · have HA2 := Aside0.mk ((scan_step l0 k l0.length (by omega) hlt).symm.trans HA.out)
      have hcell := HCC.out k (by omega)
      cases hb : l0.getD k false with
      | true =>
        rw [hb] at HA2 hcell
        have HB := Aside0.mk hb
        clear hb HA
        go_wp2
        go_ret2
        exact ⟨ret_ib HA2.out, pw_below_drewN (Below.refl _ _) _⟩
      | false =>
        rw [hb] at HA2 hcell
        have HB := Aside0.mk hb
        clear hb HA
        go_wp2
        go_round
        case rel => exact ⟨k + 1, by omega, by go_num, ⟨HA2.out⟩⟩
        case measure => simp [intOf]; omega
    · obtain rfl : k = l0.length := by omega
      go_wp2
      go_ret2
      exact ⟨ret_ib ((scan_end l0 _ l0.length (by omega) rfl).symm.trans HA.out), pw_below_drewN (Below.refl _ _) _⟩

theorem triesValid_is (l0 : List Bool) (a1 : Int) : impl_triesValid.f l0 a1 = some (decide (1 ≤ l0.length ∧ l0.length ≤ 6 ∧ 0 ≤ a1 ∧ a1 ≤ 5)) := by
  unfold impl_triesValid.f impl_within.f
  by_cases h1 : (l0.length : Int) ≥ 1
  · rw [if_pos h1]
    by_cases h2 : (l0.length : Int) ≤ 6
    · simp only [Option.bind_some, decide_eq_true h2, if_true]
      by_cases h3 : a1 ≥ 0
      · rw [if_pos h3]
        simp only [Option.bind_some]
        congr 1
        rw [decide_eq_decide]
        omega
      · rw [if_neg h3]
        simp only [Option.bind_some]
        congr 1
        symm
        rw [decide_eq_false_iff_not]
        omega
    · simp only [Option.bind_some, decide_eq_false h2]
      rw [if_neg (by simp)]
      congr 1
      symm
      rw [decide_eq_false_iff_not]
      omega
  · rw [if_neg h1]
    simp only [Option.bind_some]
    rw [if_neg (by simp)]
    congr 1
    symm
    rw [decide_eq_false_iff_not]
    omega
theorem impl_TryTask.calls (A0 : Option Addr) (c0 : Nat) (l0 : List Bool) (a1 : Int) (r1 : Int) (r2 : Bool) (w : World) (hr0 : Kd.C Kd.bool w A0 l0.length l0) (hc0 : l0.length ≤ c0) (h : impl_TryTask.f l0 a1 = some (r1, r2)) :
    Calls Try.prog 26 #[.slice A0 l0.length c0, .int .i64 a1] w fun e w' => e = .returned (.tuple #[.int .i64 r1, .bool r2]) ∧ Below w.heap.size w w' := by
  have hv := triesValid_is l0 a1
  unfold impl_TryTask.f at h
  have h := Option.some.inj h
  by_cases hc : 1 ≤ l0.length ∧ l0.length ≤ 6 ∧ 0 ≤ a1 ∧ a1 ≤ 5
  · rw [if_pos hc] at h
    rw [decide_eq_true hc] at hv
    obtain ⟨h1, h6, h0, h5⟩ := hc
    obtain ⟨ad, rfl, hcell⟩ := cells_bool hr0 h1
    obtain ⟨t, rfl⟩ := Int.eq_ofNat_of_zero_le h0
    rw [Int.toNat_natCast] at h
    by_cases ht : t + 1 < l0.length
    · rw [Nat.min_eq_right (by omega)] at h
      exact TryTask_few ad c0 l0 t w hr0 hc0 hv hcell ht h6 r1 r2 h
    · rw [Nat.min_eq_left (by omega)] at h
      exact TryTask_all ad c0 l0 t w hr0 hc0 hv hcell (by omega) h1 (by omega) h6 r1 r2 h
  · rw [if_neg hc] at h
    rw [decide_eq_false hc] at hv
    cases h
    exact TryTask_no A0 c0 l0 a1 w hr0 hc0 hv
end Go.Proofs.Ytidicbddlpeiiaa.H
