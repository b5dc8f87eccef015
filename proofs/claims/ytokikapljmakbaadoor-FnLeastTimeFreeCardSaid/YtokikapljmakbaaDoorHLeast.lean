/- The contract of impl.LeastTime: it answers for all graphs whose rows of needs a machine can hold, and all rooms. -/
import Derived.Test.YtokikapljmakbaaDoorHTop1
import Derived.Test.YtokikapljmakbaaDoorPurePoolV
import Derived.Test.YtokikapljmakbaaDoorQx8
import Derived.Test.YtokikapljmakbaaDoorQx9
import Derived.Test.YtokikapljmakbaaDoorQx1
namespace Go.Proofs.YtokikapljmakbaaDoor.H
open Go.RowKit Go.Shelf Go.Proofs.YtokikapljmakbaaDoorW.PrintWords Go.Proofs.YtokikapljmakbaaDoorW.PrintLast Go.Proofs.YtokikapljmakbaaDoorW.PrintMore Go.Proofs.YtokikapljmakbaaDoor.Q
attribute [local go_sem] Oper.semAt_some max_two max2_mx
set_option linter.unusedSimpArgs false
set_option linter.unusedVariables false

def addT (g : List S29) (s : Int) (i : Nat) : Int := wrap64 (s + tmOf g i)
def totalOf (g : List S29) (l : List Nat) : Int := l.foldl (addT g) 0
set_option maxRecDepth 100000 in
set_option maxHeartbeats 4000000 in
theorem total_any {w : World} {X : Nat} {A0 : Option Addr} {c0 : Nat} {AN : Option Addr} {cN : Nat} {AL : Option Addr} {cL : Nat} {vB vA : Value} {g : List S29} {od : List Nat} (h : GraphHere w X A0 c0 AN cN AL cL vB vA g od) (hT : Tab w) (hf : fine g = true) (s : Nat) (hs : s < 2 ^ g.length) :
    Calls Tryd.prog 42 #[.pointer (some ⟨X, 0, none⟩), .int .u16 (s : Int)] w fun e w' => e = .returned (.int .i64 (totalOf g (elems s))) ∧ Below w.heap.size w w' := by
  have h8 := fine_len hf
  have h28 := two_le h8
  have HH := Aside0.mk (fun (W : World) (hb : Below w.heap.size w W) => GraphHere.below h hb)
  have HT := Aside0.mk hT
  have hXlt : X < w.heap.size := (Array.getElem?_eq_some_iff.1 h.blk).1
  clear h hT
  refine (callsIn_wide (n := 10)).1 ?_
  refine callsIn_of_wp_marks Tryd.func42 rfl trivial ?_ rfl
  simp only [Tryd.ntmps42, List.size_toArray, List.length_cons, List.length_nil, Nat.reduceAdd, Nat.reduceSub, Array.replicate_succ, Array.replicate_zero, List.push_toArray, List.append_toArray, List.nil_append, List.cons_append]
  gi_wp2_with (first | (refine ⟨trivial, ?_⟩; gi_at_call 63; refine (callsIn_wide.2 ((callsIn_wide (n := 3)).1 (all_any Fence.wide 3 trivial rfl _ _))).mono ?_; rintro e w' ⟨rfl, rfl⟩))
  rename_i Q2 K2 hK2
  have HK2 := Aside0.mk hK2
  clear hK2
  have hs256 : s < 256 := Nat.lt_of_lt_of_le hs h28
  obtain ⟨W0, hW0⟩ : ∃ W0, ((w.alloc (.cells #[.pointer (some ⟨X, 0, none⟩)] 49)).alloc (.cells #[.int .i64 0] 3)).alloc (.cells #[.int .u16 (s : Int)] 57) = W0 := ⟨_, rfl⟩
  have bW0 : Below w.heap.size w W0 := by rw [← hW0]; exact (((below_alloc (Below.refl _ _) _).alloc (by simp) _).alloc (by simp; omega) _)
  have hp1 : W0.heap[w.heap.size]? = some (.cells #[.pointer (some ⟨X, 0, none⟩)] 49 (0, 0)) := by rw [← hW0]; exact (Below.heap_alloc _ _ _ (by simp; omega)).trans ((Below.heap_alloc _ _ _ (by simp)).trans (World.alloc_heap_new w _))
  have hp2 : W0.heap[w.heap.size + 1]? = some (.cells #[.int .i64 0] 3 (0, 0)) := by
    rw [← hW0]
    have := World.alloc_heap_new (w.alloc (.cells #[.pointer (some ⟨X, 0, none⟩)] 49)) (.cells #[.int .i64 0] 3)
    rw [World.size_alloc] at this
    exact (Below.heap_alloc _ _ _ (by simp)).trans this
  have hp3 : W0.heap[w.heap.size + 1 + 1]? = some (.cells #[.int .u16 (s : Int)] 57 (0, 0)) := by
    rw [← hW0]
    have := World.alloc_heap_new ((w.alloc (.cells #[.pointer (some ⟨X, 0, none⟩)] 49)).alloc (.cells #[.int .i64 0] 3)) (.cells #[.int .u16 (s : Int)] 57)
    rw [World.size_alloc, World.size_alloc] at this
    exact this
  have hsB : W0.cell? ⟨w.heap.size + 1 + 1, 0, none⟩ = some (.int .u16 (s : Int)) := cell_of hp3 rfl
  have hst : St1 w [(w.heap.size, .cells #[.pointer (some ⟨X, 0, none⟩)] 49 (0, 0))] (w.heap.size + 1) [0] W0 := ⟨fun p hp => by
    rw [List.mem_singleton] at hp
    subst hp
    exact hp1, hp2, bW0⟩
  have hap : Apart1 w [(w.heap.size, .cells #[.pointer (some ⟨X, 0, none⟩)] 49 (0, 0))] (w.heap.size + 1) := ⟨by omega, fun p hp => by
    rw [List.mem_singleton] at hp
    subst hp
    show w.heap.size ≠ w.heap.size + 1
    omega⟩
  have hTW := HT.out.below bW0
  rw [hW0]
  clear hW0 hp1 hp2 hp3
  obtain ⟨B1, hB1⟩ : ∃ B1, w.heap.size = B1 := ⟨_, rfl⟩
  obtain ⟨Bo, hBo⟩ : ∃ Bo, w.heap.size + 1 = Bo := ⟨_, rfl⟩
  obtain ⟨Bs, hBs⟩ : ∃ Bs, w.heap.size + 1 + 1 = Bs := ⟨_, rfl⟩
  have hsz : W0.heap.size ≥ w.heap.size := bW0.size
  rw [hBs] at hsB
  rw [hBo, hB1] at hst hap
  have hgoal : w.heap.size + 1 + 1 = Bs ∧ w.heap.size + 1 = Bo ∧ w.heap.size = B1 := ⟨hBs, hBo, hB1⟩
  rw [hBs, hBo, hB1]
  clear hgoal bW0 hBs hBo
  refine over_set 10 (s := s) hs256 (Bs := Bs) (n₀ := w.heap.size) rfl (by simp) hsB hTW hst.below.size HT.out.out.1
    (fun pre W => St1 w [(B1, .cells #[.pointer (some ⟨X, 0, none⟩)] 49 (0, 0))] Bo [pre.foldl (addT g) 0] W)
    (st1_own w _ Bo (fun (pre : List Nat) => [pre.foldl (addT g) 0]) _ hst.below.size (fun p hp => .inr (hst.fix.lt hp))) hst ?body1 ?done1
  case body1 =>
    intro l pre k W hI hk hpre
    have hkn : k < g.length := elem_lt hs hk
    obtain ⟨sm, hsm⟩ : ∃ sm, pre.foldl (addT g) 0 = sm := ⟨_, rfl⟩
    rw [hsm] at hI
    have hgw := HH.out W.drew hI.below.drew
    obtain ⟨ad, rfl, hct⟩ := hgw.task k hkn
    have c0 := hgw.cells.1
    have c1 : W.drew.cell? ⟨B1, 0, none⟩ = some (.pointer (some ⟨X, 0, none⟩)) := cell_of hI.fix.head rfl
    have c2 : W.drew.cell? ⟨Bo, 0, none⟩ = some (.int .i64 sm) := hI.cell 0 (by simp)
    have f2 : W.drew.frozen? ⟨Bo, 0, none⟩ = false := hI.frozen 0
    have hk0 : (0 : Int) ≤ (k : Int) := by omega
    have hk1 : (k : Int) < (g.length : Int) := by omega
    have HI1 := Aside0.mk hI
    have HAP := Aside0.mk hap
    clear hI hst hap hTW hgw
    simp only [List.setIfInBounds_toArray, List.set_cons_succ, List.set_cons_zero]
    refine wpIn_block_calm ?_
    refine wpIn_round_still l 8 (calm_lets _) (by kernel_rfl) 10 (by kernel_rfl) (by kernel_rfl) ?_
    simp only [List.take_succ_cons, List.take_zero, List.drop_succ_cons, List.drop_zero]
    iterate 10 still_step
    refine wpStill_nil ?_
    go_wp2
    refine ⟨((KeepsOthers.setCell W _ _).trans (KeepsOthers.drew _)).from _, ((Below.refl _ W).setCell (p := ⟨Bo, 0, none⟩) HAP.out.ge _).drew, ?_⟩
    rw [List.foldl_append, hsm]
    exact (HI1.out.set HAP.out 0 _).drew
  case done1 =>
    intro D W4 hD hI4 hK4
    have c4 : W4.cell? ⟨Bo, 0, none⟩ = some (.int .i64 (totalOf g (elems s))) := hI4.cell 0 (by simp)
    have HI4 := Aside0.mk hI4
    have HK4 := Aside0.mk hK4
    clear hI4 hst hap hTW hK4
    gi_wp2
    refine HK2.out _ _ ?_
    gi_wp2
    refine ⟨by simp, .inl ⟨_, _, rfl, run_takeDeferred HK4.out, ?_⟩⟩
    exact ⟨_, results_tmp rfl _ _ _, rfl, HI4.out.below.trans (belowK_b (w := w) (Nat.le_refl _) W4 D _ _ (by omega) HK4.out rfl rfl)⟩

/-! ### placeIn -/
def roomOk (l : List Int) : Bool := decide (l.length = 3) && l.all fun x => decide (4 ≤ x ∧ x ≤ 8)
def placeOk (g : List S29) (room : List Int) (wk : Int) : Bool := valid g && roomOk room && decide (1 ≤ wk ∧ wk ≤ 4)
theorem implRoom_l0 (l : List Int) (hl : l.length = 3) : ∀ (d j : Nat), j + d = 3 → ∀ k, d + 1 ≤ k → impl_ValidRoom.l0 k l (l.length : Int) (j : Int) = some ((l.drop j).all fun x => decide (4 ≤ x ∧ x ≤ 8))
  | 0, j, hj, k, hk => by
    obtain ⟨k, rfl⟩ : ∃ q, k = q + 1 := ⟨k - 1, by omega⟩
    rw [impl_ValidRoom.l0, if_neg (by omega), List.drop_of_length_le (by omega)]
    rfl
  | d + 1, j, hj, k, hk => by
    obtain ⟨k, rfl⟩ : ∃ q, k = q + 1 := ⟨k - 1, by omega⟩
    have hjl : j < l.length := by omega
    rw [impl_ValidRoom.l0, if_pos (by omega), if_pos (by omega), if_pos (by omega), within_is, Option.bind_some, w64 ((j : Int) + 1) (by omega) (by omega), rd_get l j hjl, List.drop_eq_getElem_cons hjl, List.all_cons]
    have hN := implRoom_l0 l hl d (j + 1) (by omega) k (by omega)
    by_cases c : 4 ≤ l[j] ∧ l[j] ≤ 8
    · rw [decide_eq_true c, if_pos rfl, Bool.true_and]
      exact hN
    · rw [decide_eq_false c, if_neg Bool.false_ne_true, Bool.false_and]
theorem implRoom_is (l : List Int) : impl_ValidRoom.f 5 l = some (roomOk l) := by
  unfold impl_ValidRoom.f roomOk
  by_cases h : l.length = 3
  · rw [if_pos (by omega), decide_eq_true h, Bool.true_and]
    exact implRoom_l0 l h 3 0 (by omega) 5 (by omega)
  · rw [if_neg (by omega), decide_eq_false h, Bool.false_and]
theorem workersValid_is (n : Int) : impl_workersValid.f n = some (decide (1 ≤ n ∧ n ≤ 4)) := by
  unfold impl_workersValid.f
  rw [within_is]
  rfl
def PlaceIs (w : World) (A0 : Option Addr) (c0 : Nat) (g : List S29) (room : List Int) (wk : Int) (e : Ending) (w' : World) : Prop :=
  ∃ p, e = .returned (.tuple #[p, .bool (placeOk g room wk)]) ∧ Below w.heap.size w w' ∧
    (placeOk g room wk = true → ∃ (X Bb Ba : Nat) (AN : Option Addr) (cN : Nat) (AL : Option Addr) (cL : Nat), p = .pointer (some ⟨X, 0, none⟩) ∧ GraphHere w' X A0 c0 AN cN AL cL (.slice (some ⟨Bb, 0, none⟩) g.length g.length) (.slice (some ⟨Ba, 0, none⟩) g.length g.length) g (orderOf g))
set_option maxRecDepth 100000 in
set_option maxHeartbeats 4000000 in
theorem place_any (A0 : Option Addr) (c0 : Nat) (g : List S29) (A1 : Option Addr) (c1 : Nat) (room : List Int) (wk : Int) (w : World) (hr0 : Kd.C k29 w A0 g.length g) (hc0 : g.length ≤ c0) (hr1 : Kd.C (Kd.int .i64) w A1 room.length room) (hc1 : room.length ≤ c1) (hT : Tab w) (hh : held g = true) :
    Calls Tryd.prog 38 #[.slice A0 g.length c0, .slice A1 room.length c1, .int .i64 wk] w (PlaceIs w A0 c0 g room wk) := by
  rcases Bool.eq_false_or_eq_true (valid g) with hv | hv
  · have HG := Aside0.mk (graphOf_here hr0 hc0 hT hh hv)
    have HC := Aside0.mk (fun (W : World) (hb : Below w.heap.size w W) => Kd.C_below hr1 hb)
    have HR := Aside0.mk (implRoom_is room)
    have HW := Aside0.mk (workersValid_is wk)
    have hok : placeOk g room wk = (roomOk room && decide (1 ≤ wk ∧ wk ≤ 4)) := by unfold placeOk; rw [hv, Bool.true_and]
    obtain ⟨b1, h1⟩ : ∃ b, roomOk room = b := ⟨_, rfl⟩
    obtain ⟨b2, h2⟩ : ∃ b, decide (1 ≤ wk ∧ wk ≤ 4) = b := ⟨_, rfl⟩
    rw [h1] at HR hok
    rw [h2] at HW hok
    have HOK := Aside0.mk hok
    clear hr0 hr1 hT hok h1 h2
    cases b1
    · go_enter Tryd.func38, Tryd.ntmps38
      go_wp2_with (first | (go_at_call 50; refine HG.out.mono ?_; rintro e w1 ⟨X, Bb, Ba, AN, cN, AL, cL, rfl, hb, hG, _, _⟩) | (go_at_call 60; refine (impl_ValidRoom.calls 5 A1 c1 room _ _ (HC.out _ hb) hc1 HR.out).mono ?_; rintro e w3 ⟨rfl, ⟨nd, hw3⟩⟩; replace hG := hG.below (show Below _ _ w3 from by rw [hw3]; exact below_draws (Below.refl _ _) nd); replace hb : Below w.heap.size w w3 := (by rw [hw3]; exact below_draws hb nd); clear hw3) | (go_at_call 61; refine (impl_workersValid.calls _ _ _ HW.out).mono ?_; rintro e w4 ⟨rfl, ⟨nd4, hw4⟩⟩; replace hG := hG.below (show Below _ _ w4 from by rw [hw4]; exact below_draws (Below.refl _ _) nd4); replace hb : Below w.heap.size w w4 := (by rw [hw4]; exact below_draws hb nd4); clear hw4))
      refine bodyPost_ret (results_tmp2 rfl _ _ _) rfl ?_
      exact ⟨_, by rw [HOK.out]; rfl, hb, fun h => by rw [HOK.out] at h; cases h⟩
    · cases b2
      · go_enter Tryd.func38, Tryd.ntmps38
        go_wp2_with (first | (go_at_call 50; refine HG.out.mono ?_; rintro e w1 ⟨X, Bb, Ba, AN, cN, AL, cL, rfl, hb, hG, _, _⟩) | (go_at_call 60; refine (impl_ValidRoom.calls 5 A1 c1 room _ _ (HC.out _ hb) hc1 HR.out).mono ?_; rintro e w3 ⟨rfl, ⟨nd, hw3⟩⟩; replace hG := hG.below (show Below _ _ w3 from by rw [hw3]; exact below_draws (Below.refl _ _) nd); replace hb : Below w.heap.size w w3 := (by rw [hw3]; exact below_draws hb nd); clear hw3) | (go_at_call 61; refine (impl_workersValid.calls _ _ _ HW.out).mono ?_; rintro e w4 ⟨rfl, ⟨nd4, hw4⟩⟩; replace hG := hG.below (show Below _ _ w4 from by rw [hw4]; exact below_draws (Below.refl _ _) nd4); replace hb : Below w.heap.size w w4 := (by rw [hw4]; exact below_draws hb nd4); clear hw4))
        refine bodyPost_ret (results_tmp2 rfl _ _ _) rfl ?_
        exact ⟨_, by rw [HOK.out]; rfl, hb, fun h => by rw [HOK.out] at h; cases h⟩
      · go_enter Tryd.func38, Tryd.ntmps38
        go_wp2_with (first | (go_at_call 50; refine HG.out.mono ?_; rintro e w1 ⟨X, Bb, Ba, AN, cN, AL, cL, rfl, hb, hG, _, _⟩) | (go_at_call 60; refine (impl_ValidRoom.calls 5 A1 c1 room _ _ (HC.out _ hb) hc1 HR.out).mono ?_; rintro e w3 ⟨rfl, ⟨nd, hw3⟩⟩; replace hG := hG.below (show Below _ _ w3 from by rw [hw3]; exact below_draws (Below.refl _ _) nd); replace hb : Below w.heap.size w w3 := (by rw [hw3]; exact below_draws hb nd); clear hw3) | (go_at_call 61; refine (impl_workersValid.calls _ _ _ HW.out).mono ?_; rintro e w4 ⟨rfl, ⟨nd4, hw4⟩⟩; replace hG := hG.below (show Below _ _ w4 from by rw [hw4]; exact below_draws (Below.refl _ _) nd4); replace hb : Below w.heap.size w w4 := (by rw [hw4]; exact below_draws hb nd4); clear hw4))
        refine bodyPost_ret (results_tmp2 rfl _ _ _) rfl ?_
        exact ⟨_, by rw [HOK.out]; rfl, hb, fun _ => ⟨X, Bb, Ba, AN, cN, AL, cL, rfl, hG⟩⟩
  · have HG := Aside0.mk (graphOf_no hr0 hc0 hT hh hv)
    have hok : placeOk g room wk = false := by unfold placeOk; rw [hv]; rfl
    have HOK := Aside0.mk hok
    clear hr0 hr1 hT hok
    go_enter Tryd.func38, Tryd.ntmps38
    go_wp2_with (go_at_call 50; refine HG.out.mono ?_; rintro e w' ⟨p, rfl, hb⟩)
    refine bodyPost_ret (results_tmp2 rfl _ _ _) rfl ?_
    exact ⟨_, by rw [HOK.out]; rfl, hb, fun h => by rw [HOK.out] at h; cases h⟩

/-! ### LeastTime -/
def sumT (g : List S29) : Nat → Int
  | 0 => 0
  | i + 1 => sumT g i + tmOf g i
def leastUp (g : List S29) (room : List Int) (b : Int) : Nat → Int
  | 0 => b
  | j + 1 => mx (leastUp g room b j) (poolTime g (j : Int) (atI room j))
def upOf (s r : Int) : Int := (s + r - 1) / r
def leastTime (g : List S29) (room : List Int) (wk : Int) : Int := if placeOk g room wk = true then leastUp g room (mx (longestTime g) (upOf (sumT g g.length) wk)) room.length else -1
def impl_LeastTime.f (l0 : List S29) (l1 : List Int) (a2 : Int) : Option Int := if held l0 then some (leastTime l0 l1 a2) else none
theorem sumT_ok {g : List S29} (hf : fine g = true) : ∀ i : Nat, i ≤ g.length → 0 ≤ sumT g i ∧ sumT g i ≤ 20 * (i : Int)
  | 0, _ => ⟨Int.le_refl _, by show (0 : Int) ≤ _; omega⟩
  | i + 1, h => by
    have h1 := sumT_ok hf i (by omega)
    have h2 := time_ok hf i (by omega)
    rw [sumT]
    omega
theorem total_range {g : List S29} (hf : fine g = true) : ∀ i : Nat, i ≤ g.length → totalOf g (List.range i) = sumT g i
  | 0, _ => rfl
  | i + 1, h => by
    have h8 := fine_len hf
    have h1 := sumT_ok hf i (by omega)
    have h2 := time_ok hf i (by omega)
    have e := total_range hf i (by omega)
    unfold totalOf at e ⊢
    rw [List.range_succ, List.foldl_append, e]
    exact w1k _ (by omega) (by omega)
theorem elems_all (n : Nat) (h : n ≤ 8) : elems (2 ^ n - 1) = List.range n := by
  rcases (by omega : n = 0 ∨ n = 1 ∨ n = 2 ∨ n = 3 ∨ n = 4 ∨ n = 5 ∨ n = 6 ∨ n = 7 ∨ n = 8) with rfl | rfl | rfl | rfl | rfl | rfl | rfl | rfl | rfl <;> decide +kernel
theorem implUp_is (s r : Int) (h0 : 0 ≤ s) (h1 : s ≤ 10000) (r0 : 1 ≤ r) (r1 : r ≤ 8) : impl_up.f s r = some (upOf s r) := by
  unfold impl_up.f upOf
  rw [if_neg (by omega), up_is s r h0 h1 r0 r1]
def eAct (v0 : Value) (m : Int) (vr : Value) (len j : Nat) (us : Nat → Value) : Act := { tmps := #[v0, us 1, us 2, us 3, us 4, us 5, us 6, us 7, us 8, .int .i64 m, us 10, us 11, us 12, us 13, us 14, us 15, us 16, us 17, us 18, us 19, us 20, us 21, us 22, us 23, us 24, us 25, us 26, us 27, us 28, us 29, us 30, us 31, vr, .int .i64 (len : Int), .int .i64 (j : Int), us 35, us 36, us 37, us 38, us 39, us 40, us 41, us 42, us 43, us 44, us 45, us 46], defers := [] }
theorem eAct_eq (v0 : Value) (m : Int) (vr : Value) (len j : Nat) (us : Nat → Value) : eAct v0 m vr len j us = { tmps := #[v0, us 1, us 2, us 3, us 4, us 5, us 6, us 7, us 8, .int .i64 m, us 10, us 11, us 12, us 13, us 14, us 15, us 16, us 17, us 18, us 19, us 20, us 21, us 22, us 23, us 24, us 25, us 26, us 27, us 28, us 29, us 30, us 31, vr, .int .i64 (len : Int), .int .i64 (j : Int), us 35, us 36, us 37, us 38, us 39, us 40, us 41, us 42, us 43, us 44, us 45, us 46], defers := [] } := rfl
theorem estart_at {a : Act} {v0 : Value} {m : Int} {vr : Value} {len j : Nat} (h : a = eAct v0 m vr len j (fun k => a.tmps.getD k undef)) : ∃ us, a = eAct v0 m vr len j us := ⟨_, h⟩
set_option maxRecDepth 100000 in
set_option maxHeartbeats 4000000 in
theorem least_yes (A0 : Option Addr) (c0 : Nat) (l0 : List S29) (A1 : Option Addr) (c1 : Nat) (l1 : List Int) (a2 : Int) (w : World) (hr0 : Kd.C k29 w A0 l0.length l0) (hc0 : l0.length ≤ c0) (hr1 : Kd.C (Kd.int .i64) w A1 l1.length l1) (hc1 : l1.length ≤ c1) (hT : Tab w) (hh : held l0 = true) (hp : placeOk l0 l1 a2 = true) :
    Calls Tryd.prog 15 #[.slice A0 l0.length c0, .slice A1 l1.length c1, .int .i64 a2] w fun e w' => e = .returned (.int .i64 (leastTime l0 l1 a2)) ∧ Below w.heap.size w w' := by
  have HP := Aside0.mk (place_any A0 c0 l0 A1 c1 l1 a2 w hr0 hc0 hr1 hc1 hT hh)
  unfold PlaceIs at HP
  have hq := hp
  unfold placeOk roomOk at hq
  simp only [Bool.and_eq_true, decide_eq_true_eq] at hq
  obtain ⟨⟨hv, hl3, hal⟩, hw1, hw2⟩ := hq
  have hlk : l1.length ≤ 1000 := by omega
  clear hl3 hal
  have HT := Aside0.mk hT
  have HC := Aside0.mk (fun (W : World) (hb : Below w.heap.size w W) => Kd.C_below hr1 hb)
  have HC0 := Aside0.mk (fun (W : World) (hb : Below w.heap.size w W) => Kd.C_below hr0 hb)
  have hf := fine_of hv
  have h8 := valid_eight hv
  have ho := orderOf_len hf
  have et : tailsBy (tmOf l0) (nbOf l0) l0.length (orderOf l0) = tailTimes l0 := by unfold tailTimes; rw [if_pos hv]
  have hl1000 : (tailTimes l0).length ≤ 1000 := by have := tailTimes_len hv; omega
  have eL : topOf (tailTimes l0) = longestTime l0 := by unfold longestTime; rw [if_pos hv]
  have HEV := Aside0.mk (everything_is l0.length h8)
  have hs : 2 ^ l0.length - 1 < 2 ^ l0.length := by have := Nat.two_pow_pos l0.length; omega
  have eT : totalOf l0 (elems (2 ^ l0.length - 1)) = sumT l0 l0.length := by rw [elems_all _ h8, total_range hf _ (Nat.le_refl _)]
  obtain ⟨s0, s1⟩ := sumT_ok hf l0.length (Nat.le_refl _)
  have HUP := Aside0.mk (implUp_is (sumT l0 l0.length) a2 s0 (by omega) hw1 (by omega))
  have HEND := Aside0.mk (show leastTime l0 l1 a2 = leastUp l0 l1 (mx (longestTime l0) (upOf (sumT l0 l0.length) a2)) l1.length from by unfold leastTime; rw [if_pos hp])
  rw [hp] at HP
  clear hr0 hr1 hT hp
  refine (callsIn_wide (n := 10)).1 ?_
  refine callsIn_of_wp Tryd.func15 rfl trivial ?_ rfl
  simp only [Tryd.ntmps15, List.size_toArray, List.length_cons, List.length_nil, Nat.reduceAdd, Nat.reduceSub, Array.replicate_succ, Array.replicate_zero, List.push_toArray, List.append_toArray, List.nil_append, List.cons_append]
  gi_wp2_with (first
    | (refine ⟨trivial, ?_⟩; gi_at_call 38; refine (callsIn_wide.2 HP.out).mono ?_; rintro e w1 ⟨p, rfl, hb, hp1⟩; obtain ⟨X, Bb, Ba, AN, cN, AL, cL, rfl, hG⟩ := hp1 (by simp))
    | (refine ⟨trivial, ?_⟩; gi_at_call 40; refine (callsIn_wide.2 (tails_any hG (HT.out.below hb) hf ho)).mono ?_; rintro e w4 ⟨v3, rfl, h3, h4⟩; rw [et] at h3; obtain ⟨AT, cT, rfl⟩ := Kd.R_slice h3; replace hG := hG.below h4; replace hb := hb.trans (h4.mono hb.size); have HRD := Aside0.mk (Kd.R_reads' h3).2.2; clear h3 h4)
    | (refine ⟨trivial, ?_⟩; gi_at_call 39; refine (callsIn_wide.2 (longest_same AT cT (tailTimes l0) hl1000 _ HRD.out)).mono ?_; rintro e w5 ⟨rfl, hw5⟩; subst hw5; rw [eL])
    | (refine ⟨trivial, ?_⟩; gi_at_call 44; refine (callsIn_wide.2 hG.size).mono ?_; rintro e w6 ⟨rfl, hw6⟩; subst hw6)
    | (refine ⟨trivial, ?_⟩; gi_at_call 43; refine (callsIn_wide.2 (impl_everything.calls _ _ _ HEV.out)).mono ?_; rintro e w7 ⟨rfl, ⟨n7, hw7⟩⟩; replace hG := hG.below (show Below _ _ w7 from by rw [hw7]; exact below_draws (Below.refl _ _) n7); replace hb : Below w.heap.size w w7 := (by rw [hw7]; exact below_draws hb n7); clear hw7)
    | (refine ⟨trivial, ?_⟩; gi_at_call 42; refine (callsIn_wide.2 (total_any hG (HT.out.below hb) hf _ hs)).mono ?_; rintro e w8 ⟨rfl, hb8⟩; rw [eT]; replace hb := hb.trans (hb8.mono hb.size); clear hb8)
    | (refine ⟨trivial, ?_⟩; gi_at_call 41; refine (callsIn_wide.2 (impl_up.calls _ _ _ _ HUP.out)).mono ?_; rintro e w9 ⟨rfl, ⟨n9, hw9⟩⟩; replace hb : Below w.heap.size w w9 := (by rw [hw9]; exact below_draws hb n9); clear hw9))
  rename_i Q2 K2 hK2
  have HK2 := Aside0.mk hK2
  clear hK2 hp1 hG HRD HP HUP HEV eL et eT hs hl1000 s0 s1 hw1 hw2
  obtain ⟨b, hbb⟩ : ∃ b, mx (longestTime l0) (upOf (sumT l0 l0.length) a2) = b := ⟨_, rfl⟩
  rw [hbb] at HEND ⊢
  clear hbb
  refine wpIn_loop (fun a' W' => ∃ j : Nat, (∃ us, a' = eAct (.slice A0 l0.length c0) (leastUp l0 l1 b j) (.slice A1 l1.length c1) l1.length j us) ∧ j ≤ l1.length ∧ Below w.heap.size w W') (fun a' _ => l1.length - (intOf (a'.tmps.getD 34 undef)).toNat) ?_ ?_
  · exact ⟨0, estart_at (by rfl), Nat.zero_le _, hb⟩
  · clear hb
    rintro a' W' ⟨j, ⟨us, rfl⟩, hj, hI⟩
    rw [eAct_eq]
    by_cases hjl : j < l1.length
    · have hj0 : (0 : Int) ≤ (j : Int) := by omega
      have hj1 : (j : Int) < (l1.length : Int) := by omega
      obtain ⟨ad, rfl, hx⟩ := Kd.at_int (HC.out W' hI) (j : Int) hj0 (by omega)
      rw [rd_atI l1 j hjl, Int.toNat_natCast] at hx
      obtain ⟨k, hk⟩ := implPool_is (g := l0) (j : Int) (atI l1 j) hh
      have HPT := Aside0.mk (hk k (Nat.le_refl _))
      have HI := Aside0.mk hI
      clear hk hI
      gi_wp2_with (refine ⟨trivial, ?_⟩; gi_at_call 17; refine (callsIn_wide.2 (impl_PoolTime.calls k A0 c0 l0 _ _ _ _ (HT.out.below HI.out) (HC0.out _ HI.out) hc0 HPT.out)).mono ?_; rintro e w8 ⟨rfl, hb8⟩)
      rw [show (j : Int) + 1 = ((j + 1 : Nat) : Int) from by omega]
      exact ⟨⟨j + 1, estart_at (by rfl), hjl, HI.out.trans (hb8.mono HI.out.size)⟩, nearer rfl hjl⟩
    · obtain rfl : j = l1.length := by omega
      have hj1 : ¬ (l1.length : Int) < (l1.length : Int) := by omega
      gi_wp2
      refine HK2.out _ _ ?_
      gi_wp2
      go_ret
      exact ⟨by rw [HEND.out]; rfl, hI⟩
set_option maxRecDepth 100000 in
set_option maxHeartbeats 4000000 in
theorem impl_LeastTime.calls (A0 : Option Addr) (c0 : Nat) (l0 : List S29) (A1 : Option Addr) (c1 : Nat) (l1 : List Int) (a2 : Int) (r : Int) (w : World) (hr0 : Kd.C k29 w A0 l0.length l0) (hc0 : l0.length ≤ c0) (hr1 : Kd.C (Kd.int .i64) w A1 l1.length l1) (hc1 : l1.length ≤ c1) (hT : Tab w) (h : impl_LeastTime.f l0 l1 a2 = some r) :
    Calls Tryd.prog 15 #[.slice A0 l0.length c0, .slice A1 l1.length c1, .int .i64 a2] w fun e w' => e = .returned (.int .i64 r) ∧ Below w.heap.size w w' := by
  obtain ⟨hh, rfl⟩ := of_held h
  cases hp : placeOk l0 l1 a2 with
  | true => exact least_yes A0 c0 l0 A1 c1 l1 a2 w hr0 hc0 hr1 hc1 hT hh hp
  | false =>
    have HP := Aside0.mk (place_any A0 c0 l0 A1 c1 l1 a2 w hr0 hc0 hr1 hc1 hT hh)
    unfold PlaceIs at HP
    rw [hp] at HP
    have e : leastTime l0 l1 a2 = -1 := by unfold leastTime; rw [if_neg (by rw [hp]; exact Bool.false_ne_true)]
    rw [e]
    clear hr0 hr1 hT hp e h
    go_enter Tryd.func15, Tryd.ntmps15
    go_wp2_with (go_at_call 38; refine HP.out.mono ?_; rintro e w' ⟨p, rfl, hb, _⟩)
    go_ret
    exact ⟨rfl, hb⟩
end Go.Proofs.YtokikapljmakbaaDoor.H
