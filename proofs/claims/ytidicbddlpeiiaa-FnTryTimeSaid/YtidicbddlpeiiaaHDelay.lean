/- The contract of impl.DelayOf: it yields the delay that belongs to the try, -1 for others; no condition on the argument. -/
import Derived.RangeFuncNested
import Derived.RangeFuncBound
import Derived.RangeFuncCalls
import Derived.RangeFuncLeaves
import Derived.RangeFuncFrom
import Derived.RangeFuncMany
import Derived.Shelf.Abstract
import Derived.Shelf.RegionOpen
import Derived.WalkKit
import Derived.OwnWalkIn
import Derived.TacticsInMore
import Derived.LoopNIn
import Derived.LoopIn
import Derived.KernelRfl
import Derived.Lib.Hide
import Derived.Test.YtidicbddlpeiiaaProg
namespace Go.Proofs.Ytidicbddlpeiiaa.H
open Go.RowKit Go.Shelf
attribute [local go_sem] Oper.semAt_some

set_option linter.unusedSimpArgs false
theorem cell_new_l (W : World) (v : Value) (t : TypeId) : (W.alloc (.cells #[v] t)).cell? ⟨W.heap.size, 0, none⟩ = some v ∧ (W.alloc (.cells #[v] t)).frozen? ⟨W.heap.size, 0, none⟩ = false :=
  ⟨by simp, by simp⟩
theorem cell_alloc_l {W : World} {a : Addr} {v : Value} (o : Obj) (h : W.cell? a = some v) : (W.alloc o).cell? a = some v := cell_kept h (World.grownBy_alloc W o none) (fun r e => by cases e)
theorem frozen_alloc_l {W : World} {a : Addr} {v : Value} (o : Obj) (h : W.cell? a = some v) (hf : W.frozen? a = false) : (W.alloc o).frozen? a = false := (frozen_kept h (World.grownBy_alloc W o none) (fun r e => by cases e)).trans hf
abbrev encs2 (p : Int × Int) : Array Value := #[.int .i64 p.1, .int .i64 p.2]
def pairs : List (Int × Int) := [(1, 2), (2, 4), (3, 8), (4, 16), (5, 20)]

set_option maxHeartbeats 2000000 in
set_option maxRecDepth 100000 in
/-- The iterator of the delays. -/
theorem delays_stops (F : Fence) (n : Nat) (h : F.fn 50) (hro : F.round = none) (hn : 1 ≤ n) (w : World) :
    SeqStopsK F n Try.prog 50 #[] encs2 (fun _ _ => True) (fun xs => xs = pairs) (fun pre => pre <+: pairs) 5 w := fun l J Jx W _ _ _ hY h0 => by
  refine callsIn_of_wp Try.func50 rfl h ?_ hro
  simp only [Try.ntmps50, List.size_toArray, List.length_cons, List.length_nil, Nat.reduceAdd, Nat.reduceSub, Array.replicate_succ, Array.replicate_zero, List.push_toArray, List.append_toArray, List.nil_append, List.cons_append]
  gi_wp2
  gi_loopw [2, 3] (fun d t wr => (d = .int .i64 2 ∧ t = .int .i64 1 ∧ J [] wr) ∨ (d = .int .i64 4 ∧ t = .int .i64 2 ∧ J [(1, 2)] wr) ∨ (d = .int .i64 8 ∧ t = .int .i64 3 ∧ J [(1, 2), (2, 4)] wr) ∨ (d = .int .i64 16 ∧ t = .int .i64 4 ∧ J [(1, 2), (2, 4), (3, 8)] wr) ∨ (d = .int .i64 32 ∧ t = .int .i64 5 ∧ J [(1, 2), (2, 4), (3, 8), (4, 16)] wr) ∨ (d = .int .i64 64 ∧ t = .int .i64 6 ∧ J pairs wr))
    (fun _ t _ => 10 - (intOf t).toNat)
  case atStart => exact .inl ⟨rfl, rfl, h0⟩
  case round =>
    rcases hrel with ⟨rfl, rfl, hJ⟩ | ⟨rfl, rfl, hJ⟩ | ⟨rfl, rfl, hJ⟩ | ⟨rfl, rfl, hJ⟩ | ⟨rfl, rfl, hJ⟩ | ⟨rfl, rfl, hJ⟩
    · obtain ⟨fn, tmps, assign, body, hy, hR⟩ := hY _ (1, 2) wr hJ (by simp)
      dsimp only [encs2] at hy
      gi_wp2
      refine hR.mono ?_
      rintro e W3 (⟨rfl, hJ3, _⟩ | ⟨rfl, hJx3⟩)
      · gi_wp2
        go_roundw
        case rel => exact .inr (.inl ⟨by simp [go_sem], by simp [go_sem], hJ3⟩)
        case measure => simp [intOf]
      · gi_wp2
        refine bodyPost_ret (results_none rfl _ _ _) rfl ?_
        exact ⟨⟨_, rfl⟩, .inr ⟨_, by decide, hJx3⟩⟩
    · obtain ⟨fn, tmps, assign, body, hy, hR⟩ := hY _ (2, 4) wr hJ (by simp)
      dsimp only [encs2] at hy
      gi_wp2
      refine hR.mono ?_
      rintro e W3 (⟨rfl, hJ3, _⟩ | ⟨rfl, hJx3⟩)
      · gi_wp2
        go_roundw
        case rel => exact .inr (.inr (.inl ⟨by simp [go_sem], by simp [go_sem], hJ3⟩))
        case measure => simp [intOf]
      · gi_wp2
        refine bodyPost_ret (results_none rfl _ _ _) rfl ?_
        exact ⟨⟨_, rfl⟩, .inr ⟨_, by decide, hJx3⟩⟩
    · obtain ⟨fn, tmps, assign, body, hy, hR⟩ := hY _ (3, 8) wr hJ (by simp)
      dsimp only [encs2] at hy
      gi_wp2
      refine hR.mono ?_
      rintro e W3 (⟨rfl, hJ3, _⟩ | ⟨rfl, hJx3⟩)
      · gi_wp2
        go_roundw
        case rel => exact .inr (.inr (.inr (.inl ⟨by simp [go_sem], by simp [go_sem], hJ3⟩)))
        case measure => simp [intOf]
      · gi_wp2
        refine bodyPost_ret (results_none rfl _ _ _) rfl ?_
        exact ⟨⟨_, rfl⟩, .inr ⟨_, by decide, hJx3⟩⟩
    · obtain ⟨fn, tmps, assign, body, hy, hR⟩ := hY _ (4, 16) wr hJ (by simp)
      dsimp only [encs2] at hy
      gi_wp2
      refine hR.mono ?_
      rintro e W3 (⟨rfl, hJ3, _⟩ | ⟨rfl, hJx3⟩)
      · gi_wp2
        go_roundw
        case rel => exact .inr (.inr (.inr (.inr (.inl ⟨by simp [go_sem], by simp [go_sem], hJ3⟩))))
        case measure => simp [intOf]
      · gi_wp2
        refine bodyPost_ret (results_none rfl _ _ _) rfl ?_
        exact ⟨⟨_, rfl⟩, .inr ⟨_, by decide, hJx3⟩⟩
    · obtain ⟨fn, tmps, assign, body, hy, hR⟩ := hY _ (5, 20) wr hJ (by simp)
      dsimp only [encs2] at hy
      gi_wp2
      refine hR.mono ?_
      rintro e W3 (⟨rfl, hJ3, _⟩ | ⟨rfl, hJx3⟩)
      · gi_wp2
        go_roundw
        case rel => exact .inr (.inr (.inr (.inr (.inr (⟨by simp [go_sem], by simp [go_sem], hJ3⟩)))))
        case measure => simp [intOf]
      · gi_wp2
        refine bodyPost_ret (results_none rfl _ _ _) rfl ?_
        exact ⟨⟨_, rfl⟩, .inr ⟨_, by decide, hJx3⟩⟩
    · gi_wp2
      go_end0
      exact ⟨⟨_, rfl⟩, .inl ⟨_, rfl, hJ⟩⟩

def delayOf (a0 : Int) : Int := ((pairs.find? fun p => p.1 == a0).map (·.2)).getD (-1)
theorem find_miss {a : Int} {pre : List (Int × Int)} {x : Int × Int} (h : pre.find? (fun p => p.1 == a) = none) (hx : ¬ x.1 = a) : (pre ++ [x]).find? (fun p => p.1 == a) = none := by
  rw [List.find?_append, h]
  simp [hx]
theorem find_hit {a : Int} {pre : List (Int × Int)} {x : Int × Int} (h : pre.find? (fun p => p.1 == a) = none) (hx : x.1 = a) : (pre ++ [x]).find? (fun p => p.1 == a) = some x := by
  rw [List.find?_append, h]
  simp [hx]
theorem find_prefix {a : Int} {pre : List (Int × Int)} {x : Int × Int} (hp : pre <+: pairs) (h : pre.find? (fun p => p.1 == a) = some x) : pairs.find? (fun p => p.1 == a) = some x := by
  obtain ⟨t, ht⟩ := hp
  rw [← ht, List.find?_append, h]
  rfl

set_option maxHeartbeats 1000000 in
theorem delays_any (F : Fence) (n : Nat) (h : F.fn 39) (hro : F.round = none) (w : World) : CallsIn F n Try.prog 39 #[] w fun e w' => e = .returned (.func (.func 50) #[] #[]) ∧ w' = w := by
  refine callsIn_of_wp Try.func39 rfl h ?_ hro
  simp only [Try.ntmps39, List.size_toArray, List.length_cons, List.length_nil, Nat.reduceAdd, Nat.reduceSub, Array.replicate_succ, Array.replicate_zero, List.push_toArray, List.append_toArray, List.nil_append, List.cons_append]
  gi_wp2
  go_ret
  exact ⟨rfl, rfl⟩

set_option maxRecDepth 100000 in
set_option maxHeartbeats 2000000 in
theorem DelayOf_any (a0 : Int) (w : World) : Calls Try.prog 19 #[.int .i64 a0] w fun e w' => e = .returned (.int .i64 (delayOf a0)) ∧ Below w.heap.size w w' := by
  refine (callsIn_wide (n := 9)).1 ?_
  have h1 : 1 ≤ 9 := by omega
  have hro : Fence.wide.round = none := rfl
  refine callsIn_of_wp_marks Try.func19 rfl trivial ?_ hro
  simp only [Try.ntmps19, List.size_toArray, List.length_cons, List.length_nil, Nat.reduceAdd, Nat.reduceSub, Array.replicate_succ, Array.replicate_zero, List.push_toArray, List.append_toArray, List.nil_append, List.cons_append]
  gi_wp2_with (refine ⟨trivial, ?_⟩; gi_at_call 39; refine (delays_any _ _ trivial rfl _).mono ?_; rintro e w' ⟨rfl, rfl⟩)
  have c0 := cell_new_l w (.int .i64 a0) 3
  have c1 := cell_new_l (w.alloc (.cells #[.int .i64 a0] 3)) (.int .i64 0) 3
  simp only [World.size_alloc] at c1
  have hB0 : Below w.heap.size w ((w.alloc (.cells #[.int .i64 a0] 3)).alloc (.cells #[.int .i64 0] 3)) := ((Below.refl _ w).alloc (Nat.le_refl _) _).alloc (by simp) _
  refine wpIn_rangeFunc_ownF hro h1 (gf := 50) (lb := #[]) rfl trivial (enters_of Try.func50 (by kernel_rfl) rfl)
    (delays_stops Fence.wide 8 trivial hro (by omega) _) (fun _ _ => trivial) (fun _ _ _ _ _ _ _ _ => trivial) (Below.refl _ _) (fun _ => by rfl)
    (fun pre W => (pre.find? (fun p => p.1 == a0) = none ∧ W.cell? ⟨w.heap.size, 0, none⟩ = some (.int .i64 a0) ∧ W.cell? ⟨w.heap.size + 1, 0, none⟩ = some (.int .i64 0) ∧ W.frozen? ⟨w.heap.size + 1, 0, none⟩ = false) ∧ Below w.heap.size w W)
    (fun c pre W => (c = .ret ∧ ∃ p, pre.find? (fun p => p.1 == a0) = some p ∧ W.cell? ⟨w.heap.size + 1, 0, none⟩ = some (.int .i64 p.2)) ∧ Below w.heap.size w W)
    (OwnFrom.and (Own.from (fun s A B row hs hg hr => ⟨hs.1, cell_kept hs.2.1 hg hr, cell_kept hs.2.2.1 hg hr, (frozen_kept hs.2.2.1 hg hr).trans hs.2.2.2⟩) _) (ownFrom_below (Nat.le_refl _) (by simp; omega)))
    (fun c => OwnFrom.and (Own.from (fun s A B row hs hg hr => by obtain ⟨hc, p, hp, hcell⟩ := hs; exact ⟨hc, p, hp, cell_kept hcell hg hr⟩) _) (ownFrom_below (Nat.le_refl _) (by simp; omega)))
    ⟨⟨rfl, cell_alloc_l _ c0.1, c1.1, c1.2⟩, hB0⟩
    (fun x => { tmps := #[.int .i64 a0, .pointer (some ⟨w.heap.size, 0, none⟩), .pointer (some ⟨w.heap.size + 1, 0, none⟩), .int .i64 x.1, .int .i64 x.2, .func (.func 50) #[] #[], .int .i64 x.1, .int .i64 x.2, undef, undef, undef, undef], defers := [] }) ?assign ?body ?done ?stop
  case assign =>
    intro l x W K hK
    gi_wp2
    exact hK
  case body =>
    rintro l pre x W ⟨⟨hb, hcl, hcr, hfr⟩, hB⟩ _
    by_cases hx : x.1 = a0
    · have hxb : (x.1 == a0) = true := by simpa using hx
      have H := Lib.hid hx
      clear hx
      gi_wp2
      exact ⟨KeepsOthers.setCell _ _ _, ⟨rfl, x, find_hit hb H.out, World.cell?_setCell_same' _ _ _ (by rw [hcr]; rfl)⟩, hB.setCell (p := ⟨w.heap.size + 1, 0, none⟩) (by simp) _⟩
    · have hxb : (x.1 == a0) = false := by simpa using hx
      have H := Lib.hid hx
      clear hx
      gi_wp2
      exact ⟨KeepsOthers.refl _, trivial, ⟨find_miss hb H.out, hcl, hcr, hfr⟩, hB⟩
  case done =>
    rintro D xs W hD rfl ⟨⟨hb, _, hcr, hfr⟩, hB⟩ hK
    have Hb := Lib.hid hb
    clear hb
    gi_wp2
    have hK' := (KeepsOthers.setCell W ⟨w.heap.size + 1, 0, none⟩ (.int .i64 (-1))).same D _ hK rfl
    refine ⟨by simp, .inl ⟨_, _, rfl, run_takeDeferred hK', ?_⟩⟩
    have hc5 := cell_kept (World.cell?_setCell_same' W ⟨w.heap.size + 1, 0, none⟩ (.int .i64 (-1)) (by rw [hcr]; rfl)) (grownBy_putObj' _ D (.deferred none)) (fun r e => by cases e; exact ⟨_, hK', rfl⟩)
    refine ⟨.int .i64 (-1), ?_, by unfold delayOf; rw [Hb.out]; rfl, (hB.setCell (p := ⟨w.heap.size + 1, 0, none⟩) (by simp) _).trans (belowK_b (w := w) (Nat.le_refl _) _ D _ _ (by simp at hD; omega) hK' rfl rfl)⟩
    simp [results, Try.f19, go_sem, hc5]
  case stop =>
    rintro D c pre W hD hpre ⟨⟨rfl, p, hp, hcr⟩, hB⟩ hK
    have Hfull := Lib.hid (find_prefix hpre hp)
    clear hp
    gi_wp2
    refine ⟨by simp, .inl ⟨_, _, rfl, run_takeDeferred hK, ?_⟩⟩
    have hc5 := cell_kept hcr (grownBy_putObj' _ D (.deferred none)) (fun r e => by cases e; exact ⟨_, hK, rfl⟩)
    refine ⟨.int .i64 p.2, ?_, by unfold delayOf; rw [Hfull.out]; rfl, hB.trans (belowK_b (w := w) (Nat.le_refl _) W D _ _ (by simp at hD; omega) hK rfl rfl)⟩
    simp [results, Try.f19, go_sem, hc5]

def impl_DelayOf.f (a0 : Int) : Option Int := some (delayOf a0)
theorem impl_DelayOf.calls (a0 : Int) (r : Int) (w : World) (h : impl_DelayOf.f a0 = some r) : Calls Try.prog 19 #[.int .i64 a0] w fun e w' => e = .returned (.int .i64 r) ∧ Below w.heap.size w w' := by
  cases h
  exact DelayOf_any a0 w
end Go.Proofs.Ytidicbddlpeiiaa.H
