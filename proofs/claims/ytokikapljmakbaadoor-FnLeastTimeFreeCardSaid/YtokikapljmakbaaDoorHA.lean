/- The operations on sets of numbers below eight. The least number of a set of tasks (math/bits.TrailingZeros16 over its table), under the table's contents and for sets of eight tasks; the iterator over a set. A region that draws its order and ends in a store, inside a round of a range over a function, at the widest fence. -/
import Derived.Laws.BitsLemmas
import Derived.Test.YtokikapljmakbaaDoorWAll
import Derived.RangeFuncNested
import Derived.RangeFuncBound
import Derived.RangeFuncCalls
import Derived.RangeFuncLeaves
import Derived.RangeFuncFrom
import Derived.RangeFuncMany
import Derived.Shelf.Abstract
import Derived.Shelf.RegionOpen
import Derived.WalkKit
import Derived.OwnWalkIn
import Derived.TacticsInMore
import Derived.LoopNIn
import Derived.LoopIn
import Derived.KernelRfl
import Derived.Lib.Hide
import Derived.Test.YtokikapljmakbaaDoorProg
import Derived.StillTail
import Derived.StillTailTactics
import Derived.OrdersIn
import Derived.Fence
namespace Go.Proofs.YtokikapljmakbaaDoor.H
open Go.RowKit Go.Proofs.YtokikapljmakbaaDoorW.PrintWords Go.Proofs.YtokikapljmakbaaDoorW.PrintLast Go.Proofs.YtokikapljmakbaaDoorW.PrintMore
set_option maxRecDepth 100000 in
theorem with_bits : ∀ s : Nat, s < 256 → ∀ i : Nat, i < 8 → Go.bits .or .u16 (s : Int) (shl .u16 1 (i : Int)) = ((s ||| 2 ^ i : Nat) : Int) := by decide +kernel
set_option maxRecDepth 100000 in
theorem has_bits : ∀ s : Nat, s < 256 → ∀ i : Nat, i < 8 → (Go.bits .and .u16 (shr .u16 (s : Int) (i : Int)) 1 == 1) = s.testBit i := by decide +kernel
set_option maxRecDepth 100000 in
theorem minus_bits : ∀ s : Nat, s < 256 → ∀ d : Nat, d < 256 → Go.bits .andNot .u16 (s : Int) (d : Int) = ((s &&& (255 - d) : Nat) : Int) := by decide +kernel
set_option maxRecDepth 100000 in
theorem all_bits : ∀ n : Nat, n ≤ 8 → IntKind.u16.wrap (shl .u16 1 (n : Int) - 1) = ((2 ^ n - 1 : Nat) : Int) := by decide +kernel
set_option maxRecDepth 100000 in
theorem minus_test : ∀ d : Nat, d < 256 → ∀ i : Nat, i < 8 → (255 - d).testBit i = !d.testBit i := by decide +kernel
end Go.Proofs.YtokikapljmakbaaDoor.H

namespace Go.Proofs.YtokikapljmakbaaDoor.H
open Go.RowKit Go.Shelf
attribute [local go_sem] Oper.semAt_some
set_option linter.unusedSimpArgs false
set_option linter.unusedVariables false

def tab : List Int := [0, 1, 28, 2, 29, 14, 24, 3, 30, 22, 20, 15, 25, 17, 4, 8, 31, 27, 13, 23, 21, 19, 16, 7, 26, 12, 18, 6, 11, 5, 10, 9]
/-- The table of the library's lies at block 0. -/
structure Tab (w : World) : Prop where mk :: (out : 0 < w.heap.size ∧ ∀ j, j < 32 → w.cell? ⟨0, j, none⟩ = some (.int .u8 (tab.getD j 0)))
theorem Tab.below {w w' : World} (h : Tab w) (hb : Below w.heap.size w w') : Tab w' :=
  ⟨Nat.lt_of_lt_of_le h.out.1 hb.size, fun j hj => (hb.cell (p := ⟨0, j, none⟩) h.out.1).trans (h.out.2 j hj)⟩

theorem Tab.keep {B : Nat} {w w' : World} (h : Tab w) (hb : Below B w w') (hB : 0 < B) : Tab w' :=
  ⟨Nat.lt_of_lt_of_le h.out.1 hb.size, fun j hj => (hb.cell (p := ⟨0, j, none⟩) hB).trans (h.out.2 j hj)⟩

/-- The least number of a set. -/
def low (x : Nat) : Nat := if x % 2 = 1 then 0 else if x / 2 % 2 = 1 then 1 else if x / 4 % 2 = 1 then 2 else if x / 8 % 2 = 1 then 3 else if x / 16 % 2 = 1 then 4 else if x / 32 % 2 = 1 then 5 else if x / 64 % 2 = 1 then 6 else 7

theorem low_lt (x : Nat) : low x < 8 := by
  unfold low
  repeat' split
  all_goals omega
def spot (x : Nat) : Nat := (Go.bits .and .u16 (x : Int) (IntKind.u16.wrap (-(x : Int))) % 4294967296 * 125613361 % 4294967296 / 134217728).toNat
set_option maxRecDepth 100000 in
theorem spot_is : ∀ x : Nat, x < 256 → 0 < x → spot x < 32 ∧ tab.getD (spot x) 0 = low x := by decide +kernel

set_option maxHeartbeats 4000000 in
set_option maxRecDepth 100000 in
theorem tz_any (F : Fence) (n : Nat) (h : F.fn 77) (hro : F.round = none) (x : Nat) (h0 : 0 < x) (h8 : x < 256) (w : World) (hT : Tab w) :
    CallsIn F n Tryd.prog 77 #[.int .u16 x] w fun e w' => e = .returned (.int .i64 (low x)) ∧ w' = w := by
  obtain ⟨s0, s1⟩ := spot_is x h8 h0
  have hc := hT.out.2 (spot x) s0
  rw [s1] at hc
  unfold spot at hc
  have hx : ((x : Int) == 0) = false := by simp; omega
  clear s0 s1
  have h256 : low x < 8 := low_lt x
  refine callsIn_of_wp Tryd.func77 rfl h ?_ hro
  simp only [Tryd.ntmps77, List.size_toArray, List.length_cons, List.length_nil, Nat.reduceAdd, Nat.reduceSub, Array.replicate_succ, Array.replicate_zero, List.push_toArray, List.append_toArray, List.nil_append, List.cons_append]
  gi_wp2
  go_ret
  exact ⟨rfl, rfl⟩

/-! ### The sets of numbers below eight, as binary numbers -/
def elems (s : Nat) : List Nat := (List.range 8).filter s.testBit
def rest (s : Nat) : Nat := (Go.bits .and .u16 (s : Int) ((s : Int) - 1)).toNat
set_option maxRecDepth 100000 in
theorem elems_step : ∀ s : Nat, s < 256 → 0 < s → elems s = low s :: elems (rest s) ∧ rest s < s ∧ (Go.bits .and .u16 (s : Int) ((s : Int) - 1)) = (rest s : Int) := by decide +kernel
theorem elems_zero : elems 0 = [] := by decide

/-- A number of a set. -/
abbrev El (s : Nat) := { k : Nat // k ∈ elems s }
abbrev enc1 {s : Nat} (x : El s) : Array Value := #[.int .i64 (x.1 : Int)]
def vals {s : Nat} (l : List (El s)) : List Nat := l.map Subtype.val
theorem vals_snoc {s : Nat} (l : List (El s)) (x : El s) : vals (l ++ [x]) = vals l ++ [x.1] := by unfold vals; rw [List.map_append]; rfl
set_option maxHeartbeats 4000000 in
set_option maxRecDepth 100000 in
/-- The iterator over a set: its numbers, ascending. -/
theorem all_stops (F : Fence) (n : Nat) (h : F.fn 76) (hz : F.fn 77) (hro : F.round = none) (hn : 1 ≤ n) (Bs n₀ : Nat) (s : Nat) (hs : s < 256) (w : World) (hBs : Bs < w.heap.size) (hn₀ : n₀ ≤ w.heap.size) (hT : Tab w) (h0 : 0 < n₀)
    (hc : w.cell? ⟨Bs, 0, none⟩ = some (.int .u16 s)) :
    SeqStopsK F n Tryd.prog 76 #[.pointer (some ⟨Bs, 0, none⟩)] (fun x : El s => enc1 x) (Below n₀) (fun xs => vals xs = elems s) (fun pre => vals pre <+: elems s) 8 w := fun l J Jx W hW _ _ hY hJ0 => by
  have hT1 := hT.below hW
  have hcW := (hW.cell (p := ⟨Bs, 0, none⟩) hBs).trans hc
  refine callsIn_of_wp Tryd.func76 rfl h ?_ hro
  simp only [Tryd.ntmps76, List.size_toArray, List.length_cons, List.length_nil, Nat.reduceAdd, Nat.reduceSub, Array.replicate_succ, Array.replicate_zero, List.push_toArray, List.append_toArray, List.nil_append, List.cons_append]
  gi_wp2
  gi_loopw [3] (fun r wr => ∃ (k : Nat) (pre : List (El s)), r = .int .u16 k ∧ k < 256 ∧ Hid (vals pre ++ elems k = elems s) ∧ J pre wr ∧ Below n₀ W wr) (fun r _ => (intOf r).toNat)
  case atStart => exact ⟨s, [], rfl, hs, Lib.hid rfl, hJ0, Below.refl _ _⟩
  case round =>
    obtain ⟨k, pre, rfl, hk, hp, hJ, hB⟩ := hrel
    by_cases h0k : 0 < k
    · obtain ⟨e1, e2, e3⟩ := elems_step k hk h0k
      have hmem : low k ∈ elems s := by
        rw [← hp.out, e1]
        simp
      have hp2 : vals (pre ++ [(⟨low k, hmem⟩ : El s)]) ++ elems (rest k) = elems s := by
        have h1 := hp.out
        rw [e1] at h1
        rw [vals_snoc, List.append_assoc]
        exact h1
      have HP2 := Lib.hid hp2
      have hlen : pre.length < 8 := by
        have h1 : (elems s).length ≤ 8 := List.length_filter_le _ _
        have h2 := congrArg List.length hp.out
        rw [e1] at h2
        simp [vals] at h2
        omega
      obtain ⟨fn, tmps, assign, body, hy, hR⟩ := hY pre ⟨low k, hmem⟩ wr hJ hlen
      dsimp only [enc1] at hy
      have E3 := Lib.hid e3
      have hk0 : ((k : Int) != 0) = true := by simp; omega
      have hT2 := hT1.keep hB h0
      clear e1 e3 hp2 hp hlen
      gi_wp2_with (gi_at_call 77; refine (tz_any F _ hz hro k h0k hk _ hT2).mono ?_; rintro e w' ⟨rfl, rfl⟩)
      refine hR.mono ?_
      rintro e W3 (⟨rfl, hJ3, hk3⟩ | ⟨rfl, hJx3⟩)
      · gi_wp2
        go_roundw
        case rel => exact ⟨rest k, pre ++ [⟨low k, hmem⟩], congrArg (Value.int .u16) E3.out, by omega, HP2, hJ3, hB.trans hk3⟩
        case measure => rw [E3.out]; simp [intOf]; omega
      · gi_wp2
        refine bodyPost_ret (results_none rfl _ _ _) rfl ?_
        exact ⟨⟨_, rfl⟩, .inr ⟨_, ⟨elems (rest k), HP2.out⟩, hJx3⟩⟩
    · obtain rfl : k = 0 := by omega
      gi_wp2
      go_end0
      exact ⟨⟨_, rfl⟩, .inl ⟨_, by have := hp.out; rw [elems_zero, List.append_nil] at this; exact this, hJ⟩⟩

set_option maxHeartbeats 1000000 in
/-- The iterator's maker: the set is boxed. -/
theorem all_any (F : Fence) (n : Nat) (h : F.fn 63) (hro : F.round = none) (s : Int) (w : World) : CallsIn F n Tryd.prog 63 #[.int .u16 s] w fun e w' => e = .returned (.func (.func 76) #[] #[.pointer (some ⟨w.heap.size, 0, none⟩)]) ∧ w' = w.alloc (.cells #[.int .u16 s] 57) := by
  refine callsIn_of_wp Tryd.func63 rfl h ?_ hro
  simp only [Tryd.ntmps63, List.size_toArray, List.length_cons, List.length_nil, Nat.reduceAdd, Nat.reduceSub, Array.replicate_succ, Array.replicate_zero, List.push_toArray, List.append_toArray, List.nil_append, List.cons_append]
  gi_wp2
  go_ret
  exact ⟨rfl, rfl⟩
end Go.Proofs.YtokikapljmakbaaDoor.H

namespace Go.Proofs.YtokikapljmakbaaDoor.H
open Go.RowKit
set_option linter.unusedVariables false

theorem wpOpIn_of_wpOp {P : Program} {ops : Array Oper} {Q : Exit → Act → World → Prop} (l m : Nat) (hQ : ¬ LetsOut Q) (hd : ∀ (i : Nat) (o : Oper), ops[i]? = some o → ∀ c, o.op ≠ .defer c) {K K' : Act → World → Prop} (hK : ∀ a w, K a w → K' a w) {i : Nat} {a : Act} {w : World}
    (h : wpOp P ops Q i K a w) : wpOpIn (Fence.wide.inRound l) m P ops Q i K' a w := by
  unfold wpOp at h
  unfold wpOpIn
  cases ho : ops[i]? with
  | none => rw [ho] at h; exact hK _ _ h
  | some o =>
    rw [ho] at h
    simp only at h ⊢
    split
    · rename_i hw
      rw [if_pos hw] at h
      rcases h with h | ⟨_, h⟩
      · unfold Oper.wpIn
        refine ⟨fun _ _ => trivial, ?_⟩
        rw [Oper.semAt_plain _ _ _ (hd i o ho)]
        unfold Oper.wp at h
        generalize (execOp a.eval o).run P w = r at h
        cases r with
        | ok n w' =>
          cases n with
          | value v => exact hK _ _ h
          | skip => exact hK _ _ h
          | defer d => exact hK _ _ h
          | enter f args =>
            refine ⟨fun hh => by simp [Fence.wide] at hh, ?_⟩
            refine CallsIn.inRound l ((callsIn_wide.2 h).mono ?_)
            intro e w'' hh
            cases e with
            | returned v => exact hK _ _ hh
            | panicked c => exact hh
            | outgrown => exact hh
          | row row args =>
            refine ⟨fun hh => by simp [Fence.wide] at hh, fun c cs _ => ?_⟩
            obtain ⟨v, w'', hr, hs⟩ := h c cs
            exact ⟨v, w'', hK _ _ hr, stepsIn_wide.2 hs⟩
          | _ => exact h.elim
        | halt x w' => cases x <;> exact h
      · exact absurd h hQ
    · rename_i hw
      rw [if_neg hw] at h
      exact ⟨fun _ _ => trivial, hK _ _ h⟩
theorem wpAnyIn_of_wpAny {P : Program} {ops : Array Oper} {Q : Exit → Act → World → Prop} (l m : Nat) (hQ : ¬ LetsOut Q) (hd : ∀ (i : Nat) (o : Oper), ops[i]? = some o → ∀ c, o.op ≠ .defer c) (md : Region.Mode) : ∀ (fuel : Nat) (listed : Array Bool) (a : Act) (w : World),
    wpAny P md ops Q fuel listed a w → wpAnyIn (Fence.wide.inRound l) m P md ops Q fuel listed a w
  | 0, _, _, _, h => h
  | fuel + 1, listed, a, w, h => ⟨h.1, fun i hi => wpOpIn_of_wpOp l m hQ hd (fun a w => wpAnyIn_of_wpAny l m hQ hd md fuel _ a w) (h.2 i hi)⟩
def noDefers (ol : List Oper) : Bool := ol.all fun o => match o.op with
  | .defer _ => false
  | _ => true
theorem noDefers_spec {ol : List Oper} (h : noDefers ol = true) : ∀ o : Oper, o ∈ ol → ∀ c, o.op ≠ .defer c := by
  intro o ho c e
  have := List.all_eq_true.1 h o ho
  rw [e] at this
  cases this
/-- As the plain law for such a region, in a round. -/
theorem wpIn_round_still {P : Program} {id : Nat} {Q : Exit → Act → World → Prop} {a : Act} {w : World} {ol : List Oper} (l m : Nat) (hQ : ¬ LetsOut Q) (hd : noDefers ol = true) (n : Nat) (hm : P.follows .mixedOrders = true) (hB : Region.lexTailB .any ol.toArray n = true)
    (h : wpStill P ol.toArray w.drew (fun a' => wpList P ol.toArray Q (ol.drop n) a' w.drew) (ol.take n) a) : (Code.region id ol.toArray true).wpIn (Fence.wide.inRound l) m P Q a w := by
  simp only [Region.lexTailB, Bool.and_eq_true, decide_eq_true_eq] at hB
  obtain ⟨⟨⟨⟨hsel, hn⟩, hs⟩, hc⟩, hlex⟩ := hB
  have hn' : n < ol.length := by simpa using hn
  have ht : (ol.take n).length = n := by rw [List.length_take]; omega
  have hdr : (ol.drop n).length = ol.toArray.size - n := by simp
  have inv : HeadInv .any ol.toArray n (Array.replicate ol.toArray.size false) :=
    ⟨by simp, fun j oj _ hj => absurd hj (by rw [getD_replicate_false]; exact Bool.false_ne_true), fun t _ hl => getD_in (by simpa using hl) (getD_replicate_false _ _)⟩
  have head := wpAnyL_lex (md := .any) (g := ol.toArray.size - n) hsel hs hc hn (ol.take n) 0 _ a (fun j hj => by
    rw [ht] at hj
    simp [hj]) (by rw [ht]; omega) inv (by rw [ht]; exact hlex) h
  have whole := wpAny_of_head (Q' := Q) (g := ol.toArray.size - n) (fun listed a' hL => by
    have step := wpAny_of_seq (md := .any) (Q' := Q) (ol.drop n) n listed a' w.drew (fun j => by simp [List.getElem?_drop]) (by rw [hdr]; exact hL.1) hL.2
    rwa [hdr] at step) _ _ _ head
  rw [ht, show n + (ol.toArray.size - n) = ol.toArray.size by omega] at whole
  refine wpIn_region_any hm (wpAnyIn_of_wpAny l m hQ (fun i o ho => noDefers_spec hd o ?_) .any _ _ _ _ whole)
  exact List.mem_of_getElem? (by simpa using ho)
/-- A region that is shown not to panic. -/
def calm (K : Act → World → Prop) : Exit → Act → World → Prop
  | .normal, a, w => K a w
  | _, _, _ => False
theorem wpIn_calm {F : Fence} {n : Nat} {P : Program} {c : Code} {K : Act → World → Prop} {Q : Exit → Act → World → Prop} {a : Act} {w : World} (h : c.wpIn F n P (calm K) a w) : c.wpIn F n P (Exit.then K Q) a w :=
  wpIn_mono h (fun e a w h => by cases e <;> first | exact h | exact h.elim)
theorem calm_lets (K : Act → World → Prop) : ¬ LetsOut (calm K) := fun ⟨_, _, h⟩ => h
end Go.Proofs.YtokikapljmakbaaDoor.H
