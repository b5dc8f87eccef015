/- A region that draws its order and ends in a store, inside a round of a range over a function, at the widest fence. -/
import Derived.StillTail
import Derived.StillTailTactics
import Derived.OrdersIn
import Derived.OwnWalkIn
import Derived.RangeFuncCalls
import Derived.Fence
namespace Go.Proofs.YtegogaokcafpjaaDoor.H
open Go.RowKit
set_option linter.unusedVariables false

theorem wpOpIn_of_wpOp {P : Program} {ops : Array Oper} {Q : Exit → Act → World → Prop} (l m : Nat) (hQ : ¬ LetsOut Q) (hd : ∀ (i : Nat) (o : Oper), ops[i]? = some o → ∀ c, o.op ≠ .defer c) {K K' : Act → World → Prop} (hK : ∀ a w, K a w → K' a w) {i : Nat} {a : Act} {w : World}
    (h : wpOp P ops Q i K a w) : wpOpIn (Fence.wide.inRound l) m P ops Q i K' a w := by
  unfold wpOp at h
  unfold wpOpIn
  cases ho : ops[i]? with
  | none => rw [ho] at h; exact hK _ _ h
  | some o =>
    rw [ho] at h
    simp only at h ⊢
    split
    · rename_i hw
      rw [if_pos hw] at h
      rcases h with h | ⟨_, h⟩
      · unfold Oper.wpIn
        refine ⟨fun _ _ => trivial, ?_⟩
        rw [Oper.semAt_plain _ _ _ (hd i o ho)]
        unfold Oper.wp at h
        generalize (execOp a.eval o).run P w = r at h
        cases r with
        | ok n w' =>
          cases n with
          | value v => exact hK _ _ h
          | skip => exact hK _ _ h
          | defer d => exact hK _ _ h
          | enter f args =>
            refine ⟨fun hh => by simp [Fence.wide] at hh, ?_⟩
            refine CallsIn.inRound l ((callsIn_wide.2 h).mono ?_)
            intro e w'' hh
            cases e with
            | returned v => exact hK _ _ hh
            | panicked c => exact hh
            | outgrown => exact hh
          | row row args =>
            refine ⟨fun hh => by simp [Fence.wide] at hh, fun c cs _ => ?_⟩
            obtain ⟨v, w'', hr, hs⟩ := h c cs
            exact ⟨v, w'', hK _ _ hr, stepsIn_wide.2 hs⟩
          | _ => exact h.elim
        | halt x w' => cases x <;> exact h
      · exact absurd h hQ
    · rename_i hw
      rw [if_neg hw] at h
      exact ⟨fun _ _ => trivial, hK _ _ h⟩
theorem wpAnyIn_of_wpAny {P : Program} {ops : Array Oper} {Q : Exit → Act → World → Prop} (l m : Nat) (hQ : ¬ LetsOut Q) (hd : ∀ (i : Nat) (o : Oper), ops[i]? = some o → ∀ c, o.op ≠ .defer c) (md : Region.Mode) : ∀ (fuel : Nat) (listed : Array Bool) (a : Act) (w : World),
    wpAny P md ops Q fuel listed a w → wpAnyIn (Fence.wide.inRound l) m P md ops Q fuel listed a w
  | 0, _, _, _, h => h
  | fuel + 1, listed, a, w, h => ⟨h.1, fun i hi => wpOpIn_of_wpOp l m hQ hd (fun a w => wpAnyIn_of_wpAny l m hQ hd md fuel _ a w) (h.2 i hi)⟩
def noDefers (ol : List Oper) : Bool := ol.all fun o => match o.op with
  | .defer _ => false
  | _ => true
theorem noDefers_spec {ol : List Oper} (h : noDefers ol = true) : ∀ o : Oper, o ∈ ol → ∀ c, o.op ≠ .defer c := by
  intro o ho c e
  have := List.all_eq_true.1 h o ho
  rw [e] at this
  cases this
/-- As the plain law for such a region, in a round. -/
theorem wpIn_round_still {P : Program} {id : Nat} {Q : Exit → Act → World → Prop} {a : Act} {w : World} {ol : List Oper} (l m : Nat) (hQ : ¬ LetsOut Q) (hd : noDefers ol = true) (n : Nat) (hm : P.follows .mixedOrders = true) (hB : Region.lexTailB .any ol.toArray n = true)
    (h : wpStill P ol.toArray w.drew (fun a' => wpList P ol.toArray Q (ol.drop n) a' w.drew) (ol.take n) a) : (Code.region id ol.toArray true).wpIn (Fence.wide.inRound l) m P Q a w := by
  simp only [Region.lexTailB, Bool.and_eq_true, decide_eq_true_eq] at hB
  obtain ⟨⟨⟨⟨hsel, hn⟩, hs⟩, hc⟩, hlex⟩ := hB
  have hn' : n < ol.length := by simpa using hn
  have ht : (ol.take n).length = n := by rw [List.length_take]; omega
  have hdr : (ol.drop n).length = ol.toArray.size - n := by simp
  have inv : HeadInv .any ol.toArray n (Array.replicate ol.toArray.size false) :=
    ⟨by simp, fun j oj _ hj => absurd hj (by rw [getD_replicate_false]; exact Bool.false_ne_true), fun t _ hl => getD_in (by simpa using hl) (getD_replicate_false _ _)⟩
  have head := wpAnyL_lex (md := .any) (g := ol.toArray.size - n) hsel hs hc hn (ol.take n) 0 _ a (fun j hj => by
    rw [ht] at hj
    simp [hj]) (by rw [ht]; omega) inv (by rw [ht]; exact hlex) h
  have whole := wpAny_of_head (Q' := Q) (g := ol.toArray.size - n) (fun listed a' hL => by
    have step := wpAny_of_seq (md := .any) (Q' := Q) (ol.drop n) n listed a' w.drew (fun j => by simp [List.getElem?_drop]) (by rw [hdr]; exact hL.1) hL.2
    rwa [hdr] at step) _ _ _ head
  rw [ht, show n + (ol.toArray.size - n) = ol.toArray.size by omega] at whole
  refine wpIn_region_any hm (wpAnyIn_of_wpAny l m hQ (fun i o ho => noDefers_spec hd o ?_) .any _ _ _ _ whole)
  exact List.mem_of_getElem? (by simpa using ho)
/-- A region that is shown not to panic. -/
def calm (K : Act → World → Prop) : Exit → Act → World → Prop
  | .normal, a, w => K a w
  | _, _, _ => False
theorem wpIn_calm {F : Fence} {n : Nat} {P : Program} {c : Code} {K : Act → World → Prop} {Q : Exit → Act → World → Prop} {a : Act} {w : World} (h : c.wpIn F n P (calm K) a w) : c.wpIn F n P (Exit.then K Q) a w :=
  wpIn_mono h (fun e a w h => by cases e <;> first | exact h | exact h.elim)
theorem calm_lets (K : Act → World → Prop) : ¬ LetsOut (calm K) := fun ⟨_, _, h⟩ => h
end Go.Proofs.YtegogaokcafpjaaDoor.H
