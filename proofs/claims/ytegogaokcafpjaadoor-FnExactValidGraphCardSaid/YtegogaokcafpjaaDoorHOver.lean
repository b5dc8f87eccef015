/- A loop over a set's numbers: one law for the widest fence; what the body owes is told in its hypothesis. -/
import Derived.RangeFuncWrites
import Derived.Test.YtegogaokcafpjaaDoorHTab
import Derived.Test.YtegogaokcafpjaaDoorHRound
namespace Go.Proofs.YtegogaokcafpjaaDoor.H
open Go.RowKit Go.Shelf
set_option linter.unusedSimpArgs false
set_option linter.unusedVariables false

theorem wpIn_block_calm {F : Fence} {n : Nat} {P : Program} {id : Nat} {c : Code} {K : Act → World → Prop} {a : Act} {w : World} (h : c.wpIn F n P (calm K) a w) : (Code.block id c).wpIn F n P (calm K) a w :=
  wpIn_block (wpIn_mono h (fun e a w h => by cases e <;> first | exact h | exact h.elim))

theorem over_set (n : Nat) {s : Nat} (hs : s < 256) {g : Operand} {p q id : Nat} {ty : TypeId} {ps : String} {body : Code} {Q : Exit → Act → World → Prop} {a : Act} {w : World} {Bs n₀ : Nat}
    (hg : a.eval g = .func (.func 70) #[] #[.pointer (some ⟨Bs, 0, none⟩)]) (hp : p < a.tmps.size) (hc : w.cell? ⟨Bs, 0, none⟩ = some (.int .u16 s)) (hT : Tab w) (hn₀ : n₀ ≤ w.heap.size) (h0 : 0 < n₀)
    (I : List Nat → World → Prop) (hI : OwnFrom w.heap.size I) (hstart : I [] w)
    (hbody : ∀ (l : Nat) (pre : List Nat) (x : Nat) (W : World), I pre W → x ∈ elems s → (∀ y, y ∈ pre → y ∈ elems s) → body.wpIn (Fence.wide.inRound l) 8 Tryd.prog (calm (fun _ W' => KeepsFrom w.heap.size W W' ∧ Below n₀ W W' ∧ I (pre ++ [x]) W')) { tmps := (a.tmps.setIfInBounds p (.int .i64 (x : Int))).setIfInBounds q (.int .i64 (x : Int)), defers := [] } W)
    (hdone : ∀ (D : Nat) (W : World), w.heap.size ≤ D → I (elems s) W → W.heap[D]? = some (.deferred (some [])) → Q .normal { a with defers := { target := .collected D, args := #[] } :: a.defers } W) :
    (Code.rangeFunc g #[p] (Code.region id #[{ dst := some q, op := .assign (.tmp p), type := ty, pos := ps, after := #[], guard := none }] false) body).wpIn Fence.wide 10 Tryd.prog Q a w := by
  refine wpIn_rangeFunc_ownG rfl (by omega) (gf := 70) (lb := #[.pointer (some ⟨Bs, 0, none⟩)]) hg trivial (enters_of Tryd.func70 (by kernel_rfl) rfl)
    (all_stops Fence.wide 9 trivial trivial rfl (by omega) Bs n₀ s hs w (World.block_lt_of_cell? w _ hc) hn₀ hT h0 hc) belowK_t (belowK_b hn₀) (Below.refl _ _) (fun _ => rfl)
    (fun (pre : List (El s)) W => I (vals pre) W) (fun _ _ _ => False) (fun pre W W' row h1 h2 h3 => hI _ W W' row h1 h2 h3) (fun _ _ _ _ _ h _ _ => h) hstart
    (fun (x : El s) => { tmps := (a.tmps.setIfInBounds p (.int .i64 (x.1 : Int))).setIfInBounds q (.int .i64 (x.1 : Int)), defers := [] }) ?assign ?body ?done ?stop
  case assign =>
    intro l x W K hK
    have ef : ((#[p].zip (enc1 x)).foldl (fun t (p, v) => t.setIfInBounds p v) a.tmps) = a.tmps.setIfInBounds p (.int .i64 (x.1 : Int)) := by simp [enc1]
    rw [ef]
    refine wpIn_region_lit (l := [_]) (wpListIn_plain rfl fun K' hK' => ?_)
    unfold Oper.wpIn
    refine ⟨fun _ _ => trivial, ?_⟩
    rw [Oper.semAt_plain _ _ _ (by intro c h; cases h)]
    have hev : ((a.tmps.setIfInBounds p (Value.int .i64 (x.1 : Int))).getD p undef) = .int .i64 (x.1 : Int) := by
      simp [Array.getD_eq_getD_getElem?, Array.getElem?_setIfInBounds, hp]
    have hr : (execOp (Act.eval { tmps := a.tmps.setIfInBounds p (Value.int .i64 (x.1 : Int)), defers := [] }) { dst := some q, op := .assign (.tmp p), type := ty, pos := ps, after := #[], guard := none }).run Tryd.prog W = .ok (.value (.int .i64 (x.1 : Int))) W := by
      have he : Act.eval { tmps := a.tmps.setIfInBounds p (Value.int .i64 (x.1 : Int)), defers := [] } (.tmp p) = .int .i64 (x.1 : Int) := hev
      simp [execOp, he]
    rw [hr]
    exact hK' _ _ (wpListIn_nil hK)
  case body =>
    intro l pre x W hI hlt
    refine wpIn_mono (hbody l (vals pre) x.1 W hI x.2 (fun y hy => by
      obtain ⟨z, _, rfl⟩ := List.mem_map.1 hy
      exact z.2)) ?_
    intro e a' W' h
    rw [← vals_snoc] at h
    cases e <;> first | exact h | exact h.elim
  case done =>
    intro D ys W hD hys hI hK
    refine hdone D W hD ?_ hK
    rw [← hys]
    exact hI
  case stop =>
    intro D c pre W _ _ h _
    exact h.elim
end Go.Proofs.YtegogaokcafpjaaDoor.H
