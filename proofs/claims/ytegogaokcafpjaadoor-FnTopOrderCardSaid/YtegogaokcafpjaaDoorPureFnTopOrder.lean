/- The pure statement of FnTopOrder: each task of a valid graph comes behind its needs, once. -/
import Derived.Test.YtegogaokcafpjaaDoorPureTopLaw
import Derived.Test.YtegogaokcafpjaaDoorQx23
namespace Go.Proofs.YtegogaokcafpjaaDoor.Pure
open Go.RowKit Go.Proofs.YtegogaokcafpjaaDoor.Q Go.Proofs.YtegogaokcafpjaaDoor.H Go.Proofs.YtegogaokcafpjaaDoorW.PrintWords

theorem top_l1 (g : List S33) (l : List Nat) (hl : l.length ≤ 8) (j : Nat) (hj : j < l.length) (f : List Int) (hf : f.length ≤ 100) (hb : ∀ x, x ∈ f → x ∈ ints (l.take j)) (hN : Evn (fun k => laws_FnTopOrder.l0 k g (ints l) ((j + 1 : Nat) : Int)) true) :
    ∀ d i : Nat, i + d = f.length → Evn (fun k => laws_FnTopOrder.l1 k g (ints l) (j : Int) f (i : Int)) true
  | 0, i, h => by
    refine Evn.step hN fun k => ?_
    simp only [laws_FnTopOrder.l1]
    rw [if_neg (by omega), wrap_up j (by omega)]
  | d + 1, i, h => by
    refine Evn.step (g := fun k => (laws_isIn.f k (ints (l.take j)) (rd f i)).bind fun b => if b = true then laws_FnTopOrder.l1 k g (ints l) (j : Int) f ((i + 1 : Nat) : Int) else some false) ?_ fun k => ?_
    · refine Evn.bind (lawIn_is _ (by unfold Held; rw [ints_len, List.length_take]; omega) _) ?_
      rw [decide_eq_true (hb (rd f i) (by rw [rd_get f i (by omega)]; exact List.getElem_mem _))]
      simp only [if_true]
      exact top_l1 g l hl j hj f hf hb hN d (i + 1) (by omega)
    · simp only [laws_FnTopOrder.l1]
      rw [if_pos (by omega), if_pos (by omega), if_pos (by rw [ints_len]; omega), if_pos (by omega), wrap_up i (by omega), Int.toNat_natCast, ints_take]
theorem FnTopOrder : laws_FnTopOrder.Pure := by
  intro l0 _ _ hw
  refine Evn.at_ (f := fun k => laws_FnTopOrder.f k l0) ?_
  unfold laws_FnTopOrder.f
  by_cases hl : (l0.length : Int) > 1048576
  · simp only [if_pos hl]
    exact Evn.const rfl
  simp only [if_neg hl]
  obtain ⟨g, hg, hf⟩ := drawTop_y l0 hw
  obtain ⟨h1, h2, h3⟩ := few_held hf (by omega) (by omega)
  refine Evn.bind hg (Evn.bind (Evn.const (implTop_is h1)) (Evn.bind (specTop_is g h2 h3) (Evn.bind (equalInts_same _ (topOrder_held g)) ?_)))
  simp only [if_true]
  refine Evn.bind (Evn.const (implValid_is h1)) ?_
  cases hv : valid g with
  | false =>
    refine Evn.step (g := fun k => (spec_TopOrder.f k g).bind fun a => (laws_equalInts.f k (topOrder g) a).bind fun b => some b) ?_ fun k => ?_
    · exact Evn.bind (specTop_is g h2 h3) (Evn.bind (equalInts_same _ (topOrder_held g)) (Evn.const rfl))
    · simp only [laws_FnTopOrder.j0]
      rfl
  | true =>
    have hfine := valid_fine hv
    have h8 := fine_len hfine
    have ho := order_facts hfine
    have hlen := valid_all hv
    have e : topOrder g = ints (order (needs g)).1 := if_pos hv
    rw [e]
    refine Evn.step (g := fun k => laws_FnTopOrder.l0 k g (ints (order (needs g)).1) 0) ?_ fun k => ?_
    · refine goes_all (order (needs g)).1.length (fun k i => laws_FnTopOrder.l0 k g (ints (order (needs g)).1) i) true 0 ?_ ?_ (order (needs g)).1.length 0 (Nat.le_refl _) (by omega)
      · refine Evn.step (Evn.const rfl) fun k => ?_
        simp only [laws_FnTopOrder.l0]
        rw [if_neg (by rw [ints_len]; omega), ints_len, hlen]
        simp
      · intro j _ hj hN
        have hlt := ho.lt _ (List.getElem_mem hj)
        have hni := ho.notin j hj
        refine Evn.step (g := fun k => (laws_isIn.f k (ints ((order (needs g)).1.take j)) ((order (needs g)).1[j] : Int)).bind fun b => laws_FnTopOrder.j2 k g (ints (order (needs g)).1) (j : Int) b) ?_ fun k => ?_
        · refine Evn.bind (lawIn_is _ (by unfold Held; rw [ints_len, List.length_take]; omega) _) ?_
          rw [decide_eq_false (fun h => hni ((mem_ints _ _).1 h))]
          refine Evn.step (g := fun k => laws_FnTopOrder.l1 k g (ints (order (needs g)).1) (j : Int) (rd_T33 g (order (needs g)).1[j]).f1 0) ?_ fun k => ?_
          · exact top_l1 g _ (by omega) j hj _ (Nat.le_trans (hf.rd _ (by omega) (by omega)) (by omega)) (ho.behind j hj) hN _ 0 (Nat.zero_add _)
          · simp only [laws_FnTopOrder.j2]
            rw [if_neg (by simp), if_pos (by omega), if_pos (by rw [ints_len]; omega), rd_ints _ j hj, if_pos (by omega), if_pos (by omega)]
        · simp only [laws_FnTopOrder.l0]
          rw [if_pos (by rw [ints_len]; omega), if_pos (by omega), rd_ints _ j hj, if_neg (by omega), if_neg (by omega), if_pos (by rw [ints_len]; omega), Int.toNat_natCast, ints_take]
    · simp only [laws_FnTopOrder.j0]
      rw [if_neg (by simp)]
end Go.Proofs.YtegogaokcafpjaaDoor.Pure
