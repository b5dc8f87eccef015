/- What the law's own helpers answer: the copy of a graph, its size, whether two graphs are equal; plain Lean. -/
import Derived.Test.YtokikapljmakbaaDoorPA
import Derived.Test.YtokikapljmakbaaDoorQx19
import Derived.Test.YtokikapljmakbaaDoorQx20
import Derived.Test.YtokikapljmakbaaDoorHT
namespace Go.Proofs.YtokikapljmakbaaDoor.H
open Go.RowKit Go.Proofs.YtokikapljmakbaaDoorW.PrintWords Go.Proofs.YtokikapljmakbaaDoor.Q

def ofT (x : S64) : S29 := ⟨x.f0, x.f1, x.f2, x.f3⟩
def conv (l : List S64) : List S29 := l.map ofT
/-- The law looks at it: it is not too large. -/
def Small (l : List S64) : Prop := l.length ≤ 1048576 ∧ ∀ t, t ∈ l → t.f1.length ≤ 1048576
theorem rd_law (g : List S64) (i : Nat) (h : i < g.length) : rd_T64 g i = g[i] := by
  unfold rd_T64
  rw [Int.toNat_natCast, List.getD_eq_getElem?_getD, List.getElem?_eq_getElem h]
  rfl
theorem szIntS_is (l : List Int) (hl : Held l) (a : Int) (h0 : 0 ≤ a) (h1 : a ≤ 1048576) : laws_szIntS.f l a = some (if a - l.length < 0 then -1 else a - l.length) := by
  unfold Held at hl
  unfold laws_szIntS.f
  rw [w64 _ (by omega) (by omega)]
  split <;> rfl
theorem szTask_is (x : S64) (hl : Held x.f1) (a : Int) (h0 : 0 ≤ a) (h1 : a ≤ 1048576) : laws_szTask.f x.f0 x.f1 x.f2 x.f3 a = some (if a - x.f1.length < 0 then -1 else a - x.f1.length) := by
  unfold laws_szTask.f
  rw [szIntS_is x.f1 hl a h0 h1, Option.bind_some]
  by_cases h : a - x.f1.length < 0
  · rw [if_pos h, if_pos (by omega)]
  · rw [if_neg h, if_neg (by omega)]
theorem szTaskS_l0 (l : List S64) (hl : Held l) (ht : ∀ t, t ∈ l → Held t.f1) : ∀ (d i : Nat) (a : Int), i + d = l.length → 0 ≤ a → a ≤ 1048576 →
    ∃ r, Evn (fun k => laws_szTaskS.l0 k l a (i : Int)) r ∧ (0 ≤ r → ∀ j (hj : j < l.length), i ≤ j → l[j].f1.length ≤ 1048576)
  | 0, i, a, h, _, _ => by
    refine ⟨a, Evn.step (Evn.const rfl) fun k => ?_, fun _ j hj hij => by omega⟩
    simp only [laws_szTaskS.l0]
    rw [if_neg (by omega)]
  | d + 1, i, a, h, h0, h1 => by
    have hi : i < l.length := by omega
    have hx := szTask_is l[i] (ht _ (List.getElem_mem hi)) a h0 h1
    have hstep : ∀ k, laws_szTaskS.l0 (k + 1) l a (i : Int) = if a - l[i].f1.length < 0 then some (-1) else laws_szTaskS.l0 k l (a - l[i].f1.length) ((i + 1 : Nat) : Int) := fun k => by
      simp only [laws_szTaskS.l0]
      rw [if_pos (by omega), if_pos (by omega), rd_law l i hi, hx, Option.bind_some, wrap_up i (by unfold Held at hl; omega)]
      by_cases hc : a - l[i].f1.length < 0
      · rw [if_pos hc, if_pos hc, if_pos (by omega)]
      · rw [if_neg hc, if_neg hc]
    by_cases hc : a - l[i].f1.length < 0
    · exact ⟨-1, Evn.step (Evn.const rfl) fun k => by rw [hstep, if_pos hc], fun h => by omega⟩
    · obtain ⟨r, hr, hb⟩ := szTaskS_l0 l hl ht d (i + 1) (a - l[i].f1.length) (by omega) (by omega) (by omega)
      refine ⟨r, Evn.step hr fun k => by rw [hstep, if_neg hc], fun h j hj hij => ?_⟩
      rcases Nat.lt_or_ge i j with h2 | h2
      · exact hb h j hj h2
      · obtain rfl : i = j := by omega
        omega
/-- Too large, or small. -/
theorem szTaskS_is (l : List S64) (hl : Held l) (ht : ∀ t, t ∈ l → Held t.f1) : ∃ r, Evn (fun k => laws_szTaskS.f k l 1048576) r ∧ (0 ≤ r → Small l) := by
  have e : wrap64 (1048576 - (l.length : Int)) = 1048576 - (l.length : Int) := by
    unfold Held at hl
    exact w64 _ (by omega) (by omega)
  unfold laws_szTaskS.f
  rw [e]
  by_cases hc : 1048576 - (l.length : Int) < 0
  · simp only [if_pos hc]
    exact ⟨-1, Evn.const rfl, fun h => by omega⟩
  · simp only [if_neg hc]
    obtain ⟨r, hr, hb⟩ := szTaskS_l0 l hl ht l.length 0 (1048576 - (l.length : Int)) (by omega) (by omega) (by omega)
    refine ⟨r, hr, fun h => ⟨by omega, fun t hm => ?_⟩⟩
    obtain ⟨j, hj, rfl⟩ := List.getElem_of_mem hm
    exact hb h j hj (by omega)
theorem set_next {α : Type} (a : List α) (b : List α) (i : Nat) (hb : b.length = a.length) (hi : i < a.length) (h : b.take i = a.take i) : (b.set i a[i]).take (i + 1) = a.take (i + 1) := by
  rw [List.take_succ_eq_append_getElem (by rw [List.length_set]; omega), List.take_set_of_le (Nat.le_refl _), List.getElem_set_self, h, ← List.take_succ_eq_append_getElem hi]
theorem toIntS_l0 (l : List Int) (hl : Held l) : ∀ (d i : Nat) (x : List Int), i + d = l.length → x.length = l.length → x.take i = l.take i → Evn (fun k => laws_toIntS.l0 k l x (i : Int)) l
  | 0, i, x, h, hx, ht => by
    refine Evn.step (Evn.const rfl) fun k => ?_
    simp only [laws_toIntS.l0]
    rw [if_neg (by omega)]
    rw [List.take_of_length_le (by omega), List.take_of_length_le (by omega)] at ht
    rw [ht]
  | d + 1, i, x, h, hx, ht => by
    have hi : i < l.length := by omega
    refine Evn.step (toIntS_l0 l hl d (i + 1) (x.set i l[i]) (by omega) (by rw [List.length_set]; exact hx) (set_next l x i hx hi ht)) fun k => ?_
    simp only [laws_toIntS.l0]
    rw [if_pos (by omega), if_pos (by omega), if_pos (by omega), rd_get l i hi, Int.toNat_natCast, wrap_up i (by unfold Held at hl; omega)]
theorem toIntS_is (l : List Int) (hl : l.length ≤ 1048576) : Evn (fun k => laws_toIntS.f k l) l := by
  unfold laws_toIntS.f
  exact Evn.congr (toIntS_l0 l (by unfold Held; omega) l.length 0 _ (by omega) (List.length_replicate ..) rfl) fun k => by rw [if_pos (by omega), Int.toNat_natCast, if_pos (by omega)]; rfl
theorem toTaskS_l0 (l : List S64) (hs : Small l) : ∀ (d i : Nat) (x : List S29), i + d = l.length → x.length = l.length → x.take i = (conv l).take i → Evn (fun k => laws_toTaskS.l0 k l x (i : Int)) (conv l)
  | 0, i, x, h, hx, ht => by
    have hc : (conv l).length = l.length := List.length_map ..
    refine Evn.step (Evn.const rfl) fun k => ?_
    simp only [laws_toTaskS.l0]
    rw [if_neg (by omega)]
    rw [List.take_of_length_le (by omega), List.take_of_length_le (by omega)] at ht
    rw [ht]
  | d + 1, i, x, h, hx, ht => by
    have hc : (conv l).length = l.length := List.length_map ..
    have hi : i < l.length := by omega
    have hg : (conv l)[i]'(by omega) = ofT l[i] := List.getElem_map ..
    have hnext := toTaskS_l0 l hs d (i + 1) (x.set i ((conv l)[i]'(by omega))) (by omega) (by rw [List.length_set]; exact hx) (set_next (conv l) x i (by omega) (by omega) ht)
    have hsm := hs.1
    refine Evn.step (g := fun k => (laws_toTask.f k l[i].f0 l[i].f1 l[i].f2 l[i].f3).bind fun b => laws_toTaskS.l0 k l (x.set i ⟨b.1, b.2.1, b.2.2.1, b.2.2.2⟩) ((i + 1 : Nat) : Int)) ?_ fun k => ?_
    · refine Evn.bind (a := (l[i].f0, l[i].f1, l[i].f2, l[i].f3)) ?_ ?_
      · unfold laws_toTask.f
        exact Evn.bind (toIntS_is l[i].f1 (hs.2 _ (List.getElem_mem hi))) (Evn.const rfl)
      · rw [hg] at hnext
        exact hnext
    · simp only [laws_toTaskS.l0]
      rw [if_pos (by omega), if_pos (by omega), rd_law l i hi, wrap_up i (by omega)]
      congr 1
      funext b
      rw [if_pos (by omega), Int.toNat_natCast]
theorem toTaskS_is (l : List S64) (hs : Small l) : Evn (fun k => laws_toTaskS.f k l) (conv l) := by
  have := hs.1
  unfold laws_toTaskS.f
  exact Evn.congr (toTaskS_l0 l hs l.length 0 _ (by omega) (List.length_replicate ..) rfl) fun k => by rw [if_pos (by omega), Int.toNat_natCast, if_pos (by omega)]; rfl
theorem eqIntS_same (l : List Int) (hl : Held l) : Evn (fun k => laws_eqIntS.f k l l) true := by
  have h := Evn.every l.length hl (fun k i => laws_eqIntS.l0 k l l i) (fun _ => true) true false
    (Evn.step (Evn.const rfl) fun k => by
      simp only [laws_eqIntS.l0]
      rw [if_neg (by omega)])
    (lo := 0) (fun i _ hi r hy hn => by
      refine Evn.step (g := fun k => laws_eqIntS.l0 k l l ((i + 1 : Nat) : Int)) (hy rfl) fun k => ?_
      simp only [laws_eqIntS.l0]
      rw [if_pos (by omega), if_pos (by omega), if_pos (by omega), if_pos trivial, wrap_up i (by unfold Held at hl; omega)])
    l.length 0 (Nat.le_refl _) (by omega)
  unfold laws_eqIntS.f
  refine Evn.congr (h.cast ?_) (fun k => if_pos rfl)
  rw [show (List.range' 0 l.length).all (fun _ => true) = true by simp]
  rfl
theorem eqTask_same (t : S29) (ht : Held t.f1) : Evn (fun k => laws_eqTask.f k t.f0 t.f1 t.f2 t.f3 t.f0 t.f1 t.f2 t.f3) true := by
  unfold laws_eqTask.f
  refine Evn.congr (Evn.bind (g := fun _ b => if b = true then some true else some false) (eqIntS_same t.f1 ht) (Evn.const rfl)) fun k => ?_
  simp
theorem eqTaskS_same (l : List S29) (hl : Held l) (ht : ∀ t, t ∈ l → Held t.f1) : Evn (fun k => laws_eqTaskS.f k l l) true := by
  have h := Evn.every l.length hl (fun k i => laws_eqTaskS.l0 k l l i) (fun _ => true) true false
    (Evn.step (Evn.const rfl) fun k => by
      simp only [laws_eqTaskS.l0]
      rw [if_neg (by omega)])
    (lo := 0) (fun i _ hi r hy hn => by
      refine Evn.step (g := fun k => (laws_eqTask.f k (rd_T29 l i).f0 (rd_T29 l i).f1 (rd_T29 l i).f2 (rd_T29 l i).f3 (rd_T29 l i).f0 (rd_T29 l i).f1 (rd_T29 l i).f2 (rd_T29 l i).f3).bind fun b => if b = true then laws_eqTaskS.l0 k l l ((i + 1 : Nat) : Int) else some false) ?_ fun k => ?_
      · exact Evn.bind (eqTask_same _ (ht _ (by rw [rd_task l i hi]; exact List.getElem_mem _))) (hy rfl)
      · simp only [laws_eqTaskS.l0]
        rw [if_pos (by omega), if_pos (by omega), if_pos (by omega), wrap_up i (by unfold Held at hl; omega)])
    l.length 0 (Nat.le_refl _) (by omega)
  unfold laws_eqTaskS.f
  refine Evn.congr (h.cast ?_) (fun k => if_pos rfl)
  rw [show (List.range' 0 l.length).all (fun _ => true) = true by simp]
  rfl
theorem conv_held {l : List S64} (h : Small l) : Held (conv l) ∧ (∀ t, t ∈ conv l → Held t.f1) ∧ (∀ t, t ∈ conv l → t.f1.length ≤ 281474976710656) := by
  have := h.1
  refine ⟨by unfold Held conv; rw [List.length_map]; omega, fun t ht => ?_, fun t ht => ?_⟩ <;>
  · obtain ⟨x, hx, rfl⟩ := List.mem_map.1 ht
    have := h.2 x hx
    show x.f1.length ≤ _
    omega
theorem tasks_bound {w : World} {A : Option Addr} {l : List S64} (h : k64.C w A l.length l) : Held l ∧ ∀ t, t ∈ l → Held t.f1 := by
  refine ⟨h.2.1, fun t ht => ?_⟩
  obtain ⟨j, hj, rfl⟩ := List.getElem_of_mem ht
  obtain ⟨ad, _, hc⟩ := h.2.2 (by omega)
  obtain ⟨c, _, hk, _⟩ := hc j _ (List.getElem?_eq_getElem hj)
  obtain ⟨A1, c1, _, _, hC⟩ := k64_open hk
  exact hC.2.1
end Go.Proofs.YtokikapljmakbaaDoor.H
