/- Heads and tails of tasks without rings, as numbers: the greatest sums along chains; plain Lean, without graph and program. What the program's loops over an order reckon: heads and tails; plain Lean, without graph and program. The tails as the reference reckons them, each out of its users; plain Lean, without graph and program. -/
import Derived.Test.YtokikapljmakbaaDoorWAll
import Derived.Test.YtokikapljmakbaaDoorHV
namespace Go.Proofs.YtokikapljmakbaaDoor.H
open Go.RowKit Go.Proofs.YtokikapljmakbaaDoorW.PrintWords Go.Proofs.YtokikapljmakbaaDoorW.PrintLast Go.Proofs.YtokikapljmakbaaDoorW.PrintMore
set_option linter.unusedVariables false

/-- Tasks 0..n-1, the needs of each, its time, and an order in which each comes behind its needs. -/
structure Dag (n : Nat) (N : Nat → List Nat) (tm : Nat → Int) (l : List Nat) : Prop where mk ::
  (nodup : l.Nodup) (mem : ∀ i, i ∈ l ↔ i < n) (back : ∀ p i q, l = p ++ i :: q → ∀ k, k ∈ N i → k ∈ p) (t0 : ∀ i, i < n → 1 ≤ tm i) (t1 : ∀ i, i < n → tm i ≤ 20)
section
variable {n : Nat} {N : Nat → List Nat} {tm : Nat → Int} {l : List Nat}
theorem Dag.need (d : Dag n N tm l) {i k : Nat} (hi : i < n) (hk : k ∈ N i) : k < n := by
  obtain ⟨p, q, e⟩ := List.append_of_mem ((d.mem i).2 hi)
  exact (d.mem k).1 (e ▸ List.mem_append_left _ (d.back p i q e k hk))
theorem Dag.up (d : Dag n N tm l) (P : Nat → Prop) (h : ∀ i, i < n → (∀ k, k ∈ N i → P k) → P i) : ∀ i, i < n → P i := by
  have go : ∀ (q p : List Nat), l = p ++ q → (∀ i, i ∈ p → P i) → ∀ i, i ∈ l → P i := by
    intro q
    induction q with
    | nil =>
      intro p e hp i hi
      rw [e, List.append_nil] at hi
      exact hp i hi
    | cons x q ih =>
      intro p e hp
      refine ih (p ++ [x]) (by rw [e, List.append_assoc]; rfl) (fun i hi => ?_)
      rcases List.mem_append.1 hi with hi | hi
      · exact hp i hi
      · rw [List.mem_singleton] at hi
        subst hi
        exact h i ((d.mem i).1 (by rw [e]; simp)) (fun k hk => hp k (d.back p i q e k hk))
  exact fun i hi => go l [] rfl (fun i hi => by cases hi) i ((d.mem i).2 hi)
theorem Dag.front (d : Dag n N tm l) {p q : List Nat} {i k : Nat} (e : l = p ++ i :: q) (hk : k < n) (hi : i ∈ N k) : k ∈ q := by
  have hm : k ∈ p ++ i :: q := e ▸ (d.mem k).2 hk
  have hnd := d.nodup
  rw [e, List.nodup_append] at hnd
  obtain ⟨_, h2, h3⟩ := hnd
  rw [List.nodup_cons] at h2
  rcases List.mem_append.1 hm with h | h
  · obtain ⟨a, b, e2⟩ := List.append_of_mem h
    have := d.back a k (b ++ i :: q) (by rw [e, e2, List.append_assoc]; rfl) i hi
    exact absurd rfl (h3 i (by rw [e2]; exact List.mem_append_left _ this) i List.mem_cons_self)
  · rcases List.mem_cons.1 h with rfl | h
    · exact absurd rfl (h3 _ (d.back p k q e k hi) k List.mem_cons_self)
    · exact h
theorem Dag.down (d : Dag n N tm l) (P : Nat → Prop) (h : ∀ i, i < n → (∀ k, k < n → i ∈ N k → P k) → P i) : ∀ i, i < n → P i := by
  have go : ∀ (r q : List Nat), l = r.reverse ++ q → (∀ i, i ∈ q → P i) → ∀ i, i ∈ l → P i := by
    intro r
    induction r with
    | nil =>
      intro q e hq i hi
      rw [e] at hi
      exact hq i (by simpa using hi)
    | cons x r ih =>
      intro q e hq
      have e2 : l = r.reverse ++ x :: q := by rw [e, List.reverse_cons, List.append_assoc]; rfl
      refine ih (x :: q) e2 (fun i hi => ?_)
      rcases List.mem_cons.1 hi with rfl | hi
      · exact h i ((d.mem i).1 (by rw [e2]; simp)) (fun k hk hik => hq k (d.front e2 hk hik))
      · exact hq i hi
  exact fun i hi => go l.reverse [] (by simp) (fun i hi => by cases hi) i ((d.mem i).2 hi)
theorem Dag.irrefl (d : Dag n N tm l) {i : Nat} (hi : i < n) : ¬ i ∈ N i := fun h => by
  obtain ⟨p, q, e⟩ := List.append_of_mem ((d.mem i).2 hi)
  have hm := d.front e hi h
  have hnd := d.nodup
  rw [e, List.nodup_append, List.nodup_cons] at hnd
  exact hnd.2.1.1 hm
end

/-! ### What heads and tails are -/
structure IsHeads (n : Nat) (N : Nat → List Nat) (tm : Nat → Int) (h : Nat → Int) : Prop where mk ::
  (pos : ∀ i, i < n → 0 ≤ h i) (ge : ∀ i, i < n → ∀ k, k ∈ N i → h k + tm k ≤ h i) (att : ∀ i, i < n → h i = 0 ∨ ∃ k, k ∈ N i ∧ h i = h k + tm k)
structure IsTails (n : Nat) (N : Nat → List Nat) (tm : Nat → Int) (t : Nat → Int) : Prop where mk ::
  (own : ∀ i, i < n → tm i ≤ t i) (ge : ∀ i, i < n → ∀ j, j < n → i ∈ N j → t j + tm i ≤ t i) (att : ∀ i, i < n → t i = tm i ∨ ∃ j, j < n ∧ i ∈ N j ∧ t i = t j + tm i)
structure IsTop (n : Nat) (t : Nat → Int) (L : Int) : Prop where mk :: (pos : 0 ≤ L) (ge : ∀ i, i < n → t i ≤ L) (att : L = 0 ∨ ∃ i, i < n ∧ t i = L)
section
variable {n : Nat} {N : Nat → List Nat} {tm : Nat → Int} {l : List Nat}
theorem IsHeads.uniq (d : Dag n N tm l) {h h' : Nat → Int} (a : IsHeads n N tm h) (b : IsHeads n N tm h') : ∀ i, i < n → h i = h' i :=
  d.up _ fun i hi ih => by
    have le : ∀ {u v : Nat → Int}, IsHeads n N tm u → IsHeads n N tm v → (∀ k, k ∈ N i → u k = v k) → u i ≤ v i := fun {u v} a b ih => by
      rcases a.att i hi with e | ⟨k, hk, e⟩
      · rw [e]; exact b.pos i hi
      · rw [e, ih k hk]; exact b.ge i hi k hk
    exact Int.le_antisymm (le a b ih) (le b a (fun k hk => (ih k hk).symm))
theorem IsTails.uniq (d : Dag n N tm l) {t t' : Nat → Int} (a : IsTails n N tm t) (b : IsTails n N tm t') : ∀ i, i < n → t i = t' i :=
  d.down _ fun i hi ih => by
    have le : ∀ {u v : Nat → Int}, IsTails n N tm u → IsTails n N tm v → (∀ k, k < n → i ∈ N k → u k = v k) → u i ≤ v i := fun {u v} a b ih => by
      rcases a.att i hi with e | ⟨k, hk, hik, e⟩
      · rw [e]; exact b.own i hi
      · rw [e, ih k hk hik]; exact b.ge i hi k hk hik
    exact Int.le_antisymm (le a b ih) (le b a (fun k hk hik => (ih k hk hik).symm))
theorem IsTop.uniq {t t' : Nat → Int} {L L' : Int} (a : IsTop n t L) (b : IsTop n t' L') (e : ∀ i, i < n → t i = t' i) : L = L' := by
  rcases a.att with h | ⟨i, hi, h⟩ <;> rcases b.att with h' | ⟨j, hj, h'⟩
  · omega
  · have := a.ge j hj
    have := e j hj
    have := b.pos
    omega
  · have := b.ge i hi
    have := e i hi
    have := a.pos
    omega
  · have := a.ge j hj
    have := b.ge i hi
    have := e i hi
    have := e j hj
    omega
/-- Heads and tails fit into the longest time. -/
theorem fits (d : Dag n N tm l) {h t : Nat → Int} {L : Int} (a : IsHeads n N tm h) (b : IsTails n N tm t) (c : IsTop n t L) : ∀ i, i < n → h i + t i ≤ L :=
  d.up _ fun i hi ih => by
    rcases a.att i hi with e | ⟨k, hk, e⟩
    · have := c.ge i hi; omega
    · have h1 := ih k hk
      have h2 := b.ge k (d.need hi hk) i hi hk
      omega
theorem top_head (d : Dag n N tm l) {h t : Nat → Int} {L : Int} (a : IsHeads n N tm h) (b : IsTails n N tm t) (c : IsTop n t L) {i : Nat} (hi : i < n) (e : t i = L) : h i = 0 := by
  have := fits d a b c i hi
  have := a.pos i hi
  omega
theorem head_none (d : Dag n N tm l) {h : Nat → Int} (a : IsHeads n N tm h) {i : Nat} (hi : i < n) : h i = 0 ↔ N i = [] := by
  constructor
  · intro e
    refine List.eq_nil_iff_forall_not_mem.2 fun k hk => ?_
    have h1 := a.ge i hi k hk
    have h2 := d.need hi hk
    have h3 := a.pos k h2
    have h4 := d.t0 k h2
    omega
  · intro e
    rcases a.att i hi with h | ⟨k, hk, _⟩
    · exact h
    · rw [e] at hk; cases hk
theorem some_top (d : Dag n N tm l) {t : Nat → Int} {L : Int} (b : IsTails n N tm t) (c : IsTop n t L) (hn : 0 < n) : ∃ i, i < n ∧ t i = L := by
  rcases c.att with e | h
  · have h1 := b.own 0 hn
    have h2 := d.t0 0 hn
    have h3 := c.ge 0 hn
    omega
  · exact h
/-- More time never makes a tail or a head shorter. -/
theorem IsTails.mono (d : Dag n N tm l) {tm' t t' : Nat → Int} (a : IsTails n N tm t) (b : IsTails n N tm' t') (h : ∀ i, i < n → tm i ≤ tm' i) : ∀ i, i < n → t i ≤ t' i :=
  d.down _ fun i hi ih => by
    have h0 := h i hi
    rcases a.att i hi with e | ⟨k, hk, hik, e⟩
    · have := b.own i hi; omega
    · have h1 := ih k hk hik
      have h2 := b.ge i hi k hk hik
      omega
theorem IsHeads.mono (d : Dag n N tm l) {tm' h h' : Nat → Int} (a : IsHeads n N tm h) (b : IsHeads n N tm' h') (hm : ∀ i, i < n → tm i ≤ tm' i) : ∀ i, i < n → h i ≤ h' i :=
  d.up _ fun i hi ih => by
    rcases a.att i hi with e | ⟨k, hk, e⟩
    · have := b.pos i hi; omega
    · have h0 := hm k (d.need hi hk)
      have h1 := ih k hk
      have h2 := b.ge i hi k hk
      omega
/-- One task takes longer by x: the longest time is the old one, or its head and tail and x. -/
theorem longer (d : Dag n N tm l) {l' : List Nat} {tm' h t h' t' : Nat → Int} {L L' x : Int} {i : Nat} (hi : i < n) (hx : 0 ≤ x) (he : tm' i = tm i + x) (ho : ∀ j, j < n → j ≠ i → tm' j = tm j)
    (a : IsHeads n N tm h) (b : IsTails n N tm t) (c : IsTop n t L) (d' : Dag n N tm' l') (a' : IsHeads n N tm' h') (b' : IsTails n N tm' t') (c' : IsTop n t' L') : L' = max L (h i + t i + x) := by
  have hle : ∀ j, j < n → tm j ≤ tm' j := fun j hj => by
    by_cases e : j = i
    · subst e; omega
    · rw [ho j hj e]; exact Int.le_refl _
  have hti : ∀ j, j < n → t j ≤ t' j := b.mono d b' hle
  have hhi : ∀ j, j < n → h j ≤ h' j := a.mono d a' hle
  have hti2 : t i + x ≤ t' i := by
    rcases b.att i hi with e | ⟨k, hk, hik, e⟩
    · have := b'.own i hi; omega
    · have h1 := b'.ge i hi k hk hik
      have h2 := hti k hk
      omega
  have lo1 : L ≤ L' := by
    rcases c.att with e | ⟨j, hj, e⟩
    · have := c'.pos; omega
    · have := hti j hj
      have := c'.ge j hj
      omega
  have lo2 : h i + t i + x ≤ L' := by
    have := fits d' a' b' c' i hi
    have := hhi i hi
    omega
  -- behind i all is as it was
  obtain ⟨p, q, e⟩ := List.append_of_mem ((d.mem i).2 hi)
  have hq : ∀ j, j ∈ q → j < n ∧ t' j = t j := by
    have go : ∀ j, j < n → j ∈ q → t' j = t j := d.down _ fun j hj ih hjq => by
      have hji : j ≠ i := by
        rintro rfl
        have hnd := d.nodup
        rw [e, List.nodup_append, List.nodup_cons] at hnd
        exact hnd.2.1.1 hjq
      have hus : ∀ k, k < n → j ∈ N k → k ∈ q := fun k hk hjk => by
        obtain ⟨u, v, e2⟩ := List.append_of_mem hjq
        have := d.front (p := p ++ i :: u) (q := v) (i := j) (by rw [e, e2, List.append_assoc]; rfl) hk hjk
        rw [e2]
        exact List.mem_append_right _ (List.mem_cons_of_mem _ this)
      refine Int.le_antisymm ?_ (hti j hj)
      rcases b'.att j hj with e3 | ⟨k, hk, hjk, e3⟩
      · rw [e3, ho j hj hji]; exact b.own j hj
      · rw [e3, ih k hk hjk (hus k hk hjk), ho j hj hji]; exact b.ge j hj k hk hjk
    exact fun j hj => ⟨(d.mem j).1 (by rw [e]; exact List.mem_append_right _ (List.mem_cons_of_mem _ hj)), go j ((d.mem j).1 (by rw [e]; exact List.mem_append_right _ (List.mem_cons_of_mem _ hj))) hj⟩
  have hti3 : t' i = t i + x := by
    refine Int.le_antisymm ?_ hti2
    rcases b'.att i hi with e3 | ⟨k, hk, hik, e3⟩
    · have := b.own i hi; omega
    · have h1 := (hq k (d.front e hk hik)).2
      have h2 := b.ge i hi k hk hik
      omega
  have hi2 : ∀ j, j < n → h j + t' j ≤ max L (h i + t i + x) := d.down _ fun j hj ih => by
    by_cases hji : j = i
    · subst hji
      omega
    · rcases b'.att j hj with e3 | ⟨k, hk, hjk, e3⟩
      · have h1 := fits d a b c j hj
        have h2 := b.own j hj
        have := ho j hj hji
        omega
      · have h1 := ih k hk hjk
        have h2 := a.ge k hk j hjk
        have := ho j hj hji
        omega
  have up : L' ≤ max L (h i + t i + x) := by
    rcases c'.att with e3 | ⟨j, hj, e3⟩
    · have := c.pos; omega
    · have h1 := hi2 j hj
      have h2 := a.pos j hj
      omega
  omega
/-- The longest time is at least each task's own, and no more than all of them. -/
theorem tail_sum (d : Dag n N tm l) {t : Nat → Int} (b : IsTails n N tm t) : ∀ (r q : List Nat), l = r.reverse ++ q → (∀ i, i ∈ q → t i ≤ (q.map tm).sum) → ∀ i, i ∈ l → t i ≤ (l.map tm).sum
  | [], q, e, h, i, hi => by
    rw [List.reverse_nil, List.nil_append] at e
    rw [e] at hi ⊢
    exact h i hi
  | x :: r, q, e, h, i, hi => by
    have e2 : l = r.reverse ++ x :: q := by rw [e, List.reverse_cons, List.append_assoc]; rfl
    have hx : x < n := (d.mem x).1 (by rw [e2]; simp)
    have hx0 := d.t0 x hx
    have hs : ∀ (q : List Nat), (∀ y, y ∈ q → y < n) → 0 ≤ (q.map tm).sum := by
      intro q
      induction q with
      | nil => intro _; exact Int.le_refl 0
      | cons y q ih =>
        intro hq
        have h1 := ih (fun z hz => hq z (List.mem_cons_of_mem _ hz))
        have h2 := d.t0 y (hq y List.mem_cons_self)
        rw [List.map_cons, List.sum_cons]
        omega
    have hq := hs q (fun y hy => (d.mem y).1 (by rw [e2]; simp [hy]))
    refine tail_sum d b r (x :: q) e2 (fun y hy => ?_) i hi
    rw [List.map_cons, List.sum_cons]
    rcases List.mem_cons.1 hy with rfl | hy
    · rcases b.att y hx with e3 | ⟨k, hk, hik, e3⟩
      · omega
      · have := h k (d.front e2 hk hik)
        omega
    · have := h y hy
      omega
theorem top_sum (d : Dag n N tm l) {t : Nat → Int} {L : Int} (b : IsTails n N tm t) (c : IsTop n t L) (hs : 0 ≤ (l.map tm).sum) : L ≤ (l.map tm).sum := by
  rcases c.att with e | ⟨i, hi, e⟩
  · omega
  · have := tail_sum d b l.reverse [] (by simp) (fun i hi => by cases hi) i ((d.mem i).2 hi)
    omega
end
end Go.Proofs.YtokikapljmakbaaDoor.H

namespace Go.Proofs.YtokikapljmakbaaDoor.H
open Go.RowKit Go.Proofs.YtokikapljmakbaaDoorW.PrintWords Go.Proofs.YtokikapljmakbaaDoorW.PrintLast Go.Proofs.YtokikapljmakbaaDoorW.PrintMore
set_option linter.unusedVariables false

theorem mx_max (a b : Int) : mx a b = max a b := by
  unfold mx
  split <;> omega
theorem atI_set_same (b : List Int) (i : Nat) (x : Int) (hi : i < b.length) : atI (b.set i x) i = x := by
  unfold atI
  rw [List.getD_eq_getElem?_getD, List.getElem?_set_self hi]
  rfl
theorem atI_set_other (b : List Int) (i m : Nat) (x : Int) (h : i ≠ m) : atI (b.set i x) m = atI b m := by
  unfold atI
  rw [List.getD_eq_getElem?_getD, List.getD_eq_getElem?_getD, List.getElem?_set_ne h]
theorem atI_zero (n m : Nat) : atI (List.replicate n 0) m = 0 := by
  unfold atI
  rw [List.getD_eq_getElem?_getD]
  by_cases h : m < n
  · rw [List.getElem?_replicate_of_lt h]
    rfl
  · rw [List.getElem?_eq_none (by rw [List.length_replicate]; omega)]
    rfl
theorem wrap_small (x : Int) (h0 : -1000000 ≤ x) (h1 : x ≤ 1000000) : wrap64 x = x := by
  unfold wrap64
  omega
theorem hd1_len (tm : Nat → Int) (i : Nat) : ∀ (ks : List Nat) (o : List Int), (ks.foldl (hd1 tm i) o).length = o.length
  | [], _ => rfl
  | k :: t, o => by
    rw [List.foldl_cons, hd1_len tm i t]
    exact List.length_set ..
theorem tl1_len (i : Nat) : ∀ (ks : List Nat) (o : List Int), (ks.foldl (tl1 i) o).length = o.length
  | [], _ => rfl
  | k :: t, o => by
    rw [List.foldl_cons, tl1_len i t]
    exact List.length_set ..
theorem headsBy_len (tm : Nat → Int) (N : Nat → List Nat) : ∀ (l : List Nat) (o : List Int), (l.foldl (hdAt tm N) o).length = o.length
  | [], _ => rfl
  | i :: t, o => by
    rw [List.foldl_cons, headsBy_len tm N t]
    exact hd1_len tm i _ o
theorem tailsBy_len (tm : Nat → Int) (N : Nat → List Nat) : ∀ (l : List Nat) (o : List Int), (l.foldl (tlAt tm N) o).length = o.length
  | [], _ => rfl
  | i :: t, o => by
    rw [List.foldl_cons, tailsBy_len tm N t]
    exact (tl1_len i _ _).trans (List.length_set ..)
/-- One task's head. -/
theorem hd_one (tm : Nat → Int) (i : Nat) (B : Int) (hB : B ≤ 1000) : ∀ (ks : List Nat) (o : List Int), i < o.length → (∀ k, k ∈ ks → k ≠ i ∧ 0 ≤ atI o k ∧ atI o k ≤ B ∧ 1 ≤ tm k ∧ tm k ≤ 20) →
    (∀ m, m ≠ i → atI (ks.foldl (hd1 tm i) o) m = atI o m) ∧ (∀ k, k ∈ ks → atI o k + tm k ≤ atI (ks.foldl (hd1 tm i) o) i) ∧ atI o i ≤ atI (ks.foldl (hd1 tm i) o) i ∧ (atI (ks.foldl (hd1 tm i) o) i = atI o i ∨ ∃ k, k ∈ ks ∧ atI (ks.foldl (hd1 tm i) o) i = atI o k + tm k)
  | [], o, _, _ => ⟨fun _ _ => rfl, fun k hk => (by cases hk), Int.le_refl _, .inl rfl⟩
  | k :: t, o, hi, h => by
    obtain ⟨hki, h0, h1, h2, h3⟩ := h k List.mem_cons_self
    have ew : wrap64 (atI o k + tm k) = atI o k + tm k := wrap_small _ (by omega) (by omega)
    have hot : ∀ m, m ≠ i → atI (hd1 tm i o k) m = atI o m := fun m hm => atI_set_other _ _ _ _ (fun e => hm e.symm)
    have hsa : atI (hd1 tm i o k) i = max (atI o i) (atI o k + tm k) := by
      unfold hd1
      rw [atI_set_same _ _ _ hi, mx_max, ew]
    have hle : i < (hd1 tm i o k).length := by
      unfold hd1
      rw [List.length_set]
      exact hi
    obtain ⟨a, b, c, d⟩ := hd_one tm i B hB t (hd1 tm i o k) hle (fun y hy => by
      obtain ⟨y0, y1, y2, y3, y4⟩ := h y (List.mem_cons_of_mem _ hy)
      rw [hot y y0]
      exact ⟨y0, y1, y2, y3, y4⟩)
    rw [List.foldl_cons]
    refine ⟨fun m hm => (a m hm).trans (hot m hm), fun y hy => ?_, by omega, ?_⟩
    · rcases List.mem_cons.1 hy with rfl | hy
      · omega
      · have := b y hy
        rw [hot y (h y (List.mem_cons_of_mem _ hy)).1] at this
        exact this
    · rcases d with e | ⟨y, hy, e⟩
      · rcases Int.le_total (atI o k + tm k) (atI o i) with h | h
        · left; omega
        · right; exact ⟨k, List.mem_cons_self, by omega⟩
      · rw [hot y (h y (List.mem_cons_of_mem _ hy)).1] at e
        exact .inr ⟨y, List.mem_cons_of_mem _ hy, e⟩
/-- One task's tail, handed on to its needs. -/
theorem tl_one (i : Nat) : ∀ (ks : List Nat) (o : List Int), (∀ k, k ∈ ks → k ≠ i ∧ k < o.length) →
    (∀ m, ¬ m ∈ ks → atI (ks.foldl (tl1 i) o) m = atI o m) ∧ (∀ k, k ∈ ks → atI (ks.foldl (tl1 i) o) k = max (atI o k) (atI o i))
  | [], o, _ => ⟨fun _ _ => rfl, fun k hk => (by cases hk)⟩
  | k :: t, o, h => by
    obtain ⟨hki, hkl⟩ := h k List.mem_cons_self
    have hot : ∀ m, m ≠ k → atI (tl1 i o k) m = atI o m := fun m hm => atI_set_other _ _ _ _ (fun e => hm e.symm)
    have hsa : atI (tl1 i o k) k = max (atI o k) (atI o i) := by
      unfold tl1
      rw [atI_set_same _ _ _ hkl, mx_max]
    have hi : atI (tl1 i o k) i = atI o i := hot i (fun e => hki e.symm)
    obtain ⟨a, b⟩ := tl_one i t (tl1 i o k) (fun y hy => by
      obtain ⟨y0, y1⟩ := h y (List.mem_cons_of_mem _ hy)
      refine ⟨y0, ?_⟩
      unfold tl1
      rw [List.length_set]
      exact y1)
    rw [List.foldl_cons]
    refine ⟨fun m hm => ?_, fun y hy => ?_⟩
    · rw [List.mem_cons, not_or] at hm
      exact (a m hm.2).trans (hot m hm.1)
    · by_cases hyt : y ∈ t
      · rw [b y hyt, hi]
        by_cases e : y = k
        · subst e
          rw [hsa]
          omega
        · rw [hot y e]
      · rcases List.mem_cons.1 hy with rfl | hy
        · rw [a y hyt, hsa]
        · exact absurd hy hyt
section
variable {n : Nat} {N : Nat → List Nat} {tm : Nat → Int} {l : List Nat}
theorem heads_go (d : Dag n N tm l) : ∀ (q p : List Nat) (o : List Int) (B : Int), l = p ++ q → B + 20 * (q.length : Int) ≤ 1000 → 0 ≤ B → o.length = n →
    (∀ i, i < n → 0 ≤ atI o i ∧ atI o i ≤ B) → (∀ i, i ∈ p → (∀ k, k ∈ N i → atI o k + tm k ≤ atI o i) ∧ (atI o i = 0 ∨ ∃ k, k ∈ N i ∧ atI o i = atI o k + tm k)) → (∀ i, ¬ i ∈ p → atI o i = 0) → IsHeads n N tm (atI (q.foldl (hdAt tm N) o))
  | [], p, o, B, e, hB, hB0, hl, hb, hp, hz => by
    rw [List.append_nil] at e
    subst e
    exact ⟨fun i hi => (hb i hi).1, fun i hi => (hp i ((d.mem i).2 hi)).1, fun i hi => (hp i ((d.mem i).2 hi)).2⟩
  | x :: q, p, o, B, e, hB, hB0, hl, hb, hp, hz => by
    have hx : x < n := (d.mem x).1 (by rw [e]; simp)
    have hnd := d.nodup
    rw [e, List.nodup_append] at hnd
    have hxp : ¬ x ∈ p := fun h => hnd.2.2 x h x List.mem_cons_self rfl
    have hk : ∀ k, k ∈ N x → k ∈ p := d.back p x q e
    have hkn : ∀ k, k ∈ N x → k < n := fun k hk => d.need hx hk
    obtain ⟨a, b, c, f⟩ := hd_one tm x B (by rw [List.length_cons] at hB; omega) (N x) o (by omega) (fun k hk' => ⟨fun e => hxp (e ▸ hk k hk'), (hb k (hkn k hk')).1, (hb k (hkn k hk')).2, d.t0 k (hkn k hk'), d.t1 k (hkn k hk')⟩)
    rw [hz x hxp] at c f
    obtain ⟨o', ho'⟩ : ∃ o', hdAt tm N o x = o' := ⟨_, rfl⟩
    have ho2 : (N x).foldl (hd1 tm x) o = o' := ho'
    rw [ho2] at a b c f
    rw [List.foldl_cons, ho']
    refine heads_go d q (p ++ [x]) o' (B + 20) (by rw [e, List.append_assoc]; rfl) (by rw [List.length_cons] at hB; omega) (by omega) (by rw [← ho2, hd1_len]; exact hl) (fun i hi => ?_) (fun i hi => ?_) (fun i hi => ?_)
    · by_cases ei : i = x
      · subst ei
        refine ⟨c, ?_⟩
        rcases f with f | ⟨k, hk', f⟩
        · omega
        · have := (hb k (hkn k hk')).2
          have := d.t1 k (hkn k hk')
          omega
      · rw [a i ei]
        have := hb i hi
        omega
    · by_cases ei : i = x
      · subst ei
        refine ⟨fun k hk' => ?_, ?_⟩
        · rw [a k (fun e => hxp (e ▸ hk k hk'))]
          exact b k hk'
        · rcases f with f | ⟨k, hk', f⟩
          · exact .inl f
          · exact .inr ⟨k, hk', by rw [a k (fun e => hxp (e ▸ hk k hk'))]; exact f⟩
      · have hip : i ∈ p := by
          rcases List.mem_append.1 hi with h | h
          · exact h
          · rw [List.mem_singleton] at h; exact absurd h ei
        obtain ⟨u, v⟩ := hp i hip
        have hin : i < n := (d.mem i).1 (by rw [e]; exact List.mem_append_left _ hip)
        have hkx : ∀ k, k ∈ N i → k ≠ x := fun k hk' ek => by
          subst ek
          obtain ⟨p1, p2, e2⟩ := List.append_of_mem hip
          have := d.back p1 i (p2 ++ k :: q) (by rw [e, e2, List.append_assoc]; rfl) k hk'
          exact hxp (by rw [e2]; exact List.mem_append_left _ this)
        rw [a i ei]
        refine ⟨fun k hk' => by rw [a k (hkx k hk')]; exact u k hk', ?_⟩
        rcases v with v | ⟨k, hk', v⟩
        · exact .inl v
        · exact .inr ⟨k, hk', by rw [a k (hkx k hk')]; exact v⟩
    · rw [List.mem_append, List.mem_singleton, not_or] at hi
      rw [a i hi.2]
      exact hz i hi.1
theorem heads_is (d : Dag n N tm l) (hn : l.length ≤ 8) : IsHeads n N tm (atI (headsBy tm N n l)) :=
  heads_go d l [] (List.replicate n 0) 0 rfl (by omega) (Int.le_refl _) (List.length_replicate ..) (fun i _ => by rw [atI_zero]; omega) (fun i hi => by cases hi) (fun i _ => atI_zero n i)
theorem tails_go (d : Dag n N tm l) : ∀ (r q : List Nat) (o : List Int) (B : Int), l = r.reverse ++ q → B + 20 * (r.length : Int) ≤ 1000 → 0 ≤ B → o.length = n →
    (∀ i, i < n → 0 ≤ atI o i ∧ atI o i ≤ B) → (∀ i, i ∈ q → (∀ k, k < n → i ∈ N k → atI o k + tm i ≤ atI o i) ∧ tm i ≤ atI o i ∧ (atI o i = tm i ∨ ∃ k, k < n ∧ i ∈ N k ∧ atI o i = atI o k + tm i)) →
    (∀ i, i < n → ¬ i ∈ q → (∀ k, k ∈ q → i ∈ N k → atI o k ≤ atI o i) ∧ (atI o i = 0 ∨ ∃ k, k ∈ q ∧ i ∈ N k ∧ atI o i = atI o k)) → IsTails n N tm (atI (r.foldl (tlAt tm N) o))
  | [], q, o, B, e, hB, hB0, hl, hb, hp, hz => by
    rw [List.reverse_nil, List.nil_append] at e
    subst e
    exact ⟨fun i hi => (hp i ((d.mem i).2 hi)).2.1, fun i hi => (hp i ((d.mem i).2 hi)).1, fun i hi => (hp i ((d.mem i).2 hi)).2.2⟩
  | x :: r, q, o, B, e, hB, hB0, hl, hb, hp, hz => by
    have e2 : l = r.reverse ++ x :: q := by rw [e, List.reverse_cons, List.append_assoc]; rfl
    have hx : x < n := (d.mem x).1 (by rw [e2]; simp)
    have hnd := d.nodup
    rw [e2, List.nodup_append, List.nodup_cons] at hnd
    have hxq : ¬ x ∈ q := hnd.2.1.1
    have hqn : ∀ i, i ∈ q → i < n := fun i hi => (d.mem i).1 (by rw [e2]; simp [hi])
    have hkr : ∀ k, k ∈ N x → k < n ∧ k ≠ x ∧ ¬ k ∈ q := fun k hk => by
      have h1 := d.back r.reverse x q e2 k hk
      exact ⟨d.need hx hk, fun ek => hnd.2.2 k h1 x List.mem_cons_self ek, fun hkq => hnd.2.2 k h1 k (List.mem_cons_of_mem _ hkq) rfl⟩
    obtain ⟨b1, b2⟩ := hb x hx
    have t0 := d.t0 x hx
    have t1 := d.t1 x hx
    have ew : wrap64 (atI o x + tm x) = atI o x + tm x := wrap_small _ (by omega) (by rw [List.length_cons] at hB; omega)
    obtain ⟨o1, ho1⟩ : ∃ o1, o.set x (wrap64 (atI o x + tm x)) = o1 := ⟨_, rfl⟩
    have s1 : atI o1 x = atI o x + tm x := by rw [← ho1, atI_set_same _ _ _ (by omega), ew]
    have s2 : ∀ m, m ≠ x → atI o1 m = atI o m := fun m hm => by rw [← ho1]; exact atI_set_other _ _ _ _ (fun e => hm e.symm)
    have s3 : o1.length = n := by rw [← ho1, List.length_set]; exact hl
    obtain ⟨a, b⟩ := tl_one x (N x) o1 (fun k hk => ⟨(hkr k hk).2.1, by have := (hkr k hk).1; omega⟩)
    obtain ⟨o', ho'⟩ : ∃ o', (N x).foldl (tl1 x) o1 = o' := ⟨_, rfl⟩
    have hstep : tlAt tm N o x = o' := by rw [← ho', ← ho1]; rfl
    have s4 : o'.length = n := by rw [← ho', tl1_len]; exact s3
    rw [ho'] at a b
    have hxN : ¬ x ∈ N x := fun h => (hkr x h).2.1 rfl
    have vx : atI o' x = atI o x + tm x := (a x hxN).trans s1
    have vq : ∀ i, i ∈ q → atI o' i = atI o i := fun i hi => by
      rw [a i (fun h => (hkr i h).2.2 hi), s2 i (fun e => hxq (e ▸ hi))]
    have vn : ∀ i, i ∈ N x → atI o' i = max (atI o i) (atI o x + tm x) := fun i hi => by rw [b i hi, s2 i (hkr i hi).2.1, s1]
    have vo : ∀ i, ¬ i ∈ N x → i ≠ x → atI o' i = atI o i := fun i h1 h2 => by rw [a i h1, s2 i h2]
    rw [List.foldl_cons, hstep]
    refine tails_go d r (x :: q) o' (B + 20) e2 (by rw [List.length_cons] at hB; omega) (by omega) s4 (fun i hi => ?_) (fun i hi => ?_) (fun i hi hni => ?_)
    · have := hb i hi
      by_cases h1 : i ∈ N x
      · rw [vn i h1]; omega
      · by_cases h2 : i = x
        · subst h2; omega
        · rw [vo i h1 h2]; omega
    · rcases List.mem_cons.1 hi with rfl | hi
      · obtain ⟨z1, z2⟩ := hz i hx hxq
        have hus : ∀ k, k < n → i ∈ N k → k ∈ q := fun k hk hik => d.front e2 hk hik
        refine ⟨fun k hk hik => ?_, by omega, ?_⟩
        · rw [vq k (hus k hk hik), vx]
          have := z1 k (hus k hk hik) hik
          omega
        · rcases z2 with z2 | ⟨k, hk, hik, z2⟩
          · left; omega
          · right; exact ⟨k, hqn k hk, hik, by rw [vq k hk, vx, z2]⟩
      · obtain ⟨p1, p2, p3⟩ := hp i hi
        have hus : ∀ k, k < n → i ∈ N k → k ∈ q := fun k hk hik => by
          obtain ⟨u, v, e3⟩ := List.append_of_mem hi
          have := d.front (p := r.reverse ++ x :: u) (q := v) (i := i) (by rw [e2, e3, List.append_assoc]; rfl) hk hik
          rw [e3]
          exact List.mem_append_right _ (List.mem_cons_of_mem _ this)
        rw [vq i hi]
        refine ⟨fun k hk hik => by rw [vq k (hus k hk hik)]; exact p1 k hk hik, p2, ?_⟩
        rcases p3 with p3 | ⟨k, hk, hik, p3⟩
        · exact .inl p3
        · exact .inr ⟨k, hk, hik, by rw [vq k (hus k hk hik)]; exact p3⟩
    · rw [List.mem_cons, not_or] at hni
      obtain ⟨z1, z2⟩ := hz i hi hni.2
      by_cases h1 : i ∈ N x
      · rw [vn i h1]
        refine ⟨fun k hk hik => ?_, ?_⟩
        · rcases List.mem_cons.1 hk with rfl | hk
          · rw [vx]; omega
          · rw [vq k hk]
            have := z1 k hk hik
            omega
        · rcases Int.le_total (atI o i) (atI o x + tm x) with h | h
          · right; exact ⟨x, List.mem_cons_self, h1, by rw [vx]; omega⟩
          · rcases z2 with z2 | ⟨k, hk, hik, z2⟩
            · left; omega
            · right; exact ⟨k, List.mem_cons_of_mem _ hk, hik, by rw [vq k hk]; omega⟩
      · rw [vo i h1 hni.1]
        refine ⟨fun k hk hik => ?_, ?_⟩
        · rcases List.mem_cons.1 hk with rfl | hk
          · exact absurd hik h1
          · rw [vq k hk]; exact z1 k hk hik
        · rcases z2 with z2 | ⟨k, hk, hik, z2⟩
          · exact .inl z2
          · exact .inr ⟨k, List.mem_cons_of_mem _ hk, hik, by rw [vq k hk]; exact z2⟩
theorem tails_is (d : Dag n N tm l) (hn : l.length ≤ 8) : IsTails n N tm (atI (tailsBy tm N n l)) :=
  tails_go d l.reverse [] (List.replicate n 0) 0 (by simp) (by rw [List.length_reverse]; omega) (Int.le_refl _) (List.length_replicate ..) (fun i _ => by rw [atI_zero]; omega) (fun i hi => by cases hi) (fun i _ _ => ⟨fun k hk => (by cases hk), .inl (atI_zero n i)⟩)
end
end Go.Proofs.YtokikapljmakbaaDoor.H

namespace Go.Proofs.YtokikapljmakbaaDoor.H
open Go.RowKit Go.Proofs.YtokikapljmakbaaDoorW.PrintWords Go.Proofs.YtokikapljmakbaaDoorW.PrintLast Go.Proofs.YtokikapljmakbaaDoorW.PrintMore
set_option linter.unusedVariables false

def most (p : Nat → Bool) (f : Nat → Int) (ks : List Nat) (x : Int) : Int := ks.foldl (fun x k => if p k then mx x (f k) else x) x
theorem most_is (p : Nat → Bool) (f : Nat → Int) : ∀ (ks : List Nat) (x : Int), x ≤ most p f ks x ∧ (∀ k, k ∈ ks → p k = true → f k ≤ most p f ks x) ∧ (most p f ks x = x ∨ ∃ k, k ∈ ks ∧ p k = true ∧ most p f ks x = f k)
  | [], x => ⟨Int.le_refl _, fun k hk => (by cases hk), .inl rfl⟩
  | k :: t, x => by
    obtain ⟨y, hy⟩ : ∃ y, (if p k then mx x (f k) else x) = y := ⟨_, rfl⟩
    obtain ⟨a, b, c⟩ := most_is p f t y
    have e : most p f (k :: t) x = most p f t y := by
      unfold most
      rw [List.foldl_cons, hy]
    rw [e]
    by_cases hp : p k = true
    · rw [if_pos hp, mx_max] at hy
      refine ⟨by omega, fun z hz hpz => ?_, ?_⟩
      · rcases List.mem_cons.1 hz with rfl | hz
        · omega
        · exact b z hz hpz
      · rcases c with c | ⟨z, hz, hpz, c⟩
        · rcases Int.le_total (f k) x with h | h
          · left; omega
          · right; exact ⟨k, List.mem_cons_self, hp, by omega⟩
        · exact .inr ⟨z, List.mem_cons_of_mem _ hz, hpz, c⟩
    · rw [if_neg hp] at hy
      subst hy
      refine ⟨a, fun z hz hpz => ?_, ?_⟩
      · rcases List.mem_cons.1 hz with rfl | hz
        · exact absurd hpz hp
        · exact b z hz hpz
      · rcases c with c | ⟨z, hz, hpz, c⟩
        · exact .inl c
        · exact .inr ⟨z, List.mem_cons_of_mem _ hz, hpz, c⟩
def users (N : Nat → List Nat) (o : List Int) (n i : Nat) : Int := most (fun k => decide (i ∈ N k)) (atI o) (List.range n) 0
def spTl (tm : Nat → Int) (N : Nat → List Nat) (n : Nat) (o : List Int) (i : Nat) : List Int := o.set i (wrap64 (users N o n i + tm i))
theorem spTl_len (tm : Nat → Int) (N : Nat → List Nat) (n : Nat) : ∀ (l : List Nat) (o : List Int), (l.foldl (spTl tm N n) o).length = o.length
  | [], _ => rfl
  | i :: t, o => by
    rw [List.foldl_cons, spTl_len tm N n t]
    exact List.length_set ..
section
variable {n : Nat} {N : Nat → List Nat} {tm : Nat → Int} {l : List Nat}
theorem spTl_go (d : Dag n N tm l) : ∀ (r q : List Nat) (o : List Int) (B : Int), l = r.reverse ++ q → B + 20 * (r.length : Int) ≤ 1000 → 0 ≤ B → o.length = n →
    (∀ i, i < n → 0 ≤ atI o i ∧ atI o i ≤ B) → (∀ i, i ∈ q → (∀ k, k < n → i ∈ N k → atI o k + tm i ≤ atI o i) ∧ tm i ≤ atI o i ∧ (atI o i = tm i ∨ ∃ k, k < n ∧ i ∈ N k ∧ atI o i = atI o k + tm i)) →
    IsTails n N tm (atI (r.foldl (spTl tm N n) o))
  | [], q, o, B, e, hB, hB0, hl, hb, hp => by
    rw [List.reverse_nil, List.nil_append] at e
    subst e
    exact ⟨fun i hi => (hp i ((d.mem i).2 hi)).2.1, fun i hi => (hp i ((d.mem i).2 hi)).1, fun i hi => (hp i ((d.mem i).2 hi)).2.2⟩
  | x :: r, q, o, B, e, hB, hB0, hl, hb, hp => by
    have e2 : l = r.reverse ++ x :: q := by rw [e, List.reverse_cons, List.append_assoc]; rfl
    have hx : x < n := (d.mem x).1 (by rw [e2]; simp)
    have hnd := d.nodup
    rw [e2, List.nodup_append, List.nodup_cons] at hnd
    have hxq : ¬ x ∈ q := hnd.2.1.1
    have hqn : ∀ i, i ∈ q → i < n := fun i hi => (d.mem i).1 (by rw [e2]; simp [hi])
    obtain ⟨a, b, c⟩ := most_is (fun k => decide (x ∈ N k)) (atI o) (List.range n) 0
    obtain ⟨m, hm⟩ : ∃ m, users N o n x = m := ⟨_, rfl⟩
    have hm2 : most (fun k => decide (x ∈ N k)) (atI o) (List.range n) 0 = m := hm
    rw [hm2] at a b c
    have t0 := d.t0 x hx
    have t1 := d.t1 x hx
    have hmB : m ≤ B := by
      rcases c with c | ⟨k, hk, _, c⟩
      · omega
      · have := (hb k (List.mem_range.1 hk)).2
        omega
    have ew : wrap64 (m + tm x) = m + tm x := wrap_small _ (by omega) (by rw [List.length_cons] at hB; omega)
    obtain ⟨o', ho'⟩ : ∃ o', spTl tm N n o x = o' := ⟨_, rfl⟩
    have s1 : atI o' x = m + tm x := by
      rw [← ho']
      unfold spTl
      rw [atI_set_same _ _ _ (by omega), hm, ew]
    have s2 : ∀ y, y ≠ x → atI o' y = atI o y := fun y hy => by
      rw [← ho']
      exact atI_set_other _ _ _ _ (fun e => hy e.symm)
    have s3 : o'.length = n := by
      rw [← ho']
      exact (List.length_set ..).trans hl
    have hus : ∀ k, k < n → x ∈ N k → k ∈ q := fun k hk hik => d.front e2 hk hik
    have hxx : ¬ x ∈ N x := d.irrefl hx
    rw [List.foldl_cons, ho']
    refine spTl_go d r (x :: q) o' (B + 20) e2 (by rw [List.length_cons] at hB; omega) (by omega) s3 (fun i hi => ?_) (fun i hi => ?_)
    · by_cases h2 : i = x
      · subst h2; omega
      · rw [s2 i h2]
        have := hb i hi
        omega
    · rcases List.mem_cons.1 hi with rfl | hi
      · have hne : ∀ k, i ∈ N k → k ≠ i := fun k hk e => hxx (e ▸ hk)
        refine ⟨fun k hk hik => ?_, by omega, ?_⟩
        · rw [s2 k (hne k hik), s1]
          have := b k (List.mem_range.2 hk) (decide_eq_true hik)
          omega
        · rcases c with c | ⟨k, hk, hik, c⟩
          · left; omega
          · have hik2 := of_decide_eq_true hik
            exact .inr ⟨k, List.mem_range.1 hk, hik2, by rw [s2 k (hne k hik2), s1, c]⟩
      · obtain ⟨p1, p2, p3⟩ := hp i hi
        have hix : i ≠ x := fun e => hxq (e ▸ hi)
        have hus2 : ∀ k, k < n → i ∈ N k → k ≠ x := fun k hk hik ek => by
          obtain ⟨u, v, e3⟩ := List.append_of_mem hi
          have := d.front (p := r.reverse ++ x :: u) (q := v) (i := i) (by rw [e2, e3, List.append_assoc]; rfl) hk hik
          exact hxq (by rw [e3, ← ek]; exact List.mem_append_right _ (List.mem_cons_of_mem _ this))
        rw [s2 i hix]
        refine ⟨fun k hk hik => by rw [s2 k (hus2 k hk hik)]; exact p1 k hk hik, p2, ?_⟩
        rcases p3 with p3 | ⟨k, hk, hik, p3⟩
        · exact .inl p3
        · exact .inr ⟨k, hk, hik, by rw [s2 k (hus2 k hk hik)]; exact p3⟩
/-- Both ways of reckoning come to the same. -/
theorem tails_same (d : Dag n N tm l) (hn : l.length ≤ 8) : l.reverse.foldl (spTl tm N n) (List.replicate n 0) = tailsBy tm N n l := by
  have a := spTl_go d l.reverse [] (List.replicate n 0) 0 (by simp) (by rw [List.length_reverse]; omega) (Int.le_refl _) (List.length_replicate ..) (fun i _ => by rw [atI_zero]; omega) (fun i hi => by cases hi)
  have b := tails_is d hn
  have e := a.uniq d b
  have l1 : (l.reverse.foldl (spTl tm N n) (List.replicate n 0)).length = n := by rw [spTl_len, List.length_replicate]
  have l2 : (tailsBy tm N n l).length = n := by unfold tailsBy; rw [tailsBy_len, List.length_replicate]
  refine List.ext_getElem (by omega) fun i h1 h2 => ?_
  have := e i (by omega)
  unfold atI at this
  rw [List.getD_eq_getElem?_getD, List.getD_eq_getElem?_getD, List.getElem?_eq_getElem h1, List.getElem?_eq_getElem h2] at this
  exact this
end
theorem topOf_go : ∀ (l : List Int) (x : Int), x ≤ l.foldl mx x ∧ (∀ y, y ∈ l → y ≤ l.foldl mx x) ∧ (l.foldl mx x = x ∨ l.foldl mx x ∈ l)
  | [], x => ⟨Int.le_refl _, fun y hy => (by cases hy), .inl rfl⟩
  | a :: t, x => by
    obtain ⟨p, q, r⟩ := topOf_go t (mx x a)
    have hm := mx_max x a
    rw [List.foldl_cons]
    refine ⟨by omega, fun y hy => ?_, ?_⟩
    · rcases List.mem_cons.1 hy with rfl | hy
      · omega
      · exact q y hy
    · rcases r with r | r
      · rcases Int.le_total a x with h | h
        · left; omega
        · right; rw [r]; rw [show mx x a = a by omega]; exact List.mem_cons_self
      · exact .inr (List.mem_cons_of_mem _ r)
end Go.Proofs.YtokikapljmakbaaDoor.H
