/- What is known of a valid graph: for each task the tasks below it and those above it, as the code reckons them; the blocks of memory that hold it, and the conditions in each lemma. -/
import Derived.RangeFuncFrom
import Derived.RangeFuncWrites
import Derived.RangeFuncBox
import Derived.RangeFuncLeaves
import Derived.Test.YtegogaokcafpjaaDoorHTab
import Derived.Test.YtegogaokcafpjaaDoorHMath
namespace Go.Proofs.YtegogaokcafpjaaDoor.H
open Go.RowKit Go.Proofs.YtegogaokcafpjaaDoorW.PrintWords Go.Proofs.YtegogaokcafpjaaDoorW.PrintLast Go.Proofs.YtegogaokcafpjaaDoorW.PrintMore Go.Proofs.YtegogaokcafpjaaDoor.Q
set_option linter.unusedVariables false

/-! ### Numbers -/
theorem wraps_u16 (n : Int) (h₀ : 0 ≤ n) (h₁ : n < 2 ^ 16) : IntKind.u16.wrap n = n := by
  have : IntKind.u16.wrap n = n % 65536 := by simp [IntKind.wrap, IntKind.bits, IntKind.signed]
  rw [this]
  omega
theorem or_bits (a b : Nat) (ha : a < 256) (hb : b < 256) : Go.bits .or .u16 (a : Int) (b : Int) = ((a ||| b : Nat) : Int) :=
  (bits_nat .u16 16 (by decide) wraps_u16 a b (by omega) (by omega)).2
def at0 (b : List Nat) (i : Nat) : Nat := b.getD i 0
theorem at0_get (b : List Nat) (i : Nat) (h : i < b.length) : at0 b i = b[i] := by
  unfold at0
  rw [List.getD_eq_getElem?_getD, List.getElem?_eq_getElem h]
  rfl
def bit1 (i : Nat) (b : List Nat) (k : Nat) : List Nat := b.set i (at0 b i ||| (at0 b k ||| 2 ^ k))
def bit2 (i : Nat) (a : List Nat) (k : Nat) : List Nat := a.set k (at0 a k ||| 2 ^ i)
def know1 (nd : List Nat) (p : List Nat × List Nat) (i : Nat) : List Nat × List Nat :=
  ((elems (at0 nd i)).foldl (bit1 i) p.1, (elems (at0 ((elems (at0 nd i)).foldl (bit1 i) p.1) i)).foldl (bit2 i) p.2)
def known (nd : List Nat) : List Nat × List Nat := (order nd).1.foldl (know1 nd) (List.replicate nd.length 0, List.replicate nd.length 0)

/-- Rows of sets of the first n numbers. -/
structure Sets (n : Nat) (b : List Nat) : Prop where mk :: (len : b.length = n) (lt : ∀ x, x ∈ b → x < 2 ^ n)
theorem Sets.at {n : Nat} {b : List Nat} (h : Sets n b) (i : Nat) : at0 b i < 2 ^ n := by
  by_cases hi : i < b.length
  · rw [at0_get b i hi]
    exact h.lt _ (List.getElem_mem hi)
  · unfold at0
    rw [List.getD_eq_getElem?_getD, List.getElem?_eq_none (by omega)]
    exact Nat.two_pow_pos n
theorem Sets.set {n : Nat} {b : List Nat} (h : Sets n b) (i x : Nat) (hx : x < 2 ^ n) : Sets n (b.set i x) :=
  ⟨by rw [List.length_set]; exact h.len, fun y hy => by
    rcases List.mem_or_eq_of_mem_set hy with h1 | rfl
    · exact h.lt _ h1
    · exact hx⟩
theorem Sets.bit1 {n : Nat} {b : List Nat} (h : Sets n b) (i k : Nat) (hk : k < n) : Sets n (bit1 i b k) :=
  h.set _ _ (Nat.or_lt_two_pow (h.at i) (Nat.or_lt_two_pow (h.at k) (Nat.pow_lt_pow_right (by decide) hk)))
theorem Sets.bit2 {n : Nat} {a : List Nat} (h : Sets n a) (i k : Nat) (hi : i < n) : Sets n (bit2 i a k) :=
  h.set _ _ (Nat.or_lt_two_pow (h.at k) (Nat.pow_lt_pow_right (by decide) hi))
theorem Sets.bits1 {n : Nat} (i : Nat) : ∀ (l : List Nat) {b : List Nat}, Sets n b → (∀ k, k ∈ l → k < n) → Sets n (l.foldl (H.bit1 i) b)
  | [], _, h, _ => h
  | k :: t, _, h, hl => Sets.bits1 i t (h.bit1 i k (hl k (List.mem_cons_self))) (fun x hx => hl x (List.mem_cons_of_mem _ hx))
theorem Sets.bits2 {n : Nat} (i : Nat) (hi : i < n) : ∀ (l : List Nat) {a : List Nat}, Sets n a → Sets n (l.foldl (H.bit2 i) a)
  | [], _, h => h
  | k :: t, _, h => Sets.bits2 i hi t (h.bit2 i k hi)
theorem Sets.zero (n : Nat) : Sets n (List.replicate n 0) := ⟨List.length_replicate .., fun x hx => by rw [List.eq_of_mem_replicate hx]; exact Nat.two_pow_pos n⟩
theorem elem_lt {n s k : Nat} (hs : s < 2 ^ n) (hk : k ∈ elems s) : k < n := by
  rw [mem_elems] at hk
  apply Nat.lt_of_not_le
  intro h
  have := Nat.testBit_lt_two_pow (Nat.lt_of_lt_of_le hs (Nat.pow_le_pow_right (by decide) h))
  rw [this] at hk
  exact Bool.false_ne_true hk.2
theorem two_le {n : Nat} (hn : n ≤ 8) : 2 ^ n ≤ 256 := Nat.pow_le_pow_right (n := 2) (by decide) hn

/-! ### Blocks of memory -/
def row16 (b : List Nat) : Array Value := (b.map fun (x : Nat) => Value.int .u16 (x : Int)).toArray
/-- These blocks hold what is said. -/
def Fix (fs : List (Nat × Obj)) (W : World) : Prop := ∀ p, p ∈ fs → W.heap[p.1]? = some p.2
theorem Fix.nil (W : World) : Fix [] W := fun _ h => absurd h List.not_mem_nil
theorem Fix.cons {fs : List (Nat × Obj)} {W : World} {b : Nat} {o : Obj} (h : Fix fs W) (hb : W.heap[b]? = some o) : Fix ((b, o) :: fs) W := fun p hp => by
  rcases List.mem_cons.1 hp with rfl | hp
  · exact hb
  · exact h p hp
theorem Fix.tail {fs : List (Nat × Obj)} {W : World} {p : Nat × Obj} (h : Fix (p :: fs) W) : Fix fs W := fun q hq => h q (List.mem_cons_of_mem _ hq)
theorem Fix.head {fs : List (Nat × Obj)} {W : World} {b : Nat} {o : Obj} (h : Fix ((b, o) :: fs) W) : W.heap[b]? = some o := h (b, o) List.mem_cons_self
theorem Fix.lt {fs : List (Nat × Obj)} {W : World} (h : Fix fs W) {p : Nat × Obj} (hp : p ∈ fs) : p.1 < W.heap.size := (Array.getElem?_eq_some_iff.1 (h p hp)).1
theorem Fix.kept {fs : List (Nat × Obj)} {W W' : World} {row : Option Nat} (h : Fix fs W) (hg : W.grownBy W' row) (hr : ∀ p, p ∈ fs → some p.1 ≠ row) : Fix fs W' := fun p hp => (hg.block _ (h.lt hp) (hr p hp)).trans (h p hp)
theorem Fix.alloc {fs : List (Nat × Obj)} {W : World} (h : Fix fs W) (o : Obj) : Fix fs (W.alloc o) := h.kept (World.grownBy_alloc W o none) (fun _ _ => by simp)
theorem Fix.drew {fs : List (Nat × Obj)} {W : World} (h : Fix fs W) : Fix fs W.drew := h
theorem heap_setCell_same {W : World} {b i : Nat} {c : Array Value} {t : TypeId} {z : Nat × Nat} {v : Value} (h : W.heap[b]? = some (.cells c t z)) : (W.setCell ⟨b, i, none⟩ v).heap[b]? = some (.cells (c.setIfInBounds i v) t z) := by
  obtain ⟨hlt, hk⟩ := Array.getElem?_eq_some_iff.1 h
  show (W.heap.modify b _)[b]? = _
  rw [Array.getElem?_eq_getElem (by rw [Array.size_modify]; exact hlt), Array.getElem_modify_self, hk]
  rfl
theorem row16_set (b : List Nat) (i x : Nat) : (row16 b).setIfInBounds i (.int .u16 (x : Int)) = row16 (b.set i x) := by
  unfold row16
  rw [List.setIfInBounds_toArray, List.map_set]
theorem row16_at (b : List Nat) (i : Nat) (h : i < b.length) : (row16 b)[i]? = some (.int .u16 ((at0 b i : Nat) : Int)) := by
  unfold row16
  rw [List.getElem?_toArray, List.getElem?_map, List.getElem?_eq_getElem h, at0_get b i h]
  rfl
theorem cell_of {W : World} {b i : Nat} {c : Array Value} {t : TypeId} {v : Value} (h : W.heap[b]? = some (.cells c t (0, 0))) (hc : c[i]? = some v) : W.cell? ⟨b, i, none⟩ = some v := by
  simp [World.cell?, h, hc]
theorem frozen_of {W : World} {b i : Nat} {c : Array Value} {t : TypeId} (h : W.heap[b]? = some (.cells c t (0, 0))) : W.frozen? ⟨b, i, none⟩ = false := by
  simp [World.frozen?, h]

/-! ### The order's numbers -/
theorem pickFrom_lt : ∀ (s : List Nat) (j d i : Nat), pickFrom s j d = some i → i < j + s.length
  | [], _, _, _, h => by cases h
  | x :: t, j, d, i, h => by
    rw [pickFrom] at h
    rw [List.length_cons]
    split at h
    · cases h
      omega
    · have := pickFrom_lt t (j + 1) d i h
      omega
theorem run_lt (s : List Nat) : ∀ (r : Nat) (l : List Nat) (d : Nat), (∀ x, x ∈ l → x < s.length) → ∀ x, x ∈ (run r s l d).1 → x < s.length
  | 0, _, _, hl => hl
  | r + 1, l, d, hl => by
    rw [run]
    cases h : pickFrom s 0 d with
    | none => exact run_lt s r l d hl
    | some i =>
      have hi := pickFrom_lt s 0 d i h
      refine run_lt s r _ _ (fun x hx => ?_)
      rcases List.mem_append.1 hx with hx | hx
      · exact hl x hx
      · rw [List.mem_singleton] at hx
        omega
theorem order_lt (s : List Nat) : ∀ x, x ∈ (order s).1 → x < s.length := run_lt s _ _ _ (fun _ h => absurd h List.not_mem_nil)
theorem run_len (s : List Nat) : ∀ (r : Nat) (l : List Nat) (d : Nat), (run r s l d).1.length ≤ l.length + r
  | 0, _, _ => Nat.le_refl _
  | r + 1, l, d => by
    rw [run]
    cases h : pickFrom s 0 d with
    | none => exact Nat.le_trans (run_len s r l d) (by omega)
    | some i => exact Nat.le_trans (run_len s r _ _) (by rw [List.length_append]; simp; omega)
theorem order_len (s : List Nat) : (order s).1.length ≤ s.length := by
  have := run_len s s.length [] 0
  rw [List.length_nil] at this
  exact Nat.le_trans this (by omega)
theorem mask_lt2 (n : Nat) (hn : n ≤ 8) : ∀ (l : List Int) (lo : Int) (m : Nat), 0 ≤ lo → asc n lo l = true → m < 2 ^ n → mask l m < 2 ^ n
  | [], _, m, _, _, hm => hm
  | x :: t, lo, m, h0, ha, hm => by
    simp only [asc, Bool.and_eq_true, decide_eq_true_eq] at ha
    exact mask_lt2 n hn t (x + 1) _ (by omega) ha.2 (Nat.or_lt_two_pow hm (Nat.pow_lt_pow_right (by decide) (by omega)))
theorem needs_sets {g : List S33} (h : fine g = true) : Sets g.length (needs g) := by
  have h8 := fine_len h
  refine ⟨needs_len g, fun x hx => ?_⟩
  unfold fine at h
  rw [Bool.and_eq_true, List.all_eq_true] at h
  unfold needs at hx
  rw [List.mem_map] at hx
  obtain ⟨t, ht, rfl⟩ := hx
  have := h.2 t ht
  unfold okTask at this
  rw [Bool.and_eq_true] at this
  exact mask_lt2 g.length h8 _ 0 0 (by omega) this.1 (Nat.two_pow_pos _)
theorem know1_sets {n : Nat} {nd : List Nat} (hn : Sets n nd) {p : List Nat × List Nat} (h1 : Sets n p.1) (h2 : Sets n p.2) {i : Nat} (hi : i < n) : Sets n (know1 nd p i).1 ∧ Sets n (know1 nd p i).2 :=
  ⟨Sets.bits1 i _ h1 (fun k hk => elem_lt (hn.at i) hk), Sets.bits2 i hi _ h2⟩

theorem fold_sets {n : Nat} {nd : List Nat} (hn : Sets n nd) : ∀ (l : List Nat) (p : List Nat × List Nat), Sets n p.1 → Sets n p.2 → (∀ i, i ∈ l → i < n) → Sets n (l.foldl (know1 nd) p).1 ∧ Sets n (l.foldl (know1 nd) p).2
  | [], _, h1, h2, _ => ⟨h1, h2⟩
  | i :: t, p, h1, h2, hl => by
    obtain ⟨h3, h4⟩ := know1_sets hn h1 h2 (hl i List.mem_cons_self)
    exact fold_sets hn t _ h3 h4 (fun x hx => hl x (List.mem_cons_of_mem _ hx))
def kn (nd od : List Nat) (j : Nat) : List Nat × List Nat := (od.take j).foldl (know1 nd) (List.replicate nd.length 0, List.replicate nd.length 0)
theorem kn_sets {n : Nat} {nd : List Nat} (hn : Sets n nd) {od : List Nat} (ho : ∀ i, i ∈ od → i < n) (j : Nat) : Sets n (kn nd od j).1 ∧ Sets n (kn nd od j).2 := by
  have h := Sets.zero n
  rw [← hn.len] at h
  unfold kn
  have h2 : Sets n (List.replicate nd.length 0) := by rw [hn.len]; exact Sets.zero n
  exact fold_sets hn _ _ h2 h2 (fun i hi => ho i (List.mem_of_mem_take hi))
theorem kn_step (nd od : List Nat) (j : Nat) (hj : j < od.length) : kn nd od (j + 1) = know1 nd (kn nd od j) od[j] := by
  unfold kn
  rw [List.take_succ_eq_append_getElem hj, List.foldl_append]
  rfl
theorem kn_all (nd : List Nat) : kn nd (order nd).1 (order nd).1.length = known nd := by
  unfold kn known
  rw [List.take_length]

/-! ### The state of memory while it is reckoned -/
/-- The blocks fs hold what is said; blocks Bb and Ba hold the rows b and a; below w's end all is as it was. -/
structure St (w : World) (fs : List (Nat × Obj)) (Bb Ba : Nat) (b a : List Nat) (W : World) : Prop where mk ::
  (fix : Fix fs W) (rowb : W.heap[Bb]? = some (.cells (row16 b) 61 (0, 0))) (rowa : W.heap[Ba]? = some (.cells (row16 a) 61 (0, 0))) (below : Below w.heap.size w W)
/-- None of the blocks fs is one of the two. -/
structure Apart (w : World) (fs : List (Nat × Obj)) (Bb Ba : Nat) : Prop where mk :: (ne : Bb ≠ Ba) (geb : w.heap.size ≤ Bb) (gea : w.heap.size ≤ Ba) (all : ∀ p, p ∈ fs → p.1 ≠ Bb ∧ p.1 ≠ Ba)
section
variable {w W : World} {fs : List (Nat × Obj)} {Bb Ba : Nat} {b a : List Nat}
theorem St.alloc (h : St w fs Bb Ba b a W) (o : Obj) : St w fs Bb Ba b a (W.alloc o) :=
  ⟨h.fix.alloc o, (Below.heap_alloc W o Bb (Array.getElem?_eq_some_iff.1 h.rowb).1).trans h.rowb, (Below.heap_alloc W o Ba (Array.getElem?_eq_some_iff.1 h.rowa).1).trans h.rowa, h.below.alloc h.below.size o⟩
theorem St.drew (h : St w fs Bb Ba b a W) : St w fs Bb Ba b a W.drew := ⟨h.fix, h.rowb, h.rowa, h.below.drew⟩
theorem St.setb (h : St w fs Bb Ba b a W) (hp : Apart w fs Bb Ba) (i x : Nat) : St w fs Bb Ba (b.set i x) a (W.setCell ⟨Bb, i, none⟩ (.int .u16 (x : Int))) := by
  refine ⟨fun p hpp => (Below.heap_setCell _ _ _ _ (hp.all p hpp).1).trans (h.fix p hpp), ?_, (Below.heap_setCell _ _ _ _ hp.ne.symm).trans h.rowa, h.below.setCell (p := ⟨Bb, i, none⟩) hp.geb _⟩
  rw [← row16_set]
  exact heap_setCell_same h.rowb
theorem St.seta (h : St w fs Bb Ba b a W) (hp : Apart w fs Bb Ba) (i x : Nat) : St w fs Bb Ba b (a.set i x) (W.setCell ⟨Ba, i, none⟩ (.int .u16 (x : Int))) := by
  refine ⟨fun p hpp => (Below.heap_setCell _ _ _ _ (hp.all p hpp).2).trans (h.fix p hpp), (Below.heap_setCell _ _ _ _ hp.ne).trans h.rowb, ?_, h.below.setCell (p := ⟨Ba, i, none⟩) hp.gea _⟩
  rw [← row16_set]
  exact heap_setCell_same h.rowa
theorem St.put (h : St w fs Bb Ba b a W) {o : Nat × Obj} (hb : W.heap[o.1]? = some o.2) : St w (o :: fs) Bb Ba b a W := ⟨fun p hp => by
  rcases List.mem_cons.1 hp with rfl | hp
  · exact hb
  · exact h.fix p hp, h.rowb, h.rowa, h.below⟩
theorem St.less (h : St w fs Bb Ba b a W) {fs' : List (Nat × Obj)} (hs : ∀ p, p ∈ fs' → p ∈ fs) : St w fs' Bb Ba b a W := ⟨fun p hp => h.fix p (hs p hp), h.rowb, h.rowa, h.below⟩
/-- It is told by cells, and by blocks below B, alone. -/
theorem st_own {β : Type} (w : World) (fs : List (Nat × Obj)) (Bb Ba : Nat) (f g : β → List Nat) (B : Nat) (hB : w.heap.size ≤ B) (hfs : ∀ p, p ∈ fs → p.2.isCells = true ∨ p.1 < B) : OwnFrom B (fun s W => St w fs Bb Ba (f s) (g s) W) := by
  intro s W W' row hs hg hr
  have ne : ∀ (k : Nat) (o : Obj), W.heap[k]? = some o → o.isCells = true ∨ k < B → some k ≠ row := by
    intro k o hk ho e
    obtain ⟨h1, o', h2, h3⟩ := hr k e.symm
    rw [hk] at h2
    cases h2
    rcases ho with ho | ho
    · rw [ho] at h3
      cases h3
    · omega
  have lt : ∀ (k : Nat) (o : Obj), W.heap[k]? = some o → k < W.heap.size := fun k o hk => (Array.getElem?_eq_some_iff.1 hk).1
  refine ⟨fun p hp => (hg.block _ (lt _ _ (hs.fix p hp)) (ne _ _ (hs.fix p hp) (hfs p hp))).trans (hs.fix p hp), (hg.block _ (lt _ _ hs.rowb) (ne _ _ hs.rowb (.inl rfl))).trans hs.rowb, (hg.block _ (lt _ _ hs.rowa) (ne _ _ hs.rowa (.inl rfl))).trans hs.rowa, ?_⟩
  exact hs.below.grown hg hs.below.size (fun j e => by have := (hr j e).1; omega)
end
/-- A row of the call's own lies in one block, or in none. -/
theorem row_fix {α : Type} {d : Kd α} {e : Nat} {W : World} {base : Nat} {v : Value} {xs : List α} (hd : ∀ (W W' : World) (ok : Nat → Prop) (x : α) (cs : List Value), d.M W base ok x cs → d.M W' base ok x cs) (h : d.R e W base (fun _ => True) v xs) :
    ∃ fs : List (Nat × Obj), Fix fs W ∧ (∀ p, p ∈ fs → p.2.isCells = true ∧ base ≤ p.1) ∧ ∀ W', Fix fs W' → d.R e W' base (fun _ => True) v xs := by
  obtain ⟨h0, inner, ho, hr⟩ := h
  rcases ho.2 with ⟨hv, hn⟩ | ⟨g, cap, cur, hv, hb, hg, hn, hc, hs, ht⟩
  · exact ⟨[], Fix.nil W, fun p hp => absurd hp List.not_mem_nil, fun W' _ => ⟨h0, inner, ⟨ho.1, .inl ⟨hv, hn⟩⟩, hr.imp_ (fun _ _ hp => hd _ _ _ _ _ hp)⟩⟩
  · refine ⟨[(g, .cells cur e (0, 0))], (Fix.nil W).cons hg, fun p hp => ?_, fun W' hf => ⟨h0, inner, ⟨ho.1, .inr ⟨g, cap, cur, hv, hb, hf.head, hn, hc, hs, ht⟩⟩, hr.imp_ (fun _ _ hp => hd _ _ _ _ _ hp)⟩⟩
    rw [List.mem_singleton] at hp
    subst hp
    exact ⟨rfl, hb⟩

/-! ### Loops over functions leave marks -/
def marks (L : List Nat) : List Deferred := L.map fun D => { target := .collected D, args := #[] }
def markObjs (L : List Nat) : List (Nat × Obj) := L.map fun D => (D, .deferred (some []))
theorem leaves_marks {F : Fence} {n : Nat} {P : Program} {fn : Func} {tmps : Array Value} {R : Ending → World → Prop} (base : Nat) (I : World → Prop)
    (hI : ∀ W D, I W → base ≤ D → W.heap[D]? = some (.deferred (some [])) → I (W.putObj D (.deferred none))) (hend : ∀ W, I W → LeavesIn F n P fn tmps R [] .returning W) :
    ∀ (L : List Nat) (W : World), L.Nodup → (∀ D, D ∈ L → base ≤ D) → Fix (markObjs L) W → I W → LeavesInM F n P fn tmps R (marks L) .returning W
  | [], W, _, _, _, h => hend W h
  | D :: L, W, hnd, hb, hf, h => by
    have hD : W.heap[D]? = some (.deferred (some [])) := hf (D, _) List.mem_cons_self
    rw [List.nodup_cons] at hnd
    refine ⟨by simp, .inl ⟨D, _, rfl, run_takeDeferred hD, ?_⟩⟩
    refine leaves_marks base I hI hend L _ hnd.2 (fun x hx => hb x (List.mem_cons_of_mem _ hx)) ?_ (hI W D h (hb D List.mem_cons_self) hD)
    refine Fix.kept (Fix.tail (p := (D, .deferred (some []))) hf) (grownBy_putObj' W D _) (fun p hp e => ?_)
    obtain ⟨x, hx, rfl⟩ := List.mem_map.1 hp
    exact hnd.1 (by cases e; exact hx)
end Go.Proofs.YtegogaokcafpjaaDoor.H
