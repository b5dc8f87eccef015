/- The numbers that the program's loops over an order reckon: heads and tails, as it reckons them; no condition. A row of whole numbers that a function reckons in a block of its own, and a graph that lies below; the conditions stand in each lemma. -/
import Derived.RowKit
import Derived.Test.YtokikapljmakbaaDoorWAll
import Derived.Test.YtokikapljmakbaaDoorHM
namespace Go.Proofs.YtokikapljmakbaaDoor.H
open Go.RowKit Go.Proofs.YtokikapljmakbaaDoorW.PrintWords Go.Proofs.YtokikapljmakbaaDoorW.PrintLast Go.Proofs.YtokikapljmakbaaDoorW.PrintMore

def atI (b : List Int) (i : Nat) : Int := b.getD i 0
/-- A need of i's is over before i begins. -/
def hd1 (tm : Nat → Int) (i : Nat) (o : List Int) (k : Nat) : List Int := o.set i (mx (atI o i) (wrap64 (atI o k + tm k)))
def hdAt (tm : Nat → Int) (N : Nat → List Nat) (o : List Int) (i : Nat) : List Int := (N i).foldl (hd1 tm i) o
def headsBy (tm : Nat → Int) (N : Nat → List Nat) (n : Nat) (l : List Nat) : List Int := l.foldl (hdAt tm N) (List.replicate n 0)
/-- What follows i follows its needs. -/
def tl1 (i : Nat) (o : List Int) (k : Nat) : List Int := o.set k (mx (atI o k) (atI o i))
def tlAt (tm : Nat → Int) (N : Nat → List Nat) (o : List Int) (i : Nat) : List Int := (N i).foldl (tl1 i) (o.set i (wrap64 (atI o i + tm i)))
def tailsBy (tm : Nat → Int) (N : Nat → List Nat) (n : Nat) (l : List Nat) : List Int := l.reverse.foldl (tlAt tm N) (List.replicate n 0)
end Go.Proofs.YtokikapljmakbaaDoor.H

namespace Go.Proofs.YtokikapljmakbaaDoor.H
open Go.RowKit Go.Shelf Go.Proofs.YtokikapljmakbaaDoorW.PrintWords Go.Proofs.YtokikapljmakbaaDoorW.PrintLast Go.Proofs.YtokikapljmakbaaDoorW.PrintMore Go.Proofs.YtokikapljmakbaaDoor.Q
attribute [local go_sem] Oper.semAt_some
set_option linter.unusedSimpArgs false
set_option linter.unusedVariables false

theorem max2_mx (k k' : IntKind) (x y : Int) : Builtin.max2 (.int k x) (.int k' y) = pure (.int k (mx x y)) := max2_int k k' x y
theorem info_int64 : (Tryd.prog.info? 3).map (fun i => (i.zero, i.size, i.bytes)) = some (some (.int .i64 0), 1, 8) := by kernel_rfl
def rowI (b : List Int) : Array Value := (b.map (Value.int .i64)).toArray
theorem rowI_set (b : List Int) (i : Nat) (x : Int) : (rowI b).setIfInBounds i (.int .i64 x) = rowI (b.set i x) := by
  unfold rowI
  rw [List.setIfInBounds_toArray, List.map_set]
theorem rowI_at (b : List Int) (i : Nat) (h : i < b.length) : (rowI b)[i]? = some (.int .i64 (atI b i)) := by
  unfold rowI atI
  rw [List.getElem?_toArray, List.getElem?_map, List.getElem?_eq_getElem h, List.getD_eq_getElem?_getD, List.getElem?_eq_getElem h]
  rfl
theorem madeI (n : Nat) : madeCells #[Value.int .i64 0] n = rowI (List.replicate n 0) := by
  unfold madeCells rowI
  apply Array.ext
  · simp
  · intro i h1 h2
    simp [Nat.mod_one]
theorem R_row {W : World} {base B : Nat} {o : List Int} (h : W.heap[B]? = some (.cells (rowI o) 3 (0, 0))) (hb : base ≤ B) (hm : o.length ≤ maxLen) : Kd.R (Kd.int .i64) 3 W base (fun _ => True) (.slice (some ⟨B, 0, none⟩) o.length o.length) o := by
  refine R_ints ⟨by simp, .inr ⟨B, o.length, rowI o, rfl, hb, h, Nat.le_refl _, hm, ?_, ?_⟩⟩
  · unfold rowI
    simp
  · unfold rowI
    rw [List.take_of_length_le (by simp)]
/-- The blocks fs hold what is said; block B holds the row o; below w's end all is as it was. -/
structure St1 (w : World) (fs : List (Nat × Obj)) (B : Nat) (o : List Int) (W : World) : Prop where mk ::
  (fix : Fix fs W) (row : W.heap[B]? = some (.cells (rowI o) 3 (0, 0))) (below : Below w.heap.size w W)
structure Apart1 (w : World) (fs : List (Nat × Obj)) (B : Nat) : Prop where mk :: (ge : w.heap.size ≤ B) (all : ∀ p, p ∈ fs → p.1 ≠ B)
section
variable {w W : World} {fs : List (Nat × Obj)} {B : Nat} {o : List Int}
theorem St1.alloc (h : St1 w fs B o W) (x : Obj) : St1 w fs B o (W.alloc x) :=
  ⟨h.fix.alloc x, (Below.heap_alloc W x B (Array.getElem?_eq_some_iff.1 h.row).1).trans h.row, h.below.alloc h.below.size x⟩
theorem St1.drew (h : St1 w fs B o W) : St1 w fs B o W.drew := ⟨h.fix, h.row, h.below.drew⟩
theorem St1.set (h : St1 w fs B o W) (hp : Apart1 w fs B) (i : Nat) (x : Int) : St1 w fs B (o.set i x) (W.setCell ⟨B, i, none⟩ (.int .i64 x)) := by
  refine ⟨fun p hpp => (Below.heap_setCell _ _ _ _ (hp.all p hpp)).trans (h.fix p hpp), ?_, h.below.setCell (p := ⟨B, i, none⟩) hp.ge _⟩
  rw [← rowI_set]
  exact heap_setCell_same h.row
theorem St1.put (h : St1 w fs B o W) {x : Nat × Obj} (hb : W.heap[x.1]? = some x.2) : St1 w (x :: fs) B o W := ⟨fun p hp => by
  rcases List.mem_cons.1 hp with rfl | hp
  · exact hb
  · exact h.fix p hp, h.row, h.below⟩
theorem St1.less (h : St1 w fs B o W) {fs' : List (Nat × Obj)} (hs : ∀ p, p ∈ fs' → p ∈ fs) : St1 w fs' B o W := ⟨fun p hp => h.fix p (hs p hp), h.row, h.below⟩
theorem St1.cell (h : St1 w fs B o W) (i : Nat) (hi : i < o.length) : W.cell? ⟨B, i, none⟩ = some (.int .i64 (atI o i)) := cell_of h.row (rowI_at o i hi)
theorem St1.frozen (h : St1 w fs B o W) (i : Nat) : W.frozen? ⟨B, i, none⟩ = false := frozen_of h.row
theorem st1_own {β : Type} (w : World) (fs : List (Nat × Obj)) (B : Nat) (f : β → List Int) (n : Nat) (hn : w.heap.size ≤ n) (hfs : ∀ p, p ∈ fs → p.2.isCells = true ∨ p.1 < n) : OwnFrom n (fun s W => St1 w fs B (f s) W) := by
  intro s W W' row hs hg hr
  have ne : ∀ (k : Nat) (o : Obj), W.heap[k]? = some o → o.isCells = true ∨ k < n → some k ≠ row := by
    intro k o hk ho e
    obtain ⟨h1, o', h2, h3⟩ := hr k e.symm
    rw [hk] at h2
    cases h2
    rcases ho with ho | ho
    · rw [ho] at h3
      cases h3
    · omega
  have lt : ∀ (k : Nat) (o : Obj), W.heap[k]? = some o → k < W.heap.size := fun k o hk => (Array.getElem?_eq_some_iff.1 hk).1
  refine ⟨fun p hp => (hg.block _ (lt _ _ (hs.fix p hp)) (ne _ _ (hs.fix p hp) (hfs p hp))).trans (hs.fix p hp), (hg.block _ (lt _ _ hs.row) (ne _ _ hs.row (.inl rfl))).trans hs.row, ?_⟩
  exact hs.below.grown hg hs.below.size (fun j e => by have := (hr j e).1; omega)
end
/-- A graph that lies in memory, what is known of it beside. -/
structure GraphHere (w : World) (X : Nat) (A0 : Option Addr) (c0 : Nat) (AN : Option Addr) (cN : Nat) (AL : Option Addr) (cL : Nat) (vB vA : Value) (g : List S29) (od : List Nat) : Prop where mk ::
  (blk : w.heap[X]? = some (.cells #[.slice A0 g.length c0, .slice AN g.length cN, .slice AL od.length cL, vB, vA] 78 (0, 0)))
  (task : ∀ k, k < g.length → ∃ ad, A0 = some ad ∧ w.cell? (ad.add (k * 4)) = some (.int .i64 (rd_T29 g k).f0))
  (need : ∀ i, i < g.length → ∃ b, AN = some ⟨b, 0, none⟩ ∧ w.cell? ⟨b, i, none⟩ = some (.int .u16 ((at0 (needs g) i : Nat) : Int)))
  (ord : ∀ j (hj : j < od.length), ∃ b, AL = some ⟨b, 0, none⟩ ∧ w.cell? ⟨b, j, none⟩ = some (.int .i64 ((od[j] : Nat) : Int)))
  (lt : ∀ x, x ∈ od → x < g.length)
theorem GraphHere.below {w W : World} {X : Nat} {A0 : Option Addr} {c0 : Nat} {AN : Option Addr} {cN : Nat} {AL : Option Addr} {cL : Nat} {vB vA : Value} {g : List S29} {od : List Nat} (h : GraphHere w X A0 c0 AN cN AL cL vB vA g od) (hb : Below w.heap.size w W) : GraphHere W X A0 c0 AN cN AL cL vB vA g od := by
  have cb : ∀ {a : Addr} {v : Value}, w.cell? a = some v → W.cell? a = some v := fun {a v} hc => (hb.cell (World.block_lt_of_cell? w a hc)).trans hc
  refine ⟨(hb.block X (Array.getElem?_eq_some_iff.1 h.blk).1).trans h.blk, fun k hk => ?_, fun i hi => ?_, fun j hj => ?_, h.lt⟩
  · obtain ⟨ad, e, hc⟩ := h.task k hk
    exact ⟨ad, e, cb hc⟩
  · obtain ⟨b, e, hc⟩ := h.need i hi
    exact ⟨b, e, cb hc⟩
  · obtain ⟨b, e, hc⟩ := h.ord j hj
    exact ⟨b, e, cb hc⟩
theorem GraphHere.cells {w : World} {X : Nat} {A0 : Option Addr} {c0 : Nat} {AN : Option Addr} {cN : Nat} {AL : Option Addr} {cL : Nat} {vB vA : Value} {g : List S29} {od : List Nat} (h : GraphHere w X A0 c0 AN cN AL cL vB vA g od) :
    w.cell? ⟨X, 0, none⟩ = some (.slice A0 g.length c0) ∧ w.cell? ⟨X, 1, none⟩ = some (.slice AN g.length cN) ∧ w.cell? ⟨X, 2, none⟩ = some (.slice AL od.length cL) ∧ w.cell? ⟨X, 3, none⟩ = some vB ∧ w.cell? ⟨X, 4, none⟩ = some vA :=
  ⟨cell_of h.blk rfl, cell_of h.blk rfl, cell_of h.blk rfl, cell_of h.blk rfl, cell_of h.blk rfl⟩
def orderOf (g : List S29) : List Nat := (order (needs g)).1
def tmOf (g : List S29) (k : Nat) : Int := (rd_T29 g k).f0
def nbOf (g : List S29) (i : Nat) : List Nat := elems (at0 (needs g) i)
/-- What impl.graphOf returns of a valid graph. -/
theorem graphOf_here {A0 : Option Addr} {c0 : Nat} {g : List S29} {w : World} (hr0 : Kd.C k29 w A0 g.length g) (hc0 : g.length ≤ c0) (hT : Tab w) (h : held g = true) (hv : valid g = true) :
    Calls Tryd.prog 50 #[.slice A0 g.length c0] w fun e w' => ∃ (X Bb Ba : Nat) (AN : Option Addr) (cN : Nat) (AL : Option Addr) (cL : Nat), e = .returned (.tuple #[.pointer (some ⟨X, 0, none⟩), .bool true]) ∧ Below w.heap.size w w' ∧
      GraphHere w' X A0 c0 AN cN AL cL (.slice (some ⟨Bb, 0, none⟩) g.length g.length) (.slice (some ⟨Ba, 0, none⟩) g.length g.length) g (orderOf g) ∧
      w'.heap[Bb]? = some (.cells (row16 (known (needs g)).1) 57 (0, 0)) ∧ w'.heap[Ba]? = some (.cells (row16 (known (needs g)).2) 57 (0, 0)) := by
  refine (graphOf_yes hr0 hc0 hT h hv).mono ?_
  rintro e w' ⟨X, Bb, Ba, AN, cN, AL, cL, rfl, hb, _, _, _, hX, hN, hL, hB, hA⟩
  refine ⟨X, Bb, Ba, AN, cN, AL, cL, rfl, hb, ⟨?_, fun k hk => ?_, fun i hi => ?_, fun j hj => ?_, fun x hx => ?_⟩, hB, hA⟩
  · rw [ints_len, needs_len, ints_len] at hX
    exact hX
  · obtain ⟨ad, A1, c1, e, hc, _⟩ := at_T29 (Kd.C_below hr0 hb) (k : Int) (by omega) (by omega)
    rw [Int.toNat_natCast] at hc
    exact ⟨ad, e, hc⟩
  · obtain ⟨b, e, hc⟩ := row_cell hN i (by rw [ints_len, needs_len]; exact hi)
    rw [needs_geti g i hi] at hc
    exact ⟨b, e, hc⟩
  · obtain ⟨b, e, hc⟩ := row_cell hL j (by rw [ints_len]; exact hj)
    have eL : (ints (order (needs g)).1)[j]'(by rw [ints_len]; exact hj) = (((orderOf g)[j] : Nat) : Int) := List.getElem_map ..
    rw [eL] at hc
    exact ⟨b, e, hc⟩
  · rw [← needs_len g]
    exact order_lt (needs g) x hx
theorem GraphHere.size {w : World} {X : Nat} {A0 : Option Addr} {c0 : Nat} {AN : Option Addr} {cN : Nat} {AL : Option Addr} {cL : Nat} {vB vA : Value} {g : List S29} {od : List Nat} (h : GraphHere w X A0 c0 AN cN AL cL vB vA g od) :
    Calls Tryd.prog 44 #[.pointer (some ⟨X, 0, none⟩)] w fun e w' => e = .returned (.int .i64 (g.length : Int)) ∧ w' = w := graph_size h.blk
theorem orderOf_len {g : List S29} (hf : fine g = true) : (orderOf g).length ≤ 8 := by
  have := order_len (needs g)
  rw [needs_len] at this
  exact Nat.le_trans this (fine_len hf)
end Go.Proofs.YtokikapljmakbaaDoor.H
