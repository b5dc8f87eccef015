/- Loops within rounds: over a set's numbers within another loop over a function, and over a slice from its end (slices.Backward); what the body owes is told in the hypotheses. The contract of the tails of a graph: they are reckoned for all graphs that lie in memory. Tails and the longest time, as they are answered; no condition. -/
import Derived.RangeFuncNested
import Derived.Test.YtokikapljmakbaaDoorHV
namespace Go.Proofs.YtokikapljmakbaaDoor.H
open Go.RowKit Go.Shelf Go.Proofs.YtokikapljmakbaaDoorW.PrintWords Go.Proofs.YtokikapljmakbaaDoorW.PrintLast Go.Proofs.YtokikapljmakbaaDoorW.PrintMore Go.Proofs.YtokikapljmakbaaDoor.Q
attribute [local go_sem] Oper.semAt_some
set_option linter.unusedSimpArgs false
set_option linter.unusedVariables false

/-- A loop over a set within a round. -/
theorem over_set_in {l₀ : Nat} {r₀ : Loop} {s : Nat} (hs : s < 256) {g : Operand} {p q id : Nat} {ty : TypeId} {ps : String} {body : Code} {Q : Exit → Act → World → Prop} {a : Act} {w : World} {Bs n₀ : Nat} (hl₀ : w.heap[l₀]? = some (.loop r₀))
    (hg : a.eval g = .func (.func 76) #[] #[.pointer (some ⟨Bs, 0, none⟩)]) (hp : p < a.tmps.size) (hc : w.cell? ⟨Bs, 0, none⟩ = some (.int .u16 s)) (hT : Tab w) (hn₀ : n₀ ≤ w.heap.size) (h0 : 0 < n₀)
    (I : List Nat → World → Prop) (hI : OwnFrom w.heap.size I) (hstart : I [] w)
    (hbody : ∀ (l : Nat) (pre : List Nat) (x : Nat) (W : World), I pre W → x ∈ elems s → (∀ y, y ∈ pre → y ∈ elems s) → body.wpIn (Fence.wide.inRound l) 6 Tryd.prog (calm (fun _ W' => KeepsFrom w.heap.size W W' ∧ Below n₀ W W' ∧ I (pre ++ [x]) W')) { tmps := (a.tmps.setIfInBounds p (.int .i64 (x : Int))).setIfInBounds q (.int .i64 (x : Int)), defers := [] } W)
    (hdone : ∀ (W : World), I (elems s) W → Q .normal a W) :
    (Code.rangeFunc g #[p] (Code.region id #[{ dst := some q, op := .assign (.tmp p), type := ty, pos := ps, after := #[], guard := none }] false) body).wpIn (Fence.wide.inRound l₀) 8 Tryd.prog Q a w := by
  refine wpIn_rangeFunc_ownN rfl hl₀ (by omega) (gf := 76) (lb := #[.pointer (some ⟨Bs, 0, none⟩)]) hg trivial (enters_of Tryd.func76 (by kernel_rfl) rfl)
    (SeqStopsK.inRound l₀ (all_stops Fence.wide 7 trivial trivial rfl (by omega) Bs n₀ s hs w (World.block_lt_of_cell? w _ hc) hn₀ hT h0 hc)) belowK_t (belowK_b hn₀) (Below.refl _ _) (fun _ => rfl)
    (fun (pre : List (El s)) W => I (vals pre) W) (fun _ _ _ => False) (fun pre W W' row h1 h2 h3 => hI _ W W' row h1 h2 h3) (fun _ _ _ _ _ h _ _ => h) hstart
    (fun (x : El s) a' (_ : World) => a' = { tmps := (a.tmps.setIfInBounds p (.int .i64 (x.1 : Int))).setIfInBounds q (.int .i64 (x.1 : Int)), defers := [] }) (fun _ _ _ _ _ _ hs _ _ => hs) ?assign ?body ?done ?stop
  case assign =>
    intro l pre x W K hI hK
    have ef : ((#[p].zip (enc1 x)).foldl (fun t (p, v) => t.setIfInBounds p v) a.tmps) = a.tmps.setIfInBounds p (.int .i64 (x.1 : Int)) := by simp [enc1]
    rw [ef]
    refine wpIn_region_lit (l := [_]) (wpListIn_plain rfl fun K' hK' => ?_)
    unfold Oper.wpIn
    refine ⟨fun _ _ => trivial, ?_⟩
    rw [Oper.semAt_plain _ _ _ (by intro c h; cases h)]
    have hev : ((a.tmps.setIfInBounds p (Value.int .i64 (x.1 : Int))).getD p undef) = .int .i64 (x.1 : Int) := by
      simp [Array.getD_eq_getD_getElem?, Array.getElem?_setIfInBounds, hp]
    have hr : (execOp (Act.eval { tmps := a.tmps.setIfInBounds p (Value.int .i64 (x.1 : Int)), defers := [] }) { dst := some q, op := .assign (.tmp p), type := ty, pos := ps, after := #[], guard := none }).run Tryd.prog W = .ok (.value (.int .i64 (x.1 : Int))) W := by
      have he : Act.eval { tmps := a.tmps.setIfInBounds p (Value.int .i64 (x.1 : Int)), defers := [] } (.tmp p) = .int .i64 (x.1 : Int) := hev
      simp [execOp, he]
    rw [hr]
    exact hK' _ _ (wpListIn_nil (hK _ _ (KeepsFrom.refl _ _) (Below.refl _ _) hI rfl))
  case body =>
    intro l pre x a' W _ _ hI ha hlt
    subst ha
    refine wpIn_mono (hbody l (vals pre) x.1 W hI x.2 (fun y hy => by
      obtain ⟨z, _, rfl⟩ := List.mem_map.1 hy
      exact z.2)) ?_
    intro e a' W' h
    rw [← vals_snoc] at h
    cases e <;> first | exact h | exact h.elim
  case done =>
    intro ys W hys hI
    refine hdone W ?_
    rw [← hys]
    exact hI
  case stop =>
    intro c pre W _ h
    exact h.elim

/-! ### A slice from its end -/
abbrev Ix (od : List Nat) := { j : Nat // j < od.length }
def bk (od : List Nat) (j : Nat) : Nat := od.getD j 0
abbrev enc2 {od : List Nat} (x : Ix od) : Array Value := #[.int .i64 (x.1 : Int), .int .i64 ((bk od x.1 : Nat) : Int)]
def ixs {od : List Nat} (l : List (Ix od)) : List Nat := l.map Subtype.val
theorem ixs_snoc {od : List Nat} (l : List (Ix od)) (x : Ix od) : ixs (l ++ [x]) = ixs l ++ [x.1] := by unfold ixs; rw [List.map_append]; rfl
theorem bk_get (od : List Nat) (j : Nat) (h : j < od.length) : bk od j = od[j] := by
  unfold bk
  rw [List.getD_eq_getElem?_getD, List.getElem?_eq_getElem h]
  rfl
theorem back_list (od : List Nat) : ((List.range od.length).reverse.map (bk od)) = od.reverse := by
  rw [List.map_reverse]
  congr 1
  apply List.ext_getElem
  · simp
  · intro i h1 h2
    rw [List.getElem_map, List.getElem_range, bk_get od i h2]
theorem range_back (m : Nat) : (List.range (m + 1)).reverse = m :: (List.range m).reverse := by rw [List.range_succ, List.reverse_append]; rfl
/-- What the body of such a loop keeps: what lay below n₀, and the box of the slice. -/
def KpB (n₀ Bs : Nat) (ob : Obj) (W W' : World) : Prop := Below n₀ W W' ∧ (W.heap[Bs]? = some ob → W'.heap[Bs]? = some ob)
theorem kpB_t {n₀ Bs : Nat} {ob : Obj} {A B C : World} (h : KpB n₀ Bs ob A B) (k : KpB n₀ Bs ob B C) : KpB n₀ Bs ob A C := ⟨h.1.trans k.1, fun e => k.2 (h.2 e)⟩
theorem kpB_b {n₀ Bs : Nat} {ob : Obj} {w : World} (ho : ob.isCells = true) (hn : n₀ ≤ w.heap.size) (W : World) (l : Nat) (o o' : Obj) (hl : w.heap.size ≤ l) (h : W.heap[l]? = some o) (hc : o.isCells = false) (hw : o.isWalk = false) : KpB n₀ Bs ob W (W.putObj l o') :=
  ⟨belowK_b hn W l o o' hl h hc hw, fun e => (World.putObj_heap_other (fun (e2 : Bs = l) => by
    subst e2
    rw [e] at h
    cases h
    rw [ho] at hc
    cases hc)).trans e⟩
set_option maxHeartbeats 4000000 in
set_option maxRecDepth 100000 in
theorem back_stops (F : Fence) (n : Nat) (h : F.fn 75) (hro : F.round = none) (hn : 1 ≤ n) (Bs n₀ : Nat) (AL : Option Addr) (cL : Nat) (od : List Nat) (h8 : od.length ≤ 8) (w0 w : World) (hn₀ : n₀ ≤ w.heap.size) (hw0 : Below n₀ w0 w) (hn0 : w0.heap.size = n₀)
    (hord : ∀ j (hj : j < od.length), ∃ b, AL = some ⟨b, 0, none⟩ ∧ w0.cell? ⟨b, j, none⟩ = some (.int .i64 ((od[j] : Nat) : Int)))
    (hc : w.heap[Bs]? = some (.cells #[.slice AL od.length cL] 24 (0, 0))) :
    SeqStopsK F n Tryd.prog 75 #[.pointer (some ⟨Bs, 0, none⟩)] (fun x : Ix od => enc2 x) (KpB n₀ Bs (.cells #[.slice AL od.length cL] 24 (0, 0))) (fun xs => ixs xs = (List.range od.length).reverse) (fun _ => True) 8 w := fun l J Jx W hW _ _ hY hJ0 => by
  have hcW : W.heap[Bs]? = some (.cells #[.slice AL od.length cL] 24 (0, 0)) := (hW.block Bs (Array.getElem?_eq_some_iff.1 hc).1).trans hc
  have hb0 : Below n₀ w0 W := hw0.trans (hW.mono hn₀)
  have hc1 : W.cell? ⟨Bs, 0, none⟩ = some (.slice AL od.length cL) := cell_of hcW rfl
  refine callsIn_of_wp Tryd.func75 rfl h ?_ hro
  simp only [Tryd.ntmps75, List.size_toArray, List.length_cons, List.length_nil, Nat.reduceAdd, Nat.reduceSub, Array.replicate_succ, Array.replicate_zero, List.push_toArray, List.append_toArray, List.nil_append, List.cons_append]
  have HJ0 := Lib.hid hJ0
  have HCW := Lib.hid hcW
  clear hJ0 hcW
  gi_wp2
  gi_loopw [3] (fun r wr => ∃ (m : Nat) (pre : List (Ix od)), r = .int .i64 ((m : Int) - 1) ∧ m ≤ od.length ∧ Hid (ixs pre ++ (List.range m).reverse = (List.range od.length).reverse) ∧ J pre wr ∧ KpB n₀ Bs (.cells #[.slice AL od.length cL] 24 (0, 0)) W wr) (fun r _ => (intOf r + 1).toNat)
  case atStart => exact ⟨od.length, [], rfl, Nat.le_refl _, Lib.hid rfl, HJ0.out, Below.refl _ _, id⟩
  case round =>
    obtain ⟨m, pre, rfl, hm, hp, hJ, hB⟩ := hrel
    have hbr := hB.2 HCW.out
    have hc2 : wr.cell? ⟨Bs, 0, none⟩ = some (.slice AL od.length cL) := cell_of hbr rfl
    by_cases h0m : 0 < m
    · obtain ⟨j, rfl⟩ : ∃ j, m = j + 1 := ⟨m - 1, by omega⟩
      have hjl : j < od.length := by omega
      obtain ⟨b, rfl, hcj⟩ := hord j hjl
      have hcj2 : wr.cell? ⟨b, j, none⟩ = some (.int .i64 ((od[j] : Nat) : Int)) := ((hb0.trans hB.1).cell (p := ⟨b, j, none⟩) (by have := World.block_lt_of_cell? w0 _ hcj; rw [hn0] at this; exact this)).trans hcj
      have ej : ((j + 1 : Nat) : Int) - 1 = (j : Int) := by omega
      have hp2 : ixs (pre ++ [(⟨j, hjl⟩ : Ix od)]) ++ (List.range j).reverse = (List.range od.length).reverse := by
        have h1 := hp.out
        rw [range_back] at h1
        rw [ixs_snoc, List.append_assoc]
        exact h1
      have HP2 := Lib.hid hp2
      have hlen : pre.length < 8 := by
        have h2 := congrArg List.length hp.out
        rw [range_back] at h2
        simp [ixs] at h2
        omega
      obtain ⟨fn, tmps, assign, body, hy, hR⟩ := hY pre ⟨j, hjl⟩ wr hJ hlen
      dsimp only [enc2] at hy
      rw [bk_get od j hjl] at hy
      have hj0 : (0 : Int) ≤ (j : Int) := by omega
      have hj1 : (j : Int) < (od.length : Int) := by omega
      rw [ej]
      clear hp2 hp hlen hcj
      gi_wp2
      refine hR.mono ?_
      rintro e W3 (⟨rfl, hJ3, hk3⟩ | ⟨rfl, hJx3⟩)
      · gi_wp2
        go_roundw
        case rel => exact ⟨j, pre ++ [⟨j, hjl⟩], rfl, by omega, HP2, hJ3, kpB_t hB hk3⟩
        case measure => simp [intOf]
      · gi_wp2
        refine bodyPost_ret (results_none rfl _ _ _) rfl ?_
        exact ⟨⟨_, rfl⟩, .inr ⟨_, trivial, hJx3⟩⟩
    · obtain rfl : m = 0 := by omega
      gi_wp2
      go_end0
      exact ⟨⟨_, rfl⟩, .inl ⟨_, by have := hp.out; simpa using this, hJ⟩⟩
set_option maxHeartbeats 1000000 in
theorem backward_any (F : Fence) (n : Nat) (h : F.fn 62) (hro : F.round = none) (AL : Option Addr) (m cL : Nat) (w : World) : CallsIn F n Tryd.prog 62 #[.slice AL m cL] w fun e w' => e = .returned (.func (.func 75) #[] #[.pointer (some ⟨w.heap.size, 0, none⟩)]) ∧ w' = w.alloc (.cells #[.slice AL m cL] 24) := by
  refine callsIn_of_wp Tryd.func62 rfl h ?_ hro
  simp only [Tryd.ntmps62, List.size_toArray, List.length_cons, List.length_nil, Nat.reduceAdd, Nat.reduceSub, Array.replicate_succ, Array.replicate_zero, List.push_toArray, List.append_toArray, List.nil_append, List.cons_append]
  gi_wp2
  go_ret
  exact ⟨rfl, rfl⟩
end Go.Proofs.YtokikapljmakbaaDoor.H

namespace Go.Proofs.YtokikapljmakbaaDoor.H
open Go.RowKit Go.Shelf Go.Proofs.YtokikapljmakbaaDoorW.PrintWords Go.Proofs.YtokikapljmakbaaDoorW.PrintLast Go.Proofs.YtokikapljmakbaaDoorW.PrintMore Go.Proofs.YtokikapljmakbaaDoor.Q
attribute [local go_sem] Oper.semAt_some max_two max2_mx
set_option linter.unusedSimpArgs false
set_option linter.unusedVariables false

theorem tl1s_len (i : Nat) : ∀ (l : List Nat) (o : List Int), (l.foldl (tl1 i) o).length = o.length
  | [], _ => rfl
  | k :: t, o => by
    rw [List.foldl_cons, tl1s_len i t]
    exact List.length_set ..
theorem tls_len (tm : Nat → Int) (N : Nat → List Nat) : ∀ (l : List Nat) (o : List Int), (l.foldl (tlAt tm N) o).length = o.length
  | [], _ => rfl
  | i :: t, o => by
    rw [List.foldl_cons, tls_len tm N t]
    exact (tl1s_len i _ _).trans (List.length_set ..)
theorem below_between {n : Nat} {w A B : World} (h1 : Below n w A) (h2 : Below n w B) (hs : A.heap.size ≤ B.heap.size) : Below n A B := ⟨h2.os.trans h1.os.symm, h2.tape.trans h1.tape.symm, h2.output.trans h1.output.symm, hs, fun k hk => (h2.block k hk).trans (h1.block k hk).symm⟩
set_option maxRecDepth 100000 in
set_option maxHeartbeats 4000000 in
theorem tails_any {w : World} {X : Nat} {A0 : Option Addr} {c0 : Nat} {AN : Option Addr} {cN : Nat} {AL : Option Addr} {cL : Nat} {vB vA : Value} {g : List S29} {od : List Nat} (h : GraphHere w X A0 c0 AN cN AL cL vB vA g od) (hT : Tab w) (hf : fine g = true) (hod : od.length ≤ 8) :
    Calls Tryd.prog 40 #[.pointer (some ⟨X, 0, none⟩)] w fun e w' => ∃ v, e = .returned v ∧ Kd.R (Kd.int .i64) 3 w' w.heap.size (fun _ => True) v (tailsBy (tmOf g) (nbOf g) g.length od) ∧ Below w.heap.size w w' := by
  obtain ⟨i0, hi, hz0, hz1, hz2⟩ := info_parts info_int64
  have h8 := fine_len hf
  have h28 := two_le h8
  have hnd := needs_sets hf
  have HH := Aside0.mk (fun (W : World) (hb : Below w.heap.size w W) => GraphHere.below h hb)
  have HT := Aside0.mk hT
  have hXlt : X < w.heap.size := (Array.getElem?_eq_some_iff.1 h.blk).1
  clear h hT
  refine (callsIn_wide (n := 10)).1 ?_
  refine callsIn_of_wp_marks Tryd.func40 rfl trivial ?_ rfl
  simp only [Tryd.ntmps40, List.size_toArray, List.length_cons, List.length_nil, Nat.reduceAdd, Nat.reduceSub, Array.replicate_succ, Array.replicate_zero, List.push_toArray, List.append_toArray, List.nil_append, List.cons_append]
  have hmk := fun W : World => run_make (P := Tryd.prog) W 24 3 i0 (.int .i64 0) Tryd.underlying24 hi hz0 .i64 .i64 (g.length : Int) (g.length : Int) (by omega) (by omega) (by rw [hz2]; omega) (by omega)
  rw [hz1] at hmk
  simp only [Int.toNat_natCast, Nat.mul_one] at hmk
  have b1 : Below w.heap.size w (w.alloc (.cells #[.pointer (some ⟨X, 0, none⟩)] 49)) := below_alloc (Below.refl _ _) _
  have hsz := (HH.out _ b1).size
  obtain ⟨W0, hW0⟩ : ∃ W0, ((w.alloc (.cells #[.pointer (some ⟨X, 0, none⟩)] 49)).alloc (.cells (madeCells #[Value.int .i64 0] g.length) 3)).alloc (.cells #[.slice (some ⟨w.heap.size + 1, 0, none⟩) g.length g.length] 24) = W0 := ⟨_, rfl⟩
  have bW0 : Below w.heap.size w W0 := by rw [← hW0]; exact ((b1.alloc (by simp) _).alloc (by simp; omega) _)
  have hgc := (HH.out _ bW0).cells.2.2.1
  have hp1 : W0.heap[w.heap.size]? = some (.cells #[.pointer (some ⟨X, 0, none⟩)] 49 (0, 0)) := by rw [← hW0]; exact (Below.heap_alloc _ _ _ (by simp; omega)).trans ((Below.heap_alloc _ _ _ (by simp)).trans (World.alloc_heap_new w _))
  have hp2 : W0.heap[w.heap.size + 1]? = some (.cells (madeCells #[Value.int .i64 0] g.length) 3 (0, 0)) := by
    rw [← hW0]
    have := World.alloc_heap_new (w.alloc (.cells #[.pointer (some ⟨X, 0, none⟩)] 49)) (.cells (madeCells #[Value.int .i64 0] g.length) 3)
    rw [World.size_alloc] at this
    exact (Below.heap_alloc _ _ _ (by simp)).trans this
  have hp3 : W0.heap[w.heap.size + 1 + 1]? = some (.cells #[.slice (some ⟨w.heap.size + 1, 0, none⟩) g.length g.length] 24 (0, 0)) := by
    rw [← hW0]
    have := World.alloc_heap_new ((w.alloc (.cells #[.pointer (some ⟨X, 0, none⟩)] 49)).alloc (.cells (madeCells #[Value.int .i64 0] g.length) 3)) (.cells #[.slice (some ⟨w.heap.size + 1, 0, none⟩) g.length g.length] 24)
    rw [World.size_alloc, World.size_alloc] at this
    exact this
  obtain ⟨W5, hW5⟩ : ∃ W5, W0.alloc (.cells #[.slice AL od.length cL] 24) = W5 := ⟨_, rfl⟩
  have hc1 : W0.cell? ⟨w.heap.size, 0, none⟩ = some (.pointer (some ⟨X, 0, none⟩)) := cell_of hp1 rfl
  gi_wp2_with (first | (refine ⟨trivial, ?_⟩; gi_at_call 44; refine (callsIn_wide.2 hsz).mono ?_; rintro e w2 ⟨rfl, hw2⟩; subst hw2) | (refine ⟨trivial, ?_⟩; gi_at_call 62; refine (backward_any Fence.wide _ trivial rfl AL od.length cL _).mono ?_; rintro e w3 ⟨rfl, hw3⟩; subst hw3; rw [hW5]))
  rename_i Q' K hKn
  have HKn := Aside0.mk hKn
  have hs0 : W0.heap.size = w.heap.size + 1 + 1 + 1 := by rw [← hW0]; simp
  have hs5 : W5.heap.size = w.heap.size + 1 + 1 + 1 + 1 := by rw [← hW5]; simp [hs0]
  have hp4 : W5.heap[w.heap.size + 1 + 1 + 1]? = some (.cells #[.slice AL od.length cL] 24 (0, 0)) := by
    rw [← hW5, ← hs0]
    exact World.alloc_heap_new W0 _
  have bW5 : Below w.heap.size w W5 := by rw [← hW5]; exact bW0.alloc bW0.size _
  have up : ∀ {i : Nat} {x : Obj}, W0.heap[i]? = some x → W5.heap[i]? = some x := fun {i x} e => by rw [← hW5]; exact (Below.heap_alloc W0 _ i (Array.getElem?_eq_some_iff.1 e).1).trans e
  have hst0 : St1 w [(w.heap.size, .cells #[.pointer (some ⟨X, 0, none⟩)] 49 (0, 0)), (w.heap.size + 1 + 1, .cells #[.slice (some ⟨w.heap.size + 1, 0, none⟩) g.length g.length] 24 (0, 0)), (w.heap.size + 1 + 1 + 1, .cells #[.slice AL od.length cL] 24 (0, 0))] (w.heap.size + 1) (List.replicate g.length 0) W5 := ⟨fun p hp => by
    simp only [List.mem_cons, List.not_mem_nil, or_false] at hp
    rcases hp with rfl | rfl | rfl
    · exact up hp1
    · exact up hp3
    · exact hp4, by rw [up hp2, madeI], bW5⟩
  have hap0 : Apart1 w [(w.heap.size, .cells #[.pointer (some ⟨X, 0, none⟩)] 49 (0, 0)), (w.heap.size + 1 + 1, .cells #[.slice (some ⟨w.heap.size + 1, 0, none⟩) g.length g.length] 24 (0, 0)), (w.heap.size + 1 + 1 + 1, .cells #[.slice AL od.length cL] 24 (0, 0))] (w.heap.size + 1) := ⟨by omega, fun p hp => by
    simp only [List.mem_cons, List.not_mem_nil, or_false] at hp
    rcases hp with rfl | rfl | rfl
    · show w.heap.size ≠ w.heap.size + 1
      omega
    · show w.heap.size + 1 + 1 ≠ w.heap.size + 1
      omega
    · show w.heap.size + 1 + 1 + 1 ≠ w.heap.size + 1
      omega⟩
  rw [hs0]
  clear hKn hmk hsz hW0 hi hz0 hz1 hz2 hW5 up hgc hc1 hp1 hp2 hp3 hs0
  obtain ⟨B1, hB1⟩ : ∃ B1, w.heap.size = B1 := ⟨_, rfl⟩
  obtain ⟨Bo, hBo⟩ : ∃ Bo, w.heap.size + 1 = Bo := ⟨_, rfl⟩
  obtain ⟨B3, hB3⟩ : ∃ B3, w.heap.size + 1 + 1 = B3 := ⟨_, rfl⟩
  obtain ⟨Bs, hBs⟩ : ∃ Bs, w.heap.size + 1 + 1 + 1 = Bs := ⟨_, rfl⟩
  have hB13 : B1 ≠ Bo ∧ B3 ≠ Bo ∧ Bs ≠ Bo ∧ B1 < W5.heap.size ∧ B3 < W5.heap.size ∧ Bo < W5.heap.size ∧ Bs < W5.heap.size := by omega
  rw [hBs] at hp4
  rw [hBs, hB3, hBo, hB1] at hst0 hap0 ⊢
  obtain ⟨fs, hfs⟩ : ∃ fs : List (Nat × Obj), [(B1, Obj.cells #[.pointer (some ⟨X, 0, none⟩)] 49 (0, 0)), (B3, Obj.cells #[.slice (some ⟨Bo, 0, none⟩) g.length g.length] 24 (0, 0)), (Bs, Obj.cells #[.slice AL od.length cL] 24 (0, 0))] = fs := ⟨_, rfl⟩
  have m1 : (B1, Obj.cells #[.pointer (some ⟨X, 0, none⟩)] 49 (0, 0)) ∈ fs := by rw [← hfs]; exact List.mem_cons_self
  have m3 : (B3, Obj.cells #[.slice (some ⟨Bo, 0, none⟩) g.length g.length] 24 (0, 0)) ∈ fs := by rw [← hfs]; exact List.mem_cons_of_mem _ List.mem_cons_self
  have m4 : (Bs, Obj.cells #[.slice AL od.length cL] 24 (0, 0)) ∈ fs := by rw [← hfs]; exact List.mem_cons_of_mem _ (List.mem_cons_of_mem _ List.mem_cons_self)
  have hfc : ∀ p, p ∈ fs → p.2.isCells = true := fun p hp => by
    rw [← hfs] at hp
    simp only [List.mem_cons, List.not_mem_nil, or_false] at hp
    rcases hp with rfl | rfl | rfl <;> rfl
  rw [hfs] at hst0 hap0
  have HFC := Aside0.mk hfc
  have hBw : w.heap.size ≤ Bo := by omega
  have hX5 : w.heap.size ≤ W5.heap.size := by omega
  clear hfs hfc b1 hB1 hBo hB3 hBs hs5
  have HAP := Aside0.mk hap0
  clear hap0 bW0
  refine wpIn_rangeFunc_ownH rfl (by omega) (gf := 75) (lb := #[.pointer (some ⟨Bs, 0, none⟩)]) rfl trivial (enters_of Tryd.func75 (by kernel_rfl) rfl)
    (back_stops Fence.wide 9 trivial rfl (by omega) Bs w.heap.size AL cL od hod w W5 hX5 bW5 rfl (HH.out w (Below.refl _ _)).ord hp4) kpB_t (kpB_b rfl hX5) (Below.refl _ _) (fun _ => rfl)
    (fun (pre : List (Ix od)) W => (St1 w fs Bo (((ixs pre).map (bk od)).foldl (tlAt (tmOf g) (nbOf g)) (List.replicate g.length 0)) W) ∧ W5.heap.size ≤ W.heap.size) (fun _ _ _ => False)
    (OwnFrom.and (st1_own w fs Bo (fun (pre : List (Ix od)) => ((ixs pre).map (bk od)).foldl (tlAt (tmOf g) (nbOf g)) (List.replicate g.length 0)) _ hX5 (fun p hp => .inl (HFC.out p hp))) (fun _ _ _ _ h hg _ => Nat.le_trans h hg.size)) (fun _ _ _ _ _ h _ _ => h) ⟨hst0, Nat.le_refl _⟩
    (fun (x : Ix od) a' W => ∃ b, W5.heap.size ≤ b ∧ a' = { tmps := #[.pointer (some ⟨X, 0, none⟩), .pointer (some ⟨B1, 0, none⟩), .slice none 0 0, .pointer (some ⟨B3, 0, none⟩), undef, .pointer (some ⟨b, 0, none⟩), undef, .pointer (some ⟨X, 0, none⟩), .int .i64 (g.length : Int), .slice (some ⟨Bo, 0, none⟩) g.length g.length, .pointer (some ⟨X, 0, none⟩), .pointer (some ⟨X, 0, none⟩), .pointer (some ⟨X, 2, none⟩), .slice AL od.length cL, .func (.func 75) #[] #[.pointer (some ⟨Bs, 0, none⟩)], .int .i64 (x.1 : Int), .int .i64 ((bk od x.1 : Nat) : Int), undef, undef, undef, undef, undef, undef, undef, undef, undef, undef, undef, undef, undef, undef, undef, undef, undef, undef, undef, undef, undef, undef, undef, undef, undef, undef, undef, undef, undef, undef, undef, undef, undef, undef, undef, undef], defers := [] } ∧ W.heap[b]? = some (.cells #[.int .i64 ((bk od x.1 : Nat) : Int)] 3 (0, 0))) ?own ?assign ?body ?done ?stop
  case own =>
    rintro x a' _ W W' row ⟨b, hb, ha, hc⟩ hg hr
    refine ⟨b, hb, ha, (hg.block b (Array.getElem?_eq_some_iff.1 hc).1 (fun e => ?_)).trans hc⟩
    obtain ⟨_, o', h2, h3⟩ := hr b e.symm
    rw [hc] at h2
    cases h2
    cases h3
  case assign =>
    intro l pre x W K hI hK
    gi_wp2
    refine hK _ _ (KeepsFrom.of_grownBy (World.grownBy_alloc W _ none) (fun j e => by cases e)) ⟨(Below.refl _ W).alloc hI.1.below.size _, fun e => (Below.heap_alloc W _ Bs (Array.getElem?_eq_some_iff.1 e).1).trans e⟩ ⟨hI.1.alloc _, Nat.le_trans hI.2 (by simp)⟩ ⟨W.heap.size, hI.2, rfl, World.alloc_heap_new W _⟩
  case body =>
    rintro l pre x a' W hl ⟨r, hr⟩ ⟨hI, hws⟩ ⟨b, hb, rfl, hc⟩ hlt
    obtain ⟨i, hi⟩ : ∃ i, bk od x.1 = i := ⟨_, rfl⟩
    obtain ⟨o, ho⟩ : ∃ o, ((ixs pre).map (bk od)).foldl (tlAt (tmOf g) (nbOf g)) (List.replicate g.length 0) = o := ⟨_, rfl⟩
    have hol : o.length = g.length := by rw [← ho, tls_len, List.length_replicate]
    rw [ho] at hI
    rw [hi] at hc ⊢
    have hgw := HH.out W.drew hI.below.drew
    have hin : i < g.length := by
      rw [← hi, bk_get od x.1 x.2]
      exact hgw.lt _ (List.getElem_mem x.2)
    obtain ⟨ad, rfl, hct⟩ := hgw.task i hin
    have c0' := hgw.cells.1
    have c1 : W.drew.cell? ⟨B1, 0, none⟩ = some (.pointer (some ⟨X, 0, none⟩)) := cell_of (hI.fix _ m1) rfl
    have c2 : W.drew.cell? ⟨B3, 0, none⟩ = some (.slice (some ⟨Bo, 0, none⟩) g.length g.length) := cell_of (hI.fix _ m3) rfl
    have c3 : W.drew.cell? ⟨b, 0, none⟩ = some (.int .i64 (i : Int)) := cell_of hc rfl
    have c4 : W.drew.cell? ⟨Bo, i, none⟩ = some (.int .i64 (atI o i)) := hI.cell i (by omega)
    have f4 : W.drew.frozen? ⟨Bo, i, none⟩ = false := hI.frozen i
    have hi0 : (0 : Int) ≤ (i : Int) := by omega
    have hi1 : (i : Int) < (g.length : Int) := by omega
    have hx0 : (0 : Int) ≤ (x.1 : Int) := by omega
    have HI1 := Aside0.mk hI
    have HR := Aside0.mk hr
    have HC := Aside0.mk hc
    clear hI hr hc hgw hst0
    gi_wp2
    rename_i Q2 K2 hK2
    refine wpIn_calm ?_
    refine wpIn_round_still l 8 (calm_lets _) (by kernel_rfl) 14 (by kernel_rfl) (by kernel_rfl) ?_
    simp only [List.take_succ_cons, List.take_zero, List.drop_succ_cons, List.drop_zero]
    iterate 14 still_step
    refine wpStill_nil ?_
    go_wp2
    refine hK2 _ _ ?_
    have hbo : b ≠ Bo := by omega
    have hst6 : St1 w ((b, .cells #[.int .i64 (i : Int)] 3 (0, 0)) :: fs) Bo (o.set i (wrap64 (atI o i + (rd_T29 g i).f0))) (W.setCell ⟨Bo, i, none⟩ (.int .i64 (wrap64 (atI o i + (rd_T29 g i).f0)))).drew := ((HI1.out.set HAP.out i _).put (x := (b, .cells #[.int .i64 (i : Int)] 3 (0, 0))) ((Below.heap_setCell W ⟨Bo, i, none⟩ _ b hbo).trans HC.out)).drew
    have hr6 : (W.setCell ⟨Bo, i, none⟩ (.int .i64 (wrap64 (atI o i + (rd_T29 g i).f0)))).drew.heap[l]? = some (.loop r) := (KeepsOthers.setCell W _ _).same l _ HR.out rfl
    have hk6 : KeepsFrom W5.heap.size W (W.setCell ⟨Bo, i, none⟩ (.int .i64 (wrap64 (atI o i + (rd_T29 g i).f0)))).drew := ((KeepsOthers.setCell W _ _).trans (KeepsOthers.drew _)).from _
    obtain ⟨W6, hW6⟩ : ∃ W6, (W.setCell ⟨Bo, i, none⟩ (.int .i64 (wrap64 (atI o i + (rd_T29 g i).f0)))).drew = W6 := ⟨_, rfl⟩
    rw [hW6] at hst6 hr6 hk6 ⊢
    clear hW6 c0' c1 c2 c3 c4 f4 hct hK2 HC HR
    have hgw6 := HH.out W6.drew hst6.below.drew
    obtain ⟨gN, rfl, hcN⟩ := hgw6.need i hin
    have d1 : W6.drew.cell? ⟨B1, 0, none⟩ = some (.pointer (some ⟨X, 0, none⟩)) := cell_of (hst6.fix _ (List.mem_cons_of_mem _ m1)) rfl
    have d2 := hgw6.cells.2.1
    have d3 : W6.drew.cell? ⟨b, 0, none⟩ = some (.int .i64 (i : Int)) := cell_of hst6.fix.head rfl
    have hcall := (callsIn_wide (n := 3)).1 (all_any Fence.wide 3 trivial rfl ((at0 (needs g) i : Nat) : Int) W6.drew)
    have HS6 := Aside0.mk hst6
    have HR6 := Aside0.mk hr6
    have HK6 := Aside0.mk hk6
    clear hst6 hr6 hk6 hgw6
    gi_wp2
    rename_i K3 hK3
    refine wpIn_calm ?_
    refine wpIn_round_still l 8 (calm_lets _) (by kernel_rfl) 7 (by kernel_rfl) (by kernel_rfl) ?_
    simp only [List.take_succ_cons, List.take_zero, List.drop_succ_cons, List.drop_zero]
    iterate 7 still_step
    refine wpStill_nil ?_
    go_wp2_with (go_at_call 63; refine hcall.mono ?_; rintro e w' ⟨rfl, rfl⟩)
    refine hK3 _ _ ?_
    gi_wp2
    have hs2 : at0 (needs g) i < 2 ^ g.length := hnd.at i
    have hst7 := (HS6.out.alloc (.cells #[.int .u16 ((at0 (needs g) i : Nat) : Int)] 57)).drew
    have hsB := (Boxed.new W6 57 (.int .u16 ((at0 (needs g) i : Nat) : Int))).cell
    have hr7 : (W6.alloc (.cells #[.int .u16 ((at0 (needs g) i : Nat) : Int)] 57)).drew.heap[l]? = some (.loop r) := (KeepsOthers.alloc W6 _).same l _ HR6.out rfl
    have hk7 := HK6.out.trans (((KeepsOthers.alloc W6 (.cells #[.int .u16 ((at0 (needs g) i : Nat) : Int)] 57)).trans (KeepsOthers.drew _)).from W5.heap.size)
    obtain ⟨W7, hW7⟩ : ∃ W7, (W6.alloc (.cells #[.int .u16 ((at0 (needs g) i : Nat) : Int)] 57)).drew = W7 := ⟨_, rfl⟩
    have hsB7 : W7.cell? ⟨W6.heap.size, 0, none⟩ = some (.int .u16 ((at0 (needs g) i : Nat) : Int)) := by rw [← hW7]; exact hsB
    have hTW := HT.out.below hst7.below
    rw [hW7] at hst7 hTW hr7 hk7 ⊢
    obtain ⟨o1, ho1⟩ : ∃ o1, o.set i (wrap64 (atI o i + (rd_T29 g i).f0)) = o1 := ⟨_, rfl⟩
    have hol1 : o1.length = g.length := by rw [← ho1, List.length_set]; exact hol
    rw [ho1] at hst7
    have hap7 : Apart1 w ((b, .cells #[.int .i64 (i : Int)] 3 (0, 0)) :: fs) Bo := ⟨HAP.out.ge, fun p hp => by
      rcases List.mem_cons.1 hp with rfl | hp
      · exact hbo
      · exact HAP.out.all p hp⟩
    have HAP7 := Aside0.mk hap7
    have HI7 := Aside0.mk HI1.out.below
    have hWW7 : W.heap.size ≤ W7.heap.size := hk7.size
    have hpos := HT.out.out.1
    have hst7fix : ∀ p, p ∈ ((b, Obj.cells #[.int .i64 (i : Int)] 3 (0, 0)) :: fs) → p.2.isCells = true := fun p hp => by
      rcases List.mem_cons.1 hp with rfl | hp
      · rfl
      · exact HFC.out p hp
    clear hW7 hsB HS6 HR6 HK6 HI1 hcall hcN d1 d2 d3 hap7
    refine over_set_in (s := at0 (needs g) i) (Nat.lt_of_lt_of_le hs2 h28) (Bs := W6.heap.size) (n₀ := w.heap.size) hr7 rfl (by simp) hsB7 hTW hst7.below.size hpos
      (fun pre2 W' => St1 w ((b, .cells #[.int .i64 (i : Int)] 3 (0, 0)) :: fs) Bo (pre2.foldl (tl1 i) o1) W' ∧ KeepsFrom W5.heap.size W W')
      (OwnFrom.and (st1_own w _ Bo (fun (pre2 : List Nat) => pre2.foldl (tl1 i) o1) _ hst7.below.size (fun p hp => .inl (hst7fix p hp))) (ownFrom_keepsFrom hWW7)) ⟨hst7, hk7⟩ ?body1 ?done1
    case body1 =>
      rintro l2 pre2 k W' ⟨hI, hkk⟩ hk hpre
      have hkn : k < g.length := elem_lt hs2 hk
      obtain ⟨bb, hbb⟩ : ∃ bb, pre2.foldl (tl1 i) o1 = bb := ⟨_, rfl⟩
      have hbl : bb.length = g.length := by rw [← hbb, tl1s_len]; exact hol1
      rw [hbb] at hI
      have c2 : W'.drew.cell? ⟨B3, 0, none⟩ = some (.slice (some ⟨Bo, 0, none⟩) g.length g.length) := cell_of (hI.fix _ (List.mem_cons_of_mem _ m3)) rfl
      have c3 : W'.drew.cell? ⟨b, 0, none⟩ = some (.int .i64 (i : Int)) := cell_of hI.fix.head rfl
      have c4 : W'.drew.cell? ⟨Bo, i, none⟩ = some (.int .i64 (atI bb i)) := hI.cell i (by omega)
      have c5 : W'.drew.cell? ⟨Bo, k, none⟩ = some (.int .i64 (atI bb k)) := hI.cell k (by omega)
      have f5 : W'.drew.frozen? ⟨Bo, k, none⟩ = false := hI.frozen k
      have hk0 : (0 : Int) ≤ (k : Int) := by omega
      have hk1 : (k : Int) < (g.length : Int) := by omega
      have HI2 := Aside0.mk hI
      have HKK := Aside0.mk hkk
      clear hI hst7 hTW hkk hr7 hk7
      simp only [List.setIfInBounds_toArray, List.set_cons_succ, List.set_cons_zero]
      refine wpIn_block_calm ?_
      refine wpIn_round_still l2 6 (calm_lets _) (by kernel_rfl) 12 (by kernel_rfl) (by kernel_rfl) ?_
      simp only [List.take_succ_cons, List.take_zero, List.drop_succ_cons, List.drop_zero]
      iterate 12 still_step
      refine wpStill_nil ?_
      go_wp2
      refine ⟨((KeepsOthers.setCell W' _ _).trans (KeepsOthers.drew _)).from _, ((Below.refl _ W').setCell (p := ⟨Bo, k, none⟩) HAP7.out.ge _).drew, ?_, HKK.out.trans (((KeepsOthers.setCell W' _ _).trans (KeepsOthers.drew _)).from _)⟩
      rw [List.foldl_append, hbb]
      exact (HI2.out.set HAP7.out k _).drew
    case done1 =>
      rintro W' ⟨hI, hkk⟩
      have HI2 := Aside0.mk hI
      have HKK := Aside0.mk hkk
      clear hI hst7 hTW hkk hr7 hk7
      gi_wp2
      refine ⟨HKK.out, ⟨below_between HI7.out HI2.out.below HKK.out.size, fun _ => HI2.out.fix _ (List.mem_cons_of_mem _ m4)⟩, ?_, Nat.le_trans hws HKK.out.size⟩
      rw [ixs_snoc, List.map_append, List.foldl_append, ho]
      have h2 := HI2.out
      rw [← ho1] at h2
      have e : ([x.1].map (bk od)).foldl (tlAt (tmOf g) (nbOf g)) o = (elems (at0 (needs g) i)).foldl (tl1 i) (o.set i (wrap64 (atI o i + (rd_T29 g i).f0))) := by
        show tlAt (tmOf g) (nbOf g) o (bk od x.1) = _
        rw [hi]
        rfl
      rw [e]
      exact h2.less (fun p hp => List.mem_cons_of_mem _ hp)
  case done =>
    rintro D xs W hD hxs ⟨hI, hws⟩ hK
    have hrow : ((ixs xs).map (bk od)).foldl (tlAt (tmOf g) (nbOf g)) (List.replicate g.length 0) = tailsBy (tmOf g) (nbOf g) g.length od := by
      rw [hxs, back_list]
      rfl
    rw [hrow] at hI
    have c2 : W.cell? ⟨B3, 0, none⟩ = some (.slice (some ⟨Bo, 0, none⟩) g.length g.length) := cell_of (hI.fix _ m3) rfl
    have HI := Aside0.mk hI
    clear hI hst0
    gi_wp2
    refine HKn.out _ _ ?_
    gi_wp2
    refine leaves_marks w.heap.size (fun W => St1 w fs Bo (tailsBy (tmOf g) (nbOf g) g.length od) W) (fun W D h hD hK => (st1_own (β := Unit) w _ Bo (fun _ => tailsBy (tmOf g) (nbOf g) g.length od) w.heap.size (Nat.le_refl _) (fun p hp => .inl (HFC.out p hp))).putObj (s := ()) _ h hD hK rfl) ?_ [D] W (by simp) (fun x hx => by rw [List.mem_singleton] at hx; omega) (fun p hp => by
      have : p = (D, .deferred (some [])) := by simpa [markObjs] using hp
      rw [this]
      exact hK) HI.out
    intro W h
    have hl : (tailsBy (tmOf g) (nbOf g) g.length od).length = g.length := by unfold tailsBy; rw [tls_len, List.length_replicate]
    have hr := R_row h.row hBw (by rw [hl]; unfold maxLen; omega)
    rw [hl] at hr
    exact ⟨_, results_tmp rfl _ _ _, .slice (some ⟨Bo, 0, none⟩) g.length g.length, rfl, hr, h.below⟩
  case stop =>
    intro D c pre W _ _ h _
    exact h.elim
end Go.Proofs.YtokikapljmakbaaDoor.H

namespace Go.Proofs.YtokikapljmakbaaDoor.H
open Go.RowKit Go.Shelf Go.Proofs.YtokikapljmakbaaDoorW.PrintWords Go.Proofs.YtokikapljmakbaaDoorW.PrintLast Go.Proofs.YtokikapljmakbaaDoorW.PrintMore Go.Proofs.YtokikapljmakbaaDoor.Q
attribute [local go_sem] Oper.semAt_some
set_option linter.unusedSimpArgs false
set_option linter.unusedVariables false

def tailTimes (g : List S29) : List Int := if valid g then tailsBy (tmOf g) (nbOf g) g.length (orderOf g) else []
def topOf (l : List Int) : Int := l.foldl mx 0
def longestTime (g : List S29) : Int := if valid g then topOf (tailTimes g) else -1
theorem tailTimes_len {g : List S29} (hv : valid g = true) : (tailTimes g).length = g.length := by
  unfold tailTimes
  rw [if_pos hv]
  unfold tailsBy
  rw [tls_len, List.length_replicate]
end Go.Proofs.YtokikapljmakbaaDoor.H
