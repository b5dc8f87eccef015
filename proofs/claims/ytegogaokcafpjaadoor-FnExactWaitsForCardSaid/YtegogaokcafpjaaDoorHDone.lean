/- impl.doneIn: a graph and a set of done tasks that can be done together; ValidDone, WaitsFor. -/
import Derived.Test.YtegogaokcafpjaaDoorHM
import Derived.Laws.ResultCell
namespace Go.Proofs.YtegogaokcafpjaaDoor.H
open Go.RowKit Go.Shelf Go.Proofs.YtegogaokcafpjaaDoorW.PrintWords Go.Proofs.YtegogaokcafpjaaDoorW.PrintLast Go.Proofs.YtegogaokcafpjaaDoorW.PrintMore Go.Proofs.YtegogaokcafpjaaDoor.Q
attribute [local go_sem] Oper.semAt_some
set_option linter.unusedSimpArgs false
set_option linter.unusedVariables false

theorem results_cell3 {P : Program} {fn : Func} {p q r : Tmp} {t1 t2 t3 : TypeId} (h : fn.results = #[.cell p t1, .cell q t2, .cell r t3]) (tmps : Array Value) (w : World) {ap aq ar : Addr} {v1 v2 v3 : Value}
    (hp : tmps.getD p undef = .pointer (some ap)) (hq : tmps.getD q undef = .pointer (some aq)) (hr : tmps.getD r undef = .pointer (some ar))
    (l1 : (loadVar t1 ap).run P w = .ok v1 w) (l2 : (loadVar t2 aq).run P w = .ok v2 w) (l3 : (loadVar t3 ar).run P w = .ok v3 w) :
    (results fn tmps).run P w = .ok (.tuple #[v1, v2, v3]) w := by
  simp only [results, h]
  rw [Array.getD_eq_getD_getElem?] at hp hq hr
  simp [Sem.run_bind, Result.andThen, hp, hq, hr, asAddr, l1, l2, l3]
theorem load_set (w : World) (a : Addr) (v : Value) (hc : w.cell? a = some v) : (loadVar 61 a).run Tryd.prog w = .ok v w := by
  go_simp
theorem load_graph (w : World) (a : Addr) (v : Value) (hc : w.cell? a = some v) : (loadVar 48 a).run Tryd.prog w = .ok v w := by
  go_simp
theorem load_bool (w : World) (a : Addr) (v : Value) (hc : w.cell? a = some v) : (loadVar 4 a).run Tryd.prog w = .ok v w := by
  go_simp
/-- It goes on, or it leaves. -/
def goesOr (K J : World → Prop) : Exit → Act → World → Prop
  | .normal, _, W => K W
  | .ret, _, W => J W
  | _, _, _ => False
theorem goesOr_lets (K J : World → Prop) : ¬ LetsOut (goesOr K J) := fun ⟨_, _, h⟩ => h
/-- A loop over a set that may leave by a return. -/
theorem over_set_ret (n : Nat) {s : Nat} (hs : s < 256) {g : Operand} {p q id : Nat} {ty : TypeId} {ps : String} {body : Code} {Q : Exit → Act → World → Prop} {a : Act} {w : World} {Bs n₀ : Nat}
    (hg : a.eval g = .func (.func 70) #[] #[.pointer (some ⟨Bs, 0, none⟩)]) (hp : p < a.tmps.size) (hc : w.cell? ⟨Bs, 0, none⟩ = some (.int .u16 s)) (hT : Tab w) (hn₀ : n₀ ≤ w.heap.size) (h0 : 0 < n₀)
    (I J : List Nat → World → Prop) (hI : OwnFrom w.heap.size I) (hJ : OwnFrom w.heap.size J) (hstart : I [] w)
    (hbody : ∀ (l : Nat) (pre : List Nat) (x : Nat) (W : World), I pre W → x ∈ elems s → (∀ y, y ∈ pre → y ∈ elems s) → body.wpIn (Fence.wide.inRound l) 8 Tryd.prog (goesOr (fun W' => KeepsFrom w.heap.size W W' ∧ Below n₀ W W' ∧ I (pre ++ [x]) W') (fun W' => KeepsFrom w.heap.size W W' ∧ J (pre ++ [x]) W')) { tmps := (a.tmps.setIfInBounds p (.int .i64 (x : Int))).setIfInBounds q (.int .i64 (x : Int)), defers := [] } W)
    (hdone : ∀ (D : Nat) (W : World), w.heap.size ≤ D → I (elems s) W → W.heap[D]? = some (.deferred (some [])) → Q .normal { a with defers := { target := .collected D, args := #[] } :: a.defers } W)
    (hstop : ∀ (D : Nat) (pre : List Nat) (W : World), w.heap.size ≤ D → pre <+: elems s → J pre W → W.heap[D]? = some (.deferred (some [])) → Code.ret.wpIn Fence.wide 10 Tryd.prog Q { a with defers := { target := .collected D, args := #[] } :: a.defers } W) :
    (Code.rangeFunc g #[p] (Code.region id #[{ dst := some q, op := .assign (.tmp p), type := ty, pos := ps, after := #[], guard := none }] false) body).wpIn Fence.wide 10 Tryd.prog Q a w := by
  refine wpIn_rangeFunc_ownG rfl (by omega) (gf := 70) (lb := #[.pointer (some ⟨Bs, 0, none⟩)]) hg trivial (enters_of Tryd.func70 (by kernel_rfl) rfl)
    (all_stops Fence.wide 9 trivial trivial rfl (by omega) Bs n₀ s hs w (World.block_lt_of_cell? w _ hc) hn₀ hT h0 hc) belowK_t (belowK_b hn₀) (Below.refl _ _) (fun _ => rfl)
    (fun (pre : List (El s)) W => I (vals pre) W) (fun c pre W => c = .ret ∧ J (vals pre) W) (fun pre W W' row h1 h2 h3 => hI _ W W' row h1 h2 h3) (fun c pre W W' row h1 h2 h3 => ⟨h1.1, hJ _ W W' row h1.2 h2 h3⟩) hstart
    (fun (x : El s) => { tmps := (a.tmps.setIfInBounds p (.int .i64 (x.1 : Int))).setIfInBounds q (.int .i64 (x.1 : Int)), defers := [] }) ?assign ?body ?done ?stop
  case assign =>
    intro l x W K hK
    have ef : ((#[p].zip (enc1 x)).foldl (fun t (p, v) => t.setIfInBounds p v) a.tmps) = a.tmps.setIfInBounds p (.int .i64 (x.1 : Int)) := by simp [enc1]
    rw [ef]
    refine wpIn_region_lit (l := [_]) (wpListIn_plain rfl fun K' hK' => ?_)
    unfold Oper.wpIn
    refine ⟨fun _ _ => trivial, ?_⟩
    rw [Oper.semAt_plain _ _ _ (by intro c h; cases h)]
    have hev : ((a.tmps.setIfInBounds p (Value.int .i64 (x.1 : Int))).getD p undef) = .int .i64 (x.1 : Int) := by
      simp [Array.getD_eq_getD_getElem?, Array.getElem?_setIfInBounds, hp]
    have hr : (execOp (Act.eval { tmps := a.tmps.setIfInBounds p (Value.int .i64 (x.1 : Int)), defers := [] }) { dst := some q, op := .assign (.tmp p), type := ty, pos := ps, after := #[], guard := none }).run Tryd.prog W = .ok (.value (.int .i64 (x.1 : Int))) W := by
      have he : Act.eval { tmps := a.tmps.setIfInBounds p (Value.int .i64 (x.1 : Int)), defers := [] } (.tmp p) = .int .i64 (x.1 : Int) := hev
      simp [execOp, he]
    rw [hr]
    exact hK' _ _ (wpListIn_nil hK)
  case body =>
    intro l pre x W hI hlt
    refine wpIn_mono (hbody l (vals pre) x.1 W hI x.2 (fun y hy => by
      obtain ⟨z, _, rfl⟩ := List.mem_map.1 hy
      exact z.2)) ?_
    intro e a' W' h
    rw [← vals_snoc] at h
    cases e <;> first | exact h | exact ⟨h.1, rfl, h.2⟩ | exact h.elim
  case done =>
    intro D ys W hD hys hI hK
    refine hdone D W hD ?_ hK
    rw [← hys]
    exact hI
  case stop =>
    rintro D c pre W hD hpre ⟨rfl, h⟩ hK
    exact hstop D (vals pre) W hD hpre h hK
theorem wpIn_block_goes {F : Fence} {n : Nat} {P : Program} {id : Nat} {c : Code} {K J : World → Prop} {a : Act} {w : World} (h : c.wpIn F n P (goesOr K J) a w) : (Code.block id c).wpIn F n P (goesOr K J) a w :=
  wpIn_block (wpIn_mono h (fun e a w h => by cases e <;> first | exact h | exact h.elim))
/-- Whether tasks can be done together. -/
def doneOk (g : List S33) (ds : List Int) : Bool := valid g && (asc g.length 0 ds && (elems (mask ds 0)).all fun i => (at0 (needs g) i &&& (255 - mask ds 0)) == 0)
def DoneIn (w : World) (v0 : Value) (g : List S33) (ds : List Int) (e : Ending) (w' : World) : Prop := ∃ (p : Value) (s : Int), e = .returned (.tuple #[p, .int .u16 s, .bool (doneOk g ds)]) ∧ Below w.heap.size w w' ∧ (doneOk g ds = true → s = (mask ds 0 : Nat) ∧ GraphAt w.heap.size w' p v0 g)
theorem graph_size {w : World} {X n : Nat} {c0 : Nat} {A0 : Option Addr} {vN vL vB vA : Value} (hX : w.heap[X]? = some (.cells #[.slice A0 n c0, vN, vL, vB, vA] 57 (0, 0))) : Calls Tryd.prog 57 #[.pointer (some ⟨X, 0, none⟩)] w fun e w' => e = .returned (.int .i64 (n : Int)) ∧ w' = w := by
  have hc : w.cell? ⟨X, 0, none⟩ = some (.slice A0 n c0) := cell_of hX rfl
  go_enter Tryd.func57, Tryd.ntmps57
  go_wp2
  go_ret
  exact ⟨rfl, rfl⟩
/-- The result variables' blocks. -/
structure Res (w W : World) (v4 v5 v6 : Value) : Prop where mk ::
  (b4 : W.heap[w.heap.size]? = some (.cells #[v4] 48 (0, 0))) (b5 : W.heap[w.heap.size + 1]? = some (.cells #[v5] 61 (0, 0))) (b6 : W.heap[w.heap.size + 1 + 1]? = some (.cells #[v6] 4 (0, 0))) (below : Below w.heap.size w W)
theorem Res.start (w : World) (v4 v5 v6 : Value) : Res w (((w.alloc (.cells #[v4] 48)).alloc (.cells #[v5] 61)).alloc (.cells #[v6] 4)) v4 v5 v6 := by
  have a0 := World.alloc_heap_new w (.cells #[v4] 48)
  have a1 := World.alloc_heap_new (w.alloc (.cells #[v4] 48)) (.cells #[v5] 61)
  have a2 := World.alloc_heap_new ((w.alloc (.cells #[v4] 48)).alloc (.cells #[v5] 61)) (.cells #[v6] 4)
  rw [World.size_alloc] at a1
  rw [World.size_alloc, World.size_alloc] at a2
  have k : ∀ (v : World) (o : Obj) (i : Nat) (x : Obj), v.heap[i]? = some x → (v.alloc o).heap[i]? = some x := fun v o i x h => (Below.heap_alloc v o i (Array.getElem?_eq_some_iff.1 h).1).trans h
  exact ⟨k _ _ _ _ (k _ _ _ _ a0), k _ _ _ _ a1, a2, (((Below.refl _ w).alloc (Nat.le_refl _) _).alloc (by simp) _).alloc (by simp; omega) _⟩
theorem Res.on {w W W2 : World} {v4 v5 v6 : Value} (h : Res w W v4 v5 v6) (hb : Below W.heap.size W W2) : Res w W2 v4 v5 v6 := by
  have l : ∀ {i : Nat} {x : Obj}, W.heap[i]? = some x → W2.heap[i]? = some x := fun {i x} e => (hb.block i (Array.getElem?_eq_some_iff.1 e).1).trans e
  exact ⟨l h.b4, l h.b5, l h.b6, h.below.trans (hb.mono h.below.size)⟩
theorem Res.alloc {w W : World} {v4 v5 v6 : Value} (h : Res w W v4 v5 v6) (o : Obj) : Res w (W.alloc o) v4 v5 v6 := h.on (below_alloc (Below.refl _ _) o)
theorem Res.drew {w W : World} {v4 v5 v6 : Value} (h : Res w W v4 v5 v6) : Res w W.drew v4 v5 v6 := ⟨h.b4, h.b5, h.b6, h.below.drew⟩
theorem one_set (u v : Value) : (#[u] : Array Value).setIfInBounds 0 v = #[v] := by simp
theorem Res.set4 {w W : World} {v4 v5 v6 : Value} (h : Res w W v4 v5 v6) (v : Value) : Res w (W.setCell ⟨w.heap.size, 0, none⟩ v) v v5 v6 := by
  have := heap_setCell_same (v := v) (i := 0) h.b4
  rw [one_set] at this
  exact ⟨this, (Below.heap_setCell W ⟨w.heap.size, 0, none⟩ v _ (by simp)).trans h.b5, (Below.heap_setCell W ⟨w.heap.size, 0, none⟩ v _ (by simp; omega)).trans h.b6, h.below.setCell (by simp) _⟩
theorem Res.set5 {w W : World} {v4 v5 v6 : Value} (h : Res w W v4 v5 v6) (v : Value) : Res w (W.setCell ⟨w.heap.size + 1, 0, none⟩ v) v4 v v6 := by
  have := heap_setCell_same (v := v) (i := 0) h.b5
  rw [one_set] at this
  exact ⟨(Below.heap_setCell W ⟨w.heap.size + 1, 0, none⟩ v _ (by simp)).trans h.b4, this, (Below.heap_setCell W ⟨w.heap.size + 1, 0, none⟩ v _ (by simp)).trans h.b6, h.below.setCell (by simp) _⟩
theorem Res.set6 {w W : World} {v4 v5 v6 : Value} (h : Res w W v4 v5 v6) (v : Value) : Res w (W.setCell ⟨w.heap.size + 1 + 1, 0, none⟩ v) v4 v5 v := by
  have := heap_setCell_same (v := v) (i := 0) h.b6
  rw [one_set] at this
  exact ⟨(Below.heap_setCell W ⟨w.heap.size + 1 + 1, 0, none⟩ v _ (by simp; omega)).trans h.b4, (Below.heap_setCell W ⟨w.heap.size + 1 + 1, 0, none⟩ v _ (by simp)).trans h.b5, this, h.below.setCell (by simp; omega) _⟩
theorem Res.cells {w W : World} {v4 v5 v6 : Value} (h : Res w W v4 v5 v6) : W.cell? ⟨w.heap.size, 0, none⟩ = some v4 ∧ W.frozen? ⟨w.heap.size, 0, none⟩ = false ∧ W.cell? ⟨w.heap.size + 1, 0, none⟩ = some v5 ∧ W.frozen? ⟨w.heap.size + 1, 0, none⟩ = false ∧ W.cell? ⟨w.heap.size + 1 + 1, 0, none⟩ = some v6 ∧ W.frozen? ⟨w.heap.size + 1 + 1, 0, none⟩ = false :=
  ⟨cell_of h.b4 rfl, frozen_of h.b4, cell_of h.b5 rfl, frozen_of h.b5, cell_of h.b6 rfl, frozen_of h.b6⟩
theorem ne_deferred {W : World} {k D : Nat} {o : Obj} {l : Option (List Deferred)} (hk : W.heap[k]? = some o) (hK : W.heap[D]? = some (.deferred l)) (ho : o.isCells = true) : k ≠ D := by
  rintro rfl
  rw [hk] at hK
  cases hK
  cases ho
theorem Res.put {w W : World} {v4 v5 v6 : Value} (h : Res w W v4 v5 v6) {D : Nat} {l : Option (List Deferred)} (hD : w.heap.size ≤ D) (hK : W.heap[D]? = some (.deferred l)) (o : Obj) : Res w (W.putObj D o) v4 v5 v6 :=
  ⟨(World.putObj_heap_other (ne_deferred h.b4 hK rfl)).trans h.b4, (World.putObj_heap_other (ne_deferred h.b5 hK rfl)).trans h.b5, (World.putObj_heap_other (ne_deferred h.b6 hK rfl)).trans h.b6, h.below.grown (grownBy_putObj' W D o) h.below.size (fun j ej => by cases ej; omega)⟩
theorem heap_same {W : World} {b0 : Nat} {t : TypeId} {v : Value} {z : Nat × Nat} (h : W.heap[b0]? = some (.cells #[v] t z)) (k : Nat) : (W.setCell ⟨b0, 0, none⟩ v).heap[k]? = W.heap[k]? := by
  by_cases e : k = b0
  · subst e
    rw [heap_setCell_same h, one_set, h]
  · exact Below.heap_setCell W ⟨b0, 0, none⟩ v k e
theorem St.same {w W : World} {fs : List (Nat × Obj)} {Bb Ba : Nat} {b a : List Nat} (h : St w fs Bb Ba b a W) {b0 : Nat} {t : TypeId} {v : Value} (hm : (b0, Obj.cells #[v] t (0, 0)) ∈ fs) (hge : w.heap.size ≤ b0) : St w fs Bb Ba b a (W.setCell ⟨b0, 0, none⟩ v) :=
  ⟨fun p hp => (heap_same (h.fix _ hm) _).trans (h.fix p hp), (heap_same (h.fix _ hm) _).trans h.rowb, (heap_same (h.fix _ hm) _).trans h.rowa, h.below.setCell hge _⟩
/-- What the function's end reads. -/
theorem Res.results {w W : World} {v4 v5 v6 : Value} (h : Res w W v4 v5 v6) {tmps : Array Value} (hp : tmps.getD 4 undef = .pointer (some ⟨w.heap.size, 0, none⟩)) (hq : tmps.getD 5 undef = .pointer (some ⟨w.heap.size + 1, 0, none⟩)) (hr : tmps.getD 6 undef = .pointer (some ⟨w.heap.size + 1 + 1, 0, none⟩)) :
    (results Tryd.f54 tmps).run Tryd.prog W = .ok (.tuple #[v4, v5, v6]) W := by
  obtain ⟨c4, _, c5, _, c6, _⟩ := h.cells
  exact results_cell3 rfl tmps W hp hq hr (load_graph _ _ _ c4) (load_set _ _ _ c5) (load_bool _ _ _ c6)
set_option maxHeartbeats 4000000 in
set_option maxRecDepth 100000 in
theorem doneIn_no (A0 : Option Addr) (c0 : Nat) (g : List S33) (A1 : Option Addr) (c1 : Nat) (ds : List Int) (w : World) (hr0 : Kd.C k33 w A0 g.length g) (hc0 : g.length ≤ c0) (hT : Tab w) (hh : held g = true) (hv : valid g = false) :
    Calls Tryd.prog 54 #[.slice A0 g.length c0, .slice A1 ds.length c1] w (DoneIn w (.slice A0 g.length c0) g ds) := by
  have hno : doneOk g ds = false := by
    unfold doneOk
    rw [hv, Bool.false_and]
  have HG := Aside0.mk (fun (W : World) (hb : Below w.heap.size w W) => graphOf_no (Kd.C_below hr0 hb) hc0 (hT.below hb) hh hv)
  have HNO := Aside0.mk hno
  clear hr0 hT hno
  go_enter Tryd.func54, Tryd.ntmps54
  have HR := Aside0.mk (Res.start w (.pointer none) (.int .u16 0) (.bool false))
  go_wp2_with (go_at_call 41; refine (HG.out _ HR.out.below).mono ?_; rintro e w1 ⟨p, rfl, hb⟩; have hr := (HR.out.on hb).alloc (.cells #[.pointer p] 48); obtain ⟨c4, f4, _⟩ := hr.cells; obtain ⟨_, _, c5, f5, _⟩ := (hr.set4 (.pointer none)).cells; obtain ⟨_, _, _, _, c6, f6⟩ := ((hr.set4 (.pointer none)).set5 (.int .u16 0)).cells; have HR3 := Aside0.mk (((hr.set4 (.pointer none)).set5 (.int .u16 0)).set6 (.bool false)); clear hr)
  refine bodyPost_ret (HR3.out.results rfl rfl rfl) rfl ?_
  exact ⟨_, _, by rw [HNO.out], HR3.out.below, fun h => by rw [HNO.out] at h; cases h⟩
set_option maxHeartbeats 4000000 in
set_option maxRecDepth 100000 in
theorem doneIn_bad (A0 : Option Addr) (c0 : Nat) (g : List S33) (A1 : Option Addr) (c1 : Nat) (ds : List Int) (w : World) (hr0 : Kd.C k33 w A0 g.length g) (hc0 : g.length ≤ c0) (hr1 : Kd.C (Kd.int .i64) w A1 ds.length ds) (hc1 : ds.length ≤ c1) (hT : Tab w) (hh : held g = true) (hds : ds.length ≤ 281474976710656) (hv : valid g = true) (ha : asc g.length 0 ds = false) :
    Calls Tryd.prog 54 #[.slice A0 g.length c0, .slice A1 ds.length c1] w (DoneIn w (.slice A0 g.length c0) g ds) := by
  have hno : doneOk g ds = false := by
    unfold doneOk
    rw [ha, Bool.false_and, Bool.and_false]
  have h8 : g.length ≤ 8 := by
    unfold valid at hv
    rw [Bool.and_eq_true] at hv
    exact fine_len hv.1
  have HS := Aside0.mk (setOf_is g.length h8 ds hds (ds.length + 1) (Nat.le_refl _))
  rw [ha] at HS
  have HG := Aside0.mk (fun (W : World) (hb : Below w.heap.size w W) => graphOf_yes (Kd.C_below hr0 hb) hc0 (hT.below hb) hh hv)
  have HC := Aside0.mk (fun (W : World) (hb : Below w.heap.size w W) => Kd.C_below hr1 hb)
  have HNO := Aside0.mk hno
  clear hr0 hr1 hT hno
  go_enter Tryd.func54, Tryd.ntmps54
  have HR := Aside0.mk (Res.start w (.pointer none) (.int .u16 0) (.bool false))
  go_wp2_with (first | (go_at_call 41; refine (HG.out _ HR.out.below).mono ?_; rintro e w1 ⟨X, Bb, Ba, AN, cN, AL, cL, rfl, hb, hX0, hB0, hA0, hX, _, _, _, _⟩; have HR1 := Aside0.mk ((HR.out.on hb).alloc (.cells #[.pointer (some ⟨X, 0, none⟩)] 48)); have hX1 := (Below.heap_alloc w1 (.cells #[.pointer (some ⟨X, 0, none⟩)] 48) X (Array.getElem?_eq_some_iff.1 hX).1).trans hX; clear hX hb) | (go_at_call 57; refine (graph_size hX1).mono ?_; rintro e w2 ⟨rfl, hw2⟩; subst hw2) | (go_at_call 66; refine (impl_setOf.calls (ds.length + 1) A1 c1 ds g.length _ _ _ (HC.out _ HR1.out.below) hc1 HS.out).mono ?_; rintro e w3 ⟨rfl, ⟨nd, hw3⟩⟩; have hr := (HR1.out.on (show Below _ _ w3 from by rw [hw3]; exact below_draws (Below.refl _ _) nd)).alloc (.cells #[.int .u16 0] 61); obtain ⟨c4, f4, _⟩ := hr.cells; obtain ⟨_, _, c5, f5, _⟩ := (hr.set4 (.pointer none)).cells; obtain ⟨_, _, _, _, c6, f6⟩ := ((hr.set4 (.pointer none)).set5 (.int .u16 0)).cells; have HR3 := Aside0.mk (((hr.set4 (.pointer none)).set5 (.int .u16 0)).set6 (.bool false)); clear hr hw3))
  refine bodyPost_ret (HR3.out.results rfl rfl rfl) rfl ?_
  exact ⟨_, _, by rw [HNO.out], HR3.out.below, fun h => by rw [HNO.out] at h; cases h⟩

set_option maxHeartbeats 4000000 in
set_option maxRecDepth 100000 in
theorem doneIn_good (A0 : Option Addr) (c0 : Nat) (g : List S33) (A1 : Option Addr) (c1 : Nat) (ds : List Int) (w : World) (hr0 : Kd.C k33 w A0 g.length g) (hc0 : g.length ≤ c0) (hr1 : Kd.C (Kd.int .i64) w A1 ds.length ds) (hc1 : ds.length ≤ c1) (hT : Tab w) (hh : held g = true) (hds : ds.length ≤ 281474976710656) (hv : valid g = true) (ha : asc g.length 0 ds = true) :
    Calls Tryd.prog 54 #[.slice A0 g.length c0, .slice A1 ds.length c1] w (DoneIn w (.slice A0 g.length c0) g ds) := by
  have h8 : g.length ≤ 8 := by
    unfold valid at hv
    rw [Bool.and_eq_true] at hv
    exact fine_len hv.1
  have hs256 : mask ds 0 < 256 := mask_lt g.length h8 ds 0 0 (Int.le_refl _) ha (by omega)
  have HS := Aside0.mk (setOf_is g.length h8 ds hds (ds.length + 1) (Nat.le_refl _))
  rw [if_pos ha] at HS
  have HG := Aside0.mk (fun (W : World) (hb : Below w.heap.size w W) => graphOf_yes (Kd.C_below hr0 hb) hc0 (hT.below hb) hh hv)
  have HC := Aside0.mk (fun (W : World) (hb : Below w.heap.size w W) => Kd.C_below hr1 hb)
  have HT := Aside0.mk hT
  clear hr0 hr1 hT
  refine (callsIn_wide (n := 10)).1 ?_
  refine callsIn_of_wp_marks Tryd.func54 rfl trivial ?_ rfl
  simp only [Tryd.ntmps54, List.size_toArray, List.length_cons, List.length_nil, Nat.reduceAdd, Nat.reduceSub, Array.replicate_succ, Array.replicate_zero, List.push_toArray, List.append_toArray, List.nil_append, List.cons_append]
  have HR := Aside0.mk (Res.start w (.pointer none) (.int .u16 0) (.bool false))
  gi_wp2_with (first | (refine ⟨trivial, ?_⟩; gi_at_call 41; refine (callsIn_wide.2 (HG.out _ HR.out.below)).mono ?_; rintro e w1 ⟨X, Bb, Ba, AN, cN, AL, cL, rfl, hb, hX0, hB0, hA0, hX, hN, hL, hBb, hAa⟩; have HR1 := Aside0.mk ((HR.out.on hb).alloc (.cells #[.pointer (some ⟨X, 0, none⟩)] 48)); have hX1 := (Below.heap_alloc w1 (.cells #[.pointer (some ⟨X, 0, none⟩)] 48) X (Array.getElem?_eq_some_iff.1 hX).1).trans hX; have HXX := Aside0.mk hX; have h13 := hb.size; have HNN := Aside0.mk hN; have HLL := Aside0.mk hL; have HBB := Aside0.mk hBb; have HAA := Aside0.mk hAa; clear hX hN hL hBb hAa hb) | (refine ⟨trivial, ?_⟩; gi_at_call 57; refine (callsIn_wide.2 (graph_size hX1)).mono ?_; rintro e w2 ⟨rfl, hw2⟩; subst hw2) | (refine ⟨trivial, ?_⟩; gi_at_call 66; refine (callsIn_wide.2 (impl_setOf.calls (ds.length + 1) A1 c1 ds g.length _ _ _ (HC.out _ HR1.out.below) hc1 HS.out)).mono ?_; rintro e w3 ⟨rfl, ⟨nd, hw3⟩⟩; have HR2 := Aside0.mk ((HR1.out.on (show Below _ _ w3 from by rw [hw3]; exact below_draws (Below.refl _ _) nd)).alloc (.cells #[.int .u16 ((mask ds 0 : Nat) : Int)] 61)); have HW3 := Aside0.mk hw3; clear hw3) | (refine ⟨trivial, ?_⟩; gi_at_call 59; refine (all_any Fence.wide _ trivial rfl ((mask ds 0 : Nat) : Int) _).mono ?_; rintro e w4 ⟨rfl, hw4⟩; subst hw4))
  have sz3 : (((w.alloc (.cells #[Value.pointer none] 48)).alloc (.cells #[Value.int .u16 0] 61)).alloc (.cells #[Value.bool false] 4)).heap.size = w.heap.size + 1 + 1 + 1 := by simp
  have hbase : w.heap.size ≤ (((w.alloc (.cells #[Value.pointer none] 48)).alloc (.cells #[Value.int .u16 0] 61)).alloc (.cells #[Value.bool false] 4)).heap.size := by omega
  obtain ⟨fsN, n1, n2, n3⟩ := row_fix (fun _ _ _ _ _ h => h) HNN.out
  obtain ⟨fsL, l1, l2, l3⟩ := row_fix (fun _ _ _ _ _ h => h) HLL.out
  rw [sz3] at hX0 hB0 hA0 n2 n3 l2 l3
  obtain ⟨s, hs⟩ : ∃ s, mask ds 0 = s := ⟨_, rfl⟩
  rw [hs] at HR2 hs256 ⊢
  obtain ⟨Wl, hWl⟩ : ∃ Wl, ((w3.alloc (.cells #[Value.int .u16 (s : Int)] 61)).alloc (.cells #[Value.int .u16 (s : Int)] 61)) = Wl := ⟨_, rfl⟩
  have hRl : Res w Wl (.pointer none) (.int .u16 0) (.bool false) := by rw [← hWl]; exact HR2.out.alloc _
  have hsz3 : w3.heap.size = w1.heap.size + 1 := by rw [HW3.out]; simp
  have hb3 : Below (w1.heap.size + 1) w3 Wl := by
    rw [← hWl]
    exact ((Below.refl _ w3).alloc (by omega) _).alloc (by simp; omega) _
  have hb1 : Below w1.heap.size w1 w3 := by
    rw [HW3.out]
    exact below_draws ((Below.refl _ w1).alloc (Nat.le_refl _) _) nd
  have lift1 : ∀ {k : Nat} {o : Obj}, w1.heap[k]? = some o → Wl.heap[k]? = some o := fun {k o} h => by
    have hk : k < w1.heap.size := (Array.getElem?_eq_some_iff.1 h).1
    exact (hb3.block k (by omega)).trans ((hb1.block k hk).trans h)
  have hxb : Wl.heap[w1.heap.size]? = some (.cells #[.pointer (some ⟨X, 0, none⟩)] 48 (0, 0)) := by
    refine (hb3.block _ (by omega)).trans ?_
    rw [HW3.out]
    exact World.alloc_heap_new w1 _
  have hsb : Wl.heap[w3.heap.size]? = some (.cells #[.int .u16 (s : Int)] 61 (0, 0)) := by
    rw [← hWl]
    exact (Below.heap_alloc _ _ _ (by simp)).trans (World.alloc_heap_new w3 _)
  have hsb2 : Wl.cell? ⟨w3.heap.size + 1, 0, none⟩ = some (.int .u16 (s : Int)) := by
    rw [← hWl]
    have := World.alloc_heap_new (w3.alloc (.cells #[Value.int .u16 (s : Int)] 61)) (.cells #[Value.int .u16 (s : Int)] 61)
    rw [World.size_alloc] at this
    exact cell_of this rfl
  have hfix : Fix ((w.heap.size, .cells #[.pointer none] 48 (0, 0)) :: (w.heap.size + 1, .cells #[.int .u16 0] 61 (0, 0)) :: (w.heap.size + 1 + 1, .cells #[.bool false] 4 (0, 0)) :: (X, .cells #[.slice A0 g.length c0, .slice AN (ints (needs g)).length cN, .slice AL (ints (order (needs g)).1).length cL, .slice (some ⟨Bb, 0, none⟩) g.length g.length, .slice (some ⟨Ba, 0, none⟩) g.length g.length] 57 (0, 0)) :: (w1.heap.size, .cells #[.pointer (some ⟨X, 0, none⟩)] 48 (0, 0)) :: (w3.heap.size, .cells #[.int .u16 (s : Int)] 61 (0, 0)) :: (fsN ++ fsL)) Wl := by
    refine (((((Fix.cons ?_ hsb).cons hxb).cons (lift1 HXX.out)).cons hRl.b6).cons hRl.b5).cons hRl.b4
    intro p hp
    rcases List.mem_append.1 hp with h | h
    · exact lift1 (n1 p h)
    · exact lift1 (l1 p h)
  obtain ⟨fs, hfs⟩ : ∃ fs, ((w.heap.size, Obj.cells #[.pointer none] 48 (0, 0)) :: (w.heap.size + 1, .cells #[.int .u16 0] 61 (0, 0)) :: (w.heap.size + 1 + 1, .cells #[.bool false] 4 (0, 0)) :: (X, .cells #[.slice A0 g.length c0, .slice AN (ints (needs g)).length cN, .slice AL (ints (order (needs g)).1).length cL, .slice (some ⟨Bb, 0, none⟩) g.length g.length, .slice (some ⟨Ba, 0, none⟩) g.length g.length] 57 (0, 0)) :: (w1.heap.size, .cells #[.pointer (some ⟨X, 0, none⟩)] 48 (0, 0)) :: (w3.heap.size, .cells #[.int .u16 (s : Int)] 61 (0, 0)) :: (fsN ++ fsL)) = fs := ⟨_, rfl⟩
  have hst : St w fs Bb Ba (known (needs g)).1 (known (needs g)).2 Wl := ⟨by rw [← hfs]; exact hfix, lift1 HBB.out, lift1 HAA.out, hRl.below⟩
  have hTl := HT.out.below hRl.below
  have M4 : (w.heap.size, Obj.cells #[.pointer none] 48 (0, 0)) ∈ fs := by rw [← hfs]; exact List.mem_cons_self
  have M5 : (w.heap.size + 1, Obj.cells #[.int .u16 0] 61 (0, 0)) ∈ fs := by rw [← hfs]; exact List.mem_cons_of_mem _ List.mem_cons_self
  have M6 : (w.heap.size + 1 + 1, Obj.cells #[.bool false] 4 (0, 0)) ∈ fs := by rw [← hfs]; exact List.mem_cons_of_mem _ (List.mem_cons_of_mem _ List.mem_cons_self)
  have MX : (X, Obj.cells #[.slice A0 g.length c0, .slice AN (ints (needs g)).length cN, .slice AL (ints (order (needs g)).1).length cL, .slice (some ⟨Bb, 0, none⟩) g.length g.length, .slice (some ⟨Ba, 0, none⟩) g.length g.length] 57 (0, 0)) ∈ fs := by rw [← hfs]; exact List.mem_cons_of_mem _ (List.mem_cons_of_mem _ (List.mem_cons_of_mem _ List.mem_cons_self))
  have Mx : (w1.heap.size, Obj.cells #[.pointer (some ⟨X, 0, none⟩)] 48 (0, 0)) ∈ fs := by rw [← hfs]; exact List.mem_cons_of_mem _ (List.mem_cons_of_mem _ (List.mem_cons_of_mem _ (List.mem_cons_of_mem _ List.mem_cons_self)))
  have Ms : (w3.heap.size, Obj.cells #[.int .u16 (s : Int)] 61 (0, 0)) ∈ fs := by rw [← hfs]; exact List.mem_cons_of_mem _ (List.mem_cons_of_mem _ (List.mem_cons_of_mem _ (List.mem_cons_of_mem _ (List.mem_cons_of_mem _ List.mem_cons_self))))
  have MN : ∀ p, p ∈ fsN → p ∈ fs := fun p hp => by rw [← hfs]; exact List.mem_cons_of_mem _ (List.mem_cons_of_mem _ (List.mem_cons_of_mem _ (List.mem_cons_of_mem _ (List.mem_cons_of_mem _ (List.mem_cons_of_mem _ (List.mem_append_left _ hp))))))
  have ML : ∀ p, p ∈ fsL → p ∈ fs := fun p hp => by rw [← hfs]; exact List.mem_cons_of_mem _ (List.mem_cons_of_mem _ (List.mem_cons_of_mem _ (List.mem_cons_of_mem _ (List.mem_cons_of_mem _ (List.mem_cons_of_mem _ (List.mem_append_right _ hp))))))
  have hds2 : ∀ k, k ∈ elems s → k < g.length := fun k hk => elem_lt (by rw [← hs]; exact mask_lt2 g.length h8 ds 0 0 (Int.le_refl _) ha (Nat.two_pow_pos _)) hk
  have HS2 := Aside0.mk hs
  clear hs
  rw [hWl]
  clear hfix hRl hWl hb3 hb1 hxb hsb lift1
  refine over_set_ret 10 (s := s) hs256 (Bs := w3.heap.size + 1) (n₀ := w.heap.size) rfl (by simp) hsb2 hTl hst.below.size HT.out.out.1
    (fun pre W => St w fs Bb Ba (known (needs g)).1 (known (needs g)).2 W ∧ ∀ y, y ∈ pre → ((at0 (needs g) y &&& (255 - s)) == 0) = true) (fun pre W => St w fs Bb Ba (known (needs g)).1 (known (needs g)).2 W ∧ ∃ y, y ∈ elems s ∧ ((at0 (needs g) y &&& (255 - s)) == 0) = false)
    (fun pre W W' row h h2 h3 => ⟨st_own (β := Unit) w fs Bb Ba (fun _ => (known (needs g)).1) (fun _ => (known (needs g)).2) _ hst.below.size (fun p hp => .inr (hst.fix.lt hp)) () W W' row h.1 h2 h3, h.2⟩)
    (fun pre W W' row h h2 h3 => ⟨st_own (β := Unit) w fs Bb Ba (fun _ => (known (needs g)).1) (fun _ => (known (needs g)).2) _ hst.below.size (fun p hp => .inr (hst.fix.lt hp)) () W W' row h.1 h2 h3, h.2⟩)
    ⟨hst, fun y hy => by cases hy⟩ ?body ?done ?stop
  case body =>
    rintro l pre k W ⟨hI, hcl⟩ hk hpre
    have hkn := hds2 k hk
    obtain ⟨gN, rfl, hcN⟩ := row_cell (n3 W.drew (fun p hp => hI.fix p (MN p hp))) k (by rw [ints_len, needs_len]; exact hkn)
    have eN : (ints (needs g))[k]'(by rw [ints_len, needs_len]; exact hkn) = ((at0 (needs g) k : Nat) : Int) := by
      rw [at0_get _ _ (by rw [needs_len]; exact hkn)]
      exact List.getElem_map ..
    rw [eN] at hcN
    have c1 : W.drew.cell? ⟨w1.heap.size, 0, none⟩ = some (.pointer (some ⟨X, 0, none⟩)) := cell_of (hI.fix _ Mx) rfl
    have c2 : W.drew.cell? ⟨X, 1, none⟩ = some (.slice (some ⟨gN, 0, none⟩) (ints (needs g)).length cN) := cell_of (hI.fix _ MX) rfl
    have c3 : W.drew.cell? ⟨w1.heap.size + 1, 0, none⟩ = some (.int .u16 (s : Int)) := by rw [← hsz3]; exact cell_of (hI.fix _ Ms) rfl
    have hk0 : (0 : Int) ≤ (k : Int) := by omega
    have hk1 : (k : Int) < ((ints (needs g)).length : Int) := by rw [ints_len, needs_len]; omega
    have hmn := minus_bits (at0 (needs g) k) (Nat.lt_of_lt_of_le ((needs_sets (by unfold valid at hv; rw [Bool.and_eq_true] at hv; exact hv.1)).at k) (two_le h8)) s hs256
    have HI := Aside0.mk hI
    have HCL := Aside0.mk hcl
    have HST := Aside0.mk hst
    clear hI hcl hst hTl hsb2
    simp only [List.setIfInBounds_toArray, List.set_cons_succ, List.set_cons_zero]
    refine wpIn_block_goes ?_
    gi_wp2
    refine wpIn_round_still l 8 (fun ⟨_, _, h⟩ => h) (by kernel_rfl) 9 (by kernel_rfl) (by kernel_rfl) ?_
    simp only [List.take_succ_cons, List.take_zero, List.drop_succ_cons, List.drop_zero]
    iterate 9 still_step
    refine wpStill_nil ?_
    go_wp2
    have ho := HST.out
    have hc : ∃ b : Bool, b = ((at0 (needs g) k &&& (255 - s)) == 0) := ⟨_, rfl⟩
    obtain ⟨b, hb⟩ := hc
    have hq : ((((at0 (needs g) k &&& (255 - s) : Nat) : Int)) != 0) = !b := by
      rw [hb]
      rcases Nat.eq_zero_or_pos (at0 (needs g) k &&& (255 - s)) with h | h
      · rw [h]; rfl
      · rw [beq_eq_false_iff_ne.2 (by omega : at0 (needs g) k &&& (255 - s) ≠ 0)]
        simp
        omega
    rw [hq]
    have HB := Aside0.mk hb
    clear hb hq
    cases b
    · rw [Bool.not_false]
      have hr := (⟨HI.out.fix _ M4, HI.out.fix _ M5, HI.out.fix _ M6, HI.out.below⟩ : Res w W _ _ _)
      obtain ⟨c4, f4, _⟩ := hr.cells
      obtain ⟨_, _, c5, f5, _⟩ := (hr.set4 (.pointer none)).cells
      obtain ⟨_, _, _, _, c6, f6⟩ := ((hr.set4 (.pointer none)).set5 (.int .u16 0)).cells
      clear hr
      gi_wp2
      refine ⟨((((KeepsOthers.drew W).trans (KeepsOthers.setCell _ _ _)).trans (KeepsOthers.setCell _ _ _)).trans (KeepsOthers.setCell _ _ _)).from _, ((HI.out.drew.same M4 (Nat.le_refl _)).same M5 (by omega)).same M6 (by omega), k, hk, HB.out.symm⟩
    · rw [Bool.not_true]
      gi_wp2
      refine ⟨(KeepsOthers.drew W).from _, (Below.refl _ W).drew, HI.out.drew, fun y hy => ?_⟩
      rcases List.mem_append.1 hy with h | h
      · exact HCL.out y h
      · rw [List.mem_singleton.1 h]
        exact HB.out.symm
  case done =>
    intro D W hD hI hK
    rename_i KK hKK
    refine hKK _ _ ?_
    have hyes : doneOk g ds = true := by
      unfold doneOk
      rw [hv, ha, HS2.out, Bool.true_and, Bool.true_and, List.all_eq_true]
      exact fun y hy => hI.2 y hy
    have hr := (⟨hI.1.fix _ M4, hI.1.fix _ M5, hI.1.fix _ M6, hI.1.below⟩ : Res w W _ _ _)
    have c1 : W.cell? ⟨w1.heap.size, 0, none⟩ = some (.pointer (some ⟨X, 0, none⟩)) := cell_of (hI.1.fix _ Mx) rfl
    have c3 : W.cell? ⟨w1.heap.size + 1, 0, none⟩ = some (.int .u16 (s : Int)) := by rw [← hsz3]; exact cell_of (hI.1.fix _ Ms) rfl
    rw [hsz3]
    have HI := Aside0.mk hI.1
    have HYES := Aside0.mk hyes
    have HST := Aside0.mk hst
    have HRR := Aside0.mk hr
    clear hI hst hTl hsb2 hyes hr
    refine wpIn_wide.2 ?_
    have hr := HRR.out
    have hlt1 : w.heap.size + 1 + 1 + 1 ≤ w1.heap.size := by rw [← sz3]; exact h13
    obtain ⟨c4, f4, c5, f5, c6, f6⟩ := hr.cells
    clear hr
    go_wp2
    go_region
    go_wp2
    have hDw : w.heap.size ≤ D := Nat.le_trans HST.out.below.size hD
    have hst := HI.out
    have keep : ∀ (k : Nat) (o : Obj), w.heap.size + 1 + 1 + 1 ≤ k → W.heap[k]? = some o → ((((W.setCell ⟨w.heap.size, 0, none⟩ (Value.pointer (some ⟨X, 0, none⟩))).setCell ⟨w.heap.size + 1, 0, none⟩ (Value.int .u16 (s : Int))).setCell ⟨w.heap.size + 1 + 1, 0, none⟩ (Value.bool true)).drew).heap[k]? = some o := fun k o hk h =>
      (Below.heap_setCell _ ⟨w.heap.size + 1 + 1, 0, none⟩ _ _ (by simp; omega)).trans ((Below.heap_setCell _ ⟨w.heap.size + 1, 0, none⟩ _ _ (by simp; omega)).trans ((Below.heap_setCell _ ⟨w.heap.size, 0, none⟩ _ _ (by simp; omega)).trans h))
    have hKD := keep D _ (by
      rcases Nat.lt_or_ge D (w.heap.size + 1 + 1 + 1) with h | h
      · have e : D = w.heap.size ∨ D = w.heap.size + 1 ∨ D = w.heap.size + 1 + 1 := by omega
        rcases e with e | e | e
        · exact absurd e.symm (ne_deferred HRR.out.b4 hK rfl)
        · exact absurd e.symm (ne_deferred HRR.out.b5 hK rfl)
        · exact absurd e.symm (ne_deferred HRR.out.b6 hK rfl)
      · exact h) hK
    have hr3 := ((((HRR.out.set4 (.pointer (some ⟨X, 0, none⟩))).set5 (.int .u16 (s : Int))).set6 (.bool true)).drew).put hDw hKD (.deferred none)
    have keep2 : ∀ (k : Nat) (o : Obj), w.heap.size + 1 + 1 + 1 ≤ k → o.isCells = true → W.heap[k]? = some o → (((((W.setCell ⟨w.heap.size, 0, none⟩ (Value.pointer (some ⟨X, 0, none⟩))).setCell ⟨w.heap.size + 1, 0, none⟩ (Value.int .u16 (s : Int))).setCell ⟨w.heap.size + 1 + 1, 0, none⟩ (Value.bool true)).drew).putObj D (.deferred none)).heap[k]? = some o := fun k o hk ho h =>
      (World.putObj_heap_other (ne_deferred (keep k o hk h) hKD ho)).trans (keep k o hk h)
    refine ⟨by simp, .inl ⟨_, _, rfl, run_takeDeferred hKD, ?_⟩⟩
    refine ⟨_, hr3.results rfl rfl rfl, _, _, by rw [HYES.out], hr3.below, fun _ => ⟨by rw [HS2.out], X, Bb, Ba, _, _, rfl, by omega, by omega, by omega, keep2 X _ hX0 rfl (hst.fix _ MX), ?_, ?_, keep2 Bb _ hB0 rfl hst.rowb, keep2 Ba _ hA0 rfl hst.rowa⟩⟩
    · exact Kd.R_lower (n3 _ (fun p hp => keep2 p.1 p.2 (n2 p hp).2 (n2 p hp).1 (hst.fix p (MN p hp)))) (by omega)
    · exact Kd.R_lower (l3 _ (fun p hp => keep2 p.1 p.2 (l2 p hp).2 (l2 p hp).1 (hst.fix p (ML p hp)))) (by omega)
  case stop =>
    rintro D pre W hD hpre ⟨hI, y, hy, hc⟩ hK
    have hno : doneOk g ds = false := by
      unfold doneOk
      rw [HS2.out]
      have : ((elems s).all fun i => (at0 (needs g) i &&& (255 - s)) == 0) = false := by
        rw [List.all_eq_false]
        exact ⟨y, hy, by rw [hc]; exact Bool.false_ne_true⟩
      rw [this, Bool.and_false, Bool.and_false]
    have hr := (⟨hI.fix _ M4, hI.fix _ M5, hI.fix _ M6, hI.below⟩ : Res w W _ _ _)
    gi_wp2
    refine ⟨by simp, .inl ⟨_, _, rfl, run_takeDeferred hK, ?_⟩⟩
    have hr2 := hr.put (Nat.le_trans hst.below.size hD) hK (.deferred none)
    exact ⟨_, hr2.results rfl rfl rfl, _, _, by rw [hno], hr2.below, fun h => by rw [hno] at h; cases h⟩
theorem doneIn_any (A0 : Option Addr) (c0 : Nat) (g : List S33) (A1 : Option Addr) (c1 : Nat) (ds : List Int) (w : World) (hr0 : Kd.C k33 w A0 g.length g) (hc0 : g.length ≤ c0) (hr1 : Kd.C (Kd.int .i64) w A1 ds.length ds) (hc1 : ds.length ≤ c1) (hT : Tab w) (hh : held g = true) (hds : ds.length ≤ 281474976710656) :
    Calls Tryd.prog 54 #[.slice A0 g.length c0, .slice A1 ds.length c1] w (DoneIn w (.slice A0 g.length c0) g ds) := by
  rcases Bool.eq_false_or_eq_true (valid g) with hv | hv
  · rcases Bool.eq_false_or_eq_true (asc g.length 0 ds) with ha | ha
    · exact doneIn_good A0 c0 g A1 c1 ds w hr0 hc0 hr1 hc1 hT hh hds hv ha
    · exact doneIn_bad A0 c0 g A1 c1 ds w hr0 hc0 hr1 hc1 hT hh hds hv ha
  · exact doneIn_no A0 c0 g A1 c1 ds w hr0 hc0 hT hh hv
theorem doneOk_eq {g : List S33} {ds : List Int} (h : doneOk g ds = true) : valid g = true ∧ asc g.length 0 ds = true ∧ ((elems (mask ds 0)).all fun i => (at0 (needs g) i &&& (255 - mask ds 0)) == 0) = true := by
  unfold doneOk at h
  rw [Bool.and_eq_true, Bool.and_eq_true] at h
  exact ⟨h.1, h.2.1, h.2.2⟩
def impl_ValidDone.f (l0 : List S33) (l1 : List Int) : Option Bool := if held l0 ∧ l1.length ≤ 281474976710656 then some (doneOk l0 l1) else none
def waits (l0 : List S33) (l1 : List Int) (a2 : Int) : List Int := if doneOk l0 l1 = true ∧ 0 ≤ a2 ∧ a2 ≤ (l0.length : Int) - 1 then ints (elems (at0 (needs l0) a2.toNat &&& (255 - mask l1 0))) else []
def impl_WaitsFor.f (l0 : List S33) (l1 : List Int) (a2 : Int) : Option (List Int) := if held l0 ∧ l1.length ≤ 281474976710656 then some (waits l0 l1 a2) else none
theorem fine_of {g : List S33} (h : valid g = true) : fine g = true := by
  unfold valid at h
  rw [Bool.and_eq_true] at h
  exact h.1
theorem valid_eight {g : List S33} (h : valid g = true) : g.length ≤ 8 := fine_len (fine_of h)
theorem wrap_len (n : Nat) (h : n ≤ 8) : wrap64 ((n : Int) - 1) = (n : Int) - 1 := by
  unfold wrap64
  omega
theorem needs_geti (g : List S33) (i : Nat) (h : i < g.length) : (ints (needs g))[i]'(by rw [ints_len, needs_len]; exact h) = ((at0 (needs g) i : Nat) : Int) := by
  rw [at0_get _ _ (by rw [needs_len]; exact h)]
  exact List.getElem_map ..
theorem of_short {α : Type} {g : List S33} {ds : List Int} {x r : α} (h : (if held g ∧ ds.length ≤ 281474976710656 then some x else none) = some r) : (held g = true ∧ ds.length ≤ 281474976710656) ∧ x = r := by
  split at h
  · exact ⟨by assumption, by cases h; rfl⟩
  · cases h
set_option maxHeartbeats 4000000 in
set_option maxRecDepth 100000 in
theorem impl_ValidDone.calls (A0 : Option Addr) (c0 : Nat) (l0 : List S33) (A1 : Option Addr) (c1 : Nat) (l1 : List Int) (r : Bool) (w : World) (hr0 : Kd.C k33 w A0 l0.length l0) (hc0 : l0.length ≤ c0) (hr1 : Kd.C (Kd.int .i64) w A1 l1.length l1) (hc1 : l1.length ≤ c1) (hT : Tab w) (h : impl_ValidDone.f l0 l1 = some r) :
    Calls Tryd.prog 35 #[.slice A0 l0.length c0, .slice A1 l1.length c1] w fun e w' => e = .returned (.bool r) ∧ Below w.heap.size w w' := by
  obtain ⟨⟨hh, hds⟩, rfl⟩ := of_short h
  have HG := Aside0.mk (doneIn_any A0 c0 l0 A1 c1 l1 w hr0 hc0 hr1 hc1 hT hh hds)
  clear hr0 hr1 hT h
  go_enter Tryd.func35, Tryd.ntmps35
  go_wp2_with (go_at_call 54; refine HG.out.mono ?_; rintro e w' ⟨p, s, rfl, hb, _⟩)
  go_ret
  exact ⟨rfl, hb⟩
set_option maxHeartbeats 4000000 in
set_option maxRecDepth 100000 in
theorem impl_WaitsFor.calls (A0 : Option Addr) (c0 : Nat) (l0 : List S33) (A1 : Option Addr) (c1 : Nat) (l1 : List Int) (a2 : Int) (r : List Int) (w : World) (hr0 : Kd.C k33 w A0 l0.length l0) (hc0 : l0.length ≤ c0) (hr1 : Kd.C (Kd.int .i64) w A1 l1.length l1) (hc1 : l1.length ≤ c1) (hT : Tab w) (h : impl_WaitsFor.f l0 l1 a2 = some r) :
    Calls Tryd.prog 37 #[.slice A0 l0.length c0, .slice A1 l1.length c1, .int .i64 a2] w fun e w' => ∃ v0_ : Value, e = .returned v0_ ∧ Kd.R (Kd.int .i64) 3 w' w.heap.size (fun _ => True) v0_ r ∧ Below w.heap.size w w' := by
  obtain ⟨⟨hh, hds⟩, rfl⟩ := of_short h
  have HG := Aside0.mk (doneIn_any A0 c0 l0 A1 c1 l1 w hr0 hc0 hr1 hc1 hT hh hds)
  have HT := Aside0.mk hT
  unfold waits
  clear hr0 hr1 hT h
  rcases Bool.eq_false_or_eq_true (doneOk l0 l1) with hv | hv
  · have HV := Aside0.mk (doneOk_eq hv)
    unfold DoneIn at HG
    rw [hv] at HG
    have h8 := valid_eight (doneOk_eq hv).1
    have hw := wrap_len l0.length h8
    by_cases ha : 0 ≤ a2 ∧ a2 ≤ (l0.length : Int) - 1
    · rw [if_pos ⟨hv, ha⟩]
      obtain ⟨i, rfl⟩ : ∃ i : Nat, a2 = (i : Int) := ⟨a2.toNat, by omega⟩
      have hin : i < l0.length := by omega
      have HWI := Aside0.mk (within_is (i : Int) 0 ((l0.length : Int) - 1))
      rw [decide_eq_true ha] at HWI
      go_enter Tryd.func37, Tryd.ntmps37
      have hi0 : (0 : Int) ≤ (i : Int) := by omega
      have hi1 : (i : Int) < ((ints (needs l0)).length : Int) := by rw [ints_len, needs_len]; omega
      have hs256 := Aside0.mk (mask_lt l0.length h8 l1 0 0 (Int.le_refl _) HV.out.2.1 (by omega))
      have hmn := minus_bits (at0 (needs l0) i) (Nat.lt_of_lt_of_le ((needs_sets (fine_of HV.out.1)).at i) (two_le h8)) (mask l1 0) hs256.out
      go_wp2_with (first | (go_at_call 54; refine HG.out.mono ?_; rintro e w1 ⟨p, s, rfl, hb, hp⟩; obtain ⟨rfl, X, Bb, Ba, vN, vL, rfl, hX0, hB0, hA0, hX, hN, hL, hBb, hAa⟩ := hp rfl; obtain ⟨AN, cN, rfl⟩ := Kd.R_slice hN; obtain ⟨gN, rfl, hcN⟩ := row_cell hN i (by rw [ints_len, needs_len]; exact hin); have eN : (ints (needs l0))[i]'(by rw [ints_len, needs_len]; exact hin) = ((at0 (needs l0) i : Nat) : Int) := needs_geti l0 i hin; rw [eN] at hcN; have hXN := cell_of (i := 1) hX rfl; have HB := Aside0.mk hb; clear hp hb hN hL hBb hAa eN) | (go_at_call 57; refine (graph_size hX).mono ?_; rintro e w2 ⟨rfl, hw2⟩; subst hw2) | (go_at_call 56; refine (Q.impl_within.calls _ _ _ _ _ HWI.out).mono ?_; rintro e w3 ⟨rfl, ⟨nd, rfl⟩⟩) | (go_at_call 51; refine (list_any _ (Nat.lt_of_le_of_lt Nat.and_le_left (Nat.lt_of_lt_of_le ((needs_sets (fine_of HV.out.1)).at i) (two_le h8))) _ (HT.out.below (below_draws HB.out nd))).mono ?_; rintro e w4 ⟨v, rfl, h1, h2⟩))
      go_ret
      rw [Int.toNat_natCast]
      have hb3 := below_draws HB.out nd
      exact ⟨_, rfl, Kd.R_lower h1 hb3.size, hb3.trans (h2.mono hb3.size)⟩
    · rw [if_neg (fun h => ha h.2)]
      have HWI := Aside0.mk (within_is a2 0 ((l0.length : Int) - 1))
      rw [decide_eq_false ha] at HWI
      go_enter Tryd.func37, Tryd.ntmps37
      go_wp2_with (first | (go_at_call 54; refine HG.out.mono ?_; rintro e w1 ⟨p, s, rfl, hb, hp⟩; obtain ⟨rfl, X, Bb, Ba, vN, vL, rfl, hX0, hB0, hA0, hX, hN, hL, hBb, hAa⟩ := hp rfl) | (go_at_call 57; refine (graph_size hX).mono ?_; rintro e w2 ⟨rfl, hw2⟩; subst hw2) | (go_at_call 56; refine (Q.impl_within.calls _ _ _ _ _ HWI.out).mono ?_; rintro e w3 ⟨rfl, ⟨nd, rfl⟩⟩))
      go_ret
      exact ⟨_, rfl, Kd.R_nil _ _ _ _ _, below_draws hb nd⟩
  · rw [if_neg (by rw [hv]; simp)]
    unfold DoneIn at HG
    rw [hv] at HG
    go_enter Tryd.func37, Tryd.ntmps37
    go_wp2_with (go_at_call 54; refine HG.out.mono ?_; rintro e w' ⟨p, s, rfl, hb, _⟩)
    go_ret
    exact ⟨_, rfl, Kd.R_nil _ _ _ _ _, hb⟩
end Go.Proofs.YtegogaokcafpjaaDoor.H
