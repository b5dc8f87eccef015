/- The list of a set's numbers: the walk of impl.set.list over the iterator's contract. -/
import Derived.RangeFuncBox
import Derived.Maps.AppendAt
import Derived.Test.YtegogaokcafpjaaDoorHTab
import Derived.Test.YtegogaokcafpjaaDoorHMath
namespace Go.Proofs.YtegogaokcafpjaaDoor.H
open Go.RowKit Go.Shelf Go.Proofs.YtegogaokcafpjaaDoorW.PrintWords Go.Proofs.YtegogaokcafpjaaDoorW.PrintLast Go.Proofs.YtegogaokcafpjaaDoorW.PrintMore Go.Proofs.YtegogaokcafpjaaDoor.Q
attribute [local go_sem] Oper.semAt_some
set_option linter.unusedSimpArgs false
set_option linter.unusedVariables false

theorem R_ints {W : World} {base : Nat} {v : Value} {xs : List Int} (h : W.ownsRow base 3 1 v xs.length (xs.map (Value.int .i64))) : Kd.R (Kd.int .i64) 3 W base (fun _ => True) v xs := by
  refine ⟨fun _ _ => trivial, xs.map (Value.int .i64), h, (List.length_map ..).trans (Nat.mul_one _).symm, fun j p hp => ?_⟩
  show ((xs.map (Value.int .i64)).drop (j * 1)).take 1 = [.int .i64 p]
  rw [Nat.mul_one]
  have hj : j < xs.length := (List.getElem?_eq_some_iff.1 hp).1
  rw [List.drop_eq_getElem_cons (by simpa using hj), List.take_succ_cons, List.take_zero, List.getElem_map, (List.getElem?_eq_some_iff.1 hp).2]
theorem elems_len (s : Nat) : (elems s).length ≤ 8 := List.length_filter_le _ _
def Rows (w W' : World) (v : Value) (xs : List Int) : Prop := W'.ownsRow w.heap.size 3 1 v xs.length (xs.map (Value.int .i64)) ∧ Below w.heap.size w W'
def encs1 (l : List Nat) : List Value := l.map fun (x : Nat) => Value.int .i64 (x : Int)
theorem encs1_ints (l : List Nat) : encs1 l = (ints l).map (Value.int .i64) := by
  unfold encs1 ints
  rw [List.map_map]
  rfl
def Coll (w : World) (pre : List Nat) (W : World) : Prop := (∃ v, Boxed W (w.heap.size + 1) 31 v ∧ W.ownsRow w.heap.size 3 1 v pre.length (encs1 pre) ∧ v ≠ .slice none 0 0) ∧ Below w.heap.size w W
theorem info_int : (Tryd.prog.info? 3).map (fun i => (i.zero, i.size, i.bytes)) = some (some (.int .i64 0), 1, 8) := by kernel_rfl

set_option maxRecDepth 100000 in
set_option maxHeartbeats 4000000 in
theorem list_in (F : Fence) (n : Nat) (h : F.fn 51) (ha : F.fn 59) (h1f : F.fn 70) (hz : F.fn 71) (hro : F.round = none) (hn : 4 ≤ n) (s : Nat) (hs : s < 256) (w : World) (hT : Tab w) :
    CallsIn F n Tryd.prog 51 #[.int .u16 s] w fun e W' => ∃ v, e = .returned v ∧ Rows w W' v (ints (elems s)) := by
  have h1 : 1 ≤ n := by omega
  obtain ⟨i0, hi, hz0, hz1, hz2⟩ := info_parts info_int
  refine callsIn_of_wp_marks Tryd.func51 rfl h ?_ hro
  simp only [Tryd.ntmps51, List.size_toArray, List.length_cons, List.length_nil, Nat.reduceAdd, Nat.reduceSub, Array.replicate_succ, Array.replicate_zero, List.push_toArray, List.append_toArray, List.nil_append, List.cons_append]
  have hmk := fun W : World => run_make (P := Tryd.prog) W 31 3 i0 (.int .i64 0) Tryd.underlying31 hi hz0 .i64 .i64 0 8 (by omega) (by omega) (by rw [hz2]; omega) (by omega)
  rw [hz1] at hmk
  simp only [Int.toNat_natCast, show Int.toNat 0 = 0 from rfl, show Int.toNat 8 = 8 from rfl] at hmk
  gi_wp2_with (gi_at_call 59; refine (all_any F (n - 1) ha hro _ _).mono ?_; rintro e w' ⟨rfl, rfl⟩)
  have bN := Boxed.new ((w.alloc (.cells (madeCells #[Value.int .i64 0] 8) 3)).alloc (.cells #[.slice (some ⟨w.heap.size, 0, none⟩) 0 8] 31)) 61 (.int .u16 s)
  have bO := (Boxed.new (w.alloc (.cells (madeCells #[Value.int .i64 0] 8) 3)) 31 (.slice (some ⟨w.heap.size, 0, none⟩) 0 8)).alloc (.cells #[.int .u16 s] 61)
  have rO := ((World.ownsRow_made (base := w.heap.size) (e := 3) (size := 1) w (madeCells #[Value.int .i64 0] 8) 8 (Nat.le_refl _) (by simp [maxLen]) (by rw [size_madeCells])).alloc (.cells #[.slice (some ⟨w.heap.size, 0, none⟩) 0 8] 31)).alloc (.cells #[.int .u16 s] 61)
  simp only [World.size_alloc] at bN bO
  have hB0 : Below w.heap.size w (((w.alloc (.cells (madeCells #[Value.int .i64 0] 8) 3)).alloc (.cells #[.slice (some ⟨w.heap.size, 0, none⟩) 0 8] 31)).alloc (.cells #[.int .u16 s] 61)) := (((Below.refl _ w).alloc (Nat.le_refl _) _).alloc (by simp) _).alloc (by simp; omega) _
  obtain ⟨W0, hW0⟩ : ∃ W0, ((w.alloc (.cells (madeCells #[Value.int .i64 0] 8) 3)).alloc (.cells #[.slice (some ⟨w.heap.size, 0, none⟩) 0 8] 31)).alloc (.cells #[.int .u16 s] 61) = W0 := ⟨_, rfl⟩
  have hsz : W0.heap.size = w.heap.size + 3 := by rw [← hW0]; simp
  rw [hW0] at bN bO rO hB0 ⊢
  refine wpIn_rangeFunc_ownG hro h1 (gf := 70) (lb := #[.pointer (some ⟨w.heap.size + 1 + 1, 0, none⟩)]) rfl h1f (enters_of Tryd.func70 (by kernel_rfl) rfl)
    (all_stops F (n - 1) h1f hz hro (by omega) (w.heap.size + 1 + 1) w.heap.size s hs W0 (by omega) (by omega) (hT.below hB0) (by exact hT.out.1) bN.cell) belowK_t (belowK_b (by omega)) (Below.refl _ _) (fun _ => rfl)
    (fun (pre : List (El s)) W => Coll w (vals pre) W)
    (fun _ _ _ => False)
    (OwnFrom.and (Own.from (holdsRow_own w.heap.size (w.heap.size + 1) 31 3 1 (fun (pre : List (El s)) => (vals pre).length) (fun pre => encs1 (vals pre)) (fun pre v => v ≠ .slice none 0 0)) _) (ownFrom_below (Nat.le_refl _) (by omega)))
    (fun _ _ _ _ _ hs _ _ => hs)
    ⟨⟨_, bO, rO, by simp⟩, hB0⟩
    (fun (x : El s) => { tmps := #[.int .u16 s, undef, .slice none 0 0, .pointer (some ⟨w.heap.size + 1, 0, none⟩), .int .i64 (x.1 : Int), .slice (some ⟨w.heap.size, 0, none⟩) 0 8, .int .u16 s, .func (.func 70) #[] #[.pointer (some ⟨w.heap.size + 1 + 1, 0, none⟩)], .int .i64 (x.1 : Int), undef, undef, undef, undef, undef, undef, undef], defers := [] }) ?assign ?body ?done ?stop
  case assign =>
    intro l x W K hK
    gi_wp2
    exact hK
  case body =>
    rintro l pre x W ⟨⟨v, hv, hrow, hne⟩, hB⟩ hlt
    have hvl : (vals pre).length < 8 := by unfold vals; rw [List.length_map]; exact hlt
    have hc := hv.cell
    gi_wp2_with (gi_at_builtin; refine wpListIn_append_own _ rfl _ _ 31 rfl w.heap.size 3 i0 (.int .i64 0) 1 8 Tryd.underlying31 hi hz0 hz1 hz2 rfl (by decide) _ _ _ rfl (hrow.alloc _) ⟨W.heap.size, 0, none⟩ 1 1 [.int .i64 (x.1 : Int)] rfl rfl (cell_one_new _ _ _) (by simp [Value.oneCell']) (by simp only [maxLen]; omega) (by omega) (by have := hB.size; simp; omega) ?_; intro v' w1 hown' hgrow hnil'; obtain ⟨g', cap', rfl⟩ := ownsRow_succ hown'; obtain ⟨hv1, hv2, hr2, hk2, hb2⟩ := hv.appended (by decide) hrow hB.size (Nat.le_succ _) hown' hgrow; have hc1 := hv1.cell; have hf1 := hv1.frozen)
    exact ⟨hk2.from _, hb2, ⟨_, hv2, by rw [vals_snoc, List.length_append]; exact (by rw [encs1, List.map_append]; exact hr2), by simp⟩, hB.trans hb2⟩
  case done =>
    rintro D ys W hD hys ⟨⟨v, hv, hrow, hne⟩, hB⟩ hK
    rw [hys] at hrow
    obtain ⟨g, cap, rfl⟩ : ∃ g cap, v = .slice (some ⟨g, 0, none⟩) (elems s).length cap := by
      rcases hrow.2 with ⟨h, _⟩ | ⟨g, cap, _, h, _⟩
      · exact absurd h hne
      · exact ⟨g, cap, h⟩
    have hc2 := (hv.alloc (.cells #[] 3)).cell
    have h8 := elems_len s
    have hcs := (hrow.alloc (.cells #[] 3)).cells (g := g) (by simp [Value.ownBlock])
    have hm := World.ownsRow_made (base := w.heap.size) (e := 3) (size := 1) W #[] 0 hB.size (by simp) (by simp)
    have hlt : D < W.heap.size := (Array.getElem?_eq_some_iff.1 hK).1
    have hen : ∀ u, u ∈ encs1 (elems s) → u.oneCell' = true := by
      intro u hu
      obtain ⟨x, _, rfl⟩ := List.mem_map.1 hu
      rfl
    have hB2 : Below w.heap.size w (W.alloc (.cells #[] 3)) := hB.alloc hB.size _
    have HEN := Aside0.mk hen
    have HCS := Aside0.mk hcs
    clear hen hcs
    gi_wp2_with (gi_at_builtin; refine wpListIn_append_own _ rfl _ _ 31 rfl w.heap.size 3 i0 (.int .i64 0) 1 8 Tryd.underlying31 hi hz0 hz1 hz2 rfl (by decide) _ _ _ rfl hm ⟨g, 0, none⟩ (elems s).length cap (encs1 (elems s)) rfl (by rw [Nat.mul_one]; exact List.length_map ..) HCS.out HEN.out (by simp only [maxLen]; omega) (by omega) (hB2.size) ?_; intro v' w1 hown' hgrow hnil'; have HO := Aside0.mk hown'; have HG := Aside0.mk hgrow; clear hown' hgrow hnil')
    have hgr : (W.alloc (.cells #[] 3)).grownBy w1 (some W.heap.size) := HG.out
    have hK1 : w1.heap[D]? = some (.deferred (some [])) := (hgr.block D (by simp; omega) (by simp; omega)).trans ((Below.heap_alloc W _ D hlt).trans hK)
    have hown : w1.ownsRow w.heap.size 3 1 v' (ints (elems s)).length ((ints (elems s)).map (Value.int .i64)) := by
      have := HO.out
      rw [Nat.zero_add, List.nil_append, encs1_ints] at this
      rw [ints_len]
      exact this
    have hB3 : Below w.heap.size w w1 := hB2.grown hgr hB2.size (fun j ej => by
      have : W.heap.size = j := by simpa using ej
      have := hB.size
      omega)
    refine ⟨by simp, .inl ⟨_, _, rfl, run_takeDeferred hK1, ?_⟩⟩
    exact ⟨_, results_tmp rfl _ _ _, v', rfl, ownsRow_putObj hown _ hK1 rfl, hB3.trans (belowK_b (w := w) (Nat.le_refl _) w1 D _ _ (by omega) hK1 rfl rfl)⟩
  case stop =>
    rintro D c pre W _ _ h _
    exact h.elim
theorem list_any (s : Nat) (hs : s < 256) (w : World) (hT : Tab w) : Calls Tryd.prog 51 #[.int .u16 s] w fun e w' => ∃ v, e = .returned v ∧ Kd.R (Kd.int .i64) 3 w' w.heap.size (fun _ => True) v (ints (elems s)) ∧ Below w.heap.size w w' := by
  refine (callsIn_wide (n := 4)).1 ((list_in Fence.wide 4 trivial trivial trivial trivial rfl (by omega) s hs w hT).mono ?_)
  rintro e W ⟨v, rfl, h1, h2⟩
  exact ⟨v, rfl, R_ints h1, h2⟩
end Go.Proofs.YtegogaokcafpjaaDoor.H
