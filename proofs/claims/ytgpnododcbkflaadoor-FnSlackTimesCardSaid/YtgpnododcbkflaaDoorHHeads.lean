/- The contract of the heads of a graph, and of impl.HeadTimes: it answers for all graphs whose rows of needs a machine can hold. -/
import Derived.Test.YtgpnododcbkflaaDoorHV
namespace Go.Proofs.YtgpnododcbkflaaDoor.H
open Go.RowKit Go.Shelf Go.Proofs.YtgpnododcbkflaaDoorW.PrintWords Go.Proofs.YtgpnododcbkflaaDoorW.PrintLast Go.Proofs.YtgpnododcbkflaaDoorW.PrintMore Go.Proofs.YtgpnododcbkflaaDoor.Q
attribute [local go_sem] Oper.semAt_some max_two max2_mx
set_option linter.unusedSimpArgs false
set_option linter.unusedVariables false

def headTimes (g : List S30) : List Int := if valid g then headsBy (tmOf g) (nbOf g) g.length (orderOf g) else []
def impl_HeadTimes.f (l0 : List S30) : Option (List Int) := if held l0 then some (headTimes l0) else none
/-- The frame while the loop goes round. -/
def hAct (vx vL : Value) (B1 B3 len j : Nat) (us : Nat → Value) (L : List Nat) : Act := { tmps := #[vx, .pointer (some ⟨B1, 0, none⟩), us 2, .pointer (some ⟨B3, 0, none⟩), us 4, us 5, us 6, us 7, us 8, us 9, us 10, us 11, us 12, vL, .int .i64 (len : Int), .int .i64 (j : Int), us 16, us 17, us 18, us 19, us 20, us 21, us 22, us 23, us 24, us 25, us 26, us 27, us 28, us 29, us 30, us 31, us 32, us 33, us 34, us 35, us 36, us 37, us 38, us 39, us 40, us 41, us 42, us 43, us 44, us 45, us 46, us 47, us 48, us 49, us 50], defers := marks L }
theorem hstart_at {a : Act} {vx vL : Value} {B1 B3 len : Nat} {G : Nat → List Nat → Prop} (j : Nat) (L : List Nat) (h : a = hAct vx vL B1 B3 len j (fun k => a.tmps.getD k undef) L) (hG : G j L) : ∃ (us : Nat → Value) (j : Nat) (L : List Nat), a = hAct vx vL B1 B3 len j us L ∧ G j L := ⟨_, j, L, h, hG⟩
structure HGoing (w : World) (tm : Nat → Int) (N : Nat → List Nat) (n : Nat) (od : List Nat) (fs : List (Nat × Obj)) (B j : Nat) (L : List Nat) (W : World) : Prop where mk ::
  (le : j ≤ od.length) (nodup : L.Nodup) (ge : ∀ D, D ∈ L → w.heap.size ≤ D) (apart : Apart1 w (markObjs L ++ fs) B) (st : St1 w (markObjs L ++ fs) B ((od.take j).foldl (hdAt tm N) (List.replicate n 0)) W)
theorem hdAt_len (tm : Nat → Int) (i : Nat) : ∀ (l : List Nat) (o : List Int), (l.foldl (hd1 tm i) o).length = o.length
  | [], _ => rfl
  | k :: t, o => by
    rw [List.foldl_cons, hdAt_len tm i t]
    exact List.length_set ..
theorem hds_len (tm : Nat → Int) (N : Nat → List Nat) : ∀ (l : List Nat) (o : List Int), (l.foldl (hdAt tm N) o).length = o.length
  | [], _ => rfl
  | i :: t, o => by
    rw [List.foldl_cons, hds_len tm N t]
    exact hdAt_len tm i _ o
set_option maxRecDepth 100000 in
set_option maxHeartbeats 4000000 in
theorem heads_any {w : World} {X : Nat} {A0 : Option Addr} {c0 : Nat} {AN : Option Addr} {cN : Nat} {AL : Option Addr} {cL : Nat} {vB vA : Value} {g : List S30} {od : List Nat} (h : GraphHere w X A0 c0 AN cN AL cL vB vA g od) (hT : Tab w) (hf : fine g = true) (hod : od.length ≤ 8) :
    Calls Tryd.prog 50 #[.pointer (some ⟨X, 0, none⟩)] w fun e w' => ∃ v, e = .returned v ∧ Kd.R (Kd.int .i64) 3 w' w.heap.size (fun _ => True) v (headsBy (tmOf g) (nbOf g) g.length od) ∧ Below w.heap.size w w' := by
  obtain ⟨i0, hi, hz0, hz1, hz2⟩ := info_parts info_int64
  have h8 := fine_len hf
  have h28 := two_le h8
  have hnd := needs_sets hf
  have HH := Aside0.mk (fun (W : World) (hb : Below w.heap.size w W) => GraphHere.below h hb)
  have HT := Aside0.mk hT
  have hXlt : X < w.heap.size := (Array.getElem?_eq_some_iff.1 h.blk).1
  clear h hT
  refine (callsIn_wide (n := 10)).1 ?_
  refine callsIn_of_wp_marks Tryd.func50 rfl trivial ?_ rfl
  simp only [Tryd.ntmps50, List.size_toArray, List.length_cons, List.length_nil, Nat.reduceAdd, Nat.reduceSub, Array.replicate_succ, Array.replicate_zero, List.push_toArray, List.append_toArray, List.nil_append, List.cons_append]
  have hmk := fun W : World => run_make (P := Tryd.prog) W 25 3 i0 (.int .i64 0) Tryd.underlying25 hi hz0 .i64 .i64 (g.length : Int) (g.length : Int) (by omega) (by omega) (by rw [hz2]; omega) (by omega)
  rw [hz1] at hmk
  simp only [Int.toNat_natCast, Nat.mul_one] at hmk
  have b1 : Below w.heap.size w (w.alloc (.cells #[.pointer (some ⟨X, 0, none⟩)] 45)) := below_alloc (Below.refl _ _) _
  have hsz := (HH.out _ b1).size
  obtain ⟨W0, hW0⟩ : ∃ W0, ((w.alloc (.cells #[.pointer (some ⟨X, 0, none⟩)] 45)).alloc (.cells (madeCells #[Value.int .i64 0] g.length) 3)).alloc (.cells #[.slice (some ⟨w.heap.size + 1, 0, none⟩) g.length g.length] 25) = W0 := ⟨_, rfl⟩
  have bW0 : Below w.heap.size w W0 := by rw [← hW0]; exact ((b1.alloc (by simp) _).alloc (by simp; omega) _)
  have hgc := (HH.out _ bW0).cells.2.2.1
  have hp1 : W0.heap[w.heap.size]? = some (.cells #[.pointer (some ⟨X, 0, none⟩)] 45 (0, 0)) := by rw [← hW0]; exact (Below.heap_alloc _ _ _ (by simp; omega)).trans ((Below.heap_alloc _ _ _ (by simp)).trans (World.alloc_heap_new w _))
  have hp2 : W0.heap[w.heap.size + 1]? = some (.cells (madeCells #[Value.int .i64 0] g.length) 3 (0, 0)) := by
    rw [← hW0]
    have := World.alloc_heap_new (w.alloc (.cells #[.pointer (some ⟨X, 0, none⟩)] 45)) (.cells (madeCells #[Value.int .i64 0] g.length) 3)
    rw [World.size_alloc] at this
    exact (Below.heap_alloc _ _ _ (by simp)).trans this
  have hp3 : W0.heap[w.heap.size + 1 + 1]? = some (.cells #[.slice (some ⟨w.heap.size + 1, 0, none⟩) g.length g.length] 25 (0, 0)) := by
    rw [← hW0]
    have := World.alloc_heap_new ((w.alloc (.cells #[.pointer (some ⟨X, 0, none⟩)] 45)).alloc (.cells (madeCells #[Value.int .i64 0] g.length) 3)) (.cells #[.slice (some ⟨w.heap.size + 1, 0, none⟩) g.length g.length] 25)
    rw [World.size_alloc, World.size_alloc] at this
    exact this
  have hc1 : W0.cell? ⟨w.heap.size, 0, none⟩ = some (.pointer (some ⟨X, 0, none⟩)) := cell_of hp1 rfl
  gi_wp2_with (first | (refine ⟨trivial, ?_⟩; gi_at_call 51; refine (callsIn_wide.2 hsz).mono ?_; rintro e w2 ⟨rfl, hw2⟩; subst hw2))
  rename_i Q' K hKn
  have HI := Aside0.mk (And.intro hi (And.intro hz0 (And.intro hz1 hz2)))
  have HKn := Aside0.mk hKn
  clear hKn hmk hsz hW0 hi hz0 hz1 hz2
  have hst0 : St1 w (markObjs [] ++ [(w.heap.size, .cells #[.pointer (some ⟨X, 0, none⟩)] 45 (0, 0)), (w.heap.size + 1 + 1, .cells #[.slice (some ⟨w.heap.size + 1, 0, none⟩) g.length g.length] 25 (0, 0))]) (w.heap.size + 1) (List.replicate g.length 0) W0 := ⟨fun p hp => by
    rcases List.mem_cons.1 hp with rfl | hp
    · exact hp1
    · rw [List.mem_singleton] at hp
      subst hp
      exact hp3, by rw [hp2, madeI], bW0⟩
  have hap0 : Apart1 w (markObjs [] ++ [(w.heap.size, .cells #[.pointer (some ⟨X, 0, none⟩)] 45 (0, 0)), (w.heap.size + 1 + 1, .cells #[.slice (some ⟨w.heap.size + 1, 0, none⟩) g.length g.length] 25 (0, 0))]) (w.heap.size + 1) := ⟨by omega, fun p hp => by
    rcases List.mem_cons.1 hp with rfl | hp
    · show w.heap.size ≠ w.heap.size + 1
      omega
    · rw [List.mem_singleton] at hp
      subst hp
      show w.heap.size + 1 + 1 ≠ w.heap.size + 1
      omega⟩
  obtain ⟨B1, hB1⟩ : ∃ B1, w.heap.size = B1 := ⟨_, rfl⟩
  obtain ⟨Bo, hBo⟩ : ∃ Bo, w.heap.size + 1 = Bo := ⟨_, rfl⟩
  obtain ⟨B3, hB3⟩ : ∃ B3, w.heap.size + 1 + 1 = B3 := ⟨_, rfl⟩
  have hB13 : B1 ≠ Bo ∧ B3 ≠ Bo := by omega
  rw [hB3, hBo, hB1] at hst0 hap0 ⊢
  obtain ⟨fs, hfs⟩ : ∃ fs : List (Nat × Obj), [(B1, Obj.cells #[.pointer (some ⟨X, 0, none⟩)] 45 (0, 0)), (B3, Obj.cells #[.slice (some ⟨Bo, 0, none⟩) g.length g.length] 25 (0, 0))] = fs := ⟨_, rfl⟩
  have m1 : (B1, Obj.cells #[.pointer (some ⟨X, 0, none⟩)] 45 (0, 0)) ∈ fs := by rw [← hfs]; exact List.mem_cons_self
  have m3 : (B3, Obj.cells #[.slice (some ⟨Bo, 0, none⟩) g.length g.length] 25 (0, 0)) ∈ fs := by rw [← hfs]; exact List.mem_cons_of_mem _ List.mem_cons_self
  have hfc : ∀ p, p ∈ fs → p.2.isCells = true := fun p hp => by
    rw [← hfs] at hp
    rcases List.mem_cons.1 hp with rfl | hp
    · rfl
    · rw [List.mem_singleton] at hp
      subst hp
      rfl
  rw [hfs] at hst0 hap0
  have HFC := Aside0.mk hfc
  have hBw : w.heap.size ≤ Bo := by omega
  clear hfs hp1 hp2 hp3 hc1 hgc hfc b1 hB1 hBo hB3
  have hg0 : HGoing w (tmOf g) (nbOf g) g.length od fs Bo 0 [] W0 := ⟨Nat.zero_le _, List.nodup_nil, fun D hD => absurd hD List.not_mem_nil, hap0, hst0⟩
  clear hst0 hap0 bW0
  refine wpIn_loop (fun a' W' => ∃ (us : Nat → Value) (j : Nat) (L : List Nat), a' = hAct (.pointer (some ⟨X, 0, none⟩)) (.slice AL od.length cL) B1 B3 od.length j us L ∧ HGoing w (tmOf g) (nbOf g) g.length od fs Bo j L W')
    (fun a' _ => od.length - (intOf (a'.tmps.getD 15 undef)).toNat) ?_ ?_
  · exact hstart_at 0 [] (by rfl) hg0
  · clear hg0
    rintro a' W' ⟨us, j, L, rfl, hg⟩
    have HG := Aside0.mk hg
    have hle := hg.le
    unfold hAct
    by_cases hj : j < od.length
    · obtain ⟨i, hi⟩ : ∃ i, od[j] = i := ⟨_, rfl⟩
      have hgw := HH.out W' hg.st.below
      have hin : i < g.length := by
        rw [← hi]
        exact hgw.lt _ (List.getElem_mem hj)
      obtain ⟨gL, rfl, hcL⟩ := hgw.ord j hj
      obtain ⟨W1, hW1⟩ : ∃ W1, W'.alloc (.cells #[.int .i64 (i : Int)] 3) = W1 := ⟨_, rfl⟩
      have hst1 := (hg.st.alloc (.cells #[.int .i64 (i : Int)] 3)).put (x := (W'.heap.size, .cells #[.int .i64 (i : Int)] 3 (0, 0))) (World.alloc_heap_new W' _)
      have hgw1 := HH.out _ hst1.below
      obtain ⟨gN, rfl, hcN⟩ := hgw1.need i hin
      rw [hi] at hcL
      have hj0 : (0 : Int) ≤ (j : Int) := by omega
      have hj1 : (j : Int) < (od.length : Int) := by omega
      have hi0 : (0 : Int) ≤ (i : Int) := by omega
      have hi1 : (i : Int) < (g.length : Int) := by omega
      have hcall := (callsIn_wide (n := 3)).1 (all_any Fence.wide 3 trivial rfl ((at0 (needs g) i : Nat) : Int) W1.drew)
      have c1 : (W'.alloc (.cells #[.int .i64 (i : Int)] 3)).drew.cell? ⟨B1, 0, none⟩ = some (.pointer (some ⟨X, 0, none⟩)) := cell_of (hst1.fix _ (List.mem_cons_of_mem _ (List.mem_append_right _ m1))) rfl
      have c2 : (W'.alloc (.cells #[.int .i64 (i : Int)] 3)).drew.cell? ⟨X, 1, none⟩ = some (.slice (some ⟨gN, 0, none⟩) g.length cN) := hgw1.cells.2.1
      have HIJ := Aside0.mk hi
      rw [hW1] at hst1 hgw1 hcN c1 c2
      replace hcN : W1.drew.cell? ⟨gN, i, none⟩ = some (.int .u16 ((at0 (needs g) i : Nat) : Int)) := hcN
      have c3 : W1.drew.cell? ⟨W'.heap.size, 0, none⟩ = some (.int .i64 (i : Int)) := cell_of hst1.fix.head rfl
      clear hg hi hgw
      gi_wp2
      refine wpIn_wide.2 ?_
      go_still_tail 7, (by kernel_rfl)
      go_wp2_with (go_at_call 65; refine hcall.mono ?_; rintro e w' ⟨rfl, rfl⟩)
      gi_wp2
      have hg := HG.out
      have hltL : ∀ x, x ∈ L → x < W'.heap.size := fun x hx => hg.st.fix.lt (p := (x, .deferred (some []))) (List.mem_append_left _ (List.mem_map.2 ⟨x, hx, rfl⟩))
      have hap1 : Apart1 w ((W'.heap.size, .cells #[.int .i64 (i : Int)] 3 (0, 0)) :: (markObjs L ++ fs)) Bo := ⟨hg.apart.ge, fun p hp => by
        rcases List.mem_cons.1 hp with rfl | hp
        · have h1 := (Array.getElem?_eq_some_iff.1 hg.st.row).1
          show W'.heap.size ≠ Bo
          omega
        · exact hg.apart.all p hp⟩
      have hs2 : at0 (needs g) i < 2 ^ g.length := hnd.at i
      have hW1s : W1.heap.size = W'.heap.size + 1 := by rw [← hW1]; simp
      have hst2 := (hst1.alloc (.cells #[.int .u16 ((at0 (needs g) i : Nat) : Int)] 54)).drew
      have hsB := (Boxed.new W1 54 (.int .u16 ((at0 (needs g) i : Nat) : Int))).cell
      obtain ⟨W2, hW2⟩ : ∃ W2, (W1.alloc (.cells #[.int .u16 ((at0 (needs g) i : Nat) : Int)] 54)).drew = W2 := ⟨_, rfl⟩
      have hsB2 : W2.cell? ⟨W1.heap.size, 0, none⟩ = some (.int .u16 ((at0 (needs g) i : Nat) : Int)) := by rw [← hW2]; exact hsB
      have hTW := HT.out.below hst2.below
      have hsz2 : W1.heap.size ≤ W2.heap.size := by rw [← hW2]; simp
      rw [hW2] at hst2 hTW ⊢
      clear hW1 hst1 hcall hsB hcN hcL c1 c2 c3
      obtain ⟨o, ho⟩ : ∃ o, (od.take j).foldl (hdAt (tmOf g) (nbOf g)) (List.replicate g.length 0) = o := ⟨_, rfl⟩
      have hol : o.length = g.length := by rw [← ho, hds_len, List.length_replicate]
      rw [ho] at hst2
      refine over_set 10 (s := at0 (needs g) i) (Nat.lt_of_lt_of_le hs2 h28) (Bs := W1.heap.size) (n₀ := w.heap.size) rfl (by simp) hsB2 hTW hst2.below.size HT.out.out.1
        (fun pre W => St1 w ((W'.heap.size, .cells #[.int .i64 (i : Int)] 3 (0, 0)) :: (markObjs L ++ fs)) Bo (pre.foldl (hd1 (tmOf g) i) o) W)
        (st1_own w _ Bo (fun (pre : List Nat) => pre.foldl (hd1 (tmOf g) i) o) _ hst2.below.size (fun p hp => .inr (hst2.fix.lt hp))) hst2 ?body1 ?done1
      case body1 =>
        intro l pre k W hI hk hpre
        have hkn : k < g.length := elem_lt hs2 hk
        obtain ⟨bb, hbb⟩ : ∃ bb, pre.foldl (hd1 (tmOf g) i) o = bb := ⟨_, rfl⟩
        have hbl : bb.length = g.length := by rw [← hbb, hdAt_len]; exact hol
        rw [hbb] at hI
        have hgw := HH.out W.drew hI.below.drew
        obtain ⟨ad, rfl, hct⟩ := hgw.task k hkn
        have c0 := hgw.cells.1
        have c1 : W.drew.cell? ⟨B1, 0, none⟩ = some (.pointer (some ⟨X, 0, none⟩)) := cell_of (hI.fix _ (List.mem_cons_of_mem _ (List.mem_append_right _ m1))) rfl
        have c2 : W.drew.cell? ⟨B3, 0, none⟩ = some (.slice (some ⟨Bo, 0, none⟩) g.length g.length) := cell_of (hI.fix _ (List.mem_cons_of_mem _ (List.mem_append_right _ m3))) rfl
        have c3 : W.drew.cell? ⟨W'.heap.size, 0, none⟩ = some (.int .i64 (i : Int)) := cell_of hI.fix.head rfl
        have c4 : W.drew.cell? ⟨Bo, i, none⟩ = some (.int .i64 (atI bb i)) := hI.cell i (by omega)
        have c5 : W.drew.cell? ⟨Bo, k, none⟩ = some (.int .i64 (atI bb k)) := hI.cell k (by omega)
        have f4 : W.drew.frozen? ⟨Bo, i, none⟩ = false := hI.frozen i
        have hk0 : (0 : Int) ≤ (k : Int) := by omega
        have hk1 : (k : Int) < (g.length : Int) := by omega
        have HI1 := Aside0.mk hI
        have HAP := Aside0.mk hap1
        clear hI hst2 hap1 hTW hg hgw
        simp only [List.setIfInBounds_toArray, List.set_cons_succ, List.set_cons_zero]
        refine wpIn_block_calm ?_
        refine wpIn_round_still l 8 (calm_lets _) (by kernel_rfl) 21 (by kernel_rfl) (by kernel_rfl) ?_
        simp only [List.take_succ_cons, List.take_zero, List.drop_succ_cons, List.drop_zero]
        iterate 21 still_step
        refine wpStill_nil ?_
        go_wp2
        refine ⟨((KeepsOthers.setCell W _ _).trans (KeepsOthers.drew _)).from _, ((Below.refl _ W).setCell (p := ⟨Bo, i, none⟩) HAP.out.ge _).drew, ?_⟩
        rw [List.foldl_append, hbb]
        exact (HI1.out.set HAP.out i _).drew
      case done1 =>
        intro D W4 hD hI4 hK4
        have HI4 := Aside0.mk hI4
        have HAP := Aside0.mk hap1
        clear hI4 hst2 hap1 hTW hg
        gi_wp2
        rw [show (j : Int) + 1 = ((j + 1 : Nat) : Int) from by omega]
        have hg := HG.out
        refine ⟨hstart_at (j + 1) (D :: L) (by rfl) ⟨hj, ?_, ?_, ?_, ?_⟩, ?_⟩
        · refine List.nodup_cons.2 ⟨fun h => ?_, hg.nodup⟩
          have := hltL _ h
          omega
        · intro x hx
          have := hg.st.below.size
          rcases List.mem_cons.1 hx with rfl | hx
          · omega
          · exact hg.ge x hx
        · refine ⟨HAP.out.ge, fun p hp => ?_⟩
          rcases List.mem_cons.1 hp with rfl | hp
          · intro e
            have := HI4.out.row
            rw [← show D = Bo from e, hK4] at this
            cases this
          · exact HAP.out.all p (List.mem_cons_of_mem _ hp)
        · rw [List.take_succ_eq_append_getElem hj, List.foldl_append, ho, HIJ.out]
          refine (HI4.out.put (x := (D, .deferred (some []))) hK4).less (fun p hp => ?_)
          rcases List.mem_cons.1 hp with rfl | hp
          · exact List.mem_cons_self
          · exact List.mem_cons_of_mem _ (List.mem_cons_of_mem _ hp)
        · exact nearer rfl hj
    · have hje : j = od.length := by omega
      have hj1 : ¬ (j : Int) < (od.length : Int) := by omega
      have c2 : W'.cell? ⟨B3, 0, none⟩ = some (.slice (some ⟨Bo, 0, none⟩) g.length g.length) := cell_of (hg.st.fix _ (List.mem_append_right _ m3)) rfl
      clear hg
      gi_wp2
      have hg := HG.out
      refine HKn.out _ _ ?_
      gi_wp2
      refine leaves_marks w.heap.size (fun W => St1 w fs Bo (headsBy (tmOf g) (nbOf g) g.length od) W) (fun W D h hD hK => (st1_own (β := Unit) w _ Bo (fun _ => headsBy (tmOf g) (nbOf g) g.length od) w.heap.size (Nat.le_refl _) (fun p hp => .inl (HFC.out p hp))).putObj (s := ()) _ h hD hK rfl) ?_ L W' hg.nodup hg.ge (fun p hp => hg.st.fix p (List.mem_append_left _ hp)) ?_
      · intro W h
        have hl : (headsBy (tmOf g) (nbOf g) g.length od).length = g.length := by unfold headsBy; rw [hds_len, List.length_replicate]
        have hr := R_row h.row hBw (by rw [hl]; unfold maxLen; omega)
        rw [hl] at hr
        exact ⟨_, results_tmp rfl _ _ _, .slice (some ⟨Bo, 0, none⟩) g.length g.length, rfl, hr, h.below⟩
      · have h := hg.st
        rw [hje, List.take_length] at h
        exact h.less (fun p hp => List.mem_append_right _ hp)
set_option maxRecDepth 100000 in
set_option maxHeartbeats 4000000 in
theorem impl_HeadTimes.calls (A0 : Option Addr) (c0 : Nat) (l0 : List S30) (r : List Int) (w : World) (hr0 : Kd.C k30 w A0 l0.length l0) (hc0 : l0.length ≤ c0) (hT : Tab w) (h : impl_HeadTimes.f l0 = some r) :
    Calls Tryd.prog 21 #[.slice A0 l0.length c0] w fun e w' => ∃ v0_ : Value, e = .returned v0_ ∧ Kd.R (Kd.int .i64) 3 w' w.heap.size (fun _ => True) v0_ r ∧ Below w.heap.size w w' := by
  obtain ⟨hh, rfl⟩ := of_held h
  unfold headTimes
  rcases Bool.eq_false_or_eq_true (valid l0) with hv | hv
  · have HG := Aside0.mk (graphOf_here hr0 hc0 hT hh hv)
    have HT := Aside0.mk hT
    have hf := fine_of hv
    have ho := orderOf_len hf
    rw [if_pos hv]
    clear hr0 hT h
    go_enter Tryd.func21, Tryd.ntmps21
    go_wp2_with (first | (go_at_call 41; refine HG.out.mono ?_; rintro e w1 ⟨X, Bb, Ba, AN, cN, AL, cL, rfl, hb, hG, _, _⟩) | (go_at_call 50; refine (heads_any hG (HT.out.below hb) hf ho).mono ?_; rintro e w2 ⟨v, rfl, h1, h2⟩))
    go_ret
    exact ⟨_, rfl, Kd.R_lower h1 hb.size, hb.trans (h2.mono hb.size)⟩
  · have HG := Aside0.mk (graphOf_no hr0 hc0 hT hh hv)
    rw [if_neg (by rw [hv]; simp)]
    clear hr0 hT h
    go_enter Tryd.func21, Tryd.ntmps21
    go_wp2_with (go_at_call 41; refine HG.out.mono ?_; rintro e w' ⟨p, rfl, hb⟩)
    go_ret
    exact ⟨_, rfl, Kd.R_nil _ _ _ _ _, hb⟩
end Go.Proofs.YtgpnododcbkflaaDoor.H
