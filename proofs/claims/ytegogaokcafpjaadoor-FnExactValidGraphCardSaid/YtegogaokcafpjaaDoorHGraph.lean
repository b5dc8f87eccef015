/- What is known of a valid graph: the walk of impl.graphOf. -/
import Derived.Test.YtegogaokcafpjaaDoorHRound
import Derived.Test.YtegogaokcafpjaaDoorHKnown
import Derived.Test.YtegogaokcafpjaaDoorHOver
import Derived.Test.YtegogaokcafpjaaDoorHList
namespace Go.Proofs.YtegogaokcafpjaaDoor.H
open Go.RowKit Go.Shelf Go.Proofs.YtegogaokcafpjaaDoorW.PrintWords Go.Proofs.YtegogaokcafpjaaDoorW.PrintLast Go.Proofs.YtegogaokcafpjaaDoorW.PrintMore Go.Proofs.YtegogaokcafpjaaDoor.Q
attribute [local go_sem] Oper.semAt_some
set_option linter.unusedSimpArgs false
set_option linter.unusedVariables false

def GraphAt (base : Nat) (W : World) (p v0 : Value) (g : List S33) : Prop := ∃ (X Bb Ba : Nat) (vN vL : Value), p = .pointer (some ⟨X, 0, none⟩) ∧ base ≤ X ∧ base ≤ Bb ∧ base ≤ Ba ∧
  W.heap[X]? = some (.cells #[v0, vN, vL, .slice (some ⟨Bb, 0, none⟩) g.length g.length, .slice (some ⟨Ba, 0, none⟩) g.length g.length] 57 (0, 0)) ∧
  Kd.R (Kd.int .u16) 61 W base (fun _ => True) vN (ints (needs g)) ∧ Kd.R (Kd.int .i64) 3 W base (fun _ => True) vL (ints (order (needs g)).1) ∧
  W.heap[Bb]? = some (.cells (row16 (known (needs g)).1) 61 (0, 0)) ∧ W.heap[Ba]? = some (.cells (row16 (known (needs g)).2) 61 (0, 0))
def GraphOf (w : World) (v0 : Value) (g : List S33) (e : Ending) (w' : World) : Prop := ∃ p, e = .returned (.tuple #[p, .bool (valid g)]) ∧ Below w.heap.size w w' ∧ (valid g = true → GraphAt w.heap.size w' p v0 g)

/-- The frame while the loop goes round. -/
def gAct (t0 vN vL : Value) (Xp len j : Nat) (us : Nat → Value) (L : List Nat) : Act := { tmps := #[t0, us 1, us 2, us 3, vN, us 5, vL, us 7, .pointer (some ⟨Xp, 0, none⟩), us 9, us 10, us 11, us 12, us 13, us 14, us 15, us 16, us 17, us 18, us 19, us 20, us 21, us 22, us 23, us 24, us 25, us 26, us 27, us 28, us 29, us 30, us 31, us 32, us 33, us 34, us 35, us 36, us 37, us 38, us 39, us 40, vL, .int .i64 (len : Int), .int .i64 (j : Int), us 44, us 45, us 46, us 47, us 48, us 49, us 50, us 51, us 52, us 53, us 54, us 55, us 56, us 57, us 58, us 59, us 60, us 61, us 62, us 63, us 64, us 65, us 66, us 67, us 68, us 69, us 70, us 71, us 72, us 73, us 74, us 75, us 76, us 77, us 78, us 79, us 80, us 81, us 82, us 83, us 84, us 85, us 86, us 87, us 88, us 89, us 90, us 91, us 92, us 93, us 94, us 95, us 96], defers := marks L }
theorem start_at {a : Act} {t0 vN vL : Value} {Xp len : Nat} {G : Nat → List Nat → Prop} (j : Nat) (L : List Nat) (h : a = gAct t0 vN vL Xp len j (fun k => a.tmps.getD k undef) L) (hG : G j L) : ∃ (us : Nat → Value) (j : Nat) (L : List Nat), a = gAct t0 vN vL Xp len j us L ∧ G j L := ⟨_, j, L, h, hG⟩
/-- The struct's block, the block of the variable that points at it, and the rows' blocks. -/
def base0 (t0 vN vL : Value) (n X Xp Bb Ba : Nat) (fsN fsL : List (Nat × Obj)) : List (Nat × Obj) :=
  (X, .cells #[t0, vN, vL, .slice (some ⟨Bb, 0, none⟩) n n, .slice (some ⟨Ba, 0, none⟩) n n] 57 (0, 0)) :: (Xp, .cells #[.pointer (some ⟨X, 0, none⟩)] 48 (0, 0)) :: (fsN ++ fsL)
structure Going (w : World) (nd od : List Nat) (fs : List (Nat × Obj)) (Bb Ba j : Nat) (L : List Nat) (W : World) : Prop where mk ::
  (le : j ≤ od.length) (nodup : L.Nodup) (ge : ∀ D, D ∈ L → w.heap.size ≤ D) (apart : Apart w (markObjs L ++ fs) Bb Ba) (st : St w (markObjs L ++ fs) Bb Ba (kn nd od j).1 (kn nd od j).2 W)
theorem row_cell {k : IntKind} {e : Nat} {W : World} {base : Nat} {ok : Nat → Prop} {A : Option Addr} {n c : Nat} {xs : List Int} (h : Kd.R (Kd.int k) e W base ok (.slice A n c) xs) (j : Nat) (hj : j < xs.length) :
    ∃ g, A = some ⟨g, 0, none⟩ ∧ W.cell? ⟨g, j, none⟩ = some (.int k xs[j]) := by
  obtain ⟨h0, inner, ho, hr⟩ := h
  have hsz : (Kd.int k).sz = 1 := rfl
  have hlen : inner.length = xs.length := by rw [hr.1, hsz, Nat.mul_one]
  have hcell : inner[j]? = some (.int k xs[j]) := by
    have h2 : (inner.drop (j * 1)).take 1 = [.int k xs[j]] := hr.2 j _ (List.getElem?_eq_getElem hj)
    rw [Nat.mul_one, List.drop_eq_getElem_cons (by omega), List.take_succ_cons, List.take_zero] at h2
    rw [List.getElem?_eq_getElem (by omega)]
    exact congrArg some (List.cons.inj h2).1
  rcases ho.2 with ⟨hv, hn⟩ | ⟨g, cap, cur, hv, hb, hg, hn, hc, hs, ht⟩
  · have := ho.1
    rw [hn, Nat.zero_mul] at this
    omega
  · cases hv
    refine ⟨g, rfl, ?_⟩
    have h3 := ho.cells (g := g) (by simp [Value.ownBlock]) j _ hcell
    have e : (⟨g, 0, none⟩ : Addr).add j = ⟨g, j, none⟩ := by
      unfold Addr.add
      simp
      omega
    rw [e] at h3
    exact h3

theorem made_zeros (n : Nat) : madeCells #[Value.int .u16 0] n = row16 (List.replicate n 0) := by
  unfold madeCells row16
  apply Array.ext
  · simp
  · intro i h1 h2
    simp [Nat.mod_one]
theorem start_going {w w3 W : World} {nd od : List Nat} {t0 vN vL : Value} {n X Xp Bb Ba : Nat} {fsN fsL : List (Nat × Obj)} (hn : nd.length = n) (h3 : Below w.heap.size w w3) (hW : Below w3.heap.size w3 W) (hN : Fix fsN w3) (hL : Fix fsL w3)
    (hX : W.heap[X]? = some (.cells #[t0, vN, vL, .slice (some ⟨Bb, 0, none⟩) n n, .slice (some ⟨Ba, 0, none⟩) n n] 57 (0, 0))) (hXp : W.heap[Xp]? = some (.cells #[.pointer (some ⟨X, 0, none⟩)] 48 (0, 0)))
    (hb : W.heap[Bb]? = some (.cells (madeCells #[Value.int .u16 0] n) 61 (0, 0))) (ha : W.heap[Ba]? = some (.cells (madeCells #[Value.int .u16 0] n) 61 (0, 0)))
    (g1 : w3.heap.size ≤ X) (g2 : w3.heap.size ≤ Xp) (g3 : w3.heap.size ≤ Bb) (g4 : w3.heap.size ≤ Ba) (d1 : Bb ≠ Ba) (d2 : X ≠ Bb) (d3 : X ≠ Ba) (d4 : Xp ≠ Bb) (d5 : Xp ≠ Ba) : Going w nd od (base0 t0 vN vL n X Xp Bb Ba fsN fsL) Bb Ba 0 [] W := by
  have hsz := h3.size
  have old : ∀ p : Nat × Obj, p ∈ fsN ++ fsL → W.heap[p.1]? = some p.2 ∧ p.1 < w3.heap.size := fun p hp => by
    rcases List.mem_append.1 hp with hp | hp
    · exact ⟨(hW.block _ (hN.lt hp)).trans (hN p hp), hN.lt hp⟩
    · exact ⟨(hW.block _ (hL.lt hp)).trans (hL p hp), hL.lt hp⟩
  refine ⟨Nat.zero_le _, List.nodup_nil, fun D hD => absurd hD List.not_mem_nil, ⟨d1, by omega, by omega, fun p hp => ?_⟩, ⟨fun p hp => ?_, ?_, ?_, h3.trans (hW.mono hsz)⟩⟩
  · rcases List.mem_cons.1 hp with rfl | hp
    · exact ⟨d2, d3⟩
    · rcases List.mem_cons.1 hp with rfl | hp
      · exact ⟨d4, d5⟩
      · have := (old p hp).2
        exact ⟨by omega, by omega⟩
  · rcases List.mem_cons.1 hp with rfl | hp
    · exact hX
    · rcases List.mem_cons.1 hp with rfl | hp
      · exact hXp
      · exact (old p hp).1
  · rw [hb, made_zeros, ← hn]
    rfl
  · rw [ha, made_zeros, ← hn]
    rfl
theorem going_cells {w w3 : World} {fsN fsL : List (Nat × Obj)} (hb : Below w.heap.size w w3) (hf : (∀ p : Nat × Obj, p ∈ fsN → p.2.isCells = true ∧ w.heap.size ≤ p.1) ∧ (∀ p : Nat × Obj, p ∈ fsL → p.2.isCells = true ∧ w.heap.size ≤ p.1)) {nd od : List Nat} {n : Nat} {t0 vN vL : Value} {X Xp Bb Ba : Nat} {W : World} (hG : Going w nd od (base0 t0 vN vL n X Xp Bb Ba fsN fsL) Bb Ba 0 [] W) (h1 : w3.heap.size ≤ X) (h2 : w3.heap.size ≤ Xp) :
    ∀ p, p ∈ base0 t0 vN vL n X Xp Bb Ba fsN fsL → p.2.isCells = true ∧ w.heap.size ≤ p.1 := by
  intro p hp
  have := hb.size
  rcases List.mem_cons.1 hp with rfl | hp
  · exact ⟨rfl, by show w.heap.size ≤ X; omega⟩
  · rcases List.mem_cons.1 hp with rfl | hp
    · exact ⟨rfl, by show w.heap.size ≤ Xp; omega⟩
    · rcases List.mem_append.1 hp with hp | hp
      · exact hf.1 p hp
      · exact hf.2 p hp
theorem below_draws {B : Nat} {a w : World} (h : Below B a w) (n : Nat) : Below B a (w.drewN n) := h.trans ⟨rfl, rfl, rfl, Nat.le_refl _, fun _ _ => rfl⟩
theorem four (w : World) (o0 o1 o2 o3 : Obj) : Below w.heap.size w ((((w.alloc o0).alloc o1).alloc o2).alloc o3).drew ∧ ((((w.alloc o0).alloc o1).alloc o2).alloc o3).drew.heap[w.heap.size]? = some o0 ∧ ((((w.alloc o0).alloc o1).alloc o2).alloc o3).drew.heap[w.heap.size + 1]? = some o1 ∧
    ((((w.alloc o0).alloc o1).alloc o2).alloc o3).drew.heap[w.heap.size + 1 + 1]? = some o2 ∧ ((((w.alloc o0).alloc o1).alloc o2).alloc o3).drew.heap[w.heap.size + 1 + 1 + 1]? = some o3 := by
  have a0 := World.alloc_heap_new w o0
  have a1 := World.alloc_heap_new (w.alloc o0) o1
  have a2 := World.alloc_heap_new ((w.alloc o0).alloc o1) o2
  have a3 := World.alloc_heap_new (((w.alloc o0).alloc o1).alloc o2) o3
  rw [World.size_alloc] at a1
  rw [World.size_alloc, World.size_alloc] at a2
  rw [World.size_alloc, World.size_alloc, World.size_alloc] at a3
  have k : ∀ (v : World) (o : Obj) (i : Nat) (x : Obj), v.heap[i]? = some x → (v.alloc o).heap[i]? = some x := fun v o i x h => (Below.heap_alloc v o i (Array.getElem?_eq_some_iff.1 h).1).trans h
  exact ⟨((((Below.refl _ w).alloc (Nat.le_refl _) o0).alloc (by simp) o1).alloc (by simp; omega) o2 |>.alloc (by simp; omega) o3).drew, k _ _ _ _ (k _ _ _ _ (k _ _ _ _ a0)), k _ _ _ _ (k _ _ _ _ a1), k _ _ _ _ a2, a3⟩
theorem nearer {nL len j : Nat} (h : nL = len) (hj : j < len) : nL - (intOf (Value.int .i64 ((j + 1 : Nat) : Int))).toNat < nL - (intOf (Value.int .i64 (j : Int))).toNat := by
  simp only [intOf]
  omega
theorem wrap_next (j : Nat) (h : j < 281474976710656) : wrap64 ((j : Int) + 1) = ((j + 1 : Nat) : Int) := by
  rw [w64 _ (by omega) (by omega)]
  omega
theorem with_same (s k : Nat) (hs : s < 256) (hk : k < 8) (w : World) : Calls Tryd.prog 60 #[.int .u16 (s : Int), .int .i64 (k : Int)] w fun e w' => e = .returned (.int .u16 ((s ||| 2 ^ k : Nat) : Int)) ∧ w' = w := by
  refine (callsIn_wide (n := 3)).1 ?_
  refine callsIn_of_wp Tryd.func60 rfl trivial ?_ rfl
  simp only [Tryd.ntmps60, List.size_toArray, List.length_cons, List.length_nil, Nat.reduceAdd, Nat.reduceSub, Array.replicate_succ, Array.replicate_zero, List.push_toArray, List.append_toArray, List.nil_append, List.cons_append]
  have hk0 : (0 : Int) ≤ (k : Int) := by omega
  have hb := with_bits s hs k hk
  unfold shl at hb
  rw [Int.toNat_natCast, show min k IntKind.u16.bits = k by simp [IntKind.bits]; omega, Int.one_mul] at hb
  gi_wp2
  go_ret
  exact ⟨rfl, rfl⟩
structure Rest (A0 : Option Addr) (c0 : Nat) (g : List S33) (w : World) (K : Act → World → Prop) : Prop where mk :: (out : ∀ {t0 : Value} {AN : Option Addr} {nN cN : Nat} {vN : Value} {AL : Option Addr} {nL cL : Nat} {vL : Value} {y1 y2 y3 y5 y7 y9 y10 y11 y12 y13 y14 y15 y16 y17 y18 y19 y20 y21 y22 y23 y24 y25 y26 y27 y28 y29 y30 y31 y32 y33 y34 y35 y36 y37 y38 y39 y40 y41 y42 y43 y44 y45 y46 y47 y48 y49 y50 y51 y52 y53 y54 y55 y56 y57 y58 y59 y60 y61 y62 y63 y64 y65 y66 y67 y68 y69 y70 y71 y72 y73 y74 y75 y76 y77 y78 y79 y80 y81 y82 y83 y84 y85 y86 y87 y88 y89 y90 y91 y92 y93 y94 y95 y96 : Value} (X Xp Bb Ba : Nat) {fsN fsL : List (Nat × Obj)} {W : World}, t0 = .slice A0 g.length c0 → vN = .slice AN nN cN → nN = g.length → vL = .slice AL nL cL → nL = (order (needs g)).1.length →
          Going w (needs g) (order (needs g)).1 (base0 t0 vN vL g.length X Xp Bb Ba fsN fsL) Bb Ba 0 [] W → (∀ p, p ∈ base0 t0 vN vL g.length X Xp Bb Ba fsN fsL → p.2.isCells = true ∧ w.heap.size ≤ p.1) →
          (∀ W', Fix fsN W' → Kd.R (Kd.int .u16) 61 W' w.heap.size (fun _ => True) vN (ints (needs g))) → (∀ W', Fix fsL W' → Kd.R (Kd.int .i64) 3 W' w.heap.size (fun _ => True) vL (ints (order (needs g)).1)) →
          K { tmps := #[t0, y1, y2, y3, vN, y5, vL, y7, .pointer (some ⟨Xp, 0, none⟩), y9, y10, y11, y12, y13, y14, y15, y16, y17, y18, y19, y20, y21, y22, y23, y24, y25, y26, y27, y28, y29, y30, y31, y32, y33, y34, y35, y36, y37, y38, y39, y40, y41, y42, y43, y44, y45, y46, y47, y48, y49, y50, y51, y52, y53, y54, y55, y56, y57, y58, y59, y60, y61, y62, y63, y64, y65, y66, y67, y68, y69, y70, y71, y72, y73, y74, y75, y76, y77, y78, y79, y80, y81, y82, y83, y84, y85, y86, y87, y88, y89, y90, y91, y92, y93, y94, y95, y96], defers := [] } W)
theorem info_set : (Tryd.prog.info? 61).map (fun i => (i.zero, i.size, i.bytes)) = some (some (.int .u16 0), 1, 2) := by kernel_rfl
set_option maxRecDepth 100000 in
set_option maxHeartbeats 4000000 in
theorem graphOf_any (A0 : Option Addr) (c0 : Nat) (g : List S33) (M : Nat) (w : World) (hr0 : Kd.C k33 w A0 g.length g) (hc0 : g.length ≤ c0) (hT : Tab w) (hM : short M g) (hM48 : M ≤ 281474976710656) :
    Calls Tryd.prog 41 #[.slice A0 g.length c0] w (GraphOf w (.slice A0 g.length c0) g) := by
  obtain ⟨i0, hi, hz0, hz1, hz2⟩ := info_parts info_set
  have HI := Aside0.mk (And.intro hi (And.intro hz0 (And.intro hz1 hz2)))
  have HR := Aside0.mk hr0
  have HT := Aside0.mk hT
  clear hr0 hT
  have HN := Aside0.mk (needsOf_is g M hM hM48 (M + 10) (Nat.le_refl _))
  clear hM
  refine (callsIn_wide (n := 10)).1 ?_
  refine callsIn_of_wp_marks Tryd.func41 rfl trivial ?_ rfl
  simp only [Tryd.ntmps41, List.size_toArray, List.length_cons, List.length_nil, Nat.reduceAdd, Nat.reduceSub, Array.replicate_succ, Array.replicate_zero, List.push_toArray, List.append_toArray, List.nil_append, List.cons_append]
  by_cases hf : fine g = true
  · have h8 := fine_len hf
    have HN1 := Aside0.mk (HN.out.trans (by rw [if_pos hf]))
    have HO := Aside0.mk (order_is (needs g) (by rw [needs_len]; exact h8) (needs_lt hf) 100 (Nat.le_refl _))
    have HF := Aside0.mk hf
    clear hf
    have HE := Aside0.mk (everything_is g.length h8)
    gi_wp2_with (first | (refine ⟨trivial, ?_⟩; gi_at_call 48; refine (callsIn_wide.2 (impl_needsOf.calls (M + 10) A0 c0 g _ _ _ HR.out hc0 HN1.out)).mono ?_; rintro e w1 ⟨vN, rfl, RN, hb1⟩; obtain ⟨AN, cN, rfl⟩ := Kd.R_slice RN; have HRN := Aside0.mk RN; have HB1 := Aside0.mk hb1; clear RN hb1) | (refine ⟨trivial, ?_⟩; gi_at_call 49; refine (callsIn_wide.2 (impl_order.calls 100 AN cN (ints (needs g)) _ _ _ (Kd.R_reads' HRN.out).2.2 (Kd.R_reads' HRN.out).2.1 HO.out)).mono ?_; rintro e w2 ⟨vL, rfl, RL, hb2⟩; obtain ⟨AL, cL, rfl⟩ := Kd.R_slice RL; have HRL := Aside0.mk RL; have HB2 := Aside0.mk hb2; clear RL hb2) | (refine ⟨trivial, ?_⟩; gi_at_call 50; refine (callsIn_wide.2 (impl_everything.calls _ _ _ HE.out)).mono ?_; rintro e w3 ⟨rfl, hd⟩; have HD := Aside0.mk hd; clear hd))
    · rename_i hne
      have HV : Aside0 (valid g = false) := Aside0.mk (by
        unfold valid
        rw [HF.out, Bool.true_and, decide_eq_false_iff_not]
        have := bne_iff_ne.1 hne
        omega)
      obtain ⟨nd, hw3⟩ := HD.out.out
      refine ⟨_, results_tmp2 rfl _ _ _, .pointer none, by rw [HV.out]; rfl, ?_, fun h => by rw [HV.out] at h; cases h⟩
      rw [hw3]
      exact below_draws (HB1.out.trans (HB2.out.mono HB1.out.size)) nd
    · have hmk := fun W : World => run_make (P := Tryd.prog) W 55 61 i0 (.int .u16 0) Tryd.underlying55 hi hz0 .i64 .i64 (g.length : Int) (g.length : Int) (by omega) (by omega) (by rw [hz2]; omega) (by omega)
      rw [hz1] at hmk
      simp only [Int.toNat_natCast, Nat.mul_one] at hmk
      rename_i hne K hK
      have HV : Aside0 (valid g = true) := Aside0.mk (by
        unfold valid
        rw [HF.out, Bool.true_and, decide_eq_true_eq]
        have := bne_eq_false_iff_eq.1 hne
        omega)
      have HK := Aside0.mk hK
      clear hK hi hz0 hz1 hz2
      have REST : Rest A0 c0 g w K := by
        apply Rest.mk
        intro t0 AN nN cN vN AL nL cL vL y1 y2 y3 y5 y7 y9 y10 y11 y12 y13 y14 y15 y16 y17 y18 y19 y20 y21 y22 y23 y24 y25 y26 y27 y28 y29 y30 y31 y32 y33 y34 y35 y36 y37 y38 y39 y40 y41 y42 y43 y44 y45 y46 y47 y48 y49 y50 y51 y52 y53 y54 y55 y56 y57 y58 y59 y60 y61 y62 y63 y64 y65 y66 y67 y68 y69 y70 y71 y72 y73 y74 y75 y76 y77 y78 y79 y80 y81 y82 y83 y84 y85 y86 y87 y88 y89 y90 y91 y92 y93 y94 y95 y96 X Xp Bb Ba fsN fsL W ht0 hvN hnN hvL hnL hG hcells hN hL
        subst hvL
        subst hvN
        have HNL := Aside0.mk hnL
        have HNN := Aside0.mk hnN
        have HT0 := Aside0.mk ht0
        have HC := Aside0.mk hcells
        clear hnL hnN ht0 hcells
        apply HK.out
        clear HK
        gi_wp2
        refine wpIn_loop (fun a' W' => ∃ (us : Nat → Value) (j : Nat) (L : List Nat), a' = gAct t0 (.slice AN nN cN) (.slice AL nL cL) Xp nL j us L ∧ Going w (needs g) (order (needs g)).1 (base0 t0 (.slice AN nN cN) (.slice AL nL cL) g.length X Xp Bb Ba fsN fsL) Bb Ba j L W')
          (fun a' _ => nL - (intOf (a'.tmps.getD 43 undef)).toNat) ?_ ?_
        · exact start_at 0 [] (by rfl) hG
        · rintro a' W' ⟨us, j, L, rfl, hg⟩
          have HG := Aside0.mk hg
          have HN2 := Aside0.mk hN
          have HL2 := Aside0.mk hL
          clear hG hN hL
          have hXp : W'.cell? ⟨Xp, 0, none⟩ = some (.pointer (some ⟨X, 0, none⟩)) := cell_of (hg.st.fix (Xp, _) (List.mem_append_right _ (List.mem_cons_of_mem _ List.mem_cons_self))) rfl
          have hle := hg.le
          unfold gAct
          by_cases hj : j < (order (needs g)).1.length
          · have fixL : Fix fsL W' := fun p hp => hg.st.fix p (List.mem_append_right _ (List.mem_cons_of_mem _ (List.mem_cons_of_mem _ (List.mem_append_right _ hp))))
            have fixN : Fix fsN W' := fun p hp => hg.st.fix p (List.mem_append_right _ (List.mem_cons_of_mem _ (List.mem_cons_of_mem _ (List.mem_append_left _ hp))))
            obtain ⟨i, hi⟩ : ∃ i, (order (needs g)).1[j] = i := ⟨_, rfl⟩
            have hin : i < g.length := by
              rw [← hi, ← needs_len g]
              exact order_lt _ _ (List.getElem_mem hj)
            obtain ⟨gL, rfl, hcL⟩ := row_cell (HL2.out W' fixL) j (by rw [ints_len]; exact hj)
            obtain ⟨gN, rfl, hcN⟩ := row_cell (HN2.out (W'.alloc (.cells #[.int .i64 (i : Int)] 3)) (fixN.alloc _)) i (by rw [ints_len, needs_len]; exact hin)
            have eL : (ints (order (needs g)).1)[j]'(by rw [ints_len]; exact hj) = (i : Int) := by
              rw [← hi]
              exact List.getElem_map ..
            have eN : (ints (needs g))[i]'(by rw [ints_len, needs_len]; exact hin) = ((at0 (needs g) i : Nat) : Int) := by
              rw [at0_get _ _ (by rw [needs_len]; exact hin)]
              exact List.getElem_map ..
            rw [eL] at hcL
            rw [eN] at hcN
            have hj0 : (0 : Int) ≤ (j : Int) := by omega
            have hj1 : (j : Int) < (nL : Int) := by have := HNL.out; omega
            have hi0 : (0 : Int) ≤ (i : Int) := by omega
            have hi1 : (i : Int) < (nN : Int) := by have := HNN.out; omega
            have HIJ := Aside0.mk hi
            clear eL eN hg hi
            gi_wp2_with (refine ⟨trivial, ?_⟩; gi_at_call 59; refine (all_any Fence.wide _ trivial rfl _ _).mono ?_; rintro e w' ⟨rfl, rfl⟩)
            have hg := HG.out
            have hltL : ∀ x, x ∈ L → x < W'.heap.size := fun x hx => hg.st.fix.lt (p := (x, .deferred (some []))) (List.mem_append_left _ (List.mem_map.2 ⟨x, hx, rfl⟩))
            have hnd := needs_sets HF.out
            have hW1 := ((Below.refl w.heap.size W').alloc hg.st.below.size (.cells #[.int .i64 (i : Int)] 3)).alloc (by have := hg.st.below.size; simp; omega) (.cells #[.int .u16 ((at0 (needs g) i : Nat) : Int)] 61)
            have hst1 := ((hg.st.alloc (.cells #[.int .i64 (i : Int)] 3)).put (o := (W'.heap.size, .cells #[.int .i64 (i : Int)] 3 (0, 0))) (World.alloc_heap_new W' _)).alloc (.cells #[.int .u16 ((at0 (needs g) i : Nat) : Int)] 61)
            have hap1 : Apart w ((W'.heap.size, .cells #[.int .i64 (i : Int)] 3 (0, 0)) :: (markObjs L ++ base0 t0 (.slice (some ⟨gN, 0, none⟩) nN cN) (.slice (some ⟨gL, 0, none⟩) nL cL) g.length X Xp Bb Ba fsN fsL)) Bb Ba := ⟨hg.apart.ne, hg.apart.geb, hg.apart.gea, fun p hp => by
              rcases List.mem_cons.1 hp with rfl | hp
              · have h1 := (Array.getElem?_eq_some_iff.1 hg.st.rowb).1
                have h2 := (Array.getElem?_eq_some_iff.1 hg.st.rowa).1
                exact ⟨by show W'.heap.size ≠ Bb; omega, by show W'.heap.size ≠ Ba; omega⟩
              · exact hg.apart.all p hp⟩
            have hsB := Boxed.new (W'.alloc (.cells #[.int .i64 (i : Int)] 3)) 61 (.int .u16 ((at0 (needs g) i : Nat) : Int))
            rw [World.size_alloc] at hsB
            have hTW : Tab ((W'.alloc (.cells #[.int .i64 (i : Int)] 3)).alloc (.cells #[.int .u16 ((at0 (needs g) i : Nat) : Int)] 61)) := HT.out.below (hg.st.below.trans hW1)
            have hs2 : at0 (needs g) i < 2 ^ g.length := hnd.at i
            have hks := kn_sets hnd (od := (order (needs g)).1) (fun x hx => by rw [← needs_len g]; exact order_lt _ x hx) j
            have h28 := two_le h8
            obtain ⟨W1, hW1e⟩ : ∃ W1, (W'.alloc (.cells #[.int .i64 (i : Int)] 3)).alloc (.cells #[.int .u16 ((at0 (needs g) i : Nat) : Int)] 61) = W1 := ⟨_, rfl⟩
            rw [hW1e] at hst1 hsB hTW hW1 ⊢
            have hsz1 := hW1.size
            have hgsz := hg.st.below.size
            refine over_set 10 (s := at0 (needs g) i) (Nat.lt_of_lt_of_le hs2 h28) (Bs := W'.heap.size + 1) (n₀ := w.heap.size) rfl (by simp) hsB.cell hTW hst1.below.size HT.out.out.1
              (fun pre W => St w ((W'.heap.size, .cells #[.int .i64 (i : Int)] 3 (0, 0)) :: (markObjs L ++ base0 t0 (.slice (some ⟨gN, 0, none⟩) nN cN) (.slice (some ⟨gL, 0, none⟩) nL cL) g.length X Xp Bb Ba fsN fsL)) Bb Ba (pre.foldl (bit1 i) (kn (needs g) (order (needs g)).1 j).1) (kn (needs g) (order (needs g)).1 j).2 W)
              (st_own w _ Bb Ba (fun (pre : List Nat) => pre.foldl (bit1 i) (kn (needs g) (order (needs g)).1 j).1) (fun _ => (kn (needs g) (order (needs g)).1 j).2) _ hst1.below.size (fun p hp => .inr (hst1.fix.lt hp))) hst1 ?body1 ?done1
            case body1 =>
              intro l pre k W hI hk hpre
              have hkn : k < g.length := elem_lt hs2 hk
              have hbs : Sets g.length (pre.foldl (bit1 i) (kn (needs g) (order (needs g)).1 j).1) := Sets.bits1 i _ hks.1 (fun y hy => elem_lt hs2 (hpre y hy))
              obtain ⟨bb, hbb⟩ : ∃ bb, pre.foldl (bit1 i) (kn (needs g) (order (needs g)).1 j).1 = bb := ⟨_, rfl⟩
              have HAP := Aside0.mk hap1
              rw [hbb] at hI hbs
              have hx1 := hbs.at i
              have hx2 := hbs.at k
              have hlen := hbs.len
              have c1 : W.drew.cell? ⟨Xp, 0, none⟩ = some (.pointer (some ⟨X, 0, none⟩)) := cell_of (hI.fix (Xp, _) (List.mem_cons_of_mem _ (List.mem_append_right _ (List.mem_cons_of_mem _ List.mem_cons_self)))) rfl
              have c2 : W.drew.cell? ⟨X, 3, none⟩ = some (.slice (some ⟨Bb, 0, none⟩) g.length g.length) := cell_of (hI.fix (X, _) (List.mem_cons_of_mem _ (List.mem_append_right _ List.mem_cons_self))) rfl
              have c3 : W.drew.cell? ⟨W'.heap.size, 0, none⟩ = some (.int .i64 (i : Int)) := cell_of hI.fix.head rfl
              have c4 : W.drew.cell? ⟨Bb, i, none⟩ = some (.int .u16 ((at0 bb i : Nat) : Int)) := cell_of hI.rowb (row16_at bb i (by omega))
              have c5 : W.drew.cell? ⟨Bb, k, none⟩ = some (.int .u16 ((at0 bb k : Nat) : Int)) := cell_of hI.rowb (row16_at bb k (by omega))
              have f4 : W.drew.frozen? ⟨Bb, i, none⟩ = false := frozen_of hI.rowb
              have hk0 : (0 : Int) ≤ (k : Int) := by omega
              have hk1 : (k : Int) < (g.length : Int) := by omega
              have hi2 : (i : Int) < (g.length : Int) := by omega
              have hor := or_bits (at0 bb i) (at0 bb k ||| 2 ^ k) (by omega) (or_lt (by omega) (pow_lt (by omega)))
              have hcall := with_same (at0 bb k) k (by omega) (by omega) W.drew
              have HI1 := Aside0.mk hI
              clear hI hst1 hap1 hsB hTW hW1 hg hx1 hx2
              simp only [List.setIfInBounds_toArray, List.set_cons_succ, List.set_cons_zero]
              refine wpIn_block_calm ?_
              refine wpIn_round_still l 8 (calm_lets _) (by kernel_rfl) 18 (by kernel_rfl) (by kernel_rfl) ?_
              simp only [List.take_succ_cons, List.take_zero, List.drop_succ_cons, List.drop_zero]
              iterate 15 still_step
              still_call hcall
              iterate 2 still_step
              refine wpStill_nil ?_
              go_wp2
              refine ⟨((KeepsOthers.setCell W _ _).trans (KeepsOthers.drew _)).from _, ((Below.refl _ W).setCell (p := ⟨Bb, i, none⟩) HAP.out.geb _).drew, ?_⟩
              rw [List.foldl_append, hbb]
              exact (HI1.out.setb HAP.out i _).drew
            case done1 =>
              intro D W2 hD hI2 hK2
              have hbs := Sets.bits1 i (elems (at0 (needs g) i)) hks.1 (fun y hy => elem_lt hs2 hy)
              obtain ⟨bb, hbb⟩ : ∃ bb, (elems (at0 (needs g) i)).foldl (bit1 i) (kn (needs g) (order (needs g)).1 j).1 = bb := ⟨_, rfl⟩
              rw [hbb] at hI2 hbs
              have hx1 := hbs.at i
              have hlen := hbs.len
              have c1 : W2.drew.cell? ⟨Xp, 0, none⟩ = some (.pointer (some ⟨X, 0, none⟩)) := cell_of (hI2.fix (Xp, _) (List.mem_cons_of_mem _ (List.mem_append_right _ (List.mem_cons_of_mem _ List.mem_cons_self)))) rfl
              have c2 : W2.drew.cell? ⟨X, 3, none⟩ = some (.slice (some ⟨Bb, 0, none⟩) g.length g.length) := cell_of (hI2.fix (X, _) (List.mem_cons_of_mem _ (List.mem_append_right _ List.mem_cons_self))) rfl
              have c3 : W2.drew.cell? ⟨W'.heap.size, 0, none⟩ = some (.int .i64 (i : Int)) := cell_of hI2.fix.head rfl
              have c4 : W2.drew.cell? ⟨Bb, i, none⟩ = some (.int .u16 ((at0 bb i : Nat) : Int)) := cell_of hI2.rowb (row16_at bb i (by omega))
              have hi2 : (i : Int) < (g.length : Int) := by omega
              have hcall := (callsIn_wide (n := 3)).1 (all_any Fence.wide 3 trivial rfl ((at0 bb i : Nat) : Int) W2.drew)
              have HI2 := Aside0.mk hI2
              have HAP := Aside0.mk hap1
              clear hI2 hst1 hsB hTW hW1 hg hx1 hap1
              gi_wp2
              refine wpIn_wide.2 ?_
              go_still_tail 7, (by kernel_rfl)
              go_wp2_with (go_at_call 59; refine hcall.mono ?_; rintro e w' ⟨rfl, rfl⟩)
              gi_wp2
              have hst2 := ((HI2.out.put (o := (D, .deferred (some []))) hK2).alloc (.cells #[.int .u16 ((at0 bb i : Nat) : Int)] 61)).drew
              have hap2 : Apart w ((D, .deferred (some [])) :: (W'.heap.size, .cells #[.int .i64 (i : Int)] 3 (0, 0)) :: (markObjs L ++ base0 t0 (.slice (some ⟨gN, 0, none⟩) nN cN) (.slice (some ⟨gL, 0, none⟩) nL cL) g.length X Xp Bb Ba fsN fsL)) Bb Ba := ⟨HAP.out.ne, HAP.out.geb, HAP.out.gea, fun p hp => by
                rcases List.mem_cons.1 hp with rfl | hp
                · refine ⟨fun e => ?_, fun e => ?_⟩
                  · have := HI2.out.rowb
                    rw [← show D = Bb from e, hK2] at this
                    cases this
                  · have := HI2.out.rowa
                    rw [← show D = Ba from e, hK2] at this
                    cases this
                · exact HAP.out.all p hp⟩
              have hsB := Boxed.new W2 61 (.int .u16 ((at0 bb i : Nat) : Int))
              have hTW := HT.out.below hst2.below
              have hs3 : at0 bb i < 2 ^ g.length := hbs.at i
              obtain ⟨W3, hW3⟩ : ∃ W3, (W2.alloc (.cells #[.int .u16 ((at0 bb i : Nat) : Int)] 61)).drew = W3 := ⟨_, rfl⟩
              have hsB3 : W3.cell? ⟨W2.heap.size, 0, none⟩ = some (.int .u16 ((at0 bb i : Nat) : Int)) := by rw [← hW3]; exact hsB.cell
              have hD3 : D < W3.heap.size := by
                rw [hW3] at hst2
                exact hst2.fix.lt (p := (D, .deferred (some []))) List.mem_cons_self
              rw [hW3] at hst2 hTW ⊢
              have hW13 : W1.heap.size ≤ W3.heap.size := by omega
              clear hW3 hsB c1 c2 c3 c4
              refine over_set 10 (s := at0 bb i) (Nat.lt_of_lt_of_le hs3 h28) (Bs := W2.heap.size) (n₀ := w.heap.size) rfl (by simp) hsB3 hTW hst2.below.size HT.out.out.1
                (fun pre W => St w ((D, .deferred (some [])) :: (W'.heap.size, .cells #[.int .i64 (i : Int)] 3 (0, 0)) :: (markObjs L ++ base0 t0 (.slice (some ⟨gN, 0, none⟩) nN cN) (.slice (some ⟨gL, 0, none⟩) nL cL) g.length X Xp Bb Ba fsN fsL)) Bb Ba bb (pre.foldl (bit2 i) (kn (needs g) (order (needs g)).1 j).2) W)
                (st_own w _ Bb Ba (fun _ => bb) (fun (pre : List Nat) => pre.foldl (bit2 i) (kn (needs g) (order (needs g)).1 j).2) _ hst2.below.size (fun p hp => .inr (hst2.fix.lt hp))) hst2 ?body2 ?done2
              case body2 =>
                intro l pre k W hI hk hpre
                have hkn : k < g.length := elem_lt hs3 hk
                have has : Sets g.length (pre.foldl (bit2 i) (kn (needs g) (order (needs g)).1 j).2) := Sets.bits2 i hin _ hks.2
                obtain ⟨aa, haa⟩ : ∃ aa, pre.foldl (bit2 i) (kn (needs g) (order (needs g)).1 j).2 = aa := ⟨_, rfl⟩
                rw [haa] at hI has
                have hx2 := has.at k
                have hlen := has.len
                have c1 : W.drew.cell? ⟨Xp, 0, none⟩ = some (.pointer (some ⟨X, 0, none⟩)) := cell_of (hI.fix (Xp, _) (List.mem_cons_of_mem _ (List.mem_cons_of_mem _ (List.mem_append_right _ (List.mem_cons_of_mem _ List.mem_cons_self))))) rfl
                have c2 : W.drew.cell? ⟨X, 4, none⟩ = some (.slice (some ⟨Ba, 0, none⟩) g.length g.length) := cell_of (hI.fix (X, _) (List.mem_cons_of_mem _ (List.mem_cons_of_mem _ (List.mem_append_right _ List.mem_cons_self)))) rfl
                have c3 : W.drew.cell? ⟨W'.heap.size, 0, none⟩ = some (.int .i64 (i : Int)) := cell_of (hI.fix (W'.heap.size, _) (List.mem_cons_of_mem _ List.mem_cons_self)) rfl
                have c5 : W.drew.cell? ⟨Ba, k, none⟩ = some (.int .u16 ((at0 aa k : Nat) : Int)) := cell_of hI.rowa (row16_at aa k (by omega))
                have f4 : W.drew.frozen? ⟨Ba, k, none⟩ = false := frozen_of hI.rowa
                have hk0 : (0 : Int) ≤ (k : Int) := by omega
                have hk1 : (k : Int) < (g.length : Int) := by omega
                have hcall := with_same (at0 aa k) i (by omega) (by omega) W.drew
                have HI3 := Aside0.mk hI
                have HAP2 := Aside0.mk hap2
                clear hI hst2 hap2 hTW hx2
                simp only [List.setIfInBounds_toArray, List.set_cons_succ, List.set_cons_zero]
                refine wpIn_block_calm ?_
                refine wpIn_round_still l 8 (calm_lets _) (by kernel_rfl) 15 (by kernel_rfl) (by kernel_rfl) ?_
                simp only [List.take_succ_cons, List.take_zero, List.drop_succ_cons, List.drop_zero]
                iterate 13 still_step
                still_call hcall
                still_step
                refine wpStill_nil ?_
                go_wp2
                refine ⟨((KeepsOthers.setCell W _ _).trans (KeepsOthers.drew _)).from _, ((Below.refl _ W).setCell (p := ⟨Ba, k, none⟩) HAP2.out.gea _).drew, ?_⟩
                rw [List.foldl_append, haa]
                exact (HI3.out.seta HAP2.out k _).drew
              case done2 =>
                intro D2 W4 hD2 hI4 hK4
                have HI4 := Aside0.mk hI4
                have HAP2 := Aside0.mk hap2
                clear hI4 hst2 hap2 hTW
                gi_wp2
                have hod := order_len (needs g)
                rw [needs_len] at hod
                have hw := wrap_next j (by omega)
                rw [hw]
                have hg := HG.out
                refine ⟨start_at (j + 1) (D2 :: D :: L) (by rfl) ⟨hj, ?_, ?_, ?_, ?_⟩, ?_⟩
                · refine List.nodup_cons.2 ⟨fun h => ?_, List.nodup_cons.2 ⟨fun h => ?_, hg.nodup⟩⟩
                  · rcases List.mem_cons.1 h with h | h
                    · omega
                    · have := hltL _ h
                      omega
                  · have := hltL _ h
                    omega
                · intro x hx
                  rcases List.mem_cons.1 hx with rfl | hx
                  · omega
                  · rcases List.mem_cons.1 hx with rfl | hx
                    · omega
                    · exact hg.ge x hx
                · refine ⟨HAP2.out.ne, HAP2.out.geb, HAP2.out.gea, fun p hp => ?_⟩
                  rcases List.mem_cons.1 hp with rfl | hp
                  · refine ⟨fun e => ?_, fun e => ?_⟩
                    · have := HI4.out.rowb
                      rw [← show D2 = Bb from e, hK4] at this
                      cases this
                    · have := HI4.out.rowa
                      rw [← show D2 = Ba from e, hK4] at this
                      cases this
                  · rcases List.mem_cons.1 hp with rfl | hp
                    · exact HAP2.out.all _ List.mem_cons_self
                    · exact HAP2.out.all p (List.mem_cons_of_mem _ (List.mem_cons_of_mem _ hp))
                · rw [kn_step _ _ j hj, HIJ.out]
                  unfold know1
                  rw [hbb]
                  refine (HI4.out.put (o := (D2, .deferred (some []))) hK4).less (fun p hp => ?_)
                  rcases List.mem_cons.1 hp with rfl | hp
                  · exact List.mem_cons_self
                  · rcases List.mem_cons.1 hp with rfl | hp
                    · exact List.mem_cons_of_mem _ List.mem_cons_self
                    · exact List.mem_cons_of_mem _ (List.mem_cons_of_mem _ (List.mem_cons_of_mem _ hp))
                · exact nearer HNL.out hj
          · have hje : j = (order (needs g)).1.length := by omega
            have hj1 : ¬ (j : Int) < (nL : Int) := by have := HNL.out; omega
            have hg := HG.out
            gi_wp2
            refine leaves_marks w.heap.size (fun W => St w (base0 t0 (.slice AN nN cN) (.slice AL nL cL) g.length X Xp Bb Ba fsN fsL) Bb Ba (known (needs g)).1 (known (needs g)).2 W) (fun W D h hD hK => (st_own (β := Unit) w _ Bb Ba (fun _ => (known (needs g)).1) (fun _ => (known (needs g)).2) w.heap.size (Nat.le_refl _) (fun p hp => .inl (HC.out p hp).1)).putObj (s := ()) _ h hD hK rfl) ?_ L W' hg.nodup hg.ge (fun p hp => hg.st.fix p (List.mem_append_left _ hp)) ?_
            · intro W h
              refine ⟨_, results_tmp2 rfl _ _ _, .pointer (some ⟨X, 0, none⟩), by rw [HV.out]; rfl, h.below, fun _ => ⟨X, Bb, Ba, .slice AN nN cN, .slice AL nL cL, rfl, (HC.out (X, _) List.mem_cons_self).2, hg.apart.geb, hg.apart.gea, ?_, ?_, ?_, h.rowb, h.rowa⟩⟩
              · rw [← HT0.out]
                exact h.fix (X, _) List.mem_cons_self
              · exact HN2.out W (fun p hp => h.fix p (List.mem_cons_of_mem _ (List.mem_cons_of_mem _ (List.mem_append_left _ hp))))
              · exact HL2.out W (fun p hp => h.fix p (List.mem_cons_of_mem _ (List.mem_cons_of_mem _ (List.mem_append_right _ hp))))
            · have h := hg.st
              rw [hje, kn_all] at h
              exact h.less (fun p hp => List.mem_append_right _ hp)
      obtain ⟨nd, hw3⟩ := HD.out.out
      have hb3 : Below w.heap.size w w3 := by
        rw [hw3]
        exact below_draws (HB1.out.trans (HB2.out.mono HB1.out.size)) nd
      have RN3 := Kd.R_step (w1 := w3) HRN.out (fun k _ hk => by rw [hw3]; exact HB2.out.block k hk)
      have RL3 := Kd.R_step (w1 := w3) (Kd.R_lower HRL.out HB1.out.size) (fun k _ hk => by rw [hw3]; rfl)
      obtain ⟨fsN, n1, n2, n3⟩ := row_fix (fun _ _ _ _ _ h => h) RN3
      obtain ⟨fsL, l1, l2, l3⟩ := row_fix (fun _ _ _ _ _ h => h) RL3
      have HB3 := Aside0.mk hb3
      have HF1 := Aside0.mk (And.intro n1 l1)
      have HF2 := Aside0.mk (And.intro n2 l2)
      have HF3 := Aside0.mk (And.intro n3 l3)
      clear hb3 RN3 RL3 n1 n2 n3 l1 l2 l3 hw3 HRN HRL HB1 HB2 HD
      refine wpIn_calm ?_
      gi_region
      · refine REST.out (w3.heap.size + 1 + 1) (w3.heap.size + 1 + 1 + 1) (w3.heap.size) (w3.heap.size + 1) rfl rfl (by rw [ints_len, needs_len]) rfl (ints_len _) ?hG (going_cells HB3.out HF2.out ?hG (by omega) (by omega)) HF3.out.1 HF3.out.2
        case hG =>
          clear REST HK hmk
          obtain ⟨fB, f0, f1, f2, f3⟩ := four w3 _ _ _ _
          exact start_going (needs_len g) HB3.out fB HF1.out.1 HF1.out.2 f2 f3 f0 f1 (by omega) (by omega) (by omega) (by omega) (by omega) (by omega) (by omega) (by omega) (by omega)
      · refine REST.out (w3.heap.size + 1 + 1 + 1) (w3.heap.size + 1 + 1) (w3.heap.size) (w3.heap.size + 1) rfl rfl (by rw [ints_len, needs_len]) rfl (ints_len _) ?hG (going_cells HB3.out HF2.out ?hG (by omega) (by omega)) HF3.out.1 HF3.out.2
        case hG =>
          clear REST HK hmk
          obtain ⟨fB, f0, f1, f2, f3⟩ := four w3 _ _ _ _
          exact start_going (needs_len g) HB3.out fB HF1.out.1 HF1.out.2 f3 f2 f0 f1 (by omega) (by omega) (by omega) (by omega) (by omega) (by omega) (by omega) (by omega) (by omega)
      · refine REST.out (w3.heap.size + 1 + 1 + 1) (w3.heap.size + 1) (w3.heap.size) (w3.heap.size + 1 + 1) rfl rfl (by rw [ints_len, needs_len]) rfl (ints_len _) ?hG (going_cells HB3.out HF2.out ?hG (by omega) (by omega)) HF3.out.1 HF3.out.2
        case hG =>
          clear REST HK hmk
          obtain ⟨fB, f0, f1, f2, f3⟩ := four w3 _ _ _ _
          exact start_going (needs_len g) HB3.out fB HF1.out.1 HF1.out.2 f3 f1 f0 f2 (by omega) (by omega) (by omega) (by omega) (by omega) (by omega) (by omega) (by omega) (by omega)
      · refine REST.out (w3.heap.size + 1 + 1) (w3.heap.size + 1 + 1 + 1) (w3.heap.size + 1) (w3.heap.size) rfl rfl (by rw [ints_len, needs_len]) rfl (ints_len _) ?hG (going_cells HB3.out HF2.out ?hG (by omega) (by omega)) HF3.out.1 HF3.out.2
        case hG =>
          clear REST HK hmk
          obtain ⟨fB, f0, f1, f2, f3⟩ := four w3 _ _ _ _
          exact start_going (needs_len g) HB3.out fB HF1.out.1 HF1.out.2 f2 f3 f1 f0 (by omega) (by omega) (by omega) (by omega) (by omega) (by omega) (by omega) (by omega) (by omega)
      · refine REST.out (w3.heap.size + 1 + 1 + 1) (w3.heap.size + 1 + 1) (w3.heap.size + 1) (w3.heap.size) rfl rfl (by rw [ints_len, needs_len]) rfl (ints_len _) ?hG (going_cells HB3.out HF2.out ?hG (by omega) (by omega)) HF3.out.1 HF3.out.2
        case hG =>
          clear REST HK hmk
          obtain ⟨fB, f0, f1, f2, f3⟩ := four w3 _ _ _ _
          exact start_going (needs_len g) HB3.out fB HF1.out.1 HF1.out.2 f3 f2 f1 f0 (by omega) (by omega) (by omega) (by omega) (by omega) (by omega) (by omega) (by omega) (by omega)
      · refine REST.out (w3.heap.size + 1 + 1 + 1) (w3.heap.size + 1) (w3.heap.size + 1 + 1) (w3.heap.size) rfl rfl (by rw [ints_len, needs_len]) rfl (ints_len _) ?hG (going_cells HB3.out HF2.out ?hG (by omega) (by omega)) HF3.out.1 HF3.out.2
        case hG =>
          clear REST HK hmk
          obtain ⟨fB, f0, f1, f2, f3⟩ := four w3 _ _ _ _
          exact start_going (needs_len g) HB3.out fB HF1.out.1 HF1.out.2 f3 f1 f2 f0 (by omega) (by omega) (by omega) (by omega) (by omega) (by omega) (by omega) (by omega) (by omega)
      · refine REST.out (w3.heap.size + 1 + 1 + 1) (w3.heap.size) (w3.heap.size + 1) (w3.heap.size + 1 + 1) rfl rfl (by rw [ints_len, needs_len]) rfl (ints_len _) ?hG (going_cells HB3.out HF2.out ?hG (by omega) (by omega)) HF3.out.1 HF3.out.2
        case hG =>
          clear REST HK hmk
          obtain ⟨fB, f0, f1, f2, f3⟩ := four w3 _ _ _ _
          exact start_going (needs_len g) HB3.out fB HF1.out.1 HF1.out.2 f3 f0 f1 f2 (by omega) (by omega) (by omega) (by omega) (by omega) (by omega) (by omega) (by omega) (by omega)
      · refine REST.out (w3.heap.size + 1 + 1 + 1) (w3.heap.size) (w3.heap.size + 1 + 1) (w3.heap.size + 1) rfl rfl (by rw [ints_len, needs_len]) rfl (ints_len _) ?hG (going_cells HB3.out HF2.out ?hG (by omega) (by omega)) HF3.out.1 HF3.out.2
        case hG =>
          clear REST HK hmk
          obtain ⟨fB, f0, f1, f2, f3⟩ := four w3 _ _ _ _
          exact start_going (needs_len g) HB3.out fB HF1.out.1 HF1.out.2 f3 f0 f2 f1 (by omega) (by omega) (by omega) (by omega) (by omega) (by omega) (by omega) (by omega) (by omega)
    -- the needs are not fine
  · have hf' : fine g = false := by simpa using hf
    have HV : Aside0 (valid g = false) := Aside0.mk (by
      unfold valid
      rw [hf', Bool.false_and])
    have HN1 := Aside0.mk (HN.out.trans (by rw [if_neg hf]))
    clear hf hf'
    gi_wp2_with (refine ⟨trivial, ?_⟩; gi_at_call 48; refine (callsIn_wide.2 (impl_needsOf.calls (M + 10) A0 c0 g _ _ _ HR.out hc0 HN1.out)).mono ?_; rintro e w1 ⟨vN, rfl, RN, hb1⟩; obtain ⟨AN, cN, rfl⟩ := Kd.R_slice RN; have HB1 := Aside0.mk hb1; clear RN hb1)
    exact ⟨_, results_tmp2 rfl _ _ _, .pointer none, by rw [HV.out]; rfl, HB1.out, fun h => by rw [HV.out] at h; cases h⟩
end Go.Proofs.YtegogaokcafpjaaDoor.H
