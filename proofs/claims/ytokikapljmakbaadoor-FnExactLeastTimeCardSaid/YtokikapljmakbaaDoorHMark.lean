/- laws.markTaskS: it writes numbers over a row of tasks of the caller's own, and nothing else. -/
import Derived.Test.YtokikapljmakbaaDoorHM
import Derived.Test.YtokikapljmakbaaDoorHT
import Derived.Test.YtokikapljmakbaaDoorQx28
import Derived.LoopTactic
namespace Go.Proofs.YtokikapljmakbaaDoor.H
open Go.RowKit Go.Proofs.YtokikapljmakbaaDoorW.PrintWords Go.Proofs.YtokikapljmakbaaDoorW.PrintLast Go.Proofs.YtokikapljmakbaaDoorW.PrintMore Go.Proofs.YtokikapljmakbaaDoor.Q
set_option linter.unusedSimpArgs false
set_option linter.unusedVariables false

def markSum : List S29 → Int → Int
  | [], a => a
  | t :: l, a => markSum l (a + 3 + t.f1.length)
theorem markSum_snoc : ∀ (l : List S29) (t : S29) (a : Int), markSum (l ++ [t]) a = markSum l a + 3 + t.f1.length
  | [], _, _ => rfl
  | x :: l, t, a => markSum_snoc l t _
theorem markSum_le : ∀ (l : List S29) (a : Int), (∀ t, t ∈ l → t.f1.length ≤ 1048576) → a ≤ markSum l a ∧ markSum l a ≤ a + l.length * 1048579
  | [], a, _ => by simp [markSum]
  | t :: l, a, h => by
    have h1 := h t List.mem_cons_self
    obtain ⟨h2, h3⟩ := markSum_le l (a + 3 + t.f1.length) (fun x hx => h x (List.mem_cons_of_mem _ hx))
    rw [markSum, List.length_cons]
    constructor
    · omega
    · have : ((l.length + 1 : Nat) : Int) * 1048579 = l.length * 1048579 + 1048579 := by omega
      omega
def markOk (l : List S29) (a : Int) : Bool := decide (l.length ≤ 1048576) && (l.all (fun t => decide (t.f1.length ≤ 1048576)) && decide (0 ≤ a ∧ a ≤ 1048576))
def laws_markTaskS.f (l0 : List S29) (a1 : Int) : Option Int := if markOk l0 a1 then some (markSum l0 a1) else none
theorem markInts_l0 : ∀ (d i : Nat) (l : List Int) (a : Int), i + d = l.length → l.length ≤ 1048576 → 0 ≤ a → a + d ≤ 4000000000000 → ∀ k, d + 1 ≤ k → ∃ r, laws_markIntS.l0 k l a (i : Int) = some (a + d, r) ∧ r.length = l.length
  | 0, i, l, a, h, hl, _, _, k, hk => by
    obtain ⟨m, rfl⟩ : ∃ m, k = m + 1 := ⟨k - 1, by omega⟩
    refine ⟨l, ?_, rfl⟩
    simp only [laws_markIntS.l0]
    rw [if_neg (by omega)]
    simp
  | d + 1, i, l, a, h, hl, h0, h1, k, hk => by
    obtain ⟨m, rfl⟩ : ∃ m, k = m + 1 := ⟨k - 1, by omega⟩
    obtain ⟨r, hr, hlen⟩ := markInts_l0 d (i + 1) (l.set i a) (a + 1) (by rw [List.length_set]; omega) (by rw [List.length_set]; omega) (by omega) (by omega) m (by omega)
    refine ⟨r, ?_, by rw [hlen, List.length_set]⟩
    simp only [laws_markIntS.l0]
    rw [if_pos (by omega), if_pos (by omega), Int.toNat_natCast, w64 (a + 1) (by omega) (by omega), w64 ((i : Int) + 1) (by omega) (by omega), show ((i : Int) + 1) = ((i + 1 : Nat) : Int) by omega, hr, show a + 1 + (d : Int) = a + ((d + 1 : Nat) : Int) by omega]
theorem markInts (l : List Int) (a : Int) (hl : l.length ≤ 1048576) (h0 : 0 ≤ a) (h1 : a ≤ 3000000000000) : ∃ r, laws_markIntS.f (l.length + 1) l a = some (a + l.length, r) ∧ r.length = l.length := by
  unfold laws_markIntS.f
  exact markInts_l0 l.length 0 l a (by omega) hl h0 (by omega) _ (Nat.le_refl _)
/-- A number is stored into an element. -/
theorem put_field {W : World} {base G n cap : Nat} {ok : Nat → Prop} {l : List S29} (h : Kd.S k29 29 W base ok (.slice (some ⟨G, 0, none⟩) n cap) l) {i : Int} (h0 : 0 ≤ i) (h1 : i < n) (j : Nat) (hj : j = 0 ∨ j = 2 ∨ j = 3) (x : Int) :
    ∃ t : S29, t.f1 = (rd_T29 l i).f1 ∧ Kd.S k29 29 (W.setCell ⟨G, i.toNat * 4 + j, none⟩ (.int .i64 x)) base ok (.slice (some ⟨G, 0, none⟩) n cap) (l.set i.toNat t) ∧ W.grownBy (W.setCell ⟨G, i.toNat * 4 + j, none⟩ (.int .i64 x)) (some G) := by
  obtain ⟨oki, ce, hcl, hM, hcc, hfr, hoki, hH⟩ := Kd.S_elem h z29 i h0 h1
  obtain ⟨v1, rfl, hR⟩ := k29_openM hM
  rcases hj with rfl | rfl | rfl
  · have := Kd.S_seg0 hH h0 h1 (seg := [.int .i64 x]) (j := 0) (show 1 ≤ 4 by decide) (x' := (⟨x, (rd_T29 l i).f1, (rd_T29 l i).f2, (rd_T29 l i).f3⟩ : S29)) (k29_mkM _ _ _ (⟨x, (rd_T29 l i).f1, (rd_T29 l i).f2, (rd_T29 l i).f3⟩ : S29) hR) (fun _ hk => hk)
    exact ⟨⟨x, (rd_T29 l i).f1, (rd_T29 l i).f2, (rd_T29 l i).f3⟩, rfl, this⟩
  · have := Kd.S_seg0 hH h0 h1 (seg := [.int .i64 x]) (j := 2) (show 3 ≤ 4 by decide) (x' := (⟨(rd_T29 l i).f0, (rd_T29 l i).f1, x, (rd_T29 l i).f3⟩ : S29)) (k29_mkM _ _ _ (⟨(rd_T29 l i).f0, (rd_T29 l i).f1, x, (rd_T29 l i).f3⟩ : S29) hR) (fun _ hk => hk)
    exact ⟨⟨(rd_T29 l i).f0, (rd_T29 l i).f1, x, (rd_T29 l i).f3⟩, rfl, this⟩
  · have := Kd.S_seg0 hH h0 h1 (seg := [.int .i64 x]) (j := 3) (show 4 ≤ 4 by decide) (x' := (⟨(rd_T29 l i).f0, (rd_T29 l i).f1, (rd_T29 l i).f2, x⟩ : S29)) (k29_mkM _ _ _ (⟨(rd_T29 l i).f0, (rd_T29 l i).f1, (rd_T29 l i).f2, x⟩ : S29) hR) (fun _ hk => hk)
    exact ⟨⟨(rd_T29 l i).f0, (rd_T29 l i).f1, (rd_T29 l i).f2, x⟩, rfl, this⟩
/-- How far the marking is. -/
structure Marked (w0 w : World) (P : Nat → Prop) (G n cap : Nat) (l0 : List S29) (W : World) (l : List S29) : Prop where mk ::
  (len : l.length = l0.length) (same : ∀ i : Int, (rd_T29 l i).f1.length = (rd_T29 l0 i).f1.length) (own : Kd.S k29 29 W w0.heap.size P (.slice (some ⟨G, 0, none⟩) n cap) l) (below : Below w0.heap.size w0 W) (kept : Kept w W P)
theorem rd_set_len (l : List S29) (i : Nat) (t : S29) (hi : i < l.length) (ht : t.f1.length = (rd_T29 l i).f1.length) (m : Int) : (rd_T29 (l.set i t) m).f1.length = (rd_T29 l m).f1.length := by
  unfold rd_T29 at ht ⊢
  rw [Int.toNat_natCast] at ht
  by_cases h : i = m.toNat
  · subst h
    rw [List.getD_eq_getElem?_getD, List.getElem?_set_self hi]
    exact ht
  · rw [List.getD_eq_getElem?_getD, List.getD_eq_getElem?_getD, List.getElem?_set_ne h]
variable {w0 w : World} {P : Nat → Prop} {G n cap : Nat} {l0 l : List S29} {W : World}
theorem Marked.put (h : Marked w0 w P G n cap l0 W l) (hn : n = l.length) (hP : P G) (hG : w0.heap.size ≤ G) {i : Int} (i0 : 0 ≤ i) (i1 : i < n) (j : Nat) (hj : j = 0 ∨ j = 2 ∨ j = 3) (x : Int) : ∃ l', Marked w0 w P G n cap l0 (W.setCell ⟨G, i.toNat * 4 + j, none⟩ (.int .i64 x)) l' := by
  obtain ⟨t, ht, hS, hg⟩ := put_field h.own i0 i1 j hj x
  refine ⟨l.set i.toNat t, by rw [List.length_set]; exact h.len, fun m => ?_, hS, below_set h.below hG, h.kept.setCell (.inl hP) _⟩
  rw [rd_set_len l i.toNat t (by omega) (by rw [ht]; congr 3; omega) m]
  exact h.same m
theorem elem_at {W : World} {base G n cap : Nat} {ok : Nat → Prop} {l : List S29} (h : Kd.S k29 29 W base ok (.slice (some ⟨G, 0, none⟩) n cap) l) {i : Int} (h0 : 0 ≤ i) (h1 : i < n) :
    ∃ (oki : Nat → Prop) (A : Option Addr) (c : Nat), W.cell? ⟨G, i.toNat * 4, none⟩ = some (.int .i64 (rd_T29 l i).f0) ∧ W.cell? ⟨G, i.toNat * 4 + 1, none⟩ = some (.slice A (rd_T29 l i).f1.length c) ∧ W.cell? ⟨G, i.toNat * 4 + 2, none⟩ = some (.int .i64 (rd_T29 l i).f2) ∧
      W.cell? ⟨G, i.toNat * 4 + 3, none⟩ = some (.int .i64 (rd_T29 l i).f3) ∧ W.frozen? ⟨G, i.toNat * 4, none⟩ = false ∧ W.frozen? ⟨G, i.toNat * 4 + 2, none⟩ = false ∧ W.frozen? ⟨G, i.toNat * 4 + 3, none⟩ = false ∧
      Kd.R (Kd.int .i64) 3 W base oki (.slice A (rd_T29 l i).f1.length c) (rd_T29 l i).f1 ∧ (∀ k, oki k → ok k ∧ k ≠ G) ∧ Kd.H k29 29 W base ok (.slice (some ⟨G, 0, none⟩) n cap) l i oki [.int .i64 (rd_T29 l i).f0, .slice A (rd_T29 l i).f1.length c, .int .i64 (rd_T29 l i).f2, .int .i64 (rd_T29 l i).f3] := by
  obtain ⟨oki, ce, hcl, hM, hcc, hfr, hoki, hH⟩ := Kd.S_elem h z29 i h0 h1
  obtain ⟨v1, rfl, hR⟩ := k29_openM hM
  obtain ⟨A, c, rfl⟩ := Kd.R_slice hR
  exact ⟨oki, A, c, hcc 0 _ rfl, hcc 1 _ rfl, hcc 2 _ rfl, hcc 3 _ rfl, hfr 0, hfr 2, hfr 3, hR, hoki, hH⟩
/-- The inner row was marked: it comes back. -/
theorem Marked.inner (h : Marked w0 w P G n cap l0 W l) (hn : n = l.length) {i : Int} (i0 : 0 ≤ i) (i1 : i < n) {oki : Nat → Prop} {A : Option Addr} {c : Nat} {W3 : World} {ys : List Int} (hlen : ys.length = (rd_T29 l i).f1.length)
    (hoki : ∀ k, oki k → P k ∧ k ≠ G) (hH : Kd.H k29 29 W w0.heap.size P (.slice (some ⟨G, 0, none⟩) n cap) l i oki [.int .i64 (rd_T29 l i).f0, .slice A (rd_T29 l i).f1.length c, .int .i64 (rd_T29 l i).f2, .int .i64 (rd_T29 l i).f3])
    (hR0 : Kd.R (Kd.int .i64) 3 W w0.heap.size oki (.slice A (rd_T29 l i).f1.length c) (rd_T29 l i).f1)
    (hR : Kd.R (Kd.int .i64) 3 W3 w0.heap.size (fun k_ => oki k_ ∨ W.heap.size ≤ k_) (.slice A (rd_T29 l i).f1.length c) ys) (hb : Below w0.heap.size w0 W3) (hk : Kept W W3 (fun k_ => oki k_)) : ∃ l', Marked w0 w P G n cap l0 W3 l' := by
  have hH3 := Kd.H_kept hH hk (fun k _ hn hs => hn hs)
  have hR3 := Kd.R_reok (ok := oki) rfl hR (fun k hk => hR0.1 k hk)
  refine ⟨l.set i.toNat ⟨(rd_T29 l i).f0, ys, (rd_T29 l i).f2, (rd_T29 l i).f3⟩, by rw [List.length_set]; exact h.len, fun m => ?_, Kd.H_back hH3 (k29_mkM _ _ _ (⟨(rd_T29 l i).f0, ys, (rd_T29 l i).f2, (rd_T29 l i).f3⟩ : S29) hR3) (fun _ hk => hk), hb, h.kept.then_ hk (fun k hk => .inl (hoki k hk).1)⟩
  rw [rd_set_len l i.toNat _ (by omega) (by rw [show ((i.toNat : Nat) : Int) = i by omega]; exact hlen) m]
  exact h.same m

set_option maxHeartbeats 4000000 in
set_option maxRecDepth 100000 in
theorem laws_markTaskS.calls (P : Nat → Prop) (A0 : Option Addr) (c0 : Nat) (l0 : List S29) (a1 r : Int) (w0 w : World) (hB : Below w0.heap.size w0 w) (ho0 : Kd.S k29 29 w w0.heap.size P (.slice A0 l0.length c0) l0) (h : laws_markTaskS.f l0 a1 = some r) :
    Calls Tryd.prog 32 #[.slice A0 l0.length c0, .int .i64 a1] w fun e w' => e = .returned (.int .i64 r) ∧ Below w0.heap.size w0 w' ∧ Kept w w' (fun k_ => P k_) := by
  have hok : markOk l0 a1 = true := by
    refine Classical.byContradiction (fun hc => ?_)
    unfold laws_markTaskS.f at h
    rw [if_neg hc] at h
    cases h
  unfold laws_markTaskS.f at h
  rw [if_pos hok] at h
  cases h
  unfold markOk at hok
  simp only [Bool.and_eq_true, decide_eq_true_eq, List.all_eq_true] at hok
  obtain ⟨hn, hsm, ha0, ha1⟩ := hok
  rcases Nat.eq_zero_or_pos l0.length with hz | hz
  · obtain rfl : l0 = [] := List.eq_nil_of_length_eq_zero hz
    have HB := Aside0.mk hB
    clear hB ho0
    go_enter Tryd.func32, Tryd.ntmps32
    go_wp2
    go_loop [1, 5] (fun v1 v5 => v1 = .int .i64 a1 ∧ v5 = .int .i64 0) (fun _ _ => 0)
    case atStart => exact ⟨rfl, rfl⟩
    case round =>
      obtain ⟨rfl, rfl⟩ := hrel
      go_wp2
      go_ret
      exact ⟨rfl, HB.out, Kept.refl _ _⟩
  · obtain ⟨G, cap, hv, hG, hGl, _⟩ := Kd.S_form ho0 hz
    cases hv
    have hPG : P G := (Kd.S_R ho0).1 G rfl
    have HM0 : Aside0 (Marked w0 w P G l0.length c0 l0 w l0) := ⟨⟨rfl, fun _ => rfl, ho0, hB, Kept.refl _ _⟩⟩
    clear hB ho0
    go_enter Tryd.func32, Tryd.ntmps32
    go_wp2
    go_loopw [1, 5] (fun v1 v5 wr => ∃ (ix : Int) (l : List S29), v5 = .int .i64 ix ∧ 0 ≤ ix ∧ ix ≤ l0.length ∧ v1 = .int .i64 (markSum (l0.take ix.toNat) a1) ∧ Aside0 (Marked w0 w P G l0.length c0 l0 wr l)) (fun _ v5 _ => l0.length - (intOf v5).toNat)
    case atStart => exact ⟨0, l0, rfl, Int.le_refl _, by omega, rfl, HM0⟩
    case round =>
      obtain ⟨ix, l, rfl, i0, i1, rfl, HM⟩ := hrel
      clear HM0
      have htk : (l0.take ix.toNat).length ≤ 1048576 := by rw [List.length_take]; omega
      obtain ⟨m0, m1⟩ := markSum_le (l0.take ix.toNat) a1 (fun t ht => hsm t (List.mem_of_mem_take ht))
      obtain ⟨ms, hms⟩ : ∃ ms, markSum (l0.take ix.toNat) a1 = ms := ⟨_, rfl⟩
      rw [hms] at m0 m1 ⊢
      have m2 : ms ≤ 1100000000000 := by omega
      by_cases hlt : ix < l0.length
      · have hll := HM.out.len
        have H28 := Aside0.mk (And.intro i0 hlt)
        obtain ⟨oki, A1, c1, hx0, _, _, _, hf0, _, _, _, _, _⟩ := elem_at HM.out.own i0 hlt
        obtain ⟨l2, hM2⟩ := HM.out.put (by omega) hPG hG i0 hlt 0 (.inl rfl) ms
        have p28 : (0 ≤ ix) = True := eq_true i0
        have q28 : (ix < (l0.length : Int)) = True := eq_true hlt
        clear i0 i1 hlt
        have hlen0 : (rd_T29 l0 ix).f1.length ≤ 1048576 := by
          obtain ⟨m, rfl⟩ := Int.eq_ofNat_of_zero_le H28.out.1
          have hm : m < l0.length := by have := H28.out.2; omega
          rw [show rd_T29 l0 ((m : Nat) : Int) = l0[m] from rd_task l0 m hm]
          exact hsm _ (List.getElem_mem hm)
        have hlen2 := hM2.same ix
        have hll2 := hM2.len
        obtain ⟨ys, hys, hysl⟩ := markInts (rd_T29 l2 ix).f1 (ms + 1) (by omega) (by omega) (by omega)
        have HYS := Aside0.mk hys
        have HL2 := Aside0.mk hll2
        have hL1 : (0 : Int) ≤ ((rd_T29 l2 ix).f1.length : Int) ∧ ((rd_T29 l2 ix).f1.length : Int) ≤ 1048576 := by omega
        obtain ⟨ln, hln⟩ : ∃ ln : Int, ((rd_T29 l2 ix).f1.length : Int) = ln := ⟨_, rfl⟩
        rw [hln] at hL1 HYS
        have HLN := Aside0.mk hln
        have HLE := Aside0.mk hlen2
        have HYL := Aside0.mk hysl
        obtain ⟨hL0, hL1⟩ := hL1
        clear hys hll2 hln hlen2 hlen0 hysl
        go_wp2_with (first | ((with_reducible refine gate_store (t := 3) (p := 16) rfl ?_); refine store_event (t := 3) (p := 16) (v := ?vo16) (w1 := (wr.setCell ⟨G, ix.toNat * 4, none⟩ (.int .i64 ms))) ?hg ?ho ?hn ?hr ?_; (case ho => rfl); (case hg => rfl); (case hn => rfl); (case hr => first | (go_simp; done) | (go_simp; rfl)); intro W2 hW2; replace hM2 : Marked w0 w P G l0.length c0 l0 W2 l2 := (by rw [hW2]; exact hM2); obtain ⟨oki2, A2, c2, hy0, hy1, hy2, hy3, hg0, hg2, hg3, hR2, hoki2, hH2⟩ := elem_at hM2.own H28.out.1 H28.out.2; have HM2 := Aside0.mk hM2; have HR2 := Aside0.mk hR2; have HK2 := Aside0.mk hoki2; have HH2 := Aside0.mk hH2; clear hW2 hM2 hR2 hoki2 hH2 hx0 hf0)  | (go_at_call 33; refine (laws_markIntS.calls _ oki2 _ _ (ms + 1) _ ys w0 _ HM2.out.below HR2.out HYS.out).mono ?_; rintro e W3 ⟨rfl, hR3, hb3, hk3⟩; obtain ⟨l3, hM3⟩ := Marked.inner HM2.out (by have := HL2.out; omega) H28.out.1 H28.out.2 HYL.out HK2.out HH2.out HR2.out hR3 hb3 hk3; clear hR3 hb3 hk3 hy0 hy1 hy2 hy3 hg0 hg2 hg3; obtain ⟨oki3, A3, c3, hz0, hz1, hz2, hz3, hgg0, hgg2, hgg3, _, _, _⟩ := elem_at hM3.own H28.out.1 H28.out.2; obtain ⟨l4, hM4⟩ := hM3.put (by have := hM3.len; omega) hPG hG H28.out.1 H28.out.2 2 (.inr (.inl rfl)) (ms + 1 + ln))  | ((with_reducible refine gate_store (t := 3) (p := 30) rfl ?_); refine store_event (t := 3) (p := 30) (v := ?vo30) (w1 := (W3.setCell ⟨G, ix.toNat * 4 + 2, none⟩ (.int .i64 (ms + 1 + ln)))) ?hg ?ho ?hn ?hr ?_; (case ho => rfl); (case hg => rfl); (case hn => rfl); (case hr => first | (go_simp; done) | (go_simp; rfl)); intro W4 hW4; replace hM4 : Marked w0 w P G l0.length c0 l0 W4 l4 := (by rw [hW4]; exact hM4); clear hW4 hz0 hz1 hz2 hz3 hgg0 hgg2 hgg3; obtain ⟨oki4, A4, c4, hz0, hz1, hz2, hz3, hgg0, hgg2, hgg3, _, _, _⟩ := elem_at hM4.own H28.out.1 H28.out.2; obtain ⟨l5, hM5⟩ := hM4.put (by have := hM4.len; omega) hPG hG H28.out.1 H28.out.2 3 (.inr (.inr rfl)) (ms + 1 + ln + 1))  | ((with_reducible refine gate_store (t := 3) (p := 37) rfl ?_); refine store_event (t := 3) (p := 37) (v := ?vo37) (w1 := (W4.setCell ⟨G, ix.toNat * 4 + 3, none⟩ (.int .i64 (ms + 1 + ln + 1)))) ?hg ?ho ?hn ?hr ?_; (case ho => rfl); (case hg => rfl); (case hn => rfl); (case hr => first | (go_simp; done) | (go_simp; rfl)); intro W5 hW5; replace hM5 : Marked w0 w P G l0.length c0 l0 W5 l5 := (by rw [hW5]; exact hM5); clear hW5 hz0 hz1 hz2 hz3 hgg0 hgg2 hgg3))
        have hnext : markSum (l0.take (ix + 1).toNat) a1 = ms + 1 + ln + 1 + 1 := by
          obtain ⟨m, rfl⟩ := Int.eq_ofNat_of_zero_le H28.out.1
          have hm : m < l0.length := by have := H28.out.2; omega
          have e0 : rd_T29 l0 ((m : Nat) : Int) = l0[m] := rd_task l0 m hm
          have h1 := HLE.out
          have h2 := HLN.out
          rw [e0] at h1
          rw [show (((m : Nat) : Int) + 1).toNat = m + 1 by omega, List.take_succ_eq_append_getElem hm, markSum_snoc]
          rw [Int.toNat_natCast] at hms
          rw [hms]
          omega
        have hix : wrap64 (ix + 1) = ix + 1 := w64 _ (by have := H28.out.1; omega) (by have := H28.out.2; omega)
        go_roundw
        case rel => exact ⟨ix + 1, l5, by first | rfl | (rw [hix]), by have := H28.out.1; omega, by have := H28.out.2; omega, by rw [hnext], ⟨hM5⟩⟩
        case measure => have h1 := H28.out.1; have h2 := H28.out.2; simp only [intOf]; omega
      · obtain rfl : ix = l0.length := by omega
        rw [Int.toNat_natCast, List.take_length] at hms
        clear i0 i1 hlt
        go_wp2
        go_ret
        exact ⟨by rw [hms]; rfl, HM.out.below, HM.out.kept⟩
end Go.Proofs.YtokikapljmakbaaDoor.H
