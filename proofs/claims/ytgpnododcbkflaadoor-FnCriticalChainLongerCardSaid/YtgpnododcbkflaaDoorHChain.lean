/- The contract of impl.CriticalChain: it answers for all graphs whose rows of needs a machine can hold. -/
import Derived.Maps.AppendAt
import Derived.Test.YtgpnododcbkflaaDoorHTop1
import Derived.Test.YtgpnododcbkflaaDoorPureTailV
import Derived.Test.YtgpnododcbkflaaDoorQx7
namespace Go.Proofs.YtgpnododcbkflaaDoor.H
open Go.RowKit Go.Shelf Go.Proofs.YtgpnododcbkflaaDoorW.PrintWords Go.Proofs.YtgpnododcbkflaaDoorW.PrintLast Go.Proofs.YtgpnododcbkflaaDoorW.PrintMore Go.Proofs.YtgpnododcbkflaaDoor.Q
attribute [local go_sem] Oper.semAt_some
set_option linter.unusedSimpArgs false
set_option linter.unusedVariables false

/-- The least task from j on that has b as a need and the given tail. -/
def linkFrom (nd : List Nat) (t : List Int) (b : Nat) (left : Int) : Nat → Nat → Option Nat
  | 0, _ => none
  | d + 1, j => if (at0 nd j).testBit b && (atI t j == left) then some j else linkFrom nd t b left d (j + 1)
def firstFrom (t : List Int) (v : Int) : Nat → Nat → Option Nat
  | 0, _ => none
  | d + 1, j => if v = atI t j then some j else firstFrom t v d (j + 1)
def linkOf (g : List S30) (t : List Int) (a : Nat) : Option Nat := linkFrom (needs g) t a (wrap64 (atI t a - tmOf g a)) g.length 0
def chainFrom (g : List S30) (t : List Int) : Nat → Nat → List Nat
  | 0, _ => []
  | k + 1, a => a :: (match linkOf g t a with
    | some i => chainFrom g t k i
    | none => [])
def chainAt (g : List S30) (t : List Int) (f : Nat) : Option Nat → List Nat
  | some a => chainFrom g t f a
  | none => []
def chainOf (g : List S30) : List Int := if valid g then ints (chainAt g (tailTimes g) 1000 (firstFrom (tailTimes g) (longestTime g) g.length 0)) else []
def impl_CriticalChain.f (l0 : List S30) : Option (List Int) := if held l0 then some (chainOf l0) else none
/-- No task is told by -1. -/
def ix : Option Nat → Int
  | some a => (a : Int)
  | none => -1
theorem index_l0 (l : List Int) (v : Int) (h : l.length ≤ 1000) : ∀ (d j : Nat), j + d = l.length → ∀ k, d + 1 ≤ k → slices_Index_int_int.l0 k l v (l.length : Int) (j : Int) = some (ix (firstFrom l v d j))
  | 0, j, hj, k, hk => by
    obtain ⟨k, rfl⟩ : ∃ q, k = q + 1 := ⟨k - 1, by omega⟩
    rw [slices_Index_int_int.l0, if_neg (by omega)]
    rfl
  | d + 1, j, hj, k, hk => by
    obtain ⟨k, rfl⟩ : ∃ q, k = q + 1 := ⟨k - 1, by omega⟩
    have hjl : j < l.length := by omega
    rw [slices_Index_int_int.l0, if_pos (by omega), if_pos (by omega), if_pos (by omega), w64 ((j : Int) + 1) (by omega) (by omega), rd_atI l j hjl, firstFrom]
    by_cases c : v = atI l j
    · rw [if_pos c, if_pos c]
      rfl
    · rw [if_neg c, if_neg c]
      exact index_l0 l v h d (j + 1) (by omega) k (by omega)
theorem index_is (l : List Int) (v : Int) (h : l.length ≤ 1000) : slices_Index_int_int.f 1002 l v = some (ix (firstFrom l v l.length 0)) := index_l0 l v h l.length 0 (by omega) 1002 (by omega)
theorem link_some (nd : List Nat) (t : List Int) (b : Nat) (left : Int) : ∀ (d j i : Nat), linkFrom nd t b left d j = some i → j ≤ i ∧ i < j + d ∧ (at0 nd i).testBit b = true ∧ atI t i = left
  | 0, _, _, h => by cases h
  | d + 1, j, i, h => by
    rw [linkFrom] at h
    split at h
    · rename_i hc
      cases h
      rw [Bool.and_eq_true, beq_iff_eq] at hc
      exact ⟨Nat.le_refl _, by omega, hc⟩
    · have := link_some nd t b left d (j + 1) i h
      exact ⟨by omega, by omega, this.2.2⟩
theorem first_some (t : List Int) (v : Int) : ∀ (d j i : Nat), firstFrom t v d j = some i → j ≤ i ∧ i < j + d ∧ atI t i = v
  | 0, _, _, h => by cases h
  | d + 1, j, i, h => by
    rw [firstFrom] at h
    split at h
    · rename_i hc
      cases h
      exact ⟨Nat.le_refl _, by omega, hc.symm⟩
    · have := first_some t v d (j + 1) i h
      exact ⟨by omega, by omega, this.2.2⟩
def cAct (vx vt v7 : Value) (v : Value) (us : Nat → Value) : Act := { tmps := #[us 0, us 1, us 2, vx, us 4, vt, v, v7, us 8, us 9, us 10, us 11, us 12, us 13, us 14, us 15, us 16, us 17, us 18, us 19, us 20, us 21, us 22, us 23, us 24, us 25, us 26, us 27, us 28, us 29, us 30, us 31, us 32, us 33, us 34, us 35, us 36, us 37, us 38, us 39, us 40, us 41, us 42, us 43, us 44, us 45, us 46, us 47, us 48, us 49, us 50, us 51, us 52, us 53, us 54, us 55, us 56, us 57, us 58, us 59, us 60, us 61, us 62, us 63, us 64, us 65, us 66, us 67, us 68, us 69], defers := [] }
theorem cAct_eq (vx vt v7 v : Value) (us : Nat → Value) : cAct vx vt v7 v us = { tmps := #[us 0, us 1, us 2, vx, us 4, vt, v, v7, us 8, us 9, us 10, us 11, us 12, us 13, us 14, us 15, us 16, us 17, us 18, us 19, us 20, us 21, us 22, us 23, us 24, us 25, us 26, us 27, us 28, us 29, us 30, us 31, us 32, us 33, us 34, us 35, us 36, us 37, us 38, us 39, us 40, us 41, us 42, us 43, us 44, us 45, us 46, us 47, us 48, us 49, us 50, us 51, us 52, us 53, us 54, us 55, us 56, us 57, us 58, us 59, us 60, us 61, us 62, us 63, us 64, us 65, us 66, us 67, us 68, us 69], defers := [] } := rfl
theorem cAct_seven (vx vt v7 v : Value) (us : Nat → Value) : (cAct vx vt v7 v us).tmps.getD 7 undef = v7 := rfl
theorem cstart_at {a : Act} {vx vt v7 v : Value} (h : a = cAct vx vt v7 v (fun k => a.tmps.getD k undef)) : ∃ us, a = cAct vx vt v7 v us := ⟨_, h⟩
def dAct (vx vt v : Value) (left : Int) (b : Nat) (vn : Value) (n j : Nat) (us : Nat → Value) : Act := { tmps := #[us 0, us 1, us 2, vx, us 4, vt, v, .int .i64 (-1), .int .i64 left, .int .i64 (b : Int), us 10, us 11, us 12, us 13, us 14, us 15, us 16, us 17, us 18, us 19, us 20, us 21, us 22, us 23, us 24, us 25, us 26, us 27, us 28, us 29, us 30, us 31, us 32, us 33, us 34, us 35, us 36, us 37, us 38, us 39, us 40, us 41, us 42, us 43, us 44, us 45, us 46, us 47, us 48, vn, .int .i64 (n : Int), .int .i64 (j : Int), us 52, us 53, us 54, us 55, us 56, us 57, us 58, us 59, us 60, us 61, us 62, us 63, us 64, us 65, us 66, us 67, us 68, us 69], defers := [] }
theorem dAct_eq (vx vt v : Value) (left : Int) (b : Nat) (vn : Value) (n j : Nat) (us : Nat → Value) : dAct vx vt v left b vn n j us = { tmps := #[us 0, us 1, us 2, vx, us 4, vt, v, .int .i64 (-1), .int .i64 left, .int .i64 (b : Int), us 10, us 11, us 12, us 13, us 14, us 15, us 16, us 17, us 18, us 19, us 20, us 21, us 22, us 23, us 24, us 25, us 26, us 27, us 28, us 29, us 30, us 31, us 32, us 33, us 34, us 35, us 36, us 37, us 38, us 39, us 40, us 41, us 42, us 43, us 44, us 45, us 46, us 47, us 48, vn, .int .i64 (n : Int), .int .i64 (j : Int), us 52, us 53, us 54, us 55, us 56, us 57, us 58, us 59, us 60, us 61, us 62, us 63, us 64, us 65, us 66, us 67, us 68, us 69], defers := [] } := rfl
theorem dAct_at (vx vt v : Value) (left : Int) (b : Nat) (vn : Value) (n j : Nat) (us : Nat → Value) : (dAct vx vt v left b vn n j us).tmps.getD 51 undef = .int .i64 (j : Int) := rfl
theorem dstart_at {a : Act} {vx vt v : Value} {left : Int} {b : Nat} {vn : Value} {n j : Nat} (h : a = dAct vx vt v left b vn n j (fun k => a.tmps.getD k undef)) : ∃ us, a = dAct vx vt v left b vn n j us := ⟨_, h⟩
def OwnRow (w W : World) (v : Value) (cs : List Nat) : Prop := W.ownsRow w.heap.size 3 1 v cs.length (encs1 cs) ∧ Below w.heap.size w W
def cost (t : List Int) : Option Nat → Nat
  | some a => (atI t a).toNat + 1
  | none => 0
structure CInv (w : World) (g : List S30) (t : List Int) (R : List Nat) (o : Option Nat) (v : Value) (W : World) : Prop where mk ::
  (out : ∃ (cs : List Nat) (f : Nat), (∀ a, o = some a → a < g.length ∧ (atI t a).toNat ≤ f) ∧ cs ++ chainAt g t f o = R ∧ cs.length + cost t o ≤ 2000 ∧ OwnRow w W v cs)
set_option maxRecDepth 100000 in
set_option maxHeartbeats 4000000 in
theorem chain_yes (A0 : Option Addr) (c0 : Nat) (l0 : List S30) (w : World) (hr0 : Kd.C k30 w A0 l0.length l0) (hc0 : l0.length ≤ c0) (hT : Tab w) (hh : held l0 = true) (hv : valid l0 = true) :
    Calls Tryd.prog 16 #[.slice A0 l0.length c0] w fun e w' => ∃ v0_ : Value, e = .returned v0_ ∧ Kd.R (Kd.int .i64) 3 w' w.heap.size (fun _ => True) v0_ (chainOf l0) ∧ Below w.heap.size w w' := by
  obtain ⟨i0, hi, hz0, hz1, hz2⟩ := info_parts info_int64
  have HI0 := Aside0.mk (And.intro hi (And.intro hz0 (And.intro hz1 hz2)))
  have HG := Aside0.mk (graphOf_here hr0 hc0 hT hh hv)
  have HT := Aside0.mk hT
  have hf := fine_of hv
  have h8 := valid_eight hv
  have ho := orderOf_len hf
  have et : tailsBy (tmOf l0) (nbOf l0) l0.length (orderOf l0) = tailTimes l0 := by unfold tailTimes; rw [if_pos hv]
  have lt := tailTimes_len hv
  have HTT := Aside0.mk (fun (i : Nat) (hi : i < l0.length) => (show (1 ≤ atI (tailTimes l0) i ∧ atI (tailTimes l0) i ≤ 1000) ∧ (1 ≤ tmOf l0 i ∧ tmOf l0 i ≤ 20) from ⟨⟨Int.le_trans (time_ok hf i hi).1 ((tails_of hv).own i hi), (top_small hv).2.2 i hi⟩, time_ok hf i hi⟩))
  have eL : topOf (tailTimes l0) = longestTime l0 := by unfold longestTime; rw [if_pos hv]
  have es : chainOf l0 = ints (chainAt l0 (tailTimes l0) 1000 (firstFrom (tailTimes l0) (longestTime l0) l0.length 0)) := by unfold chainOf; rw [if_pos hv]
  have HIX := Aside0.mk (index_is (tailTimes l0) (longestTime l0) (by omega))
  have hl1000 : (tailTimes l0).length ≤ 1000 := by omega
  have LT := Aside0.mk lt
  obtain ⟨R, hR⟩ : ∃ R, chainAt l0 (tailTimes l0) 1000 (firstFrom (tailTimes l0) (longestTime l0) l0.length 0) = R := ⟨_, rfl⟩
  rw [es, hR]
  have HRR := Aside0.mk hR
  clear hR
  clear hr0 hT hi hz0 hz1 hz2 lt
  refine (callsIn_wide (n := 10)).1 ?_
  refine callsIn_of_wp Tryd.func16 rfl trivial ?_ rfl
  simp only [Tryd.ntmps16, List.size_toArray, List.length_cons, List.length_nil, Nat.reduceAdd, Nat.reduceSub, Array.replicate_succ, Array.replicate_zero, List.push_toArray, List.append_toArray, List.nil_append, List.cons_append]
  gi_wp2_with (first | (refine ⟨trivial, ?_⟩; gi_at_call 41; refine (callsIn_wide.2 HG.out).mono ?_; rintro e w1 ⟨X, Bb, Ba, AN, cN, AL, cL, rfl, hb, hG, _, _⟩) | (refine ⟨trivial, ?_⟩; gi_at_call 42; refine (callsIn_wide.2 (tails_any hG (HT.out.below hb) hf ho)).mono ?_; rintro e w4 ⟨v3, rfl, h3, h4⟩; rw [et] at h3; obtain ⟨AT, cT, rfl⟩ := Kd.R_slice h3) | (refine ⟨trivial, ?_⟩; gi_at_call 44; refine (callsIn_wide.2 (longest_same AT cT (tailTimes l0) hl1000 _ (Kd.C_below (Kd.R_reads' h3).2.2 (below_alloc (Below.refl _ _) _)))).mono ?_; rintro e w5 ⟨rfl, hw5⟩; subst hw5; rw [eL]) | (refine ⟨trivial, ?_⟩; gi_at_call 43; refine (callsIn_wide.2 (slices_Index_int_int.calls 1002 AT cT (tailTimes l0) _ _ _ (Kd.C_below (Kd.R_reads' h3).2.2 (below_alloc (Below.refl _ _) _)) (Kd.R_reads' h3).2.1 HIX.out)).mono ?_; rintro e w6 ⟨rfl, ⟨nd, hw6⟩⟩))
  rename_i Q2 q1 q2 K2 hK2
  subst hw6
  have HK2 := Aside0.mk hK2
  have hb4 : Below w.heap.size w w4 := hb.trans (h4.mono hb.size)
  have ct : ∀ i, i < l0.length → ∃ b, AT = some ⟨b, 0, none⟩ ∧ w4.cell? ⟨b, i, none⟩ = some (.int .i64 (atI (tailTimes l0) i)) := fun i hi => by
    obtain ⟨b, e, hc⟩ := row_cell h3 i (by rw [LT.out]; exact hi)
    refine ⟨b, e, ?_⟩
    rw [hc]
    unfold atI
    rw [List.getD_eq_getElem?_getD, List.getElem?_eq_getElem (by rw [LT.out]; exact hi)]
    rfl
  have HCT := Aside0.mk (fun (W : World) (hW : Below w4.heap.size w4 W) (i : Nat) (hi : i < l0.length) => (show ∃ b, AT = some ⟨b, 0, none⟩ ∧ W.cell? ⟨b, i, none⟩ = some (.int .i64 (atI (tailTimes l0) i)) from by
    obtain ⟨b, e, hc⟩ := ct i hi
    exact ⟨b, e, (hW.cell (World.block_lt_of_cell? w4 _ hc)).trans hc⟩))
  have HGW := Aside0.mk (fun (W : World) (hW : Below w4.heap.size w4 W) => (hG.below h4).below hW)
  have HB4 := Aside0.mk hb4
  have hrow0 : OwnRow w4 ((w4.alloc (.cells #[] 3)).drewN nd) (.slice (some ⟨w4.heap.size, 0, none⟩) 0 0) [] := by
    exact ⟨World.ownsRow_made (base := w4.heap.size) (e := 3) (size := 1) w4 #[] 0 (Nat.le_refl _) (by simp [maxLen]) (by simp), below_draws (below_alloc (Below.refl _ _) _) nd⟩
  have hn : (tailTimes l0).length = l0.length := LT.out
  rw [hn]
  obtain ⟨t, ht⟩ : ∃ t, tailTimes l0 = t := ⟨_, rfl⟩
  obtain ⟨o0, ho0⟩ : ∃ o0, firstFrom t (longestTime l0) l0.length 0 = o0 := ⟨_, rfl⟩
  have hR := HRR.out
  rw [ht] at HTT HCT hR
  rw [ho0] at hR
  rw [ht, ho0]
  have h0 : ∀ a, o0 = some a → a < l0.length := fun a ha => by
    have := first_some t (longestTime l0) l0.length 0 a (by rw [ho0, ha])
    omega
  have hinv0 : CInv w4 l0 t (chainAt l0 t 1000 o0) o0 (.slice (some ⟨w4.heap.size, 0, none⟩) 0 0) ((w4.alloc (.cells #[] 3)).drewN nd) := by
    refine ⟨[], 1000, fun a ha => ⟨h0 a ha, ?_⟩, rfl, ?_, hrow0⟩
    · have := (HTT.out a (h0 a ha)).1.2
      omega
    · cases ho : o0 with
      | none => simp [cost]
      | some a =>
        have := (HTT.out a (h0 a ho)).1.2
        simp only [cost, List.length_nil]
        omega
  clear hK2 ct hb hG h4 h3 q1 q2 LT hn ht HIX et eL es hrow0 hb4 ho0 h0
  rw [hR] at hinv0
  refine wpIn_loop (fun a' W' => ∃ (o : Option Nat) (v : Value), (∃ us, a' = cAct (.pointer (some ⟨X, 0, none⟩)) (.slice AT l0.length cT) (.int .i64 (ix o)) v us) ∧ CInv w4 l0 t R o v W') (fun a' _ => if 0 ≤ intOf (a'.tmps.getD 7 undef) then (atI t (intOf (a'.tmps.getD 7 undef)).toNat).toNat + 1 else 0) ?_ ?_
  · exact ⟨o0, _, cstart_at (by rfl), hinv0⟩
  · clear hinv0
    rintro a' W' ⟨o, v, ⟨us, rfl⟩, hI⟩
    rw [cAct_eq]
    cases o with
    | none =>
      obtain ⟨cs, f, hlt, hcs, hcost, hrow⟩ := hI.out
      have HROW := Aside0.mk hrow
      have HCS := Aside0.mk hcs
      clear hI hrow hcs
      simp only [ix]
      gi_wp2
      refine HK2.out _ _ ?_
      gi_wp2
      go_ret
      have e : cs = R := by have := HCS.out; simpa [chainAt] using this
      rw [← e]
      have hr := HROW.out.1
      rw [encs1_ints, ← ints_len cs] at hr
      exact ⟨_, rfl, Kd.R_lower (R_ints hr) HB4.out.size, HB4.out.trans (HROW.out.2.mono HB4.out.size)⟩
    | some a =>
      obtain ⟨cs, f, hlt, hcs, hcost, hrow, hbel⟩ := hI.out
      obtain ⟨hal, haf⟩ := hlt a rfl
      obtain ⟨⟨ta1, ta2⟩, tm1, tm2⟩ := HTT.out a hal
      have hcs2 : cs.length < 2000 := by simp only [cost] at hcost; omega
      obtain ⟨i0', hi', hz0, hz1, hz2⟩ := info_parts info_int64
      have ha0 : (0 : Int) ≤ (a : Int) := by omega
      simp only [ix]
      have HROW := Aside0.mk hrow
      have HCS := Aside0.mk hcs
      have HBEL := Aside0.mk hbel
      have HCO := Aside0.mk hcost
      clear hI hcs hcost hbel
      gi_wp2_with (gi_at_builtin; refine wpListIn_append_own _ rfl _ _ 25 rfl w4.heap.size 3 i0' (.int .i64 0) 1 8 Tryd.underlying25 hi' hz0 hz1 hz2 rfl (by decide) _ _ _ rfl (hrow.alloc _) ⟨W'.heap.size, 0, none⟩ 1 1 [.int .i64 (a : Int)] rfl rfl (cell_one_new _ _ _) (by simp [Value.oneCell']) (by simp only [maxLen]; omega) (by omega) (by have := HBEL.out.size; simp; omega) ?_; intro v' w7 hown' hgrow hnil')
      have hb7 : Below w4.heap.size w4 w7 := (HBEL.out.alloc HBEL.out.size _).grown hgrow (by have := HBEL.out.size; simp; omega) (fun j ej => (HROW.out.lt j ej).1)
      have hrow7 : OwnRow w4 w7.drew v' (cs ++ [a]) := by
        refine ⟨?_, hb7.drew⟩
        rw [List.length_append]
        have e : encs1 (cs ++ [a]) = encs1 cs ++ [.int .i64 (a : Int)] := by
          unfold encs1
          rw [List.map_append]
          rfl
        rw [e]
        exact hown'
      have hgw := HGW.out w7.drew hb7.drew
      obtain ⟨bt', rfl, hct⟩ := HCT.out w7.drew hb7.drew a hal
      obtain ⟨ad, rfl, hcd⟩ := hgw.task a hal
      have e0 := hgw.cells.1
      have e1 := hgw.cells.2.1
      have ha1 : (a : Int) < (l0.length : Int) := by omega
      have HR7 := Aside0.mk hrow7
      clear hrow7 hown' hgrow hnil' hrow hb7 hgw
      refine wpIn_wide.2 ?_
      go_still (by kernel_rfl)
      gi_wp2
      have hfin : ∀ (o : Option Nat) (W2 : World), linkOf l0 t a = o → OwnRow w4 W2 v' (cs ++ [a]) → CInv w4 l0 t R o v' W2 ∧ ((∀ i, o = some i → i < l0.length ∧ atI t i = atI t a - tmOf l0 a)) := by
        intro o W2 hl hrow
        have hw : wrap64 (atI t a - tmOf l0 a) = atI t a - tmOf l0 a := w1k _ (by omega) (by omega)
        have hlk : ∀ i, o = some i → i < l0.length ∧ atI t i = atI t a - tmOf l0 a := fun i hi => by
          have := link_some (needs l0) t a (wrap64 (atI t a - tmOf l0 a)) l0.length 0 i (by rw [← hi, ← hl]; rfl)
          rw [hw] at this
          exact ⟨by omega, this.2.2.2⟩
        obtain ⟨f', rfl⟩ : ∃ f', f = f' + 1 := ⟨f - 1, by omega⟩
        refine ⟨⟨cs ++ [a], f', fun i hi => ?_, ?_, ?_, hrow⟩, hlk⟩
        · have := hlk i hi
          exact ⟨this.1, by omega⟩
        · rw [← HCS.out, List.append_assoc]
          show _ = cs ++ (a :: (match linkOf l0 t a with | some i => chainFrom l0 t f' i | none => []))
          rw [hl]
          cases o <;> rfl
        · have hco := HCO.out
          simp only [cost] at hco
          rw [List.length_append]
          cases o with
          | none =>
            simp only [cost, List.length_cons, List.length_nil]
            omega
          | some i =>
            have := (hlk i rfl).2
            simp only [cost, List.length_cons, List.length_nil]
            omega
      have HFIN := Aside0.mk hfin
      obtain ⟨left, hleft⟩ : ∃ left, wrap64 (atI t a - tmOf l0 a) = left := ⟨_, rfl⟩
      have hlk0 : linkFrom (needs l0) t a left l0.length 0 = linkOf l0 t a := by rw [← hleft]; rfl
      have hrow9 := HR7.out
      refine wpIn_loop (fun a2 W2 => ∃ j : Nat, (∃ us, a2 = dAct (.pointer (some ⟨X, 0, none⟩)) (.slice (some ⟨bt', 0, none⟩) l0.length cT) v' left a (.slice AN l0.length cN) l0.length j us) ∧ j ≤ l0.length ∧ linkFrom (needs l0) t a left (l0.length - j) j = linkOf l0 t a ∧ OwnRow w4 W2 v' (cs ++ [a])) (fun a2 _ => l0.length - (intOf (a2.tmps.getD 51 undef)).toNat) ?_ ?_
      · have hwl : IntKind.i64.wrap (atI t a - (rd_T30 l0 (a : Int)).f0) = left := by rw [← hleft]; exact i64_w _
        rw [hwl]
        exact ⟨0, dstart_at (by rfl), Nat.zero_le _, hlk0, hrow9⟩
      · clear hlk0 hrow9 hct hcd e0 e1
        rintro a2 W2 ⟨j, ⟨us2, rfl⟩, hj, hlj, hrow2⟩
        rw [dAct_eq]
        by_cases hjl : j < l0.length
        · have hj0 : (0 : Int) ≤ (j : Int) := by omega
          have hj1 : (j : Int) < (l0.length : Int) := by omega
          obtain ⟨bN, rfl, hcN⟩ := (HGW.out W2 hrow2.2).need j hjl
          obtain ⟨b2, hb2, hcj⟩ := HCT.out W2 hrow2.2 j hjl
          cases hb2
          have hcj2 : ∀ n, (W2.drewN n).cell? ⟨bt', j, none⟩ = some (.int .i64 (atI t j)) := fun n => hcj
          have hnb : at0 (needs l0) j < 256 := Nat.lt_of_lt_of_le ((needs_sets hf).at j) (two_le h8)
          obtain ⟨b, hb⟩ : ∃ b, (at0 (needs l0) j).testBit a = b := ⟨_, rfl⟩
          have HAS := Aside0.mk (has_is (at0 (needs l0) j) a hnb (by omega))
          rw [hb] at HAS
          have hd : l0.length - j = (l0.length - (j + 1)) + 1 := by omega
          rw [hd, linkFrom, hb] at hlj
          have HLJ := Aside0.mk hlj
          have HR2 := Aside0.mk hrow2
          clear hlj hrow2 hd
          cases b
          · gi_wp2_with (refine ⟨trivial, ?_⟩; gi_at_call 45; refine (callsIn_wide.2 (impl_set_has.calls _ _ _ _ HAS.out)).mono ?_; rintro e w8 ⟨rfl, ⟨nd8, rfl⟩⟩)
            rw [show (j : Int) + 1 = ((j + 1 : Nat) : Int) from by omega]
            refine ⟨⟨j + 1, dstart_at (by rfl), hjl, ?_, HR2.out.1, below_draws HR2.out.2 nd8⟩, ?_⟩
            · have := HLJ.out
              simpa using this
            · exact nearer rfl hjl
          · by_cases hq : atI t j = left
            · have hq2 : (atI t j == left) = true := beq_iff_eq.2 hq
              have hsome : linkOf l0 t a = some j := by
                have := HLJ.out
                rw [hq2] at this
                simpa using this.symm
              clear hq
              gi_wp2_with (refine ⟨trivial, ?_⟩; gi_at_call 45; refine (callsIn_wide.2 (impl_set_has.calls _ _ _ _ HAS.out)).mono ?_; rintro e w8 ⟨rfl, ⟨nd8, rfl⟩⟩)
              obtain ⟨hI9, hI10⟩ := HFIN.out (some j) (W2.drewN nd8) hsome ⟨HR2.out.1, below_draws HR2.out.2 nd8⟩
              have h9 := hI10 j rfl
              have ta := (HTT.out j hjl).1.1
              refine ⟨⟨some j, v', cstart_at (by rfl), hI9⟩, ?_⟩
              simp only [intOf, Int.toNat_natCast]
              omega
            · have hq2 : (atI t j == left) = false := beq_eq_false_iff_ne.2 hq
              clear hq
              gi_wp2_with (refine ⟨trivial, ?_⟩; gi_at_call 45; refine (callsIn_wide.2 (impl_set_has.calls _ _ _ _ HAS.out)).mono ?_; rintro e w8 ⟨rfl, ⟨nd8, rfl⟩⟩)
              rw [show (j : Int) + 1 = ((j + 1 : Nat) : Int) from by omega]
              refine ⟨⟨j + 1, dstart_at (by rfl), hjl, ?_, HR2.out.1, below_draws HR2.out.2 nd8⟩, ?_⟩
              · have := HLJ.out
                rw [hq2] at this
                simpa using this
              · exact nearer rfl hjl
        · obtain rfl : j = l0.length := by omega
          have hj1 : ¬ (l0.length : Int) < (l0.length : Int) := by omega
          have HLJ := Aside0.mk hlj
          have HR2 := Aside0.mk hrow2
          clear hlj hrow2
          gi_wp2
          have hnone : linkOf l0 t a = none := by
            have := HLJ.out
            rw [Nat.sub_self] at this
            exact this.symm
          obtain ⟨hI9, _⟩ := HFIN.out none W2 hnone HR2.out
          exact ⟨none, v', cstart_at (by rfl), hI9⟩
set_option maxRecDepth 100000 in
set_option maxHeartbeats 4000000 in
theorem impl_CriticalChain.calls (A0 : Option Addr) (c0 : Nat) (l0 : List S30) (r : List Int) (w : World) (hr0 : Kd.C k30 w A0 l0.length l0) (hc0 : l0.length ≤ c0) (hT : Tab w) (h : impl_CriticalChain.f l0 = some r) :
    Calls Tryd.prog 16 #[.slice A0 l0.length c0] w fun e w' => ∃ v0_ : Value, e = .returned v0_ ∧ Kd.R (Kd.int .i64) 3 w' w.heap.size (fun _ => True) v0_ r ∧ Below w.heap.size w w' := by
  obtain ⟨hh, rfl⟩ := of_held h
  rcases Bool.eq_false_or_eq_true (valid l0) with hv | hv
  · exact chain_yes A0 c0 l0 w hr0 hc0 hT hh hv
  · have HG := Aside0.mk (graphOf_no hr0 hc0 hT hh hv)
    unfold chainOf
    rw [if_neg (by rw [hv]; simp)]
    clear hr0 hT h
    go_enter Tryd.func16, Tryd.ntmps16
    go_wp2_with (go_at_call 41; refine HG.out.mono ?_; rintro e w' ⟨p, rfl, hb⟩)
    go_ret
    exact ⟨_, rfl, Kd.R_nil _ _ _ _ _, hb⟩
end Go.Proofs.YtgpnododcbkflaaDoor.H
