/- What the reader of the drawn arguments yields; the conditions stand in each lemma. -/
import Derived.Laws.BitsLemmas
import Derived.Test.YtidicbddlpeiiaaPureNum
import Derived.Test.YtidicbddlpeiiaaQx10
import Derived.Test.YtidicbddlpeiiaaQx15
namespace Go.Proofs.Ytidicbddlpeiiaa.Pure
open Go.RowKit Go.Proofs.YtidicbddlpeiiaaW.PrintWords Go.Proofs.YtidicbddlpeiiaaW.PrintLast Go.Proofs.YtidicbddlpeiiaaW.PrintMore Go.Proofs.Ytidicbddlpeiiaa.Q
set_option linter.unusedSimpArgs false
set_option linter.unusedVariables false

theorem xor_nonneg (x y : Int) (hx : 0 ≤ x) (hx1 : x < 9223372036854775808) (hy : 0 ≤ y) (hy1 : y < 9223372036854775808) : 0 ≤ Go.bits .xor .i64 x y := by
  obtain ⟨a, rfl⟩ := Int.eq_ofNat_of_zero_le hx
  obtain ⟨b, rfl⟩ := Int.eq_ofNat_of_zero_le hy
  have ha : a < 2 ^ 63 := by omega
  have hb : b < 2 ^ 63 := by omega
  have hc : a ^^^ b < 2 ^ 63 := Nat.xor_lt_two_pow ha hb
  have e : Go.bits .xor .i64 (a : Int) (b : Int) = ((a ^^^ b : Nat) : Int) := by
    have ha' : a % 2 ^ 64 = a := Nat.mod_eq_of_lt (by omega)
    have hb' : b % 2 ^ 64 = b := Nat.mod_eq_of_lt (by omega)
    have : Go.bits .xor .i64 (a : Int) (b : Int) = IntKind.i64.wrap ((a ^^^ b : Nat) : Int) := by
      simp only [Go.bits, BitVec.ofInt_natCast]
      rw [BitVec.toNat_xor, BitVec.toNat_ofNat, BitVec.toNat_ofNat, show IntKind.i64.bits = 64 from rfl, ha', hb']
    rw [this, IntKind.wrap_i64]
    omega
  rw [e]
  omega
theorem rd_byte (b : List Int) (hb : ∀ x ∈ b, 0 ≤ x ∧ x ≤ 255) (i : Int) : 0 ≤ rd b i ∧ rd b i ≤ 255 := by
  unfold rd
  rw [List.getD_eq_getElem?_getD]
  cases h : b[i.toNat]? with
  | none => simp
  | some x => exact hb x (List.mem_of_getElem? h)
theorem tmod_range (x n : Int) (hx : 0 ≤ x) (hn : 1 ≤ n) : 0 ≤ Int.tmod x n ∧ Int.tmod x n < n :=
  ⟨Int.tmod_nonneg _ hx, Int.tmod_lt_of_pos _ (by omega)⟩
theorem pick_all (b : List Int) (hb : ∀ x ∈ b, 0 ≤ x ∧ x ≤ 255) (hl : b.length ≤ 2000) (p n : Int) (h0 : 0 ≤ p) (h1 : p ≤ 1000000000) :
    ∃ r, (∀ k, spec_reader_pick.f (k + 1) b p n = some (r, p + 1)) ∧ 0 ≤ r ∧ (1 ≤ n → r < n) ∧ (n < 1 → r = 0) := by
  have w : wrap64 (p + 1) = p + 1 := w64 _ (by omega) (by omega)
  have w' : wrap64 (p + 1 - 1) = p := by rw [show p + 1 - 1 = p from by omega]; exact w64 _ (by omega) (by omega)
  unfold spec_reader_pick.f
  simp only [spec_reader_pick.j0]
  rw [w]
  by_cases hn : n < 1
  · exact ⟨0, fun k => by rw [if_pos hn, if_pos trivial], by omega, by omega, fun _ => rfl⟩
  rw [w']
  by_cases hz : b.length = 0
  · exact ⟨0, fun k => by rw [if_neg hn, if_pos (by simp [hz])], by omega, by omega, fun _ => rfl⟩
  have hz' : ((b.length : Int) == 0) = false := by simpa using hz
  rw [hz']
  by_cases hp : p < (b.length : Int)
  · obtain ⟨q0, q1⟩ := rd_byte b hb p
    have wq : wrap64 (rd b p) = rd b p := w64 _ (by omega) (by omega)
    obtain ⟨t0, t1⟩ := tmod_range (rd b p) n q0 (by omega)
    refine ⟨Int.tmod (rd b p) n, fun k => ?_, t0, fun _ => t1, fun h => absurd h hn⟩
    rw [if_neg hn, if_neg (by decide), if_pos hp, if_pos h0, if_neg (by omega), wq]
  · have hL : (1 : Int) ≤ (b.length : Int) := by omega
    have hL2 : (b.length : Int) ≤ 2000 := by omega
    obtain ⟨a0, a1⟩ := tmod_range p (b.length : Int) h0 hL
    have w7 : wrap64 (wrap64 (p * 7) + 3) = p * 7 + 3 := by rw [w64 (p * 7) (by omega) (by omega)]; exact w64 _ (by omega) (by omega)
    rw [w7]
    obtain ⟨b0, b1⟩ := tmod_range (p * 7 + 3) (b.length : Int) (by omega) hL
    obtain ⟨q0, q1⟩ := rd_byte b hb (Int.tmod p (b.length : Int))
    obtain ⟨r0, r1⟩ := rd_byte b hb (Int.tmod (p * 7 + 3) (b.length : Int))
    generalize rd b (Int.tmod p (b.length : Int)) = u at *
    generalize rd b (Int.tmod (p * 7 + 3) (b.length : Int)) = v at *
    have d0 : 0 ≤ Int.tdiv p (b.length : Int) ∧ Int.tdiv p (b.length : Int) ≤ p := ⟨Int.tdiv_nonneg h0 (by omega), by
      rw [Int.tdiv_eq_ediv_of_nonneg h0]
      exact Int.ediv_le_self _ h0⟩
    obtain ⟨d0, d1⟩ := d0
    generalize Int.tdiv p (b.length : Int) = d at *
    rw [w64 d (by omega) (by omega), w64 u (by omega) (by omega), w64 v (by omega) (by omega), w64 (u * 131) (by omega) (by omega), w64 (v * 1117) (by omega) (by omega), w64 (p * 29) (by omega) (by omega), w64 (d * 53) (by omega) (by omega),
      w64 (u * 131 + v * 1117) (by omega) (by omega), w64 (u * 131 + v * 1117 + p * 29) (by omega) (by omega), w64 (u * 131 + v * 1117 + p * 29 + d * 53) (by omega) (by omega)]
    have x0 : 0 ≤ u * 131 + v * 1117 + p * 29 + d * 53 := by omega
    have x1 : u * 131 + v * 1117 + p * 29 + d * 53 < 100000000000 := by omega
    generalize u * 131 + v * 1117 + p * 29 + d * 53 = x at *
    have y0 : 0 ≤ Int.tdiv x 64 ∧ Int.tdiv x 64 ≤ x := ⟨Int.tdiv_nonneg x0 (by omega), by
      rw [Int.tdiv_eq_ediv_of_nonneg x0]
      omega⟩
    obtain ⟨y0, y1⟩ := y0
    generalize Int.tdiv x 64 = y at *
    rw [w64 y (by omega) (by omega)]
    obtain ⟨t0, t1⟩ := tmod_range (Go.bits .xor .i64 x y) n (xor_nonneg x y x0 (by omega) y0 (by omega)) (by omega)
    refine ⟨Int.tmod (Go.bits .xor .i64 x y) n, fun k => ?_, t0, fun _ => t1, fun h => absurd h hn⟩
    rw [if_neg hn, if_neg (by decide), if_neg hp, if_neg (by omega), if_pos a0, if_pos a1, if_pos b0, if_pos b1, if_neg (by omega)]
theorem one_all (b : List Int) (hb : ∀ x ∈ b, 0 ≤ x ∧ x ≤ 255) (hl : b.length ≤ 2000) (p : Int) (h0 : 0 ≤ p) (h1 : p ≤ 1000000000) (l : List Int) (hl0 : 0 < l.length) :
    ∃ r, (∀ k, spec_reader_one.f (k + 1) b p l = some (r, p + 1)) ∧ r ∈ l := by
  obtain ⟨r, hr, r0, r1, _⟩ := pick_all b hb hl p (l.length : Int) h0 h1
  have r1' := r1 (by omega)
  refine ⟨rd l r, fun k => ?_, ?_⟩
  · unfold spec_reader_one.f
    rw [hr]
    simp only [Option.bind_some]
    rw [if_pos r0, if_pos r1']
  · unfold rd
    have h : r.toNat < l.length := by omega
    rw [List.getD_eq_getElem?_getD, List.getElem?_eq_getElem h]
    exact List.getElem_mem h
theorem byte_of (l : List Int) (h : ∀ x ∈ l, (Lit.int .u8 x).wf = true) : ∀ x ∈ l, 0 ≤ x ∧ x ≤ 255 := by
  intro x hx
  have := h x hx
  simp only [Lit.wf, Bool.and_eq_true, decide_eq_true_eq, show IntKind.u8.min = 0 from rfl, show IntKind.u8.max = 255 from rfl] at this
  exact this
theorem newReader_all (l : List Int) (h : ∀ x ∈ l, (Lit.int .u8 x).wf = true) : ∃ b, spec_newReader.f l = some (b, 0) ∧ b.length ≤ 2000 ∧ ∀ x ∈ b, 0 ≤ x ∧ x ≤ 255 := by
  have hb := byte_of l h
  unfold spec_newReader.f
  by_cases c : (l.length : Int) > 2000
  · refine ⟨l.take 2000, by rw [if_pos c, if_pos (by omega)], by simp; omega, fun x hx => hb x (List.mem_of_mem_take hx)⟩
  · exact ⟨l, by rw [if_neg c], by omega, hb⟩

end Go.Proofs.Ytidicbddlpeiiaa.Pure
