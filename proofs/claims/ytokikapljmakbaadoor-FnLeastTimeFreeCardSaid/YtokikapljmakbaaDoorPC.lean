/- Plain facts on 64-bit numbers, no condition. What the reader of the drawn arguments yields; the conditions stand in each lemma. The drawn graphs: there is one for every code, and it is small; plain Lean. What the laws of orders have in common: the drawn graph, the two answers, the law's own helpers; plain Lean. -/
import Derived.Laws.BitsLemmas
import Derived.Test.YtokikapljmakbaaDoorWAll
import Derived.Test.YtokikapljmakbaaDoorQx15
import Derived.Test.YtokikapljmakbaaDoorPA
import Derived.Test.YtokikapljmakbaaDoorQx16
import Derived.Test.YtokikapljmakbaaDoorQx29
import Derived.Test.YtokikapljmakbaaDoorQx27
namespace Go.Proofs.YtokikapljmakbaaDoor.Pure
open Go.RowKit Go.Proofs.YtokikapljmakbaaDoorW.PrintWords Go.Proofs.YtokikapljmakbaaDoorW.PrintLast Go.Proofs.YtokikapljmakbaaDoorW.PrintMore
set_option linter.unusedSimpArgs false
set_option linter.unusedVariables false

/-! ### The reader's numbers -/
theorem w64 (n : Int) (h0 : -9223372036854775808 ≤ n) (h1 : n ≤ 9223372036854775807) : wrap64 n = n := by
  unfold wrap64
  omega

end Go.Proofs.YtokikapljmakbaaDoor.Pure

namespace Go.Proofs.YtokikapljmakbaaDoor.Pure
open Go.RowKit Go.Proofs.YtokikapljmakbaaDoorW.PrintWords Go.Proofs.YtokikapljmakbaaDoorW.PrintLast Go.Proofs.YtokikapljmakbaaDoorW.PrintMore Go.Proofs.YtokikapljmakbaaDoor.Q
set_option linter.unusedSimpArgs false
set_option linter.unusedVariables false

theorem xor_nonneg (x y : Int) (hx : 0 ≤ x) (hx1 : x < 9223372036854775808) (hy : 0 ≤ y) (hy1 : y < 9223372036854775808) : 0 ≤ Go.bits .xor .i64 x y := by
  obtain ⟨a, rfl⟩ := Int.eq_ofNat_of_zero_le hx
  obtain ⟨b, rfl⟩ := Int.eq_ofNat_of_zero_le hy
  have ha : a < 2 ^ 63 := by omega
  have hb : b < 2 ^ 63 := by omega
  have hc : a ^^^ b < 2 ^ 63 := Nat.xor_lt_two_pow ha hb
  have e : Go.bits .xor .i64 (a : Int) (b : Int) = ((a ^^^ b : Nat) : Int) := by
    have ha' : a % 2 ^ 64 = a := Nat.mod_eq_of_lt (by omega)
    have hb' : b % 2 ^ 64 = b := Nat.mod_eq_of_lt (by omega)
    have : Go.bits .xor .i64 (a : Int) (b : Int) = IntKind.i64.wrap ((a ^^^ b : Nat) : Int) := by
      simp only [Go.bits, BitVec.ofInt_natCast]
      rw [BitVec.toNat_xor, BitVec.toNat_ofNat, BitVec.toNat_ofNat, show IntKind.i64.bits = 64 from rfl, ha', hb']
    rw [this, IntKind.wrap_i64]
    omega
  rw [e]
  omega
theorem rd_byte (b : List Int) (hb : ∀ x ∈ b, 0 ≤ x ∧ x ≤ 255) (i : Int) : 0 ≤ rd b i ∧ rd b i ≤ 255 := by
  unfold rd
  rw [List.getD_eq_getElem?_getD]
  cases h : b[i.toNat]? with
  | none => simp
  | some x => exact hb x (List.mem_of_getElem? h)
theorem tmod_range (x n : Int) (hx : 0 ≤ x) (hn : 1 ≤ n) : 0 ≤ Int.tmod x n ∧ Int.tmod x n < n :=
  ⟨Int.tmod_nonneg _ hx, Int.tmod_lt_of_pos _ (by omega)⟩
theorem pick_all (b : List Int) (hb : ∀ x ∈ b, 0 ≤ x ∧ x ≤ 255) (hl : b.length ≤ 2000) (p n : Int) (h0 : 0 ≤ p) (h1 : p ≤ 1000000000) :
    ∃ r, (∀ k, spec_reader_pick.f (k + 1) b p n = some (r, p + 1)) ∧ 0 ≤ r ∧ (1 ≤ n → r < n) ∧ (n < 1 → r = 0) := by
  have w : wrap64 (p + 1) = p + 1 := w64 _ (by omega) (by omega)
  have w' : wrap64 (p + 1 - 1) = p := by rw [show p + 1 - 1 = p from by omega]; exact w64 _ (by omega) (by omega)
  unfold spec_reader_pick.f
  simp only [spec_reader_pick.j0]
  rw [w]
  by_cases hn : n < 1
  · exact ⟨0, fun k => by rw [if_pos hn, if_pos trivial], by omega, by omega, fun _ => rfl⟩
  rw [w']
  by_cases hz : b.length = 0
  · exact ⟨0, fun k => by rw [if_neg hn, if_pos (by simp [hz])], by omega, by omega, fun _ => rfl⟩
  have hz' : ((b.length : Int) == 0) = false := by simpa using hz
  rw [hz']
  by_cases hp : p < (b.length : Int)
  · obtain ⟨q0, q1⟩ := rd_byte b hb p
    have wq : wrap64 (rd b p) = rd b p := w64 _ (by omega) (by omega)
    obtain ⟨t0, t1⟩ := tmod_range (rd b p) n q0 (by omega)
    refine ⟨Int.tmod (rd b p) n, fun k => ?_, t0, fun _ => t1, fun h => absurd h hn⟩
    rw [if_neg hn, if_neg (by decide), if_pos hp, if_pos h0, if_neg (by omega), wq]
  · have hL : (1 : Int) ≤ (b.length : Int) := by omega
    have hL2 : (b.length : Int) ≤ 2000 := by omega
    obtain ⟨a0, a1⟩ := tmod_range p (b.length : Int) h0 hL
    have w7 : wrap64 (wrap64 (p * 7) + 3) = p * 7 + 3 := by rw [w64 (p * 7) (by omega) (by omega)]; exact w64 _ (by omega) (by omega)
    rw [w7]
    obtain ⟨b0, b1⟩ := tmod_range (p * 7 + 3) (b.length : Int) (by omega) hL
    obtain ⟨q0, q1⟩ := rd_byte b hb (Int.tmod p (b.length : Int))
    obtain ⟨r0, r1⟩ := rd_byte b hb (Int.tmod (p * 7 + 3) (b.length : Int))
    generalize rd b (Int.tmod p (b.length : Int)) = u at *
    generalize rd b (Int.tmod (p * 7 + 3) (b.length : Int)) = v at *
    have d0 : 0 ≤ Int.tdiv p (b.length : Int) ∧ Int.tdiv p (b.length : Int) ≤ p := ⟨Int.tdiv_nonneg h0 (by omega), by
      rw [Int.tdiv_eq_ediv_of_nonneg h0]
      exact Int.ediv_le_self _ h0⟩
    obtain ⟨d0, d1⟩ := d0
    generalize Int.tdiv p (b.length : Int) = d at *
    rw [w64 d (by omega) (by omega), w64 u (by omega) (by omega), w64 v (by omega) (by omega), w64 (u * 131) (by omega) (by omega), w64 (v * 1117) (by omega) (by omega), w64 (p * 29) (by omega) (by omega), w64 (d * 53) (by omega) (by omega),
      w64 (u * 131 + v * 1117) (by omega) (by omega), w64 (u * 131 + v * 1117 + p * 29) (by omega) (by omega), w64 (u * 131 + v * 1117 + p * 29 + d * 53) (by omega) (by omega)]
    have x0 : 0 ≤ u * 131 + v * 1117 + p * 29 + d * 53 := by omega
    have x1 : u * 131 + v * 1117 + p * 29 + d * 53 < 100000000000 := by omega
    generalize u * 131 + v * 1117 + p * 29 + d * 53 = x at *
    have y0 : 0 ≤ Int.tdiv x 64 ∧ Int.tdiv x 64 ≤ x := ⟨Int.tdiv_nonneg x0 (by omega), by
      rw [Int.tdiv_eq_ediv_of_nonneg x0]
      omega⟩
    obtain ⟨y0, y1⟩ := y0
    generalize Int.tdiv x 64 = y at *
    rw [w64 y (by omega) (by omega)]
    obtain ⟨t0, t1⟩ := tmod_range (Go.bits .xor .i64 x y) n (xor_nonneg x y x0 (by omega) y0 (by omega)) (by omega)
    refine ⟨Int.tmod (Go.bits .xor .i64 x y) n, fun k => ?_, t0, fun _ => t1, fun h => absurd h hn⟩
    rw [if_neg hn, if_neg (by decide), if_neg hp, if_neg (by omega), if_pos a0, if_pos a1, if_pos b0, if_pos b1, if_neg (by omega)]
theorem one_all (b : List Int) (hb : ∀ x ∈ b, 0 ≤ x ∧ x ≤ 255) (hl : b.length ≤ 2000) (p : Int) (h0 : 0 ≤ p) (h1 : p ≤ 1000000000) (l : List Int) (hl0 : 0 < l.length) :
    ∃ r, (∀ k, spec_reader_one.f (k + 1) b p l = some (r, p + 1)) ∧ r ∈ l := by
  obtain ⟨r, hr, r0, r1, _⟩ := pick_all b hb hl p (l.length : Int) h0 h1
  have r1' := r1 (by omega)
  refine ⟨rd l r, fun k => ?_, ?_⟩
  · unfold spec_reader_one.f
    rw [hr]
    simp only [Option.bind_some]
    rw [if_pos r0, if_pos r1']
  · unfold rd
    have h : r.toNat < l.length := by omega
    rw [List.getD_eq_getElem?_getD, List.getElem?_eq_getElem h]
    exact List.getElem_mem h
theorem byte_of (l : List Int) (h : ∀ x ∈ l, (Lit.int .u8 x).wf = true) : ∀ x ∈ l, 0 ≤ x ∧ x ≤ 255 := by
  intro x hx
  have := h x hx
  simp only [Lit.wf, Bool.and_eq_true, decide_eq_true_eq, show IntKind.u8.min = 0 from rfl, show IntKind.u8.max = 255 from rfl] at this
  exact this
theorem newReader_all (l : List Int) (h : ∀ x ∈ l, (Lit.int .u8 x).wf = true) : ∃ b, spec_newReader.f l = some (b, 0) ∧ b.length ≤ 2000 ∧ ∀ x ∈ b, 0 ≤ x ∧ x ≤ 255 := by
  have hb := byte_of l h
  unfold spec_newReader.f
  by_cases c : (l.length : Int) > 2000
  · refine ⟨l.take 2000, by rw [if_pos c, if_pos (by omega)], by simp; omega, fun x hx => hb x (List.mem_of_mem_take hx)⟩
  · exact ⟨l, by rw [if_neg c], by omega, hb⟩

end Go.Proofs.YtokikapljmakbaaDoor.Pure

namespace Go.Proofs.YtokikapljmakbaaDoor.H
open Go.RowKit Go.Proofs.YtokikapljmakbaaDoorW.PrintWords Go.Proofs.YtokikapljmakbaaDoor.Q

def Rdr (b : List Int) : Prop := b.length ≤ 2000 ∧ ∀ x, x ∈ b → 0 ≤ x ∧ x ≤ 255
/-- It answers, and reads at most c numbers. -/
def Yld {α : Type} (f : Nat → Option (α × Int)) (p : Int) (c : Int) (φ : α → Prop) : Prop := ∃ a q, Evn f (a, q) ∧ p ≤ q ∧ q ≤ p + c ∧ φ a
theorem Yld.bind {α β : Type} {f : Nat → Option (α × Int)} {g : Nat → α × Int → Option (β × Int)} {p c c2 c3 : Int} {φ : α → Prop} {ψ : β → Prop} (h1 : Yld f p c φ) (h2 : ∀ a q, p ≤ q → q ≤ p + c → φ a → Yld (fun k => g k (a, q)) q c2 ψ) (hc : c + c2 ≤ c3) : Yld (fun k => (f k).bind (g k)) p c3 ψ := by
  obtain ⟨a, q, e, q0, q1, ha⟩ := h1
  obtain ⟨b, s, e2, s0, s1, hb⟩ := h2 a q q0 q1 ha
  exact ⟨b, s, Evn.bind e e2, by omega, by omega, hb⟩
theorem Yld.step {α : Type} {f g : Nat → Option (α × Int)} {p c : Int} {φ : α → Prop} (h : Yld g p c φ) (he : ∀ k, f (k + 1) = g k) : Yld f p c φ := by
  obtain ⟨a, q, e, r⟩ := h
  exact ⟨a, q, Evn.step e he, r⟩
theorem Yld.congr {α : Type} {f g : Nat → Option (α × Int)} {p c : Int} {φ : α → Prop} (h : Yld g p c φ) (he : ∀ k, f k = g k) : Yld f p c φ := by
  obtain ⟨a, q, e, r⟩ := h
  exact ⟨a, q, Evn.congr e he, r⟩
theorem Yld.done {α : Type} {p q c : Int} {φ : α → Prop} (a : α) (h0 : p ≤ q) (h1 : q ≤ p + c) (h : φ a) : Yld (fun _ => some (a, q)) p c φ := ⟨a, q, Evn.const rfl, h0, h1, h⟩
theorem Yld.more {α : Type} {f : Nat → Option (α × Int)} {p c c2 : Int} {φ ψ : α → Prop} (h : Yld f p c φ) (hc : c ≤ c2) (hφ : ∀ a, φ a → ψ a) : Yld f p c2 ψ := by
  obtain ⟨a, q, e, q0, q1, ha⟩ := h
  exact ⟨a, q, e, q0, by omega, hφ a ha⟩
theorem pick_y {b : List Int} (hb : Rdr b) {p : Int} (h0 : 0 ≤ p) (h1 : p ≤ 1000000000) (n : Int) : Yld (fun k => spec_reader_pick.f k b p n) p 1 (fun r => 0 ≤ r ∧ (1 ≤ n → r < n)) := by
  obtain ⟨r, hr, r0, r1, _⟩ := Pure.pick_all b hb.2 hb.1 p n h0 h1
  exact ⟨r, p + 1, Evn.step (Evn.const rfl) hr, by omega, by omega, r0, r1⟩
theorem one_y {b : List Int} (hb : Rdr b) {p : Int} (h0 : 0 ≤ p) (h1 : p ≤ 1000000000) (l : List Int) (hl : 0 < l.length) : Yld (fun k => spec_reader_one.f k b p l) p 1 (fun r => r ∈ l) := by
  obtain ⟨r, hr, r0⟩ := Pure.one_all b hb.2 hb.1 p h0 h1 l hl
  exact ⟨r, p + 1, Evn.step (Evn.const rfl) hr, by omega, by omega, r0⟩

/-- A graph of at most n tasks of at most m needs. -/
def Few (n m : Nat) (g : List S29) : Prop := g.length ≤ n ∧ ∀ t, t ∈ g → t.f1.length ≤ m
theorem Few.snoc {n m : Nat} {g : List S29} (h : Few n m g) {t : S29} (ht : t.f1.length ≤ m) : Few (n + 1) m (g ++ [t]) := by
  refine ⟨by rw [List.length_append]; simp; exact h.1, fun x hx => ?_⟩
  rcases List.mem_append.1 hx with hx | hx
  · exact h.2 x hx
  · rw [List.mem_singleton] at hx
    rw [hx]
    exact ht
theorem Few.set {n m : Nat} {g : List S29} (h : Few n m g) (i : Nat) {t : S29} (ht : t.f1.length ≤ m) : Few n m (g.set i t) := by
  refine ⟨by rw [List.length_set]; exact h.1, fun x hx => ?_⟩
  rcases List.mem_or_eq_of_mem_set hx with hx | rfl
  · exact h.2 x hx
  · exact ht
theorem Few.mono {n m n2 m2 : Nat} {g : List S29} (h : Few n m g) (hn : n ≤ n2) (hm : m ≤ m2) : Few n2 m2 g := ⟨Nat.le_trans h.1 hn, fun t ht => Nat.le_trans (h.2 t ht) hm⟩
theorem Few.rd {n m : Nat} {g : List S29} (h : Few n m g) (i : Int) (h0 : 0 ≤ i) (h1 : i < g.length) : (rd_T29 g i).f1.length ≤ m := by
  obtain ⟨j, rfl⟩ := Int.eq_ofNat_of_zero_le h0
  rw [show rd_T29 g ((j : Nat) : Int) = g[j]'(by omega) from rd_task g j (by omega)]
  exact h.2 _ (List.getElem_mem _)
theorem turned_l1 {g x3 : List S29} {x4 x5 t0 t2 t3 : Int} {nd : List Int} (hnd : nd.length ≤ 8) (hx : x3.length ≤ 8) {φ : List S29 → Prop}
    (hN : ∀ w : List Int, w.length = nd.length → ∃ r, Evn (fun k => spec_turned.l0 k g (x3 ++ [⟨t0, w, t2, t3⟩]) x4 (wrap64 (x5 - 1))) r ∧ φ r) :
    ∀ (d : Nat) (w : List Int), w.length + d = nd.length → ∃ r, Evn (fun k => spec_turned.l1 k g x3 x4 x5 w ((d : Int) - 1) t0 nd t2 t3) r ∧ φ r
  | 0, w, hw => by
    obtain ⟨r, hr, h⟩ := hN w (by omega)
    refine ⟨r, Evn.step hr fun k => ?_, h⟩
    simp only [spec_turned.l1]
    rw [if_neg (by omega), if_pos (by omega)]
  | d + 1, w, hw => by
    obtain ⟨r, hr, h⟩ := turned_l1 hnd hx hN d (w ++ [wrap64 (x4 - rd nd (d : Int))]) (by rw [List.length_append]; simp; omega)
    refine ⟨r, Evn.step hr fun k => ?_, h⟩
    have e1 : ((d + 1 : Nat) : Int) - 1 = (d : Int) := by omega
    have e2 : wrap64 ((d : Int) - 1) = (d : Int) - 1 := w64 _ (by omega) (by omega)
    simp only [spec_turned.l1]
    rw [e1, if_pos (by omega), if_pos (by omega), if_pos (by omega), if_pos (by omega), e2]
theorem turned_l0 {g : List S29} (hg : Few 8 8 g) (x4 : Int) : ∀ (d : Nat) (x3 : List S29), Few (g.length - d) 8 x3 → d ≤ g.length → ∃ r, Evn (fun k => spec_turned.l0 k g x3 x4 ((d : Int) - 1)) r ∧ Few 8 8 r
  | 0, x3, hx, _ => by
    refine ⟨x3, Evn.step (Evn.const rfl) fun k => ?_, hx.mono (by have := hg.1; omega) (Nat.le_refl _)⟩
    simp only [spec_turned.l0]
    rw [if_neg (by omega)]
  | d + 1, x3, hx, hd => by
    have hg8 := hg.1
    have hx1 := hx.1
    have e1 : ((d + 1 : Nat) : Int) - 1 = (d : Int) := by omega
    have e2 : wrap64 ((d : Int) - 1) = (d : Int) - 1 := w64 _ (by omega) (by omega)
    have hl := hg.rd (d : Int) (by omega) (by omega)
    have e3 : wrap64 (((rd_T29 g (d : Int)).f1.length : Int) - 1) = ((rd_T29 g (d : Int)).f1.length : Int) - 1 := w64 _ (by omega) (by omega)
    obtain ⟨r, hr, h⟩ := turned_l1 (g := g) (x3 := x3) (x4 := x4) (x5 := (d : Int)) (t0 := (rd_T29 g (d : Int)).f0) (t2 := (rd_T29 g (d : Int)).f2) (t3 := (rd_T29 g (d : Int)).f3) (nd := (rd_T29 g (d : Int)).f1) hl (by omega) (φ := Few 8 8)
      (fun w hw => by
        rw [e2]
        exact turned_l0 hg x4 d _ ((hx.snoc (t := ⟨_, w, _, _⟩) (by show w.length ≤ 8; omega)).mono (by omega) (Nat.le_refl _)) (by omega))
      _ [] (by rw [List.length_nil, Nat.zero_add])
    refine ⟨r, Evn.step hr fun k => ?_, h⟩
    simp only [spec_turned.l0]
    rw [e1, if_pos (by omega), if_pos (by omega), if_pos (by omega), e3]
theorem turned_y {g : List S29} (hg : Few 8 8 g) : ∃ r, Evn (fun k => spec_turned.f k g) r ∧ Few 8 8 r := by
  have e : wrap64 ((g.length : Int) - 1) = (g.length : Int) - 1 := w64 _ (by omega) (by have := hg.1; omega)
  unfold spec_turned.f
  rw [e]
  exact turned_l0 hg _ g.length [] ⟨by simp, fun t ht => by cases ht⟩ (Nat.le_refl _)
theorem some_l1 {b : List Int} (hb : Rdr b) {x5 : List S29} {x6 t0 t2 t3 : Int} (h5 : x5.length ≤ 8) {c top : Int} (htop : top ≤ 900000000) {φ : List S29 → Prop}
    (hN : ∀ (w : List Int) (p : Int), w.length ≤ x5.length → 0 ≤ p → p ≤ top → Yld (fun k => spec_someGraph.l0 k (x5 ++ [⟨t0, w, t2, t3⟩]) (wrap64 (x6 - 1)) b p) p c φ) :
    ∀ (d i : Nat) (w : List Int) (p : Int), i + d = x5.length → w.length ≤ i → 0 ≤ p → p + d ≤ top → Yld (fun k => spec_someGraph.l1 k x5 x6 (i : Int) b p t0 w t2 t3) p (d + c) φ
  | 0, i, w, p, hi, hw, h0, h1 => by
    refine Yld.step ((hN w p (by omega) h0 (by omega)).more (by omega) (fun _ h => h)) fun k => ?_
    simp only [spec_someGraph.l1]
    rw [if_neg (by omega), if_pos (by omega)]
  | d + 1, i, w, p, hi, hw, h0, h1 => by
    refine Yld.step (g := fun k => (spec_reader_pick.f k b p 3).bind fun z => if z.1 = 0 then spec_someGraph.l1 k x5 x6 ((i + 1 : Nat) : Int) b z.2 t0 (w ++ [(i : Int)]) t2 t3 else spec_someGraph.l1 k x5 x6 ((i + 1 : Nat) : Int) b z.2 t0 w t2 t3) ?_ fun k => ?_
    · refine Yld.bind (pick_y hb h0 (by omega) 3) (c2 := d + c) (fun a q q0 q1 _ => ?_) (by omega)
      by_cases ha : a = 0
      · simp only [ha, if_true]
        exact some_l1 hb h5 htop hN d (i + 1) _ q (by omega) (by rw [List.length_append]; simp; omega) (by omega) (by omega)
      · simp only [ha, if_false]
        exact some_l1 hb h5 htop hN d (i + 1) _ q (by omega) (by omega) (by omega) (by omega)
    · simp only [spec_someGraph.l1]
      rw [if_pos (by omega)]
      simp only [if_pos (show w.length < 17592186044416 by omega), wrap_up i (by omega)]
theorem some_l0 {b : List Int} (hb : Rdr b) (m : Nat) : ∀ (x5 : List S29) (p : Int), Few (8 - m) 8 x5 → m ≤ 8 → 0 ≤ p → p ≤ 900000000 - m * 20 → Yld (fun k => spec_someGraph.l0 k x5 (m : Int) b p) p (m * 20 + 1) (Few 8 8) := by
  induction m with
  | zero =>
    intro x5 p hx _ h0 h1
    by_cases hc : (x5.length : Int) > 1
    · refine Yld.step (g := fun k => (spec_reader_pick.f k b p 4).bind fun z => if z.1 = 0 then (spec_turned.f k x5).bind fun y => some (y, z.2) else some (x5, z.2)) ?_ fun k => ?_
      · refine Yld.bind (pick_y hb h0 (by omega) 4) (c2 := 0) (fun a q q0 q1 _ => ?_) (by omega)
        by_cases ha : a = 0
        · simp only [ha, if_true]
          obtain ⟨r, hr, h⟩ := turned_y hx
          exact ⟨r, q, Evn.bind hr (Evn.const rfl), by omega, by omega, h⟩
        · simp only [ha, if_false]
          exact Yld.done _ (by omega) (by omega) hx
      · simp only [spec_someGraph.l0]
        rw [if_neg (by omega), if_pos hc]
    · refine Yld.step (Yld.done x5 (Int.le_refl _) (by omega) hx) fun k => ?_
      simp only [spec_someGraph.l0]
      rw [if_neg (by omega), if_neg hc]
  | succ m ih =>
    intro x5 p hx hm h0 h1
    have hx1 := hx.1
    have e : wrap64 (((m + 1 : Nat) : Int) - 1) = (m : Int) := by
      rw [w64 _ (by omega) (by omega)]
      omega
    refine Yld.step (g := fun k => (spec_reader_one.f k b p [1, 3, 5, 2, 7, 20]).bind fun z1 => (spec_reader_pick.f k b z1.2 3).bind fun z2 => (spec_reader_pick.f k b z2.2 4).bind fun z3 => spec_someGraph.l1 k x5 ((m + 1 : Nat) : Int) 0 b z3.2 z1.1 [] z2.1 (wrap64 (1 + z3.1))) ?_ fun k => ?_
    · refine Yld.bind (one_y hb h0 (by omega) _ (by decide)) (c2 := 2 + (8 + (m * 20 + 1))) (fun a1 q1 a0 b0 _ => ?_) (by omega)
      refine Yld.bind (pick_y hb (by omega) (by omega) 3) (c2 := 1 + (8 + (m * 20 + 1))) (fun a2 q2 a0' b0' _ => ?_) (by omega)
      refine Yld.bind (pick_y hb (by omega) (by omega) 4) (c2 := 8 + (m * 20 + 1)) (fun a3 q3 a0'' b0'' _ => ?_) (by omega)
      refine (some_l1 hb (by omega) (c := m * 20 + 1) (top := 900000000 - m * 20) (by omega) (φ := Few 8 8) (fun w p' hw p0 p1 => ?_) x5.length 0 [] q3 (by omega) (Nat.zero_le _) (by omega) (by omega)).more (by omega) (fun _ h => h)
      rw [e]
      exact ih _ p' ((hx.snoc (t := ⟨_, w, _, _⟩) (by show w.length ≤ 8; omega)).mono (by omega) (Nat.le_refl _)) (by omega) p0 p1
    · simp only [spec_someGraph.l0]
      rw [if_pos (by omega)]
theorem someGraph_y {b : List Int} (hb : Rdr b) {p : Int} (h0 : 0 ≤ p) (h1 : p ≤ 800000000) : Yld (fun k => spec_someGraph.f k b p 8) p 200 (Few 8 8) := by
  unfold spec_someGraph.f
  refine Yld.bind (one_y hb h0 (by omega) _ (by decide)) (c2 := 161) (fun a q q0 q1 ha => ?_) (by omega)
  obtain ⟨m, hm, e⟩ : ∃ m : Nat, m ≤ 8 ∧ mn 8 a = (m : Int) := by
    simp only [List.mem_cons, List.not_mem_nil, or_false] at ha
    rcases ha with rfl | rfl | rfl | rfl | rfl | rfl | rfl | rfl
    · exact ⟨4, by omega, by decide⟩
    · exact ⟨5, by omega, by decide⟩
    · exact ⟨3, by omega, by decide⟩
    · exact ⟨6, by omega, by decide⟩
    · exact ⟨2, by omega, by decide⟩
    · exact ⟨1, by omega, by decide⟩
    · exact ⟨0, by omega, by decide⟩
    · exact ⟨8, by omega, by decide⟩
  show Yld (fun k => spec_someGraph.l0 k [] (mn 8 a) b q) q 161 (Few 8 8)
  rw [e]
  exact (some_l0 hb m [] q ⟨by simp, fun t ht => by cases ht⟩ hm (by omega) (by omega)).more (by omega) (fun _ h => h)
theorem spoil_y {b : List Int} (hb : Rdr b) {p : Int} (h0 : 0 ≤ p) (h1 : p ≤ 800000000) (l : List Int) (hl : l.length ≤ 100) (a : Int) : Yld (fun k => spec_reader_spoil.f k b p l a) p 3 (fun r => r.length ≤ l.length + 1) := by
  have e : spec_copyInts.f l = some l := by
    unfold spec_copyInts.f
    rw [Option.bind_some, if_pos (by simp; omega)]
    rfl
  unfold spec_reader_spoil.f
  rw [e]
  simp only [Option.bind_some]
  refine Yld.bind (pick_y hb h0 (by omega) 20) (c2 := 2) (fun x q q0 q1 _ => ?_) (by omega)
  dsimp only
  by_cases x0 : x = 0
  · simp only [x0, if_true]
    refine Yld.congr (Yld.done (l ++ [a]) (Int.le_refl _) (by omega) (by rw [List.length_append]; simp)) fun k => ?_
    rw [if_pos (by omega)]
  · simp only [x0, if_false]
    by_cases x1 : x = 1
    · simp only [x1, if_true]
      by_cases hp : (l.length : Int) > 0
      · refine Yld.congr (Yld.done (l.drop 1) (Int.le_refl _) (by omega) (by rw [List.length_drop]; omega)) fun k => ?_
        rw [if_pos hp, if_pos (by omega)]
        rfl
      · refine Yld.congr (Yld.done l (Int.le_refl _) (by omega) (by omega)) fun k => ?_
        rw [if_neg hp]
    · simp only [x1, if_false]
      by_cases x2 : x = 2
      · simp only [x2, if_true]
        by_cases hp : (l.length : Int) > 0
        · simp only [hp, if_true]
          refine Yld.bind (pick_y hb (by omega) (by omega) (l.length : Int)) (c2 := 1) (fun y s s0 s1 hy => ?_) (by omega)
          refine Yld.bind (one_y hb (by omega) (by omega) _ (by simp)) (c2 := 0) (fun z u u0 u1 _ => ?_) (by omega)
          refine Yld.congr (Yld.done (l.set (y : Int).toNat z) (Int.le_refl _) (by omega) (by rw [List.length_set]; omega)) fun k => ?_
          dsimp only
          rw [if_pos hy.1, if_pos (hy.2 (by omega))]
        · refine Yld.congr (Yld.done l (Int.le_refl _) (by omega) (by omega)) fun k => ?_
          rw [if_neg hp]
      · simp only [x2, if_false]
        exact Yld.done l (Int.le_refl _) (by omega) (by omega)
theorem anyGraph_y {b : List Int} (hb : Rdr b) {p : Int} (h0 : 0 ≤ p) (h1 : p ≤ 700000000) : Yld (fun k => spec_anyGraph.f k b p) p 500 (Few 16 10) := by
  unfold spec_anyGraph.f
  refine Yld.bind (someGraph_y hb h0 (by omega)) (c2 := 300) (fun g q q0 q1 hg => ?_) (by omega)
  have hg1 := hg.1
  have hg2 : Few 16 10 g := hg.mono (by omega) (by omega)
  dsimp only
  by_cases hz : (g.length : Int) = 0
  · simp only [hz, if_true]
    exact Yld.done g (Int.le_refl _) (by omega) hg2
  · simp only [hz, if_false]
    refine Yld.bind (pick_y hb (by omega) (by omega) (g.length : Int)) (c2 := 299) (fun i s s0 s1 hi => ?_) (by omega)
    have hi1 := hi.1
    have hi2 := hi.2 (by omega)
    refine Yld.bind (pick_y hb (by omega) (by omega) 24) (c2 := 298) (fun x u u0 u1 _ => ?_) (by omega)
    dsimp only
    have hl := hg.rd i hi1 hi2
    have hput : ∀ {t : S29}, t.f1.length ≤ 10 → Few 16 10 (g.set (i : Int).toNat t) := fun ht => hg2.set _ ht
    by_cases x0 : x = 0
    · simp only [x0, if_true]
      refine Yld.bind (one_y hb (by omega) (by omega) _ (by simp)) (c2 := 0) (fun z v v0 v1 _ => ?_) (by omega)
      dsimp only
      simp only [if_pos hi1, if_pos hi2]
      exact Yld.done _ (Int.le_refl _) (by omega) (hput (Nat.le_trans hl (by decide)))
    · simp only [x0, if_false]
      by_cases x1 : x = 1
      · simp only [x1, if_true]
        refine Yld.bind (pick_y hb (by omega) (by omega) _) (c2 := 3) (fun y v v0 v1 _ => ?_) (by omega)
        dsimp only
        simp only [if_pos (show (rd_T29 g i).f1.length < 17592186044416 by omega)]
        refine Yld.bind (spoil_y hb (by omega) (by omega) _ (by rw [List.length_append]; simp; omega) 8) (c2 := 0) (fun z v v0 v1 hz => ?_) (by omega)
        rw [List.length_append] at hz
        simp only [List.length_cons, List.length_nil] at hz
        dsimp only
        simp only [if_pos hi1, if_pos hi2]
        exact Yld.done _ (Int.le_refl _) (by omega) (hput (by show z.length ≤ 10; omega))
      · simp only [x1, if_false]
        by_cases x2 : x = 2
        · simp only [x2, if_true]
          refine Yld.bind (one_y hb (by omega) (by omega) _ (by simp)) (c2 := 0) (fun z v v0 v1 _ => ?_) (by omega)
          dsimp only
          simp only [if_pos hi1, if_pos hi2]
          exact Yld.done _ (Int.le_refl _) (by omega) (hput (Nat.le_trans hl (by decide)))
        · simp only [x2, if_false]
          by_cases x3 : x = 3
          · simp only [x3, if_true]
            refine Yld.bind (one_y hb (by omega) (by omega) _ (by simp)) (c2 := 0) (fun z v v0 v1 _ => ?_) (by omega)
            dsimp only
            simp only [if_pos hi1, if_pos hi2]
            exact Yld.done _ (Int.le_refl _) (by omega) (hput (Nat.le_trans hl (by decide)))
          · simp only [x3, if_false]
            by_cases x4 : x = 4
            · simp only [x4, if_true]
              refine Yld.bind (someGraph_y hb (by omega) (by omega)) (c2 := 0) (fun g2 v v0 v1 hg3 => ?_) (by omega)
              have hg4 := hg3.1
              dsimp only
              simp only [if_pos (show g.length + g2.length < 2932031007402 by omega)]
              refine Yld.done _ (Int.le_refl _) (by omega) ⟨by rw [List.length_append]; omega, fun t ht => ?_⟩
              rcases List.mem_append.1 ht with ht | ht
              · exact hg2.2 t ht
              · have := hg3.2 t ht
                omega
            · simp only [x4, if_false]
              exact Yld.done g (Int.le_refl _) (by omega) hg2
theorem reader_y (l : List Int) (h : ∀ x ∈ l, (Lit.int .u8 x).wf = true) : ∃ b, spec_newReader.f l = some (b, 0) ∧ Rdr b := by
  obtain ⟨b, e, h1, h2⟩ := Pure.newReader_all l h
  exact ⟨b, e, h1, h2⟩
end Go.Proofs.YtokikapljmakbaaDoor.H

namespace Go.Proofs.YtokikapljmakbaaDoor.H
open Go.RowKit Go.Proofs.YtokikapljmakbaaDoorW.PrintWords Go.Proofs.YtokikapljmakbaaDoor.Q

theorem few_held {n m : Nat} {g : List S29} (h : Few n m g) (hn : n ≤ 1000) (hm : m ≤ 1000) : held g = true ∧ Held g ∧ ∀ t, t ∈ g → Held t.f1 := by
  refine ⟨?_, ?_, fun t ht => ?_⟩
  · unfold held
    rw [List.all_eq_true]
    exact fun t ht => decide_eq_true (by have := h.2 t ht; omega)
  · have := h.1
    unfold Held
    omega
  · have := h.2 t ht
    unfold Held
    omega
theorem equalInts_same (l : List Int) (hl : Held l) : Evn (fun k => laws_equalInts.f k l l) true := by
  have h := Evn.every l.length hl (fun k i => laws_equalInts.l0 k l l i) (fun _ => true) true false
    (Evn.step (Evn.const rfl) fun k => by
      simp only [laws_equalInts.l0]
      rw [if_neg (by omega)])
    (lo := 0) (fun i _ hi r hy hn => by
      refine Evn.step (g := fun k => laws_equalInts.l0 k l l ((i + 1 : Nat) : Int)) (hy rfl) fun k => ?_
      simp only [laws_equalInts.l0]
      rw [if_pos (by omega), if_pos (by omega), if_pos (by omega), if_pos trivial, wrap_up i (by unfold Held at hl; omega)])
    l.length 0 (Nat.le_refl _) (by omega)
  unfold laws_equalInts.f
  refine Evn.congr (h.cast ?_) (fun k => if_pos rfl)
  rw [show (List.range' 0 l.length).all (fun _ => true) = true by simp]
  rfl
/-- A loop over all places that goes on at each. -/
theorem goes_all {β : Type} (n : Nat) (L : Nat → Int → Option β) (r : β) (lo : Nat) (hend : Evn (fun k => L k (n : Int)) r)
    (hstep : ∀ i : Nat, lo ≤ i → i < n → (Evn (fun k => L k ((i + 1 : Nat) : Int)) r) → Evn (fun k => L k (i : Int)) r) : ∀ d i : Nat, lo ≤ i → i + d = n → Evn (fun k => L k (i : Int)) r
  | 0, i, _, h => by
    obtain rfl : i = n := by omega
    exact hend
  | d + 1, i, h0, h => hstep i h0 (by omega) (goes_all n L r lo hend hstep d (i + 1) (by omega) (by omega))
end Go.Proofs.YtokikapljmakbaaDoor.H
