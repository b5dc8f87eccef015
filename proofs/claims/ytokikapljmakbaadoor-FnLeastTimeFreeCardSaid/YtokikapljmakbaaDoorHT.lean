/- A row of tasks, one of whose rows of needs is out, gets another row in its place: then the elements' rows are read alone. What an argument of type []laws.Task or []int reads as, in the words of the print's contracts. -/
import Derived.Test.YtokikapljmakbaaDoorQx0
import Derived.Deep.Slices
import Derived.OpenShut
namespace Go.Proofs.YtokikapljmakbaaDoor.H
open Go.RowKit Go.Proofs.YtokikapljmakbaaDoorW.PrintWords Go.Proofs.YtokikapljmakbaaDoorW.PrintLast Go.Proofs.YtokikapljmakbaaDoorW.PrintMore Go.Proofs.YtokikapljmakbaaDoor.Q
theorem mkR (W : World) (ok : Nat → Prop) (x : S29) {v : Value} {e base : Nat} (h : Kd.R (Kd.int .i64) e W base ok v x.f1) : Kd.FK k29 W ok x [.int .i64 x.f0, v, .int .i64 x.f2, .int .i64 x.f3] := by
  obtain ⟨A, c, rfl⟩ := Kd.R_slice h
  exact k29_mkF _ _ x (Kd.R_reads' h).2.1 (Kd.R_F h)
theorem setCell_twice (W : World) (p : Addr) (u v : Value) : (W.setCell p u).setCell p v = W.setCell p v := by
  unfold World.setCell
  congr 1
  apply Array.ext
  · simp
  · intro i h1 h2
    simp only [Array.getElem_modify]
    by_cases h : p.block = i
    · subst h
      simp only [if_true]
      cases W.heap[p.block]'(by simpa using h2) with
      | cells c t z =>
        simp only
        cases p.spot <;> simp
      | _ => rfl
    · simp only [h, if_false]
theorem fill_hole {W : World} {base base2 n cap G : Nat} {ok oki : Nat → Prop} {xs : List S29} {i f0 f2 f3 : Int} {v1 : Value} {A : Option Addr} {m c : Nat} {ys : List Int}
    (hH : Kd.H k29 29 W base ok (.slice (some ⟨G, 0, none⟩) n cap) xs i oki [.int .i64 f0, v1, .int .i64 f2, .int .i64 f3]) (h0 : 0 ≤ i) (h1 : i < n) (hb : base ≤ base2)
    (hq : Kd.Q (Kd.int .i64) 3 W base2 (fun _ => True) (.slice A m c) ys) :
    Kd.N k29 29 (W.setCell ⟨G, i.toNat * 4 + 1, none⟩ (.slice A m c)) base (fun k => base ≤ k) (.slice (some ⟨G, 0, none⟩) n cap) (xs.set i.toNat ⟨f0, ys, f2, f3⟩) := by
  obtain ⟨rows, _, hraw, _, _, _, _⟩ := Kd.H_raw hH h0 h1
  have hty := Kd.R_typed hraw
  obtain ⟨hS, hg⟩ := Kd.S_seg0 hH h0 h1 (seg := [.slice none 0 0]) (j := 1) (show 2 ≤ 4 by decide) (x' := (⟨f0, [], f2, f3⟩ : S29)) (k29_mkM _ _ _ (⟨f0, [], f2, f3⟩ : S29) (Kd.R_nil _ _ _ _ _)) (fun _ hk => hk)
  have hN := Kd.N_mono (ok' := fun k => base ≤ k) (Kd.S_N (Kd.S_bound hS)) (fun k hk => hk.2.1)
  have hm : m = ys.length := (Kd.Q_reads' hq).1
  subst hm
  have hq1 := Kd.Q_over' hq hty (by decide) hg
  have hq2 := Kd.Q_mono (ok' := fun k => base ≤ k ∧ k ≠ G) (Kd.Q_bound (Kd.Q_apart' hq1 (Kd.N_typed hN) (by decide))) (fun k hk => ⟨Nat.le_trans hb hk.2.1, fun e => hk.1.2 (by rw [e]; rfl)⟩)
  obtain ⟨ce, hcl, hM, hcc, _⟩ := Kd.N_elem hN z29 i h0 h1
  have hl : i.toNat < xs.length := by
    have := (Kd.S_reads' hS).1
    rw [List.length_set] at this
    omega
  have hx : (xs.set i.toNat ⟨f0, [], f2, f3⟩).getD i.toNat z29 = ⟨f0, [], f2, f3⟩ := by
    rw [List.getD_eq_getElem?_getD, List.getElem?_set_self hl]
    rfl
  rw [hx] at hM
  obtain ⟨A1, c1, rfl, _, _⟩ := k29_openF hM
  have hP := (Kd.N_seg hN i h0 h1 (seg := [.slice A ys.length c]) (j := 1) hcl hcc (show 2 ≤ 4 by decide) (x' := (⟨f0, ys, f2, f3⟩ : S29)) (k29_mkF _ _ (⟨f0, ys, f2, f3⟩ : S29) (Kd.Q_reads' hq2).2.1 (Kd.Q_F hq2)) (fun _ hk => hk)).1
  rw [List.set_set] at hP
  have e : ((W.setCells G (i.toNat * k29.sz + 1) [.slice none 0 0]).setCells G (i.toNat * k29.sz + 1) [.slice A ys.length c]) = W.setCell ⟨G, i.toNat * 4 + 1, none⟩ (.slice A ys.length c) := setCell_twice W ⟨G, i.toNat * 4 + 1, none⟩ _ _
  rw [e] at hP
  exact hP
end Go.Proofs.YtokikapljmakbaaDoor.H

namespace Go.Proofs.YtokikapljmakbaaDoor.H
open Go.ChangeShapes Go.WideShapes Go.RowKit Go.Deep Go.Proofs.YtokikapljmakbaaDoorW.PrintWords Go.Proofs.YtokikapljmakbaaDoor.Q
set_option linter.unusedVariables false
section
variable {H : Type} {enc : TypeId × Value → H} {W : World} {base : Nat} {held : Bool}
/-- A row of elements, each of which is told. -/
theorem row_of_trod {α : Type} (d : Kd α) {t e : TypeId} {fuel : Nat} {cs : List Value} {x : DataW H × List MemPlace} (ht : Tryd.prog.underlying t = some (.slice e)) (hce : Tryd.prog.cellsOf e = d.sz)
    (hel : ∀ (n : Nat) (c : List Value) (y : DataW H × List MemPlace), DataW.trod enc Tryd.prog W base (fun _ => true) held n e c = some y → ∃ p : α, c.length = d.sz ∧ d.K W p c)
    (h : DataW.trod enc Tryd.prog W base (fun _ => true) held fuel t cs = some x) : ∃ (a : Option Addr) (l : List α) (cap : Nat), cs = [.slice a l.length cap] ∧ d.C W a l.length l ∧ l.length ≤ cap := by
  rcases open_slice ht h with ⟨rfl, _⟩ | ⟨a, len, cap, m, n, D, Pl, rfl, hb, hl, hm, hmm, rfl, hx⟩
  · exact ⟨none, [], 0, rfl, ⟨rfl, by simp, fun h => absurd h (Nat.lt_irrefl 0)⟩, Nat.le_refl _⟩
  · simp only [if_true] at hmm
    subst hmm
    have each : ∀ i : Nat, i < len → ∃ p : α, ∃ c : List Value, c.length = d.sz ∧ d.K W p c ∧ ∀ j u, c[j]? = some u → W.cell? (a.add (i * d.sz + j)) = some u := fun i hi => by
      obtain ⟨c, h1, h2⟩ := hx i (by omega)
      rw [hce] at h1
      obtain ⟨_, hlen, hcell⟩ := World.cells?_some h1
      obtain ⟨p, hp1, hp2⟩ := hel n c _ h2
      refine ⟨p, c, hp1, hp2, fun j u hu => ?_⟩
      obtain ⟨hj, rfl⟩ := List.getElem?_eq_some_iff.1 hu
      have e0 := hcell j (by omega)
      rw [Go.Deep.add_add] at e0
      simpa [hj] using e0
    have hs : ∃ l : List α, l.length = len ∧ ∀ i p, l[i]? = some p → ∃ c : List Value, c.length = d.sz ∧ d.K W p c ∧ ∀ j u, c[j]? = some u → W.cell? (a.add (i * d.sz + j)) = some u := by
      clear hx hl h
      induction len with
      | zero => exact ⟨[], rfl, fun i p hp => by simp at hp⟩
      | succ k ih =>
        obtain ⟨l, h1, h2⟩ := ih (fun i hi => each i (by omega))
        obtain ⟨p, hp⟩ := each k (by omega)
        refine ⟨l ++ [p], by simp [h1], fun i q hq => ?_⟩
        rcases Nat.lt_or_ge i l.length with hi | hi
        · rw [List.getElem?_append_left hi] at hq
          exact h2 i q hq
        · rw [List.getElem?_append_right hi] at hq
          have : i - l.length = 0 := by
            rcases Nat.eq_zero_or_pos (i - l.length) with h | h
            · exact h
            · rw [List.getElem?_eq_none (by simp; omega)] at hq
              cases hq
          rw [this] at hq
          cases hq
          obtain rfl : i = k := by omega
          exact hp
    obtain ⟨l, rfl, h2⟩ := hs
    exact ⟨some a, l, m, rfl, ⟨rfl, by unfold maxLen at hm; omega, fun _ => ⟨a, rfl, h2⟩⟩, hl⟩
theorem ints_of_trod {fuel : Nat} {cs : List Value} {x : DataW H × List MemPlace} (h : DataW.trod enc Tryd.prog W base (fun _ => true) held fuel 24 cs = some x) :
    ∃ (a : Option Addr) (l : List Int) (cap : Nat), cs = [.slice a l.length cap] ∧ (Kd.int .i64).C W a l.length l ∧ l.length ≤ cap := by
  refine row_of_trod (Kd.int .i64) Tryd.underlying24 (by kernel_rfl) (fun n c y hy => ?_) h
  obtain ⟨z, rfl, _, _⟩ := DataW.trod_int Tryd.underlying3 hy
  exact ⟨z, rfl, rfl⟩
set_option maxRecDepth 100000 in
theorem tasks_of_trod {fuel : Nat} {cs : List Value} {x : DataW H × List MemPlace} (h : DataW.trod enc Tryd.prog W base (fun _ => true) held fuel 33 cs = some x) :
    ∃ (a : Option Addr) (l : List S64) (cap : Nat), cs = [.slice a l.length cap] ∧ k64.C W a l.length l ∧ l.length ≤ cap := by
  refine row_of_trod k64 Tryd.underlying33 (by kernel_rfl) (fun n c y hy => ?_) h
  obtain ⟨xs, k, rfl, _, hc, hxs, hf⟩ := DataW.trod_struct Tryd.underlying64 hy
  have hc4 : c.length = 4 := hc.trans (by kernel_rfl)
  match c, hc4 with
  | [v0, v1, v2, v3], _ =>
    match xs, hxs with
    | [y0, y1, y2, y3], _ =>
      have g0 := hf 0 _ rfl
      have g1 := hf 1 _ rfl
      have g2 := hf 2 _ rfl
      have g3 := hf 3 _ rfl
      simp only [List.getElem?_cons_zero, List.getElem?_cons_succ] at g0 g1 g2 g3
      obtain ⟨z0, e0, _, _⟩ := DataW.trod_int Tryd.underlying3 g0
      obtain ⟨z2, e2, _, _⟩ := DataW.trod_int Tryd.underlying3 g2
      obtain ⟨z3, e3, _, _⟩ := DataW.trod_int Tryd.underlying3 g3
      obtain ⟨a1, l1, c1, e1, r1, b1⟩ := ints_of_trod g1
      cases e0
      cases e1
      cases e2
      cases e3
      exact ⟨⟨z0, l1, z2, z3⟩, rfl, k64_mk W ⟨z0, l1, z2, z3⟩ b1 r1⟩
end
end Go.Proofs.YtokikapljmakbaaDoor.H
