/- The greatest of a row of whole numbers: it leaves the world as it was; the conditions stand in the lemma. -/
import Derived.Test.YtokikapljmakbaaDoorHB
namespace Go.Proofs.YtokikapljmakbaaDoor.H
open Go.RowKit Go.Shelf Go.Proofs.YtokikapljmakbaaDoorW.PrintWords Go.Proofs.YtokikapljmakbaaDoorW.PrintLast Go.Proofs.YtokikapljmakbaaDoorW.PrintMore Go.Proofs.YtokikapljmakbaaDoor.Q
attribute [local go_sem] Oper.semAt_some max_two max2_mx
set_option linter.unusedSimpArgs false
set_option linter.unusedVariables false

def lAct (v6 : Value) (m : Int) (len j : Nat) (us : Nat → Value) : Act := { tmps := #[us 0, us 1, us 2, .int .i64 m, us 4, us 5, v6, .int .i64 (len : Int), .int .i64 (j : Int), us 9, us 10, us 11, us 12, us 13, us 14, us 15, us 16], defers := [] }
theorem lstart_at {a : Act} {v6 : Value} {m : Int} {len j : Nat} (h : a = lAct v6 m len j (fun k => a.tmps.getD k undef)) : ∃ us, a = lAct v6 m len j us := ⟨_, h⟩
theorem topOf_snoc (l : List Int) (j : Nat) (h : j < l.length) : topOf (l.take (j + 1)) = mx (topOf (l.take j)) l[j] := by
  unfold topOf
  rw [List.take_succ_eq_append_getElem h, List.foldl_append]
  rfl
set_option maxRecDepth 100000 in
set_option maxHeartbeats 4000000 in
theorem longest_same (A : Option Addr) (cA : Nat) (l : List Int) (hl : l.length ≤ 1000) (w : World) (hC : Kd.C (Kd.int .i64) w A l.length l) :
    Calls Tryd.prog 39 #[.slice A l.length cA] w fun e w' => e = .returned (.int .i64 (topOf l)) ∧ w' = w := by
  refine (callsIn_wide (n := 10)).1 ?_
  refine callsIn_of_wp Tryd.func39 rfl trivial ?_ rfl
  simp only [Tryd.ntmps39, List.size_toArray, List.length_cons, List.length_nil, Nat.reduceAdd, Nat.reduceSub, Array.replicate_succ, Array.replicate_zero, List.push_toArray, List.append_toArray, List.nil_append, List.cons_append]
  have HC := Aside0.mk hC
  clear hC
  gi_wp2
  rename_i Q2 K2 hK2
  refine wpIn_loop (fun a' W' => W' = w ∧ ∃ j : Nat, (∃ us, a' = lAct (.slice A l.length cA) (topOf (l.take j)) l.length j us) ∧ j ≤ l.length) (fun a' _ => l.length - (intOf (a'.tmps.getD 8 undef)).toNat) ?_ ?_
  · exact ⟨rfl, 0, lstart_at (by rfl), Nat.zero_le _⟩
  · rintro a' W' ⟨rfl, j, ⟨us, rfl⟩, hj⟩
    unfold lAct
    by_cases hjl : j < l.length
    · have hj0 : (0 : Int) ≤ (j : Int) := by omega
      have hj1 : (j : Int) < (l.length : Int) := by omega
      obtain ⟨ad, rfl, hx⟩ := Kd.at_int HC.out (j : Int) hj0 (by omega)
      rw [rd_get l j hjl, Int.toNat_natCast] at hx
      have HTS := Aside0.mk (topOf_snoc l j hjl)
      gi_wp2
      rw [show (j : Int) + 1 = ((j + 1 : Nat) : Int) from by omega, ← HTS.out]
      exact ⟨⟨trivial, j + 1, lstart_at (by rfl), hjl⟩, nearer rfl hjl⟩
    · obtain rfl : j = l.length := by omega
      have hj1 : ¬ (l.length : Int) < (l.length : Int) := by omega
      gi_wp2
      go_ret
      exact ⟨rfl, rfl⟩
end Go.Proofs.YtokikapljmakbaaDoor.H
