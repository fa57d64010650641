/- How far a move has come: the reference and the program, for at most forty ticks; no condition. -/
import Derived.Test.YtmndbmapepenjaaVTrk
namespace Go.Proofs.Ytmndbmapepenjaa
open Go.RowKit
set_option linter.unusedSimpArgs false
set_option linter.unusedVariables false
def shr (e a T : Int) : Int :=
  if e = 0 then a * 1000 / T else if e = 1 then a * a * 1000 / (T * T) else if e = 2 then 1000 - (T - a) * (T - a) * 1000 / (T * T)
  else if 2 * a < T then 2 * a * a * 1000 / (T * T) else 1000 - 2 * (T - a) * (T - a) * 1000 / (T * T)
def shrOk (e a T : Nat) : Bool := decide (0 ≤ shr e a T ∧ shr e a T ≤ 1000) && decide (a = 0 → shr e a T = 0) && decide (a = T → shr e a T = 1000) && decide (a < T → shr e a T ≤ shr e (a + 1 : Nat) T)
theorem shr_all : ((List.range 4).all fun e => (List.range 41).all fun T => (List.range (T + 1)).all fun a => decide (T = 0) || shrOk e a T) = true := by decide +kernel
theorem shr_ok {e a T : Nat} (he : e < 4) (hT0 : 1 ≤ T) (hT : T ≤ 40) (ha : a ≤ T) : shrOk e a T = true := by
  have h1 := List.all_eq_true.1 shr_all e (List.mem_range.2 he)
  have h2 := List.all_eq_true.1 h1 T (List.mem_range.2 (by omega))
  have h3 := List.all_eq_true.1 h2 a (List.mem_range.2 (by omega))
  rw [Bool.or_eq_true] at h3
  rcases h3 with h3 | h3
  · have : T = 0 := by simpa using h3
    omega
  · exact h3
theorem shr_facts {e a T : Nat} (he : e < 4) (hT0 : 1 ≤ T) (hT : T ≤ 40) (ha : a ≤ T) : (0 ≤ shr e a T ∧ shr e a T ≤ 1000) ∧ (a = 0 → shr e a T = 0) ∧ (a = T → shr e a T = 1000) ∧ (a < T → shr e a T ≤ shr e (a + 1 : Nat) T) := by
  have h := shr_ok he hT0 hT ha
  unfold shrOk at h
  simp only [Bool.and_eq_true, decide_eq_true_eq] at h
  exact ⟨h.1.1.1, h.1.1.2, h.1.2, h.2⟩
theorem sq_b {x : Int} (h0 : 0 ≤ x) (h1 : x ≤ 40) : 0 ≤ x * x ∧ x * x ≤ 1600 := ⟨Int.mul_nonneg h0 h0, by have := Int.mul_le_mul h1 h1 h0 (by omega); omega⟩
theorem sq_p {x : Int} (h0 : 1 ≤ x) : 1 ≤ x * x := by have := Int.mul_le_mul h0 h0 (by omega) (by omega); omega
end Go.Proofs.Ytmndbmapepenjaa
