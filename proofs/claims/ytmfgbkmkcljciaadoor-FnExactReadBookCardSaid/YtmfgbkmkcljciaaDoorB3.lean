/- The dots of a frame, one by one; no condition. -/
import Derived.Test.YtmfgbkmkcljciaaDoorB2
import Derived.Test.YtmfgbkmkcljciaaDoorSlice
namespace Go.Proofs.YtmfgbkmkcljciaaDoor
open Go.RowKit
set_option linter.unusedSimpArgs false
set_option linter.unusedVariables false

/-- The cells of a list of dots. -/
def dtv (l : List (Nat × Nat)) : List Value := l.flatMap fun d => [.int .i8 (d.1 : Int), .int .i8 (d.2 : Int)]
theorem dtv_length (l : List (Nat × Nat)) : (dtv l).length = l.length * 2 := by
  induction l with
  | nil => rfl
  | cons d l ih => simp only [dtv, List.flatMap_cons, List.length_append, List.length_cons, List.length_nil] at ih ⊢; omega
theorem dtv_append (l m : List (Nat × Nat)) : dtv (l ++ m) = dtv l ++ dtv m := by simp [dtv]
theorem dtv_one (l : List (Nat × Nat)) : ∀ v ∈ dtv l, v.oneCell' = true := by
  intro v hv
  simp only [dtv, List.mem_flatMap] at hv
  obtain ⟨d, _, hd⟩ := hv
  simp at hd
  rcases hd with rfl | rfl <;> rfl
theorem dtv_get (l : List (Nat × Nat)) : ∀ (i : Nat), i < l.length → (dtv l)[i * 2]? = some (.int .i8 ((l.getD i (0, 0)).1 : Int)) ∧ (dtv l)[i * 2 + 1]? = some (.int .i8 ((l.getD i (0, 0)).2 : Int)) := by
  induction l with
  | nil => intro i hi; simp at hi
  | cons d l ih =>
    intro i hi
    cases i with
    | zero => simp [dtv]
    | succ i =>
      have := ih i (by simpa using hi)
      simp only [dtv, List.flatMap_cons] at this ⊢
      rw [List.getElem?_append_right (by simp; omega), List.getElem?_append_right (by simp; omega)]
      simp only [List.length_cons, List.length_nil]
      rw [show (i + 1) * 2 - (0 + 1 + 1) = i * 2 by omega, show (i + 1) * 2 + 1 - (0 + 1 + 1) = i * 2 + 1 by omega]
      simpa using this
theorem i8_wrap {n : Int} (h0 : -128 ≤ n) (h1 : n < 128) : IntKind.i8.wrap n = n := by
  simp [IntKind.wrap, IntKind.bits, IntKind.signed]; omega
end Go.Proofs.YtmfgbkmkcljciaaDoor
