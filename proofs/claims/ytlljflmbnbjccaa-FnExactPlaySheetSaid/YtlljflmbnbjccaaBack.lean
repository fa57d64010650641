/- Books backwards: the reference and the program; no condition. -/
import Derived.Test.YtlljflmbnbjccaaCutB
namespace Go.Proofs.Ytlljflmbnbjccaa
open Go.RowKit
set_option linter.unusedSimpArgs false
set_option linter.unusedVariables false

/-- The last k elements, the last one first. -/
def lastK {α : Type} (B : List α) (k : Nat) : List α := B.reverse.take k
theorem lastK_length {α : Type} (B : List α) {k : Nat} (hk : k ≤ B.length) : (lastK B k).length = k := by unfold lastK; rw [List.length_take, List.length_reverse]; omega
theorem lastK_step {α : Type} (B : List α) {k n : Nat} (hn : B.length = n) (hk : k < n) : lastK B k ++ [B[n - 1 - k]] = lastK B (k + 1) := by
  unfold lastK
  rw [List.take_succ_eq_append_getElem (by rw [List.length_reverse]; omega), List.getElem_reverse]
  simp [hn]
theorem lastK_all {α : Type} (B : List α) {n : Nat} (hn : B.length = n) : lastK B n = B.reverse := by unfold lastK; rw [List.take_of_length_le (by rw [List.length_reverse]; omega)]
def bkCode (B : List Fm) : Int := if bkB B = true then 0 else 1
def backR (B : List Fm) : List Fm := if bkB B = true then B.reverse else []
theorem backR_len (B : List Fm) : (backR B).length ≤ B.length := by unfold backR; split <;> simp
end Go.Proofs.Ytlljflmbnbjccaa
