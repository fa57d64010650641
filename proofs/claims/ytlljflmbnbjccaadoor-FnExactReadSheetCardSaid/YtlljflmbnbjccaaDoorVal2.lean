/- Valid books: the reference and the program; no condition. -/
import Derived.Test.YtlljflmbnbjccaaDoorVal
import Derived.Test.YtlljflmbnbjccaaDoorB6
namespace Go.Proofs.YtlljflmbnbjccaaDoor
open Go.RowKit
set_option linter.unusedSimpArgs false
set_option linter.unusedVariables false

def okL (B : List Fm) : Bool := B.all fun a => okB a.1
/-- The book is valid. -/
def bkB (B : List Fm) : Bool := okL B && decide (B.length ≤ 40)
theorem okL_no {B : List Fm} {k : Nat} (hk : k < B.length) (h : okB B[k].1 = false) : okL B = false := by
  unfold okL
  rw [List.all_eq_false]
  exact ⟨B[k], List.getElem_mem hk, by simp [h]⟩
def OkTo (B : List Fm) (k : Nat) : Prop := ∀ j (h1 : j < B.length), j < k → okB B[j].1 = true
theorem OkTo.step {B : List Fm} {k : Nat} (h : OkTo B k) (hk : k < B.length) (e : okB B[k].1 = true) : OkTo B (k + 1) := fun j h1 hj => by
  by_cases hjk : j = k
  · subst hjk; exact e
  · exact h j h1 (by omega)
theorem OkTo.all {B : List Fm} {n : Nat} (h : OkTo B n) (hn : B.length = n) : okL B = true := by
  unfold okL
  rw [List.all_eq_true]
  intro a ha
  obtain ⟨j, hj, rfl⟩ := List.mem_iff_getElem.1 ha
  exact h j hj (by omega)
def IdxBPost (B : List Fm) (w : World) (e : Ending) (w' : World) : Prop := ∃ i : Int, e = .returned (.int .i64 i) ∧ (okL B = true → i = -1) ∧ (okL B = false → 0 ≤ i) ∧ Keep [] w w'
end Go.Proofs.YtlljflmbnbjccaaDoor
