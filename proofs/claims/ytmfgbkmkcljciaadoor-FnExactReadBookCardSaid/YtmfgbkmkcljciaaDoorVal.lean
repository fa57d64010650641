/- Books compared, and valid books: the reference and the program; no condition. -/
import Derived.Test.YtmfgbkmkcljciaaDoorBk
import Derived.Test.YtmfgbkmkcljciaaDoorEqF
import Derived.Test.YtmfgbkmkcljciaaDoorB2
namespace Go.Proofs.YtmfgbkmkcljciaaDoor
open Go.RowKit
set_option linter.unusedSimpArgs false
set_option linter.unusedVariables false

theorem same_no {A B : List Fm} {k : Nat} (hA : k < A.length) (hB : k < B.length) (h : A[k] ≠ B[k]) : decide (A = B) = false := by
  rw [decide_eq_false_iff_not]
  intro e
  subst e
  exact h rfl
theorem same_yes {A B : List Fm} {n : Nat} (hA : A.length = n) (hB : B.length = n) (h : ∀ j (h1 : j < A.length) (h2 : j < B.length), j < n → A[j] = B[j]) : decide (A = B) = true := by
  rw [decide_eq_true_eq]
  exact List.ext_getElem (by omega) fun j h1 h2 => h j h1 h2 (by omega)
def SameTo (A B : List Fm) (k : Nat) : Prop := ∀ j (h1 : j < A.length) (h2 : j < B.length), j < k → A[j] = B[j]
theorem SameTo.step {A B : List Fm} {k : Nat} (h : SameTo A B k) (hA : k < A.length) (hB : k < B.length) (e : A[k] = B[k]) : SameTo A B (k + 1) := fun j h1 h2 hj => by
  by_cases hk : j = k
  · subst hk; exact e
  · exact h j h1 h2 (by omega)

end Go.Proofs.YtmfgbkmkcljciaaDoor
