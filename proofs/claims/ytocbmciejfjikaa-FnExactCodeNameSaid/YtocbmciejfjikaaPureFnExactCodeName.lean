/- The program's CodeName returns what the reference's returns, for all arguments; no condition. -/
import Derived.Test.YtocbmciejfjikaaPFnExactCodeNamex1
namespace Go.Proofs.Ytocbmciejfjikaa.Pure
open Go.RowKit Go.Proofs.Ytocbmciejfjikaa.PFnExactCodeName Go.Proofs.YtocbmciejfjikaaW.PrintWords Go.Proofs.YtocbmciejfjikaaW.PrintLast

theorem FnExactCodeName : laws_FnExactCodeName.Pure := by
  intro a0 _
  unfold laws_FnExactCodeName.f spec_CodeName.f impl_CodeName.f
  simp only [Option.bind_some, impl_length_string.f, List.length_cons, List.length_nil]
  have h9' : wrap64 (((0 + 1 + 1 + 1 + 1 + 1 + 1 + 1 + 1 + 1 : Nat) : Int) - 1) = 8 := by unfold wrap64; omega
  rw [h9']
  unfold spec_l00In.f impl_inRange.f
  by_cases h0 : 0 ≤ a0
  · simp only [ge_iff_le, h0, if_true, Option.bind_some]
    by_cases h8 : a0 ≤ 8
    · have h9 : a0 < ((0 + 1 + 1 + 1 + 1 + 1 + 1 + 1 + 1 + 1 : Nat) : Int) := by omega
      simp only [decide_eq_true h8, if_true, if_pos h9, Option.bind_some]
    · simp only [decide_eq_false h8, Bool.false_eq_true, if_false, Option.bind_some, if_true]
  · simp only [ge_iff_le, h0, if_false, Option.bind_some, Bool.false_eq_true, if_true]

end Go.Proofs.Ytocbmciejfjikaa.Pure
