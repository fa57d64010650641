/- The program's BetweenOf returns what the reference's returns, for all arguments; no condition. -/
import Derived.Test.YtocbmciejfjikaaPFnExactBetweenOfx1
namespace Go.Proofs.Ytocbmciejfjikaa.Pure
open Go.RowKit Go.Proofs.Ytocbmciejfjikaa.PFnExactBetweenOf Go.Proofs.YtocbmciejfjikaaW.PrintWords Go.Proofs.YtocbmciejfjikaaW.PrintLast

theorem size_neg (d : Int) (h : d < 0) (hb : -2000 ≤ d) : spec_l03Size.f d = some (-d) := by
  have e : wrap64 (-d) = -d := by unfold wrap64; omega
  unfold spec_l03Size.f spec_l00Max.f
  rw [e, if_neg (by omega)]
  rfl
theorem size_pos (d : Int) (h : 0 ≤ d) (hb : d ≤ 2000) : spec_l03Size.f d = some d := by
  have e : wrap64 (-d) = -d := by unfold wrap64; omega
  unfold spec_l03Size.f spec_l00Max.f
  rw [e]
  by_cases h0 : d > -d
  · rw [if_pos h0]; rfl
  · rw [if_neg h0, show -d = d by omega]; rfl
theorem between_same (a b s : Int) (ha : -1000 ≤ a) (ha' : a ≤ 1000) (hb : -1000 ≤ b) (hb' : b ≤ 1000) :
    ∃ r, spec_l03Between.f a b s = some r ∧ impl_between.f a b s = some r := by
  have e1 : wrap64 (b - a) = b - a := by unfold wrap64; omega
  have e2 : wrap64 (a - b) = a - b := by unfold wrap64; omega
  unfold spec_l03Between.f impl_between.f
  rw [e1, e2]
  by_cases h : b < a
  · rw [size_neg (b - a) (by omega) (by omega), if_pos h, show -(b - a) = a - b by omega]
    refine ⟨_, ?_, rfl⟩
    simp only [Option.bind_some]
    rw [if_pos h]
  · rw [size_pos (b - a) (by omega) (by omega), if_neg h]
    refine ⟨_, ?_, rfl⟩
    simp only [Option.bind_some]
    rw [if_neg h]
theorem in_same (n lo hi : Int) : spec_l00In.f n lo hi = some (decide (lo ≤ n ∧ n ≤ hi)) ∧ impl_inRange.f n lo hi = some (decide (lo ≤ n ∧ n ≤ hi)) := by
  unfold spec_l00In.f impl_inRange.f
  by_cases h : lo ≤ n <;> simp [h]
theorem FnExactBetweenOf : laws_FnExactBetweenOf.Pure := by
  intro a b s _ _ _
  unfold laws_FnExactBetweenOf.f spec_BetweenOf.f impl_BetweenOf.f
  rw [(in_same a (-1000) 1000).1, (in_same a (-1000) 1000).2, (in_same b (-1000) 1000).1, (in_same b (-1000) 1000).2, (in_same s 0 1000).1, (in_same s 0 1000).2]
  simp only [Option.bind_some, decide_eq_true_eq]
  by_cases h1 : -1000 ≤ a ∧ a ≤ 1000
  · by_cases h2 : -1000 ≤ b ∧ b ≤ 1000
    · by_cases h3 : 0 ≤ s ∧ s ≤ 1000
      · obtain ⟨r, e1, e2⟩ := between_same a b s h1.1 h1.2 h2.1 h2.2
        simp [h1, h2, h3, e1, e2]
      · simp [h1, h2, h3]
    · simp [h1, h2]
  · simp [h1]

end Go.Proofs.Ytocbmciejfjikaa.Pure
