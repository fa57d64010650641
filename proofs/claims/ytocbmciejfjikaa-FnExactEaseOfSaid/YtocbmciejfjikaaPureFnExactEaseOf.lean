/- The program's EaseOf returns what the reference's returns, for all arguments; no condition. -/
import Derived.Test.YtocbmciejfjikaaPFnExactEaseOfx1
namespace Go.Proofs.Ytocbmciejfjikaa.Pure
open Go.RowKit Go.Proofs.Ytocbmciejfjikaa.PFnExactEaseOf Go.Proofs.YtocbmciejfjikaaW.PrintWords Go.Proofs.YtocbmciejfjikaaW.PrintLast

theorem in_same (n lo hi : Int) : spec_l00In.f n lo hi = some (decide (lo ≤ n ∧ n ≤ hi)) ∧ impl_inRange.f n lo hi = some (decide (lo ≤ n ∧ n ≤ hi)) := by
  unfold spec_l00In.f impl_inRange.f
  by_cases h : lo ≤ n <;> simp [h]
theorem share_same (e a s : Int) (h1 : 1 ≤ s) (h2 : s ≤ 200) : ∃ r, spec_l03Share.f e a s = some r ∧ impl_easeOf.f e a s = some r := by
  have p : 0 < s * s := Int.mul_pos (by omega) (by omega)
  have q : s * s ≤ 200 * 200 := Int.mul_le_mul h2 h2 (by omega) (by omega)
  have e1 : ¬ wrap64 (s * s) = 0 := by unfold wrap64; omega
  have e2 : ¬ s = 0 := by omega
  have same : impl_easeOf.f e a s = spec_l03Share.f e a s := rfl
  rw [same]
  have : ∃ r, spec_l03Share.f e a s = some r := by
    unfold spec_l03Share.f
    by_cases c0 : e = 0
    · rw [if_pos c0, if_neg e2]; exact ⟨_, rfl⟩
    · rw [if_neg c0]
      by_cases c1 : e = 1
      · rw [if_pos c1, if_neg e1]; exact ⟨_, rfl⟩
      · rw [if_neg c1]
        by_cases c2 : e = 2
        · rw [if_pos c2, if_neg e1]; exact ⟨_, rfl⟩
        · rw [if_neg c2]
          by_cases c3 : wrap64 (2 * a) < s
          · rw [if_pos c3, if_neg e1]; exact ⟨_, rfl⟩
          · rw [if_neg c3, if_neg e1]; exact ⟨_, rfl⟩
  obtain ⟨r, hr⟩ := this
  exact ⟨r, hr, hr⟩
theorem FnExactEaseOf : laws_FnExactEaseOf.Pure := by
  intro e a s _ _ _
  unfold laws_FnExactEaseOf.f spec_EaseOf.f impl_EaseOf.f spec_l03Ease.f impl_isEase.f
  rw [(in_same e 0 3).1, (in_same e 0 3).2, (in_same s 1 200).1, (in_same s 1 200).2, (in_same a 0 s).1, (in_same a 0 s).2]
  simp only [Option.bind_some, decide_eq_true_eq]
  by_cases h1 : 0 ≤ e ∧ e ≤ 3
  · by_cases h2 : 1 ≤ s ∧ s ≤ 200
    · by_cases h3 : 0 ≤ a ∧ a ≤ s
      · obtain ⟨r, e1, e2⟩ := share_same e a s h2.1 h2.2
        simp [h1, h2, h3, e1, e2]
      · simp [h1, h2, h3]
    · simp [h1, h2]
  · simp [h1]

end Go.Proofs.Ytocbmciejfjikaa.Pure
