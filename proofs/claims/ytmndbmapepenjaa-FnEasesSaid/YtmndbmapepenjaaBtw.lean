/- What lies between two numbers: the reference and the program; no condition. -/
import Derived.Test.YtmndbmapepenjaaEase3
namespace Go.Proofs.Ytmndbmapepenjaa
open Go.RowKit
set_option linter.unusedSimpArgs false
set_option linter.unusedVariables false
def bt (a b s : Int) : Int := if b < a then a - ((a - b) * s + 500) / 1000 else a + ((b - a) * s + 500) / 1000
theorem bt_q {d s : Int} (hd0 : 0 ≤ d) (hd1 : d ≤ 100) (hs0 : 0 ≤ s) (hs1 : s ≤ 1000) : 0 ≤ d * s ∧ d * s ≤ d * 1000 := ⟨Int.mul_nonneg hd0 hs0, Int.mul_le_mul_of_nonneg_left hs1 hd0⟩
theorem bt_rng {a b s : Int} (ha : -30 ≤ a ∧ a ≤ 30) (hb : -30 ≤ b ∧ b ≤ 30) (hs0 : 0 ≤ s) (hs1 : s ≤ 1000) : min a b ≤ bt a b s ∧ bt a b s ≤ max a b := by
  unfold bt
  split
  · have := bt_q (d := a - b) (s := s) (by omega) (by omega) hs0 hs1
    omega
  · have := bt_q (d := b - a) (s := s) (by omega) (by omega) hs0 hs1
    omega
theorem bt_0 (a b : Int) : bt a b 0 = a := by unfold bt; split <;> simp
theorem bt_1 (a b : Int) : bt a b 1000 = b := by unfold bt; split <;> omega
theorem bt_neg (a b s : Int) : bt (-a) (-b) s = -(bt a b s) := by
  unfold bt
  rcases Int.lt_trichotomy a b with h | h | h
  · rw [if_pos (by omega), if_neg (by omega), show -a - -b = b - a by omega]; omega
  · subst h; simp
  · rw [if_neg (by omega), if_pos h, show -b - -a = a - b by omega]; omega
set_option maxRecDepth 100000 in
theorem between_c (a b s : Int) (ha : -30 ≤ a ∧ a ≤ 30) (hb : -30 ≤ b ∧ b ≤ 30) (hs0 : 0 ≤ s) (hs1 : s ≤ 1000) (w : World) :
    Calls Try.prog 64 #[.int .i64 a, .int .i64 b, .int .i64 s] w fun x w' => x = .returned (.int .i64 (bt a b s)) ∧ Keep [] w w' := by
  have st := St.start w
  unfold bt
  obtain ⟨ha0, ha1⟩ := ha
  obtain ⟨hb0, hb1⟩ := hb
  by_cases h : b < a
  · obtain ⟨q0, q1⟩ := bt_q (d := a - b) (s := s) (by omega) (by omega) hs0 hs1
    rw [if_pos h]
    go_enter Try.func64, Try.ntmps64
    go_wp2_with fail
    go_ret
    exact ⟨rfl, st.keep⟩
  · obtain ⟨q0, q1⟩ := bt_q (d := b - a) (s := s) (by omega) (by omega) hs0 hs1
    rw [if_neg h]
    go_enter Try.func64, Try.ntmps64
    go_wp2_with fail
    go_ret
    exact ⟨rfl, st.keep⟩
end Go.Proofs.Ytmndbmapepenjaa
