/- How far a move has come: the two walks; no condition. -/
import Derived.Test.YtmndbmapepenjaaEase
namespace Go.Proofs.Ytmndbmapepenjaa
open Go.RowKit
set_option linter.unusedSimpArgs false
set_option linter.unusedVariables false
set_option maxRecDepth 100000 in
theorem easeOf_c (e a T : Nat) (he : e < 4) (hT0 : 1 ≤ T) (hT : T ≤ 40) (ha : a ≤ T) (w : World) :
    Calls Try.prog 60 #[.int .i64 e, .int .i64 a, .int .i64 T] w fun x w' => x = .returned (.int .i64 (shr e a T)) ∧ Keep [] w w' := by
  have st := St.start w
  obtain ⟨s0, s1⟩ := sq_b (x := (a : Int)) (by omega) (by omega)
  obtain ⟨t0, t1⟩ := sq_b (x := (T : Int)) (by omega) (by omega)
  obtain ⟨d0, d1⟩ := sq_b (x := (T : Int) - a) (by omega) (by omega)
  have p1 := sq_p (x := (T : Int)) (by omega)
  have e1 : 2 * (a : Int) * a = 2 * ((a : Int) * a) := Int.mul_assoc _ _ _
  have e2 : 2 * ((T : Int) - a) * ((T : Int) - a) = 2 * (((T : Int) - a) * ((T : Int) - a)) := Int.mul_assoc _ _ _
  have u0 := Int.ediv_nonneg (a := ((T : Int) - a) * ((T : Int) - a) * 1000) (b := (T : Int) * T) (by omega) (by omega)
  have u1 := Int.ediv_le_self (a := ((T : Int) - a) * ((T : Int) - a) * 1000) ((T : Int) * T) (by omega)
  have v0 := Int.ediv_nonneg (a := 2 * (((T : Int) - a) * ((T : Int) - a)) * 1000) (b := (T : Int) * T) (by omega) (by omega)
  have v1 := Int.ediv_le_self (a := 2 * (((T : Int) - a) * ((T : Int) - a)) * 1000) ((T : Int) * T) (by omega)
  have E1 := hid e1
  have E2 := hid e2
  rcases (show e = 0 ∨ e = 1 ∨ e = 2 ∨ e = 3 by omega) with rfl | rfl | rfl | rfl
  · go_enter Try.func60, Try.ntmps60
    go_wp2_with fail
    go_ret
    exact ⟨by unfold shr; simp, st.keep⟩
  · go_enter Try.func60, Try.ntmps60
    go_wp2_with fail
    go_ret
    exact ⟨by unfold shr; simp, st.keep⟩
  · go_enter Try.func60, Try.ntmps60
    go_wp2_with fail
    go_ret
    exact ⟨by unfold shr; simp, st.keep⟩
  · by_cases h2 : 2 * (a : Int) < T
    · go_enter Try.func60, Try.ntmps60
      go_wp2_with fail
      go_ret
      exact ⟨by unfold shr; rw [if_neg (by decide), if_neg (by decide), if_neg (by decide), if_pos h2]; simp [E1.out], st.keep⟩
    · go_enter Try.func60, Try.ntmps60
      go_wp2_with fail
      go_ret
      exact ⟨by unfold shr; rw [if_neg (by decide), if_neg (by decide), if_neg (by decide), if_neg (by omega)]; simp [E2.out], st.keep⟩
set_option maxRecDepth 100000 in
theorem l03Share_c (e a T : Nat) (he : e < 4) (hT0 : 1 ≤ T) (hT : T ≤ 40) (ha : a ≤ T) (w : World) :
    Calls Try.prog 63 #[.int .i64 e, .int .i64 a, .int .i64 T] w fun x w' => x = .returned (.int .i64 (shr e a T)) ∧ Keep [] w w' := by
  have st := St.start w
  obtain ⟨s0, s1⟩ := sq_b (x := (a : Int)) (by omega) (by omega)
  obtain ⟨t0, t1⟩ := sq_b (x := (T : Int)) (by omega) (by omega)
  obtain ⟨d0, d1⟩ := sq_b (x := (T : Int) - a) (by omega) (by omega)
  have p1 := sq_p (x := (T : Int)) (by omega)
  have e1 : 2 * (a : Int) * a = 2 * ((a : Int) * a) := Int.mul_assoc _ _ _
  have e2 : 2 * ((T : Int) - a) * ((T : Int) - a) = 2 * (((T : Int) - a) * ((T : Int) - a)) := Int.mul_assoc _ _ _
  have u0 := Int.ediv_nonneg (a := ((T : Int) - a) * ((T : Int) - a) * 1000) (b := (T : Int) * T) (by omega) (by omega)
  have u1 := Int.ediv_le_self (a := ((T : Int) - a) * ((T : Int) - a) * 1000) ((T : Int) * T) (by omega)
  have v0 := Int.ediv_nonneg (a := 2 * (((T : Int) - a) * ((T : Int) - a)) * 1000) (b := (T : Int) * T) (by omega) (by omega)
  have v1 := Int.ediv_le_self (a := 2 * (((T : Int) - a) * ((T : Int) - a)) * 1000) ((T : Int) * T) (by omega)
  have E1 := hid e1
  have E2 := hid e2
  rcases (show e = 0 ∨ e = 1 ∨ e = 2 ∨ e = 3 by omega) with rfl | rfl | rfl | rfl
  · go_enter Try.func63, Try.ntmps63
    go_wp2_with fail
    go_ret
    exact ⟨by unfold shr; simp, st.keep⟩
  · go_enter Try.func63, Try.ntmps63
    go_wp2_with fail
    go_ret
    exact ⟨by unfold shr; simp, st.keep⟩
  · go_enter Try.func63, Try.ntmps63
    go_wp2_with fail
    go_ret
    exact ⟨by unfold shr; simp, st.keep⟩
  · by_cases h2 : 2 * (a : Int) < T
    · go_enter Try.func63, Try.ntmps63
      go_wp2_with fail
      go_ret
      exact ⟨by unfold shr; rw [if_neg (by decide), if_neg (by decide), if_neg (by decide), if_pos h2]; simp [E1.out], st.keep⟩
    · go_enter Try.func63, Try.ntmps63
      go_wp2_with fail
      go_ret
      exact ⟨by unfold shr; rw [if_neg (by decide), if_neg (by decide), if_neg (by decide), if_neg (by omega)]; simp [E2.out], st.keep⟩
end Go.Proofs.Ytmndbmapepenjaa
