/- Eases and what lies between: the asked functions; no condition. -/
import Derived.Test.YtmndbmapepenjaaEase2
namespace Go.Proofs.Ytmndbmapepenjaa
open Go.RowKit
set_option linter.unusedSimpArgs false
set_option linter.unusedVariables false
theorem inB_y {x lo hi : Int} (h1 : lo ≤ x) (h2 : x ≤ hi) : inB x lo hi = true := by unfold inB; simpa using ⟨h1, h2⟩
theorem EaseOf_c (e a T : Nat) (he : e < 4) (hT0 : 1 ≤ T) (hT : T ≤ 40) (ha : a ≤ T) (w : World) :
    Calls Try.prog 27 #[.int .i64 e, .int .i64 a, .int .i64 T] w fun x w' => x = .returned (.tuple #[.int .i64 (shr e a T), .int .i64 0]) ∧ Keep [] w w' := by
  have st := St.start w
  have HE := hid (fun w' => by have := inRange_c (e : Nat) 0 3 w'; rw [inB_y (by omega) (by omega)] at this; exact this)
  have H1 := hid (fun w' => by have := inRange_c (T : Nat) 1 200 w'; rw [inB_y (by omega) (by omega)] at this; exact this)
  have H2 := hid (fun w' => by have := inRange_c (a : Nat) 0 (T : Nat) w'; rw [inB_y (by omega) (by omega)] at this; exact this)
  have HV := hid (easeOf_c e a T he hT0 hT ha)
  have HI : Hid (∀ w' : World, Calls Try.prog 59 #[.int .i64 e] w' fun x w'' => x = .returned (.bool true) ∧ Keep [] w' w'') := hid (fun w' => by
    have st := St.start w'
    go_enter Try.func59, Try.ntmps59
    go_wp2_with (first | (go_at_call 52; refine (HE.out _).mono ?_; rintro _ _ ⟨rfl, hk⟩; replace st := st.call hk; clear hk))
    go_ret
    exact ⟨rfl, st.keep⟩)
  go_enter Try.func27, Try.ntmps27
  go_wp2_with (first | (go_at_call 59; refine (HI.out _).mono ?_; rintro _ _ ⟨rfl, hk⟩; replace st := st.call hk; clear hk) | (go_at_call 52; (first | (with_reducible refine (H1.out _).mono ?_) | (with_reducible refine (H2.out _).mono ?_)); rintro _ _ ⟨rfl, hk⟩; replace st := st.call hk; clear hk) | (go_at_call 60; refine (HV.out _).mono ?_; rintro _ _ ⟨rfl, hk⟩; replace st := st.call hk; clear hk) | ((with_reducible refine gate_lst ?_); (first | ((with_reducible refine' wpl_ung ?_ ?_ ?_); rotate_left 1; (focus exact rfl); (focus exact rfl)))))
  go_ret2
  exact ⟨rfl, st.keep⟩
theorem specEaseOf_c (e a T : Nat) (he : e < 4) (hT0 : 1 ≤ T) (hT : T ≤ 40) (ha : a ≤ T) (w : World) :
    Calls Try.prog 28 #[.int .i64 e, .int .i64 a, .int .i64 T] w fun x w' => x = .returned (.tuple #[.int .i64 (shr e a T), .int .i64 0]) ∧ Keep [] w w' := by
  have st := St.start w
  have HE := hid (fun w' => by have := l00In_c (e : Nat) 0 3 w'; rw [inB_y (by omega) (by omega)] at this; exact this)
  have H1 := hid (fun w' => by have := l00In_c (T : Nat) 1 200 w'; rw [inB_y (by omega) (by omega)] at this; exact this)
  have H2 := hid (fun w' => by have := l00In_c (a : Nat) 0 (T : Nat) w'; rw [inB_y (by omega) (by omega)] at this; exact this)
  have HV := hid (l03Share_c e a T he hT0 hT ha)
  have HI : Hid (∀ w' : World, Calls Try.prog 61 #[.int .i64 e] w' fun x w'' => x = .returned (.bool true) ∧ Keep [] w' w'') := hid (fun w' => by
    have st := St.start w'
    go_enter Try.func61, Try.ntmps61
    go_wp2_with (first | (go_at_call 62; refine (HE.out _).mono ?_; rintro _ _ ⟨rfl, hk⟩; replace st := st.call hk; clear hk))
    go_ret
    exact ⟨rfl, st.keep⟩)
  go_enter Try.func28, Try.ntmps28
  go_wp2_with (first | (go_at_call 61; refine (HI.out _).mono ?_; rintro _ _ ⟨rfl, hk⟩; replace st := st.call hk; clear hk) | (go_at_call 62; (first | (with_reducible refine (H1.out _).mono ?_) | (with_reducible refine (H2.out _).mono ?_)); rintro _ _ ⟨rfl, hk⟩; replace st := st.call hk; clear hk) | (go_at_call 63; refine (HV.out _).mono ?_; rintro _ _ ⟨rfl, hk⟩; replace st := st.call hk; clear hk) | ((with_reducible refine gate_lst ?_); (first | ((with_reducible refine' wpl_ung ?_ ?_ ?_); rotate_left 1; (focus exact rfl); (focus exact rfl)))))
  go_ret2
  exact ⟨rfl, st.keep⟩
end Go.Proofs.Ytmndbmapepenjaa
