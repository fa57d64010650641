/- What lies between two numbers: the reference's walk, and the asked functions; no condition. -/
import Derived.Test.YtmndbmapepenjaaBtw
namespace Go.Proofs.Ytmndbmapepenjaa
open Go.RowKit
set_option linter.unusedSimpArgs false
set_option linter.unusedVariables false
theorem l00Max3_c (a b : Int) (w : World) : Calls Try.prog 86 #[.int .i64 a, .int .i64 b] w fun e w' => e = .returned (.int .i64 (max a b)) ∧ Keep [] w w' := by
  by_cases h : a > b
  · rw [show max a b = a by omega]
    go_enter Try.func86, Try.ntmps86
    go_wp2_with fail
    go_ret
    exact ⟨rfl, Keep.refl _ _⟩
  · rw [show max a b = b by omega]
    go_enter Try.func86, Try.ntmps86
    go_wp2_with fail
    go_ret
    exact ⟨rfl, Keep.refl _ _⟩
theorem l03Size_c (d r : Int) (hr : max d (-d) = r) (hd : -100 ≤ d ∧ d ≤ 100) (w : World) : Calls Try.prog 76 #[.int .i64 d] w fun e w' => e = .returned (.int .i64 r) ∧ Keep [] w w' := by
  have st := St.start w
  have HM := hid (l00Max3_c d (-d))
  rw [hr] at HM
  obtain ⟨h0, h1⟩ := hd
  go_enter Try.func76, Try.ntmps76
  go_wp2_with (first | (go_at_call 86; refine (HM.out _).mono ?_; rintro _ _ ⟨rfl, hk⟩; replace st := st.call hk; clear hk))
  go_ret
  exact ⟨rfl, st.keep⟩
set_option maxRecDepth 100000 in
theorem l03Between_c (a b s : Int) (ha : -30 ≤ a ∧ a ≤ 30) (hb : -30 ≤ b ∧ b ≤ 30) (hs0 : 0 ≤ s) (hs1 : s ≤ 1000) (w : World) :
    Calls Try.prog 65 #[.int .i64 a, .int .i64 b, .int .i64 s] w fun x w' => x = .returned (.int .i64 (bt a b s)) ∧ Keep [] w w' := by
  have st := St.start w
  unfold bt
  obtain ⟨ha0, ha1⟩ := ha
  obtain ⟨hb0, hb1⟩ := hb
  by_cases h : b < a
  · obtain ⟨q0, q1⟩ := bt_q (d := a - b) (s := s) (by omega) (by omega) hs0 hs1
    have HS := hid (l03Size_c (b - a) (a - b) (by omega) ⟨by omega, by omega⟩)
    rw [if_pos h]
    go_enter Try.func65, Try.ntmps65
    go_wp2_with (first | (go_at_call 76; refine (HS.out _).mono ?_; rintro _ _ ⟨rfl, hk⟩; replace st := st.call hk; clear hk))
    go_ret
    exact ⟨rfl, st.keep⟩
  · obtain ⟨q0, q1⟩ := bt_q (d := b - a) (s := s) (by omega) (by omega) hs0 hs1
    have HS := hid (l03Size_c (b - a) (b - a) (by omega) ⟨by omega, by omega⟩)
    rw [if_neg h]
    go_enter Try.func65, Try.ntmps65
    go_wp2_with (first | (go_at_call 76; refine (HS.out _).mono ?_; rintro _ _ ⟨rfl, hk⟩; replace st := st.call hk; clear hk))
    go_ret
    exact ⟨rfl, st.keep⟩
theorem BetweenOf_c (a b s : Int) (ha : -30 ≤ a ∧ a ≤ 30) (hb : -30 ≤ b ∧ b ≤ 30) (hs0 : 0 ≤ s) (hs1 : s ≤ 1000) (w : World) :
    Calls Try.prog 29 #[.int .i64 a, .int .i64 b, .int .i64 s] w fun x w' => x = .returned (.tuple #[.int .i64 (bt a b s), .int .i64 0]) ∧ Keep [] w w' := by
  have st := St.start w
  have H1 := hid (fun w' => by have := inRange_c a (-1000) 1000 w'; rw [inB_y (by omega) (by omega)] at this; exact this)
  have H2 := hid (fun w' => by have := inRange_c b (-1000) 1000 w'; rw [inB_y (by omega) (by omega)] at this; exact this)
  have H3 := hid (fun w' => by have := inRange_c s 0 1000 w'; rw [inB_y (by omega) (by omega)] at this; exact this)
  have HV := hid (between_c a b s ha hb hs0 hs1)
  go_enter Try.func29, Try.ntmps29
  go_wp2_with (first | (go_at_call 52; (first | (with_reducible refine (H1.out _).mono ?_) | (with_reducible refine (H2.out _).mono ?_) | (with_reducible refine (H3.out _).mono ?_)); rintro _ _ ⟨rfl, hk⟩; replace st := st.call hk; clear hk) | (go_at_call 64; refine (HV.out _).mono ?_; rintro _ _ ⟨rfl, hk⟩; replace st := st.call hk; clear hk) | ((with_reducible refine gate_lst ?_); (first | ((with_reducible refine' wpl_ung ?_ ?_ ?_); rotate_left 1; (focus exact rfl); (focus exact rfl)))))
  go_ret2
  exact ⟨rfl, st.keep⟩
theorem specBetweenOf_c (a b s : Int) (ha : -30 ≤ a ∧ a ≤ 30) (hb : -30 ≤ b ∧ b ≤ 30) (hs0 : 0 ≤ s) (hs1 : s ≤ 1000) (w : World) :
    Calls Try.prog 30 #[.int .i64 a, .int .i64 b, .int .i64 s] w fun x w' => x = .returned (.tuple #[.int .i64 (bt a b s), .int .i64 0]) ∧ Keep [] w w' := by
  have st := St.start w
  have H1 := hid (fun w' => by have := l00In_c a (-1000) 1000 w'; rw [inB_y (by omega) (by omega)] at this; exact this)
  have H2 := hid (fun w' => by have := l00In_c b (-1000) 1000 w'; rw [inB_y (by omega) (by omega)] at this; exact this)
  have H3 := hid (fun w' => by have := l00In_c s 0 1000 w'; rw [inB_y (by omega) (by omega)] at this; exact this)
  have HV := hid (l03Between_c a b s ha hb hs0 hs1)
  go_enter Try.func30, Try.ntmps30
  go_wp2_with (first | (go_at_call 62; (first | (with_reducible refine (H1.out _).mono ?_) | (with_reducible refine (H2.out _).mono ?_) | (with_reducible refine (H3.out _).mono ?_)); rintro _ _ ⟨rfl, hk⟩; replace st := st.call hk; clear hk) | (go_at_call 65; refine (HV.out _).mono ?_; rintro _ _ ⟨rfl, hk⟩; replace st := st.call hk; clear hk) | ((with_reducible refine gate_lst ?_); (first | ((with_reducible refine' wpl_ung ?_ ?_ ?_); rotate_left 1; (focus exact rfl); (focus exact rfl)))))
  go_ret2
  exact ⟨rfl, st.keep⟩
end Go.Proofs.Ytmndbmapepenjaa
