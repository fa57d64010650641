/- The law FnEases: what it answers; no condition. -/
import Derived.Test.YtmndbmapepenjaaPick3
import Derived.OwnWalk
namespace Go.Proofs.Ytmndbmapepenjaa
open Go.RowKit
set_option linter.unusedSimpArgs false
set_option linter.unusedVariables false
set_option maxHeartbeats 8000000 in
set_option maxRecDepth 100000 in
theorem law_FnEases (w : World) (A : List Int) (n1 : Nat) (hB1 : A.length = n1) (hn1 : n1 ≤ 9223372036854775807) (p1 : Option Addr) (c1 : Nat) (hr1 : Rd w p1 n1 (encs u1 A)) (hq1 : ∀ x ∈ A, 0 ≤ x ∧ x ≤ 255)
    (B : List Int) (n2 : Nat) (hB2 : B.length = n2) (hn2 : n2 ≤ 9223372036854775807) (p2 : Option Addr) (c2 : Nat) (hr2 : Rd w p2 n2 (encs u1 B)) (hq2 : ∀ x ∈ B, 0 ≤ x ∧ x ≤ 255) :
    Calls Try.prog 7 #[.slice p1 n1 c1, .slice p2 n2 c2] w fun e w' => e = .returned (.bool true) ∧ Keep [] w w' := by
  have st := St.start w
  by_cases hb1 : 4096 < n1
  · have HF := hid (f6big_c n1 c1 p1 true (by simpa using hb1) hn1)
    clear hr1 hr2 hq1 hq2
    go_enter Try.func7, Try.ntmps7
    go_wp2_with (first | (go_at_call 25; refine (HF.out _).mono ?_; rintro _ _ ⟨rfl, hk⟩; replace st := st.call hk; clear hk) | ((with_reducible refine gate_lst ?_); (first | ((with_reducible refine' wpl_ung ?_ ?_ ?_); rotate_left 1; (focus exact rfl); (focus exact rfl)))))
    go_ret
    exact ⟨rfl, st.keep⟩
  have HF1 := hid (f6big_c n1 c1 p1 false (by simpa using hb1) hn1)
  by_cases hb2 : 4096 < n2
  · have HF := hid (f6big_c n2 c2 p2 true (by simpa using hb2) hn2)
    clear hr1 hr2 hq1 hq2
    go_enter Try.func7, Try.ntmps7
    go_wp2_with (first | (go_at_call 25; (first | (with_reducible refine (HF1.out _).mono ?_) | (with_reducible refine (HF.out _).mono ?_)); rintro _ _ ⟨rfl, hk⟩; replace st := st.call hk; clear hk) | ((with_reducible refine gate_lst ?_); (first | ((with_reducible refine' wpl_ung ?_ ?_ ?_); rotate_left 1; (focus exact rfl); (focus exact rfl)))))
    go_ret
    exact ⟨rfl, st.keep⟩
  have HF2 := hid (f6big_c n2 c2 p2 false (by simpa using hb2) hn2)
  have HP1 := hid (fun (w' : World) (hk : Keep [] w w') => P6Pick_c A n1 hB1 (by omega) hq1 p1 c1 40 (by omega) (by omega) w' (hr1.keep hk))
  have HP2 := hid (fun (w' : World) (hk : Keep [] w w') => P6Pick_c B n2 hB2 (by omega) hq2 p2 c2 60 (by omega) (by omega) w' (hr2.keep hk))
  have HP3 := hid (fun (w' : World) (hk : Keep [] w w') => P6Pick_c A n1 hB1 (by omega) hq1 p1 c1 60 (by omega) (by omega) w' (hr1.keep hk))
  have HP4 := hid (fun (w' : World) (hk : Keep [] w w') => P6Pick_c B n2 hB2 (by omega) hq2 p2 c2 1001 (by omega) (by omega) w' (hr2.keep hk))
  clear hr1 hr2 hq1 hq2 hB1 hB2 hb1 hb2 hn1 hn2
  go_enter Try.func7, Try.ntmps7
  go_wp2_with (first | (go_at_call 25; (first | (with_reducible refine (HF1.out _).mono ?_) | (with_reducible refine (HF2.out _).mono ?_)); rintro _ _ ⟨rfl, hk⟩; replace st := st.call hk; clear hk) | (go_at_call 26; (with_reducible refine (HP1.out _ st.keep).mono ?_); rintro _ _ ⟨v, rfl, ⟨hv0, hv1⟩, hk⟩; replace st := st.call hk; clear hk) | ((with_reducible refine gate_lst ?_); (first | ((with_reducible refine' wpl_ung ?_ ?_ ?_); rotate_left 1; (focus exact rfl); (focus exact rfl)))))
  obtain ⟨T, hT⟩ : ∃ T : Nat, 1 + v = (T : Int) := ⟨(1 + v).toNat, by omega⟩
  have hT0 : 1 ≤ T := by omega
  have hT1 : T ≤ 40 := by omega
  rw [hT]
  clear hT hv0 hv1
  go_loopw [6] (fun i wr => ∃ e : Nat, e ≤ 4 ∧ i = .int .i64 e ∧ St [] w wr []) (fun i _ => 4 - (intOf i).toNat)
  case atStart => exact ⟨0, by omega, rfl, st⟩
  case round =>
    clear st
    obtain ⟨e, he, rfl, st⟩ := hrel
    by_cases hlt : e < 4
    · have hd : decide ((e : Int) < 4) = true := by simp; omega
      go_wp2_with (first | ((with_reducible refine gate_lst ?_); (first | ((with_reducible refine' wpl_ung ?_ ?_ ?_); rotate_left 1; (focus exact rfl); (focus exact rfl)))))
      go_loopw [7, 8] (fun l i wr => ∃ (a : Nat) (x : Int), a ≤ T + 1 ∧ i = .int .i64 a ∧ l = .int .i64 x ∧ (a ≤ T → x ≤ shr e a T) ∧ St [] w wr []) (fun _ i _ => T + 1 - (intOf i).toNat)
      case atStart => exact ⟨0, 0, by omega, rfl, rfl, fun _ => (shr_facts hlt hT0 hT1 (by omega)).1.1, st⟩
      case round =>
        clear st
        obtain ⟨a, x, ha, rfl, rfl, hx, st⟩ := hrel
        by_cases hlt2 : a ≤ T
        · have hd2 : decide ((a : Int) ≤ (T : Int)) = true := by simpa using hlt2
          obtain ⟨⟨f0, f1⟩, f2, f3, f4⟩ := shr_facts hlt hT0 hT1 hlt2
          have hx' := hx hlt2
          have HI := hid (EaseOf_c e a T hlt hT0 hT1 hlt2)
          have HS := hid (specEaseOf_c e a T hlt hT0 hT1 hlt2)
          obtain ⟨y, hy⟩ : ∃ y, shr e a T = y := ⟨_, rfl⟩
          rw [hy] at f0 f1 f2 f3 f4 hx' HI HS
          have d1 : decide (y < x) = false := by simpa using hx'
          have d2 : decide (1000 < y) = false := by simpa using f1
          rcases (show a = 0 ∨ a = T ∨ (a ≠ 0 ∧ a ≠ T ∧ a < T) by omega) with h0 | h0 | ⟨h0, h1, h2⟩
          · obtain rfl : y = 0 := f2 h0
            subst h0
            have e1 : decide ((0 : Int) = (T : Int)) = false := by simp; omega
            have e2 : ((0 : Int) == (T : Int)) = false := by simp; omega
            clear f1 f2 f3 hx hy d1 d2
            go_wp2_with (first | (go_at_call 27; refine (HI.out _).mono ?_; rintro _ _ ⟨rfl, hk⟩; replace st := st.call hk; clear hk) | (go_at_call 28; refine (HS.out _).mono ?_; rintro _ _ ⟨rfl, hk⟩; replace st := st.call hk; clear hk) | ((with_reducible refine gate_lst ?_); (first | ((with_reducible refine' wpl_ung ?_ ?_ ?_); rotate_left 1; (focus exact rfl); (focus exact rfl)))))
            go_roundw
            case rel => exact ⟨0 + 1, 0, by omega, by go_num, rfl, fun _ => f4 (by omega), st⟩
            case measure => first | (simp [intOf]; done) | (simp [intOf]; omega)
          · obtain rfl : y = 1000 := f3 h0
            subst h0
            have e1 : decide ((a : Int) = 0) = false := by simp; omega
            have e2 : ((a : Int) == 0) = false := by simp; omega
            clear f2 f3 f4 hx hy d2
            go_wp2_with (first | (go_at_call 27; refine (HI.out _).mono ?_; rintro _ _ ⟨rfl, hk⟩; replace st := st.call hk; clear hk) | (go_at_call 28; refine (HS.out _).mono ?_; rintro _ _ ⟨rfl, hk⟩; replace st := st.call hk; clear hk) | ((with_reducible refine gate_lst ?_); (first | ((with_reducible refine' wpl_ung ?_ ?_ ?_); rotate_left 1; (focus exact rfl); (focus exact rfl)))))
            go_roundw
            case rel => exact ⟨a + 1, 1000, by omega, by go_num, rfl, fun h => absurd h (by omega), st⟩
            case measure => first | (simp [intOf]; done) | (simp [intOf]; omega)
          · have e1 : decide ((a : Int) = 0) = false := by simp; omega
            have e2 : ((a : Int) == 0) = false := by simp; omega
            have e3 : decide ((a : Int) = (T : Int)) = false := by simp; omega
            have e4 : ((a : Int) == (T : Int)) = false := by simp; omega
            clear f2 f3 hx hy
            go_wp2_with (first | (go_at_call 27; refine (HI.out _).mono ?_; rintro _ _ ⟨rfl, hk⟩; replace st := st.call hk; clear hk) | (go_at_call 28; refine (HS.out _).mono ?_; rintro _ _ ⟨rfl, hk⟩; replace st := st.call hk; clear hk) | ((with_reducible refine gate_lst ?_); (first | ((with_reducible refine' wpl_ung ?_ ?_ ?_); rotate_left 1; (focus exact rfl); (focus exact rfl)))))
            go_roundw
            case rel => exact ⟨a + 1, y, by omega, by go_num, rfl, fun _ => f4 h2, st⟩
            case measure => first | (simp [intOf]; done) | (simp [intOf]; omega)
        · have hd2 : decide ((a : Int) ≤ (T : Int)) = false := by simpa using hlt2
          clear hx
          go_wp2_with (first | ((with_reducible refine gate_lst ?_); (first | ((with_reducible refine' wpl_ung ?_ ?_ ?_); rotate_left 1; (focus exact rfl); (focus exact rfl)))))
          go_roundw
          case rel => exact ⟨e + 1, by omega, by go_num, st⟩
          case measure => first | (simp [intOf]; done) | (simp [intOf]; omega)
    · have hd : decide ((e : Int) < 4) = false := by simp; omega
      clear hlt he
      go_wp2_with (first | (go_at_call 26; (first | ((with_reducible refine (HP3.out _ st.keep).mono ?_); rintro _ _ ⟨vb, rfl, ⟨hb0, hb1⟩, hk⟩) | ((with_reducible refine (HP4.out _ st.keep).mono ?_); rintro _ _ ⟨vs, rfl, ⟨hs0, hs1⟩, hk⟩) | ((with_reducible refine (HP2.out _ st.keep).mono ?_); rintro _ _ ⟨va, rfl, ⟨ha0, ha1⟩, hk⟩)); replace st := st.call hk; clear hk) | ((with_reducible refine gate_lst ?_); (first | ((with_reducible refine' wpl_ung ?_ ?_ ?_); rotate_left 1; (focus exact rfl); (focus exact rfl)))))
      obtain ⟨a, ha⟩ : ∃ a, va - 30 = a := ⟨_, rfl⟩
      obtain ⟨b, hb⟩ : ∃ b, vb - 30 = b := ⟨_, rfl⟩
      have hA : -30 ≤ a ∧ a ≤ 30 := by omega
      have hB : -30 ≤ b ∧ b ≤ 30 := by omega
      have hS0 : vs ≤ 1000 := by omega
      rw [ha, hb]
      clear ha hb ha0 ha1 hb0 hb1 hs1
      have hr := bt_rng hA hB hs0 hS0
      have H1 := hid (BetweenOf_c a b vs hA hB hs0 hS0)
      have H2 := hid (specBetweenOf_c a b vs hA hB hs0 hS0)
      have H3 := hid (BetweenOf_c a b 0 hA hB (by omega) (by omega))
      have H4 := hid (BetweenOf_c a b 1000 hA hB (by omega) (by omega))
      have H5 := hid (BetweenOf_c (-a) (-b) vs ⟨by omega, by omega⟩ ⟨by omega, by omega⟩ hs0 hS0)
      rw [bt_0] at H3
      rw [bt_1] at H4
      rw [bt_neg] at H5
      obtain ⟨y, hy⟩ : ∃ y, bt a b vs = y := ⟨_, rfl⟩
      rw [hy] at hr H1 H2 H5
      obtain ⟨hr0, hr1⟩ := hr
      obtain ⟨hA0, hA1⟩ := hA
      obtain ⟨hB0, hB1⟩ := hB
      have hY : -30 ≤ y ∧ y ≤ 30 := by omega
      obtain ⟨hY0, hY1⟩ := hY
      clear hy
      go_wp2_with (first | (go_at_call 29; (first | (with_reducible refine (H1.out _).mono ?_) | (with_reducible refine (H3.out _).mono ?_) | (with_reducible refine (H4.out _).mono ?_) | (with_reducible refine (H5.out _).mono ?_)); rintro _ _ ⟨rfl, hk⟩; replace st := st.call hk; clear hk) | (go_at_call 30; refine (H2.out _).mono ?_; rintro _ _ ⟨rfl, hk⟩; replace st := st.call hk; clear hk) | ((with_reducible refine gate_lst ?_); (first | ((with_reducible refine' wpl_ung ?_ ?_ ?_); rotate_left 1; (focus exact rfl); (focus exact rfl)))))
      all_goals
        go_ret
        exact ⟨rfl, st.keep⟩
end Go.Proofs.Ytmndbmapepenjaa
