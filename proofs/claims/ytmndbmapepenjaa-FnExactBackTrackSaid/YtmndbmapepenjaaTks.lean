/- The ticks of a track: the reference and the program; no condition. -/
import Derived.Test.YtmndbmapepenjaaVTrk2
namespace Go.Proofs.Ytmndbmapepenjaa
open Go.RowKit
set_option linter.unusedSimpArgs false
set_option linter.unusedVariables false
theorem specValidTrack_c (T : List Ky) (m : Nat) (hT : T.length = m) (hm : m ≤ 1000000) (h8 : RK T) (p : Option Addr) (c : Nat) (w : World) (hr : Rd w p m (encs k3 T)) :
    Calls Try.prog 16 #[.slice p m c] w fun e w' => e = .returned (.bool (trkB T)) ∧ Keep [] w w' := by
  have st := St.start w
  have HV := hid (fun w' (hk : Keep [] w w') => l03Ok_c T m hT hm h8 p c w' (hr.keep hk))
  go_enter Try.func16, Try.ntmps16
  go_wp2_with (first | (go_at_call 49; refine (HV.out _ st.keep).mono ?_; rintro _ _ ⟨rfl, hk⟩; replace st := st.call hk; clear hk))
  go_ret
  exact ⟨rfl, st.keep⟩
def tkA (T : List Ky) : Int := if trkB T = true then (T.getD 0 kz).1 else 0
def tkZ (T : List Ky) : Int := if trkB T = true then (T.getD (T.length - 1) kz).1 else 0
def tkC (T : List Ky) : Int := if trkB T = true then 0 else 1
theorem trkB_len {T : List Ky} (h : trkB T = true) : 1 ≤ T.length := by
  unfold trkB inB at h
  simp at h
  omega
theorem specTicksOf_c (T : List Ky) (m : Nat) (hT : T.length = m) (hm : m ≤ 1000000) (h8 : RK T) (p : Option Addr) (c : Nat) (w : World) (hr : Rd w p m (encs k3 T)) :
    Calls Try.prog 18 #[.slice p m c] w fun e w' => e = .returned (.tuple #[.int .i64 (tkA T), .int .i64 (tkZ T), .int .i64 (tkC T)]) ∧ Keep [] w w' := by
  have st := St.start w
  have HV := hid (fun w' (hk : Keep [] w w') => l03Ok_c T m hT hm h8 p c w' (hr.keep hk))
  unfold tkA tkZ tkC
  rcases Bool.eq_false_or_eq_true (trkB T) with q | q
  · have hl := trkB_len q
    rw [hT] at hl
    rw [q] at HV
    rw [if_pos q, if_pos q, if_pos q, hT]
    obtain ⟨j, hj⟩ : ∃ j, m - 1 = j := ⟨_, rfl⟩
    have HE1 : Hid ((m : Int) - 1 = (j : Int)) := hid (by omega)
    have h0B : 0 < T.length := by omega
    have hjB : j < T.length := by omega
    have hjm : j < m := by omega
    obtain ⟨b, f, hp, hcl⟩ := hr (by omega)
    have HP := hid hp
    have hb := hcl.seg k3_len h0B
    have hb' := hcl.seg k3_len hjB
    have HX := h8.get h0B
    have HY := h8.get hjB
    rw [hj, getK h0B, getK hjB]
    obtain ⟨x, hx⟩ : ∃ x, T[0] = x := ⟨_, rfl⟩
    obtain ⟨y, hy⟩ : ∃ y, T[j] = y := ⟨_, rfl⟩
    rw [hx] at hb HX ⊢
    rw [hy] at hb' HY ⊢
    obtain ⟨x0, x1, x2⟩ := x
    obtain ⟨y0, y1, y2⟩ := y
    obtain ⟨⟨ha0, ha1⟩, _⟩ := HX
    obtain ⟨⟨hb0, hb1⟩, _⟩ := HY
    simp only at ha0 ha1 hb0 hb1
    clear hx hy hp hcl h0B hjB hj h8
    go_enter Try.func18, Try.ntmps18
    go_wp2_with (first | (go_at_call 49; refine (HV.out _ st.keep).mono ?_; rintro _ _ ⟨rfl, hk⟩; replace st := st.call hk; clear hk) | ((with_reducible refine gate_lst ?_); (first | ((with_reducible refine gate_load rfl ?_); (first | (refine' ia_load1 st rfl rfl rfl ?_ ?_; rotate_left 1; (focus (first | exact N0.out | exact N1.out | exact N2.out | exact N3.out | exact N4.out | exact N5.out | exact G2.out | exact G3.out | exact G4.out | exact G0.out | exact G1.out | (refine frv_get _ _ ?_; (first | omega | (simp; done) | (simp; omega) | (simp [*]; omega))) | exact rfl))) | (refine' ia_load1Z (hb.keep st.keep (by simp)) rfl rfl rfl ?_ ?_; rotate_left 1; (focus exact rfl)) | (refine' ia_load1Z (hb'.keep st.keep (by simp)) rfl rfl rfl ?_ ?_; rotate_left 1; (focus exact rfl)) | (refine' ia_load1C (hb.keep st.keep (by simp)) rfl rfl rfl ?_ ?_; rotate_left 1; (focus (first | exact N0.out | exact N1.out | exact N2.out | exact N3.out | exact N4.out | exact N5.out | exact G2.out | exact G3.out | exact G4.out | exact G0.out | exact G1.out | (refine frv_get _ _ ?_; (first | omega | (simp; done) | (simp; omega) | (simp [*]; omega))) | exact rfl))) | (refine' ia_load1C (hb'.keep st.keep (by simp)) rfl rfl rfl ?_ ?_; rotate_left 1; (focus (first | exact N0.out | exact N1.out | exact N2.out | exact N3.out | exact N4.out | exact N5.out | exact G2.out | exact G3.out | exact G4.out | exact G0.out | exact G1.out | (refine frv_get _ _ ?_; (first | omega | (simp; done) | (simp; omega) | (simp [*]; omega))) | exact rfl))) | (refine' ia_load1B (hb1.keep st.keep (by simp)) rfl rfl rfl ?_ ?_; rotate_left 1; (focus (first | exact N0.out | exact N1.out | exact N2.out | exact N3.out | exact N4.out | exact N5.out | exact G2.out | exact G3.out | exact G4.out | exact G0.out | exact G1.out | (refine frv_get _ _ ?_; (first | omega | (simp; done) | (simp; omega) | (simp [*]; omega))) | exact rfl))) | (refine' ia_load1B (hb2.keep st.keep (by simp)) rfl rfl rfl ?_ ?_; rotate_left 1; (focus (first | exact N0.out | exact N1.out | exact N2.out | exact N3.out | exact N4.out | exact N5.out | exact G2.out | exact G3.out | exact G4.out | exact G0.out | exact G1.out | (refine frv_get _ _ ?_; (first | omega | (simp; done) | (simp; omega) | (simp [*]; omega))) | exact rfl))))) | ((with_reducible refine gate_addr rfl ?_); (first | (refine' ia_slcP HP.out rfl rfl rfl rfl ?_ ?_ ?_) | (refine' ia_slcP HP2.out rfl rfl rfl rfl ?_ ?_ ?_)); rotate_left 1; (focus (first | exact (rfl : (0 : Int) = ((0 : Nat) : Int)) | exact (rfl : (1 : Int) = ((1 : Nat) : Int)) | exact rfl | exact HE1.out | exact HE2.out)); (focus (first | omega | (simp; done) | (simp; omega) | (simp [*]; omega)))))) | ((with_reducible refine qgate_nil ?_); refine wpQuiet_nil ?_; (try intro _ st)) | ((with_reducible refine qgate_any ?_); (first | ((first | (with_reducible refine qg_assign rfl ?_) | (with_reducible refine qg_move rfl ?_)); refine qa_val (fun _ _ => rfl) rfl ?_) | ((with_reducible refine qgate_load rfl ?_); (first | (refine' iq_load1 rfl rfl rfl ?_ ?_; rotate_left 1; (focus (first | exact N0.out | exact N1.out | exact N2.out | exact N3.out | exact N4.out | exact N5.out | exact G2.out | exact G3.out | exact G4.out | exact G0.out | exact G1.out | (refine frv_get _ _ ?_; (first | omega | (simp; done) | (simp; omega) | (simp [*]; omega))) | exact rfl))) | (refine' iq_load1Z hb rfl rfl rfl ?_ ?_; rotate_left 1; (focus exact rfl)) | (refine' iq_load1Z hb' rfl rfl rfl ?_ ?_; rotate_left 1; (focus exact rfl)) | (refine' iq_load1C hb rfl rfl rfl ?_ ?_; rotate_left 1; (focus (first | exact N0.out | exact N1.out | exact N2.out | exact N3.out | exact N4.out | exact N5.out | exact G2.out | exact G3.out | exact G4.out | exact G0.out | exact G1.out | (refine frv_get _ _ ?_; (first | omega | (simp; done) | (simp; omega) | (simp [*]; omega))) | exact rfl))) | (refine' iq_load1C hb' rfl rfl rfl ?_ ?_; rotate_left 1; (focus (first | exact N0.out | exact N1.out | exact N2.out | exact N3.out | exact N4.out | exact N5.out | exact G2.out | exact G3.out | exact G4.out | exact G0.out | exact G1.out | (refine frv_get _ _ ?_; (first | omega | (simp; done) | (simp; omega) | (simp [*]; omega))) | exact rfl))))) | ((with_reducible refine qgate_addr rfl ?_); (first | (refine' iq_slc rfl rfl rfl rfl ?_ ?_ ?_) | (refine' iq_slcP HP.out rfl rfl rfl rfl ?_ ?_ ?_) | (refine' iq_slcP HP2.out rfl rfl rfl rfl ?_ ?_ ?_) | (refine' iq_arr rfl rfl rfl rfl ?_ ?_ ?_)); rotate_left 1; (focus (first | exact (rfl : (0 : Int) = ((0 : Nat) : Int)) | exact (rfl : (1 : Int) = ((1 : Nat) : Int)) | exact rfl | exact HE1.out | exact HE2.out)); (focus (first | omega | (simp; done) | (simp; omega) | (simp [*]; omega)))) | ((with_reducible refine qgate_field rfl ?_); refine iq_field rfl rfl rfl ?_) | ((with_reducible refine qgate_conv rfl ?_); refine' iq_conv rfl rfl rfl ?_ ?_; rotate_left 1; (focus (first | (refine IntWalk.i64_in _ ?_; omega) | (refine i8_wrap ?_ ?_ <;> omega) | exact rfl))) | ((with_reducible refine qgate_bin rfl ?_); refine' qa_bin ?_ rfl rfl rfl rfl ?_; rotate_left 1; (focus (first | exact run_add64 (by omega) (by omega) | exact run_sub64 (by omega) (by omega) | (intro w'; go_simp; exact rfl)))) | ((with_reducible refine qgate_call rfl ?_); refine iq_len rfl rfl rfl ?_)); all_goals (try (simp only [Nat.zero_add, Nat.add_zero, Nat.mul_one, Nat.zero_mul, Act.put, Act.eval, Array.getD_eq_getD_getElem?, List.getElem?_toArray, List.getElem?_cons_succ, List.getElem?_cons_zero, Option.getD_some, List.setIfInBounds_toArray, List.set_cons_succ, List.set_cons_zero, List.getElem_toArray, List.getElem_cons_succ, List.getElem_cons_zero]))) | ((with_reducible refine rgate (id := 3) ?_); refine wp_region_quiet_st (id := 3) st (by kernel_rfl) (by kernel_rfl) ?_; clear st))
    go_ret3
    exact ⟨rfl, st.keep⟩
  · rw [q] at HV
    rw [if_neg (by rw [q]; decide), if_neg (by rw [q]; decide), if_neg (by rw [q]; decide)]
    go_enter Try.func18, Try.ntmps18
    go_wp2_with (first | (go_at_call 49; refine (HV.out _ st.keep).mono ?_; rintro _ _ ⟨rfl, hk⟩; replace st := st.call hk; clear hk) | ((with_reducible refine gate_lst ?_); (first | ((with_reducible refine gate_load rfl ?_); (first | (refine' ia_load1 st rfl rfl rfl ?_ ?_; rotate_left 1; (focus (first | exact N0.out | exact N1.out | exact N2.out | exact N3.out | exact N4.out | exact N5.out | exact G2.out | exact G3.out | exact G4.out | exact G0.out | exact G1.out | (refine frv_get _ _ ?_; (first | omega | (simp; done) | (simp; omega) | (simp [*]; omega))) | exact rfl))) | (refine' ia_load1Z (hb.keep st.keep (by simp)) rfl rfl rfl ?_ ?_; rotate_left 1; (focus exact rfl)) | (refine' ia_load1Z (hb'.keep st.keep (by simp)) rfl rfl rfl ?_ ?_; rotate_left 1; (focus exact rfl)) | (refine' ia_load1C (hb.keep st.keep (by simp)) rfl rfl rfl ?_ ?_; rotate_left 1; (focus (first | exact N0.out | exact N1.out | exact N2.out | exact N3.out | exact N4.out | exact N5.out | exact G2.out | exact G3.out | exact G4.out | exact G0.out | exact G1.out | (refine frv_get _ _ ?_; (first | omega | (simp; done) | (simp; omega) | (simp [*]; omega))) | exact rfl))) | (refine' ia_load1C (hb'.keep st.keep (by simp)) rfl rfl rfl ?_ ?_; rotate_left 1; (focus (first | exact N0.out | exact N1.out | exact N2.out | exact N3.out | exact N4.out | exact N5.out | exact G2.out | exact G3.out | exact G4.out | exact G0.out | exact G1.out | (refine frv_get _ _ ?_; (first | omega | (simp; done) | (simp; omega) | (simp [*]; omega))) | exact rfl))) | (refine' ia_load1B (hb1.keep st.keep (by simp)) rfl rfl rfl ?_ ?_; rotate_left 1; (focus (first | exact N0.out | exact N1.out | exact N2.out | exact N3.out | exact N4.out | exact N5.out | exact G2.out | exact G3.out | exact G4.out | exact G0.out | exact G1.out | (refine frv_get _ _ ?_; (first | omega | (simp; done) | (simp; omega) | (simp [*]; omega))) | exact rfl))) | (refine' ia_load1B (hb2.keep st.keep (by simp)) rfl rfl rfl ?_ ?_; rotate_left 1; (focus (first | exact N0.out | exact N1.out | exact N2.out | exact N3.out | exact N4.out | exact N5.out | exact G2.out | exact G3.out | exact G4.out | exact G0.out | exact G1.out | (refine frv_get _ _ ?_; (first | omega | (simp; done) | (simp; omega) | (simp [*]; omega))) | exact rfl))))) | ((with_reducible refine gate_addr rfl ?_); (first | (refine' ia_slcP HP.out rfl rfl rfl rfl ?_ ?_ ?_) | (refine' ia_slcP HP2.out rfl rfl rfl rfl ?_ ?_ ?_)); rotate_left 1; (focus (first | exact (rfl : (0 : Int) = ((0 : Nat) : Int)) | exact (rfl : (1 : Int) = ((1 : Nat) : Int)) | exact rfl | exact HE1.out | exact HE2.out)); (focus (first | omega | (simp; done) | (simp; omega) | (simp [*]; omega)))))) | ((with_reducible refine qgate_nil ?_); refine wpQuiet_nil ?_; (try intro _ st)) | ((with_reducible refine qgate_any ?_); (first | ((first | (with_reducible refine qg_assign rfl ?_) | (with_reducible refine qg_move rfl ?_)); refine qa_val (fun _ _ => rfl) rfl ?_) | ((with_reducible refine qgate_load rfl ?_); (first | (refine' iq_load1 rfl rfl rfl ?_ ?_; rotate_left 1; (focus (first | exact N0.out | exact N1.out | exact N2.out | exact N3.out | exact N4.out | exact N5.out | exact G2.out | exact G3.out | exact G4.out | exact G0.out | exact G1.out | (refine frv_get _ _ ?_; (first | omega | (simp; done) | (simp; omega) | (simp [*]; omega))) | exact rfl))) | (refine' iq_load1Z hb rfl rfl rfl ?_ ?_; rotate_left 1; (focus exact rfl)) | (refine' iq_load1Z hb' rfl rfl rfl ?_ ?_; rotate_left 1; (focus exact rfl)) | (refine' iq_load1C hb rfl rfl rfl ?_ ?_; rotate_left 1; (focus (first | exact N0.out | exact N1.out | exact N2.out | exact N3.out | exact N4.out | exact N5.out | exact G2.out | exact G3.out | exact G4.out | exact G0.out | exact G1.out | (refine frv_get _ _ ?_; (first | omega | (simp; done) | (simp; omega) | (simp [*]; omega))) | exact rfl))) | (refine' iq_load1C hb' rfl rfl rfl ?_ ?_; rotate_left 1; (focus (first | exact N0.out | exact N1.out | exact N2.out | exact N3.out | exact N4.out | exact N5.out | exact G2.out | exact G3.out | exact G4.out | exact G0.out | exact G1.out | (refine frv_get _ _ ?_; (first | omega | (simp; done) | (simp; omega) | (simp [*]; omega))) | exact rfl))))) | ((with_reducible refine qgate_addr rfl ?_); (first | (refine' iq_slc rfl rfl rfl rfl ?_ ?_ ?_) | (refine' iq_slcP HP.out rfl rfl rfl rfl ?_ ?_ ?_) | (refine' iq_slcP HP2.out rfl rfl rfl rfl ?_ ?_ ?_) | (refine' iq_arr rfl rfl rfl rfl ?_ ?_ ?_)); rotate_left 1; (focus (first | exact (rfl : (0 : Int) = ((0 : Nat) : Int)) | exact (rfl : (1 : Int) = ((1 : Nat) : Int)) | exact rfl | exact HE1.out | exact HE2.out)); (focus (first | omega | (simp; done) | (simp; omega) | (simp [*]; omega)))) | ((with_reducible refine qgate_field rfl ?_); refine iq_field rfl rfl rfl ?_) | ((with_reducible refine qgate_conv rfl ?_); refine' iq_conv rfl rfl rfl ?_ ?_; rotate_left 1; (focus (first | (refine IntWalk.i64_in _ ?_; omega) | (refine i8_wrap ?_ ?_ <;> omega) | exact rfl))) | ((with_reducible refine qgate_bin rfl ?_); refine' qa_bin ?_ rfl rfl rfl rfl ?_; rotate_left 1; (focus (first | exact run_add64 (by omega) (by omega) | exact run_sub64 (by omega) (by omega) | (intro w'; go_simp; exact rfl)))) | ((with_reducible refine qgate_call rfl ?_); refine iq_len rfl rfl rfl ?_)); all_goals (try (simp only [Nat.zero_add, Nat.add_zero, Nat.mul_one, Nat.zero_mul, Act.put, Act.eval, Array.getD_eq_getD_getElem?, List.getElem?_toArray, List.getElem?_cons_succ, List.getElem?_cons_zero, Option.getD_some, List.setIfInBounds_toArray, List.set_cons_succ, List.set_cons_zero, List.getElem_toArray, List.getElem_cons_succ, List.getElem_cons_zero]))) | ((with_reducible refine rgate (id := 3) ?_); refine wp_region_quiet_st (id := 3) st (by kernel_rfl) (by kernel_rfl) ?_; clear st))
    go_ret3
    exact ⟨rfl, st.keep⟩
theorem ends_c (T : List Ky) (m : Nat) (hT : T.length = m) (hm : m ≤ 1000000) (hl : 1 ≤ m) (h8 : RK T) (p : Option Addr) (c : Nat) (w : World) (hr : Rd w p m (encs k3 T)) :
    Calls Try.prog 53 #[.slice p m c] w fun e w' => e = .returned (.tuple #[.int .i64 (T.getD 0 kz).1, .int .i64 (T.getD (m - 1) kz).1]) ∧ Keep [] w w' := by
  have st := St.start w
  obtain ⟨j, hj⟩ : ∃ j, m - 1 = j := ⟨_, rfl⟩
  have HE1 : Hid ((m : Int) - 1 = (j : Int)) := hid (by omega)
  have h0B : 0 < T.length := by omega
  have hjB : j < T.length := by omega
  have hjm : j < m := by omega
  obtain ⟨b, f, hp, hcl⟩ := hr (by omega)
  have HP := hid hp
  have hb := hcl.seg k3_len h0B
  have hb' := hcl.seg k3_len hjB
  have HX := h8.get h0B
  have HY := h8.get hjB
  rw [hj, getK h0B, getK hjB]
  obtain ⟨x, hx⟩ : ∃ x, T[0] = x := ⟨_, rfl⟩
  obtain ⟨y, hy⟩ : ∃ y, T[j] = y := ⟨_, rfl⟩
  rw [hx] at hb HX ⊢
  rw [hy] at hb' HY ⊢
  obtain ⟨x0, x1, x2⟩ := x
  obtain ⟨y0, y1, y2⟩ := y
  obtain ⟨⟨ha0, ha1⟩, _⟩ := HX
  obtain ⟨⟨hb0, hb1⟩, _⟩ := HY
  simp only at ha0 ha1 hb0 hb1
  clear hx hy hp hcl h0B hjB hj h8
  go_enter Try.func53, Try.ntmps53
  go_wp2_with (first | ((with_reducible refine gate_lst ?_); (first | ((with_reducible refine gate_load rfl ?_); (first | (refine' ia_load1 st rfl rfl rfl ?_ ?_; rotate_left 1; (focus (first | exact N0.out | exact N1.out | exact N2.out | exact N3.out | exact N4.out | exact N5.out | exact G2.out | exact G3.out | exact G4.out | exact G0.out | exact G1.out | (refine frv_get _ _ ?_; (first | omega | (simp; done) | (simp; omega) | (simp [*]; omega))) | exact rfl))) | (refine' ia_load1Z (hb.keep st.keep (by simp)) rfl rfl rfl ?_ ?_; rotate_left 1; (focus exact rfl)) | (refine' ia_load1Z (hb'.keep st.keep (by simp)) rfl rfl rfl ?_ ?_; rotate_left 1; (focus exact rfl)) | (refine' ia_load1C (hb.keep st.keep (by simp)) rfl rfl rfl ?_ ?_; rotate_left 1; (focus (first | exact N0.out | exact N1.out | exact N2.out | exact N3.out | exact N4.out | exact N5.out | exact G2.out | exact G3.out | exact G4.out | exact G0.out | exact G1.out | (refine frv_get _ _ ?_; (first | omega | (simp; done) | (simp; omega) | (simp [*]; omega))) | exact rfl))) | (refine' ia_load1C (hb'.keep st.keep (by simp)) rfl rfl rfl ?_ ?_; rotate_left 1; (focus (first | exact N0.out | exact N1.out | exact N2.out | exact N3.out | exact N4.out | exact N5.out | exact G2.out | exact G3.out | exact G4.out | exact G0.out | exact G1.out | (refine frv_get _ _ ?_; (first | omega | (simp; done) | (simp; omega) | (simp [*]; omega))) | exact rfl))) | (refine' ia_load1B (hb1.keep st.keep (by simp)) rfl rfl rfl ?_ ?_; rotate_left 1; (focus (first | exact N0.out | exact N1.out | exact N2.out | exact N3.out | exact N4.out | exact N5.out | exact G2.out | exact G3.out | exact G4.out | exact G0.out | exact G1.out | (refine frv_get _ _ ?_; (first | omega | (simp; done) | (simp; omega) | (simp [*]; omega))) | exact rfl))) | (refine' ia_load1B (hb2.keep st.keep (by simp)) rfl rfl rfl ?_ ?_; rotate_left 1; (focus (first | exact N0.out | exact N1.out | exact N2.out | exact N3.out | exact N4.out | exact N5.out | exact G2.out | exact G3.out | exact G4.out | exact G0.out | exact G1.out | (refine frv_get _ _ ?_; (first | omega | (simp; done) | (simp; omega) | (simp [*]; omega))) | exact rfl))))) | ((with_reducible refine gate_addr rfl ?_); (first | (refine' ia_slcP HP.out rfl rfl rfl rfl ?_ ?_ ?_) | (refine' ia_slcP HP2.out rfl rfl rfl rfl ?_ ?_ ?_)); rotate_left 1; (focus (first | exact (rfl : (0 : Int) = ((0 : Nat) : Int)) | exact (rfl : (1 : Int) = ((1 : Nat) : Int)) | exact rfl | exact HE1.out | exact HE2.out)); (focus (first | omega | (simp; done) | (simp; omega) | (simp [*]; omega)))))) | ((with_reducible refine qgate_nil ?_); refine wpQuiet_nil ?_; (try intro _ st)) | ((with_reducible refine qgate_any ?_); (first | ((first | (with_reducible refine qg_assign rfl ?_) | (with_reducible refine qg_move rfl ?_)); refine qa_val (fun _ _ => rfl) rfl ?_) | ((with_reducible refine qgate_load rfl ?_); (first | (refine' iq_load1 rfl rfl rfl ?_ ?_; rotate_left 1; (focus (first | exact N0.out | exact N1.out | exact N2.out | exact N3.out | exact N4.out | exact N5.out | exact G2.out | exact G3.out | exact G4.out | exact G0.out | exact G1.out | (refine frv_get _ _ ?_; (first | omega | (simp; done) | (simp; omega) | (simp [*]; omega))) | exact rfl))) | (refine' iq_load1Z hb rfl rfl rfl ?_ ?_; rotate_left 1; (focus exact rfl)) | (refine' iq_load1Z hb' rfl rfl rfl ?_ ?_; rotate_left 1; (focus exact rfl)) | (refine' iq_load1C hb rfl rfl rfl ?_ ?_; rotate_left 1; (focus (first | exact N0.out | exact N1.out | exact N2.out | exact N3.out | exact N4.out | exact N5.out | exact G2.out | exact G3.out | exact G4.out | exact G0.out | exact G1.out | (refine frv_get _ _ ?_; (first | omega | (simp; done) | (simp; omega) | (simp [*]; omega))) | exact rfl))) | (refine' iq_load1C hb' rfl rfl rfl ?_ ?_; rotate_left 1; (focus (first | exact N0.out | exact N1.out | exact N2.out | exact N3.out | exact N4.out | exact N5.out | exact G2.out | exact G3.out | exact G4.out | exact G0.out | exact G1.out | (refine frv_get _ _ ?_; (first | omega | (simp; done) | (simp; omega) | (simp [*]; omega))) | exact rfl))))) | ((with_reducible refine qgate_addr rfl ?_); (first | (refine' iq_slc rfl rfl rfl rfl ?_ ?_ ?_) | (refine' iq_slcP HP.out rfl rfl rfl rfl ?_ ?_ ?_) | (refine' iq_slcP HP2.out rfl rfl rfl rfl ?_ ?_ ?_) | (refine' iq_arr rfl rfl rfl rfl ?_ ?_ ?_)); rotate_left 1; (focus (first | exact (rfl : (0 : Int) = ((0 : Nat) : Int)) | exact (rfl : (1 : Int) = ((1 : Nat) : Int)) | exact rfl | exact HE1.out | exact HE2.out)); (focus (first | omega | (simp; done) | (simp; omega) | (simp [*]; omega)))) | ((with_reducible refine qgate_field rfl ?_); refine iq_field rfl rfl rfl ?_) | ((with_reducible refine qgate_conv rfl ?_); refine' iq_conv rfl rfl rfl ?_ ?_; rotate_left 1; (focus (first | (refine IntWalk.i64_in _ ?_; omega) | (refine i8_wrap ?_ ?_ <;> omega) | exact rfl))) | ((with_reducible refine qgate_bin rfl ?_); refine' qa_bin ?_ rfl rfl rfl rfl ?_; rotate_left 1; (focus (first | exact run_add64 (by omega) (by omega) | exact run_sub64 (by omega) (by omega) | (intro w'; go_simp; exact rfl)))) | ((with_reducible refine qgate_call rfl ?_); refine iq_len rfl rfl rfl ?_)); all_goals (try (simp only [Nat.zero_add, Nat.add_zero, Nat.mul_one, Nat.zero_mul, Act.put, Act.eval, Array.getD_eq_getD_getElem?, List.getElem?_toArray, List.getElem?_cons_succ, List.getElem?_cons_zero, Option.getD_some, List.setIfInBounds_toArray, List.set_cons_succ, List.set_cons_zero, List.getElem_toArray, List.getElem_cons_succ, List.getElem_cons_zero]))) | ((with_reducible refine rgate (id := 1) ?_); refine wp_region_quiet_st (id := 1) st (by kernel_rfl) (by kernel_rfl) ?_; clear st))
  go_ret2
  exact ⟨rfl, st.keep⟩
theorem TicksOf_c (T : List Ky) (m : Nat) (hT : T.length = m) (hm : m ≤ 1000000) (h8 : RK T) (p : Option Addr) (c : Nat) (w : World) (hr : Rd w p m (encs k3 T)) :
    Calls Try.prog 19 #[.slice p m c] w fun e w' => e = .returned (.tuple #[.int .i64 (tkA T), .int .i64 (tkZ T), .int .i64 (tkC T)]) ∧ Keep [] w w' := by
  have st := St.start w
  have HV := hid (fun w' (hk : Keep [] w w') => ValidTrack_c T m hT hm h8 p c w' (hr.keep hk))
  unfold tkA tkZ tkC
  rcases Bool.eq_false_or_eq_true (trkB T) with q | q
  · have hl := trkB_len q
    rw [hT] at hl
    rw [q] at HV
    rw [if_pos q, if_pos q, if_pos q, hT]
    have HD := hid (fun w' (hk : Keep [] w w') => ends_c T m hT hm hl h8 p c w' (hr.keep hk))
    go_enter Try.func19, Try.ntmps19
    go_wp2_with (first | (go_at_call 17; refine (HV.out _ st.keep).mono ?_; rintro _ _ ⟨rfl, hk⟩; replace st := st.call hk; clear hk) | (go_at_call 53; refine (HD.out _ st.keep).mono ?_; rintro _ _ ⟨rfl, hk⟩; replace st := st.call hk; clear hk))
    go_ret3
    exact ⟨rfl, st.keep⟩
  · rw [q] at HV
    rw [if_neg (by rw [q]; decide), if_neg (by rw [q]; decide), if_neg (by rw [q]; decide)]
    go_enter Try.func19, Try.ntmps19
    go_wp2_with (first | (go_at_call 17; refine (HV.out _ st.keep).mono ?_; rintro _ _ ⟨rfl, hk⟩; replace st := st.call hk; clear hk))
    go_ret3
    exact ⟨rfl, st.keep⟩
end Go.Proofs.Ytmndbmapepenjaa
