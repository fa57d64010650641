/- How long a sheet is, the page at a tick; no condition. -/
import Derived.Test.YtlljflmbnbjccaaTicks2
namespace Go.Proofs.Ytlljflmbnbjccaa
open Go.RowKit
set_option linter.unusedSimpArgs false
set_option linter.unusedVariables false
def slR (B : List Fm) (S : List Sh) : Int := if shtB B S = true then ((tkS S).length : Nat) else 0
def shC1 (B : List Fm) (S : List Sh) : Int := if shtB B S = true then 0 else 1
theorem specSheetLength_c (B : List Fm) (n : Nat) (hB : B.length = n) (hn : n ≤ 1000000) (p : Option Addr) (c : Nat) (S : List Sh) (m : Nat) (hS : S.length = m) (hm : m ≤ 1000000) (h8 : R8 S) (p' : Option Addr) (c' : Nat) (w : World) (hr : Rd w p n (encs fv B)) (hr' : Rd w p' m (encs p8 S)) :
    Calls Try.prog 27 #[.slice p n c, .slice p' m c'] w fun e w' => e = .returned (.tuple #[.int .i64 (slR B S), .int .i64 (shC1 B S)]) ∧ Keep [] w w' := by
  have st := St.start w
  have HV := hid (fun w' (hk : Keep [] w w') => l02Sheet_c B n hB hn p c S m hS hm h8 p' c' w' (hr.keep hk) (hr'.keep hk))
  unfold slR shC1
  rcases Bool.eq_false_or_eq_true (shtB B S) with q | q
  · rw [q] at HV
    rw [if_pos q, if_pos q]
    obtain ⟨hsh, hm80, _⟩ := shtB_sh q
    rw [hS] at hm80
    have HT := hid (fun w' (hk : Keep [] w w') => l02Shown_c S m hS hm80 h8 B.length hsh p' c' w' (hr'.keep hk))
    go_enter Try.func27, Try.ntmps27
    go_wp2_with (first | (go_at_call 42; refine (HV.out _ st.keep).mono ?_; rintro _ _ ⟨rfl, hk⟩; replace st := st.call hk; clear hk) | (go_at_call 56; refine (HT.out _ st.keep).mono ?_; rintro _ _ ⟨v, rfl, ⟨g, cap, spare, rfl, hg, hbg, hcap, hcm⟩, hk⟩; replace st := st.adopt hk hg hbg; clear hk hg hbg))
    go_ret2
    exact ⟨rfl, st.keep⟩
  · rw [q] at HV
    rw [if_neg (by rw [q]; decide), if_neg (by rw [q]; decide)]
    go_enter Try.func27, Try.ntmps27
    go_wp2_with (first | (go_at_call 42; refine (HV.out _ st.keep).mono ?_; rintro _ _ ⟨rfl, hk⟩; replace st := st.call hk; clear hk))
    go_ret2
    exact ⟨rfl, st.keep⟩
theorem SheetLength_c (B : List Fm) (n : Nat) (hB : B.length = n) (hn : n ≤ 1000000) (p : Option Addr) (c : Nat) (S : List Sh) (m : Nat) (hS : S.length = m) (hm : m ≤ 1000000) (h8 : R8 S) (p' : Option Addr) (c' : Nat) (w : World) (hr : Rd w p n (encs fv B)) (hr' : Rd w p' m (encs p8 S)) :
    Calls Try.prog 28 #[.slice p n c, .slice p' m c'] w fun e w' => e = .returned (.tuple #[.int .i64 (slR B S), .int .i64 (shC1 B S)]) ∧ Keep [] w w' := by
  have st := St.start w
  have HV := hid (fun w' (hk : Keep [] w w') => ValidSheet_c B n hB hn p c S m hS hm h8 p' c' w' (hr.keep hk) (hr'.keep hk))
  unfold slR shC1
  rcases Bool.eq_false_or_eq_true (shtB B S) with q | q
  · rw [q] at HV
    rw [if_pos q, if_pos q]
    obtain ⟨hsh, hm80, _⟩ := shtB_sh q
    rw [hS] at hm80
    have HT := hid (fun w' (hk : Keep [] w w') => ticks_c S m hS hm80 h8 B.length hsh p' c' w' (hr'.keep hk))
    go_enter Try.func28, Try.ntmps28
    go_wp2_with (first | (go_at_call 16; refine (HV.out _ st.keep).mono ?_; rintro _ _ ⟨rfl, hk⟩; replace st := st.call hk; clear hk) | (go_at_call 58; refine (HT.out _ st.keep).mono ?_; rintro _ _ ⟨v, rfl, ⟨g, cap, spare, rfl, hg, hbg, hcap, hcm⟩, hk⟩; replace st := st.adopt hk hg hbg; clear hk hg hbg) | (go_at_call 57; refine (length_c _ _ _ _).mono ?_; rintro _ _ ⟨rfl, hk⟩; replace st := st.call hk; clear hk))
    go_ret2
    exact ⟨rfl, st.keep⟩
  · rw [q] at HV
    rw [if_neg (by rw [q]; decide), if_neg (by rw [q]; decide)]
    go_enter Try.func28, Try.ntmps28
    go_wp2_with (first | (go_at_call 16; refine (HV.out _ st.keep).mono ?_; rintro _ _ ⟨rfl, hk⟩; replace st := st.call hk; clear hk))
    go_ret2
    exact ⟨rfl, st.keep⟩
/-- The page at a tick, and the code. -/
def paC (B : List Fm) (S : List Sh) (i : Int) : Int := if shtB B S = true then (if inB i 0 (((tkS S).length : Nat) - 1) = true then 0 else 2) else 1
def paR (B : List Fm) (S : List Sh) (i : Int) : Int := if paC B S i = 0 then (tkS S).getD i.toNat 0 else 0
theorem getD_get2 {α : Type} {B : List α} {k : Nat} {d : α} (hk : k < B.length) : B.getD k d = B[k] := by
  rw [List.getD_eq_getElem?_getD, List.getElem?_eq_getElem hk]; rfl
theorem paC1 {B : List Fm} {S : List Sh} {i : Int} (h : shtB B S = false) : paC B S i = 1 := by unfold paC; rw [if_neg (by rw [h]; decide)]
theorem paC2 {B : List Fm} {S : List Sh} {i : Int} (h : shtB B S = true) (h2 : inB i 0 (((tkS S).length : Nat) - 1) = false) : paC B S i = 2 := by unfold paC; rw [if_pos h, if_neg (by rw [h2]; decide)]
theorem paC0 {B : List Fm} {S : List Sh} {i : Int} (h : shtB B S = true) (h2 : inB i 0 (((tkS S).length : Nat) - 1) = true) : paC B S i = 0 := by unfold paC; rw [if_pos h, if_pos h2]
theorem paR_n {B : List Fm} {S : List Sh} {i : Int} (h : paC B S i ≠ 0) : paR B S i = 0 := by unfold paR; rw [if_neg h]
theorem paR_0 {B : List Fm} {S : List Sh} {i : Int} (h : paC B S i = 0) : paR B S i = (tkS S).getD i.toNat 0 := by unfold paR; rw [if_pos h]
theorem specPageAt_c (B : List Fm) (n : Nat) (hB : B.length = n) (hn : n ≤ 1000000) (p : Option Addr) (c : Nat) (S : List Sh) (m : Nat) (hS : S.length = m) (hm : m ≤ 1000000) (h8 : R8 S) (p' : Option Addr) (c' : Nat) (i : Int) (w : World) (hr : Rd w p n (encs fv B)) (hr' : Rd w p' m (encs p8 S)) :
    Calls Try.prog 29 #[.slice p n c, .slice p' m c', .int .i64 i] w fun e w' => e = .returned (.tuple #[.int .i64 (paR B S i), .int .i64 (paC B S i)]) ∧ Keep [] w w' := by
  have st := St.start w
  have HV := hid (fun w' (hk : Keep [] w w') => l02Sheet_c B n hB hn p c S m hS hm h8 p' c' w' (hr.keep hk) (hr'.keep hk))
  rcases Bool.eq_false_or_eq_true (shtB B S) with q | q
  · rw [q] at HV
    obtain ⟨hsh, hm80, _⟩ := shtB_sh q
    rw [hS] at hm80
    have HT := hid (fun w' (hk : Keep [] w w') => l02Shown_c S m hS hm80 h8 B.length hsh p' c' w' (hr'.keep hk))
    have HL := tkS_length hsh
    rw [hS] at HL
    obtain ⟨N, hN⟩ : ∃ N, (tkS S).length = N := ⟨_, rfl⟩
    have HA := hid (l00In_c i 0 ((N : Int) - 1))
    rcases Bool.eq_false_or_eq_true (inB i 0 ((N : Int) - 1)) with q1 | q1
    · have hc0 := paC0 (i := i) q (by rw [hN]; exact q1)
      rw [paR_0 hc0, hc0]
      rw [q1] at HA
      have hi := inB_iff q1
      obtain ⟨j, rfl⟩ : ∃ j : Nat, i = j := ⟨i.toNat, by omega⟩
      have hj : j < N := by omega
      have hjT : j < (tkS S).length := by omega
      have HG : Hid ((tkS S).getD (((j : Nat) : Int).toNat) 0 = (tkS S)[j]) := hid (by rw [Int.toNat_natCast, getD_get2 hjT])
      rw [HG.out]
      have N0 : ∀ sp : List Value, (encs i1 (tkS S) ++ sp)[j]? = some (.int .i64 (tkS S)[j]) := fun sp => by have := encs_getA i1_len (tkS S) sp j hjT 0 (by omega); simpa [i1] using this
      obtain ⟨y, hy⟩ : ∃ y, (tkS S)[j] = y := ⟨_, rfl⟩
      rw [hy] at N0 ⊢
      rw [hN] at HT HL
      clear hy HG hc0 q1 hi hsh hB hr hr' hS
      go_enter Try.func29, Try.ntmps29
      go_wp2_with (first | (go_at_call 42; refine (HV.out _ st.keep).mono ?_; rintro _ _ ⟨rfl, hk⟩; replace st := st.call hk; clear hk) | (go_at_call 56; refine (HT.out _ st.keep).mono ?_; rintro _ _ ⟨v, rfl, ⟨g, cap, spare, rfl, hg, hbg, hcap, hcm⟩, hk⟩; replace st := st.adopt hk hg hbg; clear hk hg hbg); (have N0 := hid (N0 spare)); (have N1 := hid (show (encs i1 (tkS S) ++ spare)[0 + j * 1]? = some (Value.int .i64 y) by rw [Nat.mul_one, Nat.zero_add]; exact N0.out)) | (go_at_call 53; refine (HA.out _).mono ?_; rintro _ _ ⟨rfl, hk⟩; replace st := st.call hk; clear hk) | ((with_reducible refine gate_lst ?_); (first | ((with_reducible refine gate_load rfl ?_); (first | (refine' ia_load1 st rfl rfl rfl ?_ ?_; rotate_left 1; (focus (first | exact N0.out | exact N1.out | exact N2.out | exact N3.out | exact N4.out | exact N5.out | exact G2.out | exact G3.out | exact G4.out | exact G0.out | exact G1.out | (refine frv_get _ _ ?_; (first | omega | (simp; done) | (simp; omega) | (simp [*]; omega))) | exact rfl))) | (refine' ia_load1Z (hb.keep st.keep (by simp)) rfl rfl rfl ?_ ?_; rotate_left 1; (focus exact rfl)) | (refine' ia_load1Z (hb'.keep st.keep (by simp)) rfl rfl rfl ?_ ?_; rotate_left 1; (focus exact rfl)) | (refine' ia_load1C (hb.keep st.keep (by simp)) rfl rfl rfl ?_ ?_; rotate_left 1; (focus (first | exact N0.out | exact N1.out | exact N2.out | exact N3.out | exact N4.out | exact N5.out | exact G2.out | exact G3.out | exact G4.out | exact G0.out | exact G1.out | (refine frv_get _ _ ?_; (first | omega | (simp; done) | (simp; omega) | (simp [*]; omega))) | exact rfl))) | (refine' ia_load1C (hb'.keep st.keep (by simp)) rfl rfl rfl ?_ ?_; rotate_left 1; (focus (first | exact N0.out | exact N1.out | exact N2.out | exact N3.out | exact N4.out | exact N5.out | exact G2.out | exact G3.out | exact G4.out | exact G0.out | exact G1.out | (refine frv_get _ _ ?_; (first | omega | (simp; done) | (simp; omega) | (simp [*]; omega))) | exact rfl))) | (refine' ia_load1B (hb1.keep st.keep (by simp)) rfl rfl rfl ?_ ?_; rotate_left 1; (focus (first | exact N0.out | exact N1.out | exact N2.out | exact N3.out | exact N4.out | exact N5.out | exact G2.out | exact G3.out | exact G4.out | exact G0.out | exact G1.out | (refine frv_get _ _ ?_; (first | omega | (simp; done) | (simp; omega) | (simp [*]; omega))) | exact rfl))) | (refine' ia_load1B (hb2.keep st.keep (by simp)) rfl rfl rfl ?_ ?_; rotate_left 1; (focus (first | exact N0.out | exact N1.out | exact N2.out | exact N3.out | exact N4.out | exact N5.out | exact G2.out | exact G3.out | exact G4.out | exact G0.out | exact G1.out | (refine frv_get _ _ ?_; (first | omega | (simp; done) | (simp; omega) | (simp [*]; omega))) | exact rfl))))) | ((with_reducible refine gate_addr rfl ?_); (first | (refine' ia_slcP HP.out rfl rfl rfl rfl ?_ ?_ ?_) | (refine' ia_slcP HP2.out rfl rfl rfl rfl ?_ ?_ ?_)); rotate_left 1; (focus (first | exact (rfl : (0 : Int) = ((0 : Nat) : Int)) | exact (rfl : (1 : Int) = ((1 : Nat) : Int)) | exact rfl | exact HE1.out | exact HE2.out)); (focus (first | omega | (simp; done) | (simp; omega) | (simp [*]; omega)))))))
      go_ret2
      exact ⟨rfl, st.keep⟩
    · have hc2 := paC2 (i := i) q (by rw [hN]; exact q1)
      rw [paR_n (by rw [hc2]; decide), hc2]
      rw [q1] at HA
      rw [hN] at HT HL
      go_enter Try.func29, Try.ntmps29
      go_wp2_with (first | (go_at_call 42; refine (HV.out _ st.keep).mono ?_; rintro _ _ ⟨rfl, hk⟩; replace st := st.call hk; clear hk) | (go_at_call 56; refine (HT.out _ st.keep).mono ?_; rintro _ _ ⟨v, rfl, ⟨g, cap, spare, rfl, hg, hbg, hcap, hcm⟩, hk⟩; replace st := st.adopt hk hg hbg; clear hk hg hbg) | (go_at_call 53; refine (HA.out _).mono ?_; rintro _ _ ⟨rfl, hk⟩; replace st := st.call hk; clear hk) | ((with_reducible refine gate_lst ?_); (first | ((with_reducible refine gate_load rfl ?_); (first | (refine' ia_load1 st rfl rfl rfl ?_ ?_; rotate_left 1; (focus (first | exact N0.out | exact N1.out | exact N2.out | exact N3.out | exact N4.out | exact N5.out | exact G2.out | exact G3.out | exact G4.out | exact G0.out | exact G1.out | (refine frv_get _ _ ?_; (first | omega | (simp; done) | (simp; omega) | (simp [*]; omega))) | exact rfl))) | (refine' ia_load1Z (hb.keep st.keep (by simp)) rfl rfl rfl ?_ ?_; rotate_left 1; (focus exact rfl)) | (refine' ia_load1Z (hb'.keep st.keep (by simp)) rfl rfl rfl ?_ ?_; rotate_left 1; (focus exact rfl)) | (refine' ia_load1C (hb.keep st.keep (by simp)) rfl rfl rfl ?_ ?_; rotate_left 1; (focus (first | exact N0.out | exact N1.out | exact N2.out | exact N3.out | exact N4.out | exact N5.out | exact G2.out | exact G3.out | exact G4.out | exact G0.out | exact G1.out | (refine frv_get _ _ ?_; (first | omega | (simp; done) | (simp; omega) | (simp [*]; omega))) | exact rfl))) | (refine' ia_load1C (hb'.keep st.keep (by simp)) rfl rfl rfl ?_ ?_; rotate_left 1; (focus (first | exact N0.out | exact N1.out | exact N2.out | exact N3.out | exact N4.out | exact N5.out | exact G2.out | exact G3.out | exact G4.out | exact G0.out | exact G1.out | (refine frv_get _ _ ?_; (first | omega | (simp; done) | (simp; omega) | (simp [*]; omega))) | exact rfl))) | (refine' ia_load1B (hb1.keep st.keep (by simp)) rfl rfl rfl ?_ ?_; rotate_left 1; (focus (first | exact N0.out | exact N1.out | exact N2.out | exact N3.out | exact N4.out | exact N5.out | exact G2.out | exact G3.out | exact G4.out | exact G0.out | exact G1.out | (refine frv_get _ _ ?_; (first | omega | (simp; done) | (simp; omega) | (simp [*]; omega))) | exact rfl))) | (refine' ia_load1B (hb2.keep st.keep (by simp)) rfl rfl rfl ?_ ?_; rotate_left 1; (focus (first | exact N0.out | exact N1.out | exact N2.out | exact N3.out | exact N4.out | exact N5.out | exact G2.out | exact G3.out | exact G4.out | exact G0.out | exact G1.out | (refine frv_get _ _ ?_; (first | omega | (simp; done) | (simp; omega) | (simp [*]; omega))) | exact rfl))))) | ((with_reducible refine gate_addr rfl ?_); (first | (refine' ia_slcP HP.out rfl rfl rfl rfl ?_ ?_ ?_) | (refine' ia_slcP HP2.out rfl rfl rfl rfl ?_ ?_ ?_)); rotate_left 1; (focus (first | exact (rfl : (0 : Int) = ((0 : Nat) : Int)) | exact (rfl : (1 : Int) = ((1 : Nat) : Int)) | exact rfl | exact HE1.out | exact HE2.out)); (focus (first | omega | (simp; done) | (simp; omega) | (simp [*]; omega)))))))
      go_ret2
      exact ⟨rfl, st.keep⟩
  · rw [q] at HV
    have hc1 := paC1 (i := i) q
    rw [paR_n (by rw [hc1]; decide), hc1]
    go_enter Try.func29, Try.ntmps29
    go_wp2_with (first | (go_at_call 42; refine (HV.out _ st.keep).mono ?_; rintro _ _ ⟨rfl, hk⟩; replace st := st.call hk; clear hk) | ((with_reducible refine gate_lst ?_); (first | ((with_reducible refine gate_load rfl ?_); (first | (refine' ia_load1 st rfl rfl rfl ?_ ?_; rotate_left 1; (focus (first | exact N0.out | exact N1.out | exact N2.out | exact N3.out | exact N4.out | exact N5.out | exact G2.out | exact G3.out | exact G4.out | exact G0.out | exact G1.out | (refine frv_get _ _ ?_; (first | omega | (simp; done) | (simp; omega) | (simp [*]; omega))) | exact rfl))) | (refine' ia_load1Z (hb.keep st.keep (by simp)) rfl rfl rfl ?_ ?_; rotate_left 1; (focus exact rfl)) | (refine' ia_load1Z (hb'.keep st.keep (by simp)) rfl rfl rfl ?_ ?_; rotate_left 1; (focus exact rfl)) | (refine' ia_load1C (hb.keep st.keep (by simp)) rfl rfl rfl ?_ ?_; rotate_left 1; (focus (first | exact N0.out | exact N1.out | exact N2.out | exact N3.out | exact N4.out | exact N5.out | exact G2.out | exact G3.out | exact G4.out | exact G0.out | exact G1.out | (refine frv_get _ _ ?_; (first | omega | (simp; done) | (simp; omega) | (simp [*]; omega))) | exact rfl))) | (refine' ia_load1C (hb'.keep st.keep (by simp)) rfl rfl rfl ?_ ?_; rotate_left 1; (focus (first | exact N0.out | exact N1.out | exact N2.out | exact N3.out | exact N4.out | exact N5.out | exact G2.out | exact G3.out | exact G4.out | exact G0.out | exact G1.out | (refine frv_get _ _ ?_; (first | omega | (simp; done) | (simp; omega) | (simp [*]; omega))) | exact rfl))) | (refine' ia_load1B (hb1.keep st.keep (by simp)) rfl rfl rfl ?_ ?_; rotate_left 1; (focus (first | exact N0.out | exact N1.out | exact N2.out | exact N3.out | exact N4.out | exact N5.out | exact G2.out | exact G3.out | exact G4.out | exact G0.out | exact G1.out | (refine frv_get _ _ ?_; (first | omega | (simp; done) | (simp; omega) | (simp [*]; omega))) | exact rfl))) | (refine' ia_load1B (hb2.keep st.keep (by simp)) rfl rfl rfl ?_ ?_; rotate_left 1; (focus (first | exact N0.out | exact N1.out | exact N2.out | exact N3.out | exact N4.out | exact N5.out | exact G2.out | exact G3.out | exact G4.out | exact G0.out | exact G1.out | (refine frv_get _ _ ?_; (first | omega | (simp; done) | (simp; omega) | (simp [*]; omega))) | exact rfl))))) | ((with_reducible refine gate_addr rfl ?_); (first | (refine' ia_slcP HP.out rfl rfl rfl rfl ?_ ?_ ?_) | (refine' ia_slcP HP2.out rfl rfl rfl rfl ?_ ?_ ?_)); rotate_left 1; (focus (first | exact (rfl : (0 : Int) = ((0 : Nat) : Int)) | exact (rfl : (1 : Int) = ((1 : Nat) : Int)) | exact rfl | exact HE1.out | exact HE2.out)); (focus (first | omega | (simp; done) | (simp; omega) | (simp [*]; omega)))))))
    go_ret2
    exact ⟨rfl, st.keep⟩
theorem PageAt_c (B : List Fm) (n : Nat) (hB : B.length = n) (hn : n ≤ 1000000) (p : Option Addr) (c : Nat) (S : List Sh) (m : Nat) (hS : S.length = m) (hm : m ≤ 1000000) (h8 : R8 S) (p' : Option Addr) (c' : Nat) (i : Int) (w : World) (hr : Rd w p n (encs fv B)) (hr' : Rd w p' m (encs p8 S)) :
    Calls Try.prog 30 #[.slice p n c, .slice p' m c', .int .i64 i] w fun e w' => e = .returned (.tuple #[.int .i64 (paR B S i), .int .i64 (paC B S i)]) ∧ Keep [] w w' := by
  have st := St.start w
  have HV := hid (fun w' (hk : Keep [] w w') => ValidSheet_c B n hB hn p c S m hS hm h8 p' c' w' (hr.keep hk) (hr'.keep hk))
  rcases Bool.eq_false_or_eq_true (shtB B S) with q | q
  · rw [q] at HV
    obtain ⟨hsh, hm80, _⟩ := shtB_sh q
    rw [hS] at hm80
    have HT := hid (fun w' (hk : Keep [] w w') => ticks_c S m hS hm80 h8 B.length hsh p' c' w' (hr'.keep hk))
    have HL := tkS_length hsh
    rw [hS] at HL
    obtain ⟨N, hN⟩ : ∃ N, (tkS S).length = N := ⟨_, rfl⟩
    have HA := hid (inRange_c i 0 ((N : Int) - 1))
    rcases Bool.eq_false_or_eq_true (inB i 0 ((N : Int) - 1)) with q1 | q1
    · have hc0 := paC0 (i := i) q (by rw [hN]; exact q1)
      rw [paR_0 hc0, hc0]
      rw [q1] at HA
      have hi := inB_iff q1
      obtain ⟨j, rfl⟩ : ∃ j : Nat, i = j := ⟨i.toNat, by omega⟩
      have hj : j < N := by omega
      have hjT : j < (tkS S).length := by omega
      have HG : Hid ((tkS S).getD (((j : Nat) : Int).toNat) 0 = (tkS S)[j]) := hid (by rw [Int.toNat_natCast, getD_get2 hjT])
      rw [HG.out]
      have N0 : ∀ sp : List Value, (encs i1 (tkS S) ++ sp)[j]? = some (.int .i64 (tkS S)[j]) := fun sp => by have := encs_getA i1_len (tkS S) sp j hjT 0 (by omega); simpa [i1] using this
      obtain ⟨y, hy⟩ : ∃ y, (tkS S)[j] = y := ⟨_, rfl⟩
      rw [hy] at N0 ⊢
      rw [hN] at HT HL
      clear hy HG hc0 q1 hi hsh hB hr hr' hS
      go_enter Try.func30, Try.ntmps30
      go_wp2_with (first | (go_at_call 16; refine (HV.out _ st.keep).mono ?_; rintro _ _ ⟨rfl, hk⟩; replace st := st.call hk; clear hk) | (go_at_call 58; refine (HT.out _ st.keep).mono ?_; rintro _ _ ⟨v, rfl, ⟨g, cap, spare, rfl, hg, hbg, hcap, hcm⟩, hk⟩; replace st := st.adopt hk hg hbg; clear hk hg hbg); (have N0 := hid (N0 spare)); (have N1 := hid (show (encs i1 (tkS S) ++ spare)[0 + j * 1]? = some (Value.int .i64 y) by rw [Nat.mul_one, Nat.zero_add]; exact N0.out)) | (go_at_call 55; refine (HA.out _).mono ?_; rintro _ _ ⟨rfl, hk⟩; replace st := st.call hk; clear hk) | (go_at_call 57; refine (length_c _ _ _ _).mono ?_; rintro _ _ ⟨rfl, hk⟩; replace st := st.call hk; clear hk) | ((with_reducible refine gate_lst ?_); (first | ((with_reducible refine gate_load rfl ?_); (first | (refine' ia_load1 st rfl rfl rfl ?_ ?_; rotate_left 1; (focus (first | exact N0.out | exact N1.out | exact N2.out | exact N3.out | exact N4.out | exact N5.out | exact G2.out | exact G3.out | exact G4.out | exact G0.out | exact G1.out | (refine frv_get _ _ ?_; (first | omega | (simp; done) | (simp; omega) | (simp [*]; omega))) | exact rfl))) | (refine' ia_load1Z (hb.keep st.keep (by simp)) rfl rfl rfl ?_ ?_; rotate_left 1; (focus exact rfl)) | (refine' ia_load1Z (hb'.keep st.keep (by simp)) rfl rfl rfl ?_ ?_; rotate_left 1; (focus exact rfl)) | (refine' ia_load1C (hb.keep st.keep (by simp)) rfl rfl rfl ?_ ?_; rotate_left 1; (focus (first | exact N0.out | exact N1.out | exact N2.out | exact N3.out | exact N4.out | exact N5.out | exact G2.out | exact G3.out | exact G4.out | exact G0.out | exact G1.out | (refine frv_get _ _ ?_; (first | omega | (simp; done) | (simp; omega) | (simp [*]; omega))) | exact rfl))) | (refine' ia_load1C (hb'.keep st.keep (by simp)) rfl rfl rfl ?_ ?_; rotate_left 1; (focus (first | exact N0.out | exact N1.out | exact N2.out | exact N3.out | exact N4.out | exact N5.out | exact G2.out | exact G3.out | exact G4.out | exact G0.out | exact G1.out | (refine frv_get _ _ ?_; (first | omega | (simp; done) | (simp; omega) | (simp [*]; omega))) | exact rfl))) | (refine' ia_load1B (hb1.keep st.keep (by simp)) rfl rfl rfl ?_ ?_; rotate_left 1; (focus (first | exact N0.out | exact N1.out | exact N2.out | exact N3.out | exact N4.out | exact N5.out | exact G2.out | exact G3.out | exact G4.out | exact G0.out | exact G1.out | (refine frv_get _ _ ?_; (first | omega | (simp; done) | (simp; omega) | (simp [*]; omega))) | exact rfl))) | (refine' ia_load1B (hb2.keep st.keep (by simp)) rfl rfl rfl ?_ ?_; rotate_left 1; (focus (first | exact N0.out | exact N1.out | exact N2.out | exact N3.out | exact N4.out | exact N5.out | exact G2.out | exact G3.out | exact G4.out | exact G0.out | exact G1.out | (refine frv_get _ _ ?_; (first | omega | (simp; done) | (simp; omega) | (simp [*]; omega))) | exact rfl))))) | ((with_reducible refine gate_addr rfl ?_); (first | (refine' ia_slcP HP.out rfl rfl rfl rfl ?_ ?_ ?_) | (refine' ia_slcP HP2.out rfl rfl rfl rfl ?_ ?_ ?_)); rotate_left 1; (focus (first | exact (rfl : (0 : Int) = ((0 : Nat) : Int)) | exact (rfl : (1 : Int) = ((1 : Nat) : Int)) | exact rfl | exact HE1.out | exact HE2.out)); (focus (first | omega | (simp; done) | (simp; omega) | (simp [*]; omega)))))))
      go_ret2
      exact ⟨rfl, st.keep⟩
    · have hc2 := paC2 (i := i) q (by rw [hN]; exact q1)
      rw [paR_n (by rw [hc2]; decide), hc2]
      rw [q1] at HA
      rw [hN] at HT HL
      go_enter Try.func30, Try.ntmps30
      go_wp2_with (first | (go_at_call 16; refine (HV.out _ st.keep).mono ?_; rintro _ _ ⟨rfl, hk⟩; replace st := st.call hk; clear hk) | (go_at_call 58; refine (HT.out _ st.keep).mono ?_; rintro _ _ ⟨v, rfl, ⟨g, cap, spare, rfl, hg, hbg, hcap, hcm⟩, hk⟩; replace st := st.adopt hk hg hbg; clear hk hg hbg) | (go_at_call 55; refine (HA.out _).mono ?_; rintro _ _ ⟨rfl, hk⟩; replace st := st.call hk; clear hk) | (go_at_call 57; refine (length_c _ _ _ _).mono ?_; rintro _ _ ⟨rfl, hk⟩; replace st := st.call hk; clear hk) | ((with_reducible refine gate_lst ?_); (first | ((with_reducible refine gate_load rfl ?_); (first | (refine' ia_load1 st rfl rfl rfl ?_ ?_; rotate_left 1; (focus (first | exact N0.out | exact N1.out | exact N2.out | exact N3.out | exact N4.out | exact N5.out | exact G2.out | exact G3.out | exact G4.out | exact G0.out | exact G1.out | (refine frv_get _ _ ?_; (first | omega | (simp; done) | (simp; omega) | (simp [*]; omega))) | exact rfl))) | (refine' ia_load1Z (hb.keep st.keep (by simp)) rfl rfl rfl ?_ ?_; rotate_left 1; (focus exact rfl)) | (refine' ia_load1Z (hb'.keep st.keep (by simp)) rfl rfl rfl ?_ ?_; rotate_left 1; (focus exact rfl)) | (refine' ia_load1C (hb.keep st.keep (by simp)) rfl rfl rfl ?_ ?_; rotate_left 1; (focus (first | exact N0.out | exact N1.out | exact N2.out | exact N3.out | exact N4.out | exact N5.out | exact G2.out | exact G3.out | exact G4.out | exact G0.out | exact G1.out | (refine frv_get _ _ ?_; (first | omega | (simp; done) | (simp; omega) | (simp [*]; omega))) | exact rfl))) | (refine' ia_load1C (hb'.keep st.keep (by simp)) rfl rfl rfl ?_ ?_; rotate_left 1; (focus (first | exact N0.out | exact N1.out | exact N2.out | exact N3.out | exact N4.out | exact N5.out | exact G2.out | exact G3.out | exact G4.out | exact G0.out | exact G1.out | (refine frv_get _ _ ?_; (first | omega | (simp; done) | (simp; omega) | (simp [*]; omega))) | exact rfl))) | (refine' ia_load1B (hb1.keep st.keep (by simp)) rfl rfl rfl ?_ ?_; rotate_left 1; (focus (first | exact N0.out | exact N1.out | exact N2.out | exact N3.out | exact N4.out | exact N5.out | exact G2.out | exact G3.out | exact G4.out | exact G0.out | exact G1.out | (refine frv_get _ _ ?_; (first | omega | (simp; done) | (simp; omega) | (simp [*]; omega))) | exact rfl))) | (refine' ia_load1B (hb2.keep st.keep (by simp)) rfl rfl rfl ?_ ?_; rotate_left 1; (focus (first | exact N0.out | exact N1.out | exact N2.out | exact N3.out | exact N4.out | exact N5.out | exact G2.out | exact G3.out | exact G4.out | exact G0.out | exact G1.out | (refine frv_get _ _ ?_; (first | omega | (simp; done) | (simp; omega) | (simp [*]; omega))) | exact rfl))))) | ((with_reducible refine gate_addr rfl ?_); (first | (refine' ia_slcP HP.out rfl rfl rfl rfl ?_ ?_ ?_) | (refine' ia_slcP HP2.out rfl rfl rfl rfl ?_ ?_ ?_)); rotate_left 1; (focus (first | exact (rfl : (0 : Int) = ((0 : Nat) : Int)) | exact (rfl : (1 : Int) = ((1 : Nat) : Int)) | exact rfl | exact HE1.out | exact HE2.out)); (focus (first | omega | (simp; done) | (simp; omega) | (simp [*]; omega)))))))
      go_ret2
      exact ⟨rfl, st.keep⟩
  · rw [q] at HV
    have hc1 := paC1 (i := i) q
    rw [paR_n (by rw [hc1]; decide), hc1]
    go_enter Try.func30, Try.ntmps30
    go_wp2_with (first | (go_at_call 16; refine (HV.out _ st.keep).mono ?_; rintro _ _ ⟨rfl, hk⟩; replace st := st.call hk; clear hk) | ((with_reducible refine gate_lst ?_); (first | ((with_reducible refine gate_load rfl ?_); (first | (refine' ia_load1 st rfl rfl rfl ?_ ?_; rotate_left 1; (focus (first | exact N0.out | exact N1.out | exact N2.out | exact N3.out | exact N4.out | exact N5.out | exact G2.out | exact G3.out | exact G4.out | exact G0.out | exact G1.out | (refine frv_get _ _ ?_; (first | omega | (simp; done) | (simp; omega) | (simp [*]; omega))) | exact rfl))) | (refine' ia_load1Z (hb.keep st.keep (by simp)) rfl rfl rfl ?_ ?_; rotate_left 1; (focus exact rfl)) | (refine' ia_load1Z (hb'.keep st.keep (by simp)) rfl rfl rfl ?_ ?_; rotate_left 1; (focus exact rfl)) | (refine' ia_load1C (hb.keep st.keep (by simp)) rfl rfl rfl ?_ ?_; rotate_left 1; (focus (first | exact N0.out | exact N1.out | exact N2.out | exact N3.out | exact N4.out | exact N5.out | exact G2.out | exact G3.out | exact G4.out | exact G0.out | exact G1.out | (refine frv_get _ _ ?_; (first | omega | (simp; done) | (simp; omega) | (simp [*]; omega))) | exact rfl))) | (refine' ia_load1C (hb'.keep st.keep (by simp)) rfl rfl rfl ?_ ?_; rotate_left 1; (focus (first | exact N0.out | exact N1.out | exact N2.out | exact N3.out | exact N4.out | exact N5.out | exact G2.out | exact G3.out | exact G4.out | exact G0.out | exact G1.out | (refine frv_get _ _ ?_; (first | omega | (simp; done) | (simp; omega) | (simp [*]; omega))) | exact rfl))) | (refine' ia_load1B (hb1.keep st.keep (by simp)) rfl rfl rfl ?_ ?_; rotate_left 1; (focus (first | exact N0.out | exact N1.out | exact N2.out | exact N3.out | exact N4.out | exact N5.out | exact G2.out | exact G3.out | exact G4.out | exact G0.out | exact G1.out | (refine frv_get _ _ ?_; (first | omega | (simp; done) | (simp; omega) | (simp [*]; omega))) | exact rfl))) | (refine' ia_load1B (hb2.keep st.keep (by simp)) rfl rfl rfl ?_ ?_; rotate_left 1; (focus (first | exact N0.out | exact N1.out | exact N2.out | exact N3.out | exact N4.out | exact N5.out | exact G2.out | exact G3.out | exact G4.out | exact G0.out | exact G1.out | (refine frv_get _ _ ?_; (first | omega | (simp; done) | (simp; omega) | (simp [*]; omega))) | exact rfl))))) | ((with_reducible refine gate_addr rfl ?_); (first | (refine' ia_slcP HP.out rfl rfl rfl rfl ?_ ?_ ?_) | (refine' ia_slcP HP2.out rfl rfl rfl rfl ?_ ?_ ?_)); rotate_left 1; (focus (first | exact (rfl : (0 : Int) = ((0 : Nat) : Int)) | exact (rfl : (1 : Int) = ((1 : Nat) : Int)) | exact rfl | exact HE1.out | exact HE2.out)); (focus (first | omega | (simp; done) | (simp; omega) | (simp [*]; omega)))))))
    go_ret2
    exact ⟨rfl, st.keep⟩
end Go.Proofs.Ytlljflmbnbjccaa
