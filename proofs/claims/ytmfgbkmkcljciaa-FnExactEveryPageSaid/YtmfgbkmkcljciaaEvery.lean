/- Every so many pages: the reference and the program; no condition. -/
import Derived.Test.YtmfgbkmkcljciaaFro
namespace Go.Proofs.Ytmfgbkmkcljciaa
open Go.RowKit
set_option linter.unusedSimpArgs false
set_option linter.unusedVariables false

/-- The elements at f, f + s, .., k of them. -/
def evL (B : List Fm) (s f k : Nat) : List Fm := (List.range k).map fun t => B.getD (f + t * s) fz
theorem evL_length (B : List Fm) (s f k : Nat) : (evL B s f k).length = k := by simp [evL]
theorem evL_step (B : List Fm) (s f k : Nat) : evL B s f k ++ [B.getD (f + k * s) fz] = evL B s f (k + 1) := by simp [evL, List.range_succ]
/-- How many there are below n. -/
def evN (n s f : Nat) : Nat := (n - f + s - 1) / s
theorem evN_iff {n s f k : Nat} (hs : 0 < s) (hf : f < n) : f + k * s < n ↔ k < evN n s f := by
  unfold evN
  rw [Nat.lt_div_iff_mul_lt hs]
  have : s * k = k * s := Nat.mul_comm _ _
  omega
def evIn (n : Nat) (s f : Int) : Bool := inB s 1 40 && inB f 0 ((n : Int) - 1)
def evC (B : List Fm) (s f : Int) : Int := if bkB B = true then (if evIn B.length s f = true then 0 else 2) else 1
def evR (B : List Fm) (s f : Int) : List Fm := if evC B s f = 0 then evL B s.toNat f.toNat (evN B.length s.toNat f.toNat) else []
set_option maxHeartbeats 1000000 in
set_option maxRecDepth 100000 in
theorem specEvery_c (B : List Fm) (n : Nat) (hB : B.length = n) (hn : n ≤ 1000000) (p : Option Addr) (c : Nat) (i j : Int) (w : World) (hr : Rd w p n (encs fv B)) :
    Calls Try.prog 29 #[.slice p n c, .int .i64 i, .int .i64 j] w (BookCode (evR B i j) (evR B i j).length (evC B i j) False w) := by
  have st := St.start w
  rcases Bool.eq_false_or_eq_true (bkB B) with h | h
  · have HV := hid (fun w' hk => l02Ok_v h n hB (by omega) p c w' (hr.keep (w1 := w') hk))
    rcases Bool.eq_false_or_eq_true (evIn n i j) with h2 | h2
    · have hc0 : evC B i j = 0 := by unfold evC; rw [if_pos h, hB, if_pos h2]
      unfold evR
      rw [hc0, if_pos rfl, evL_length, hB]
      unfold evIn at h2
      rw [Bool.and_eq_true] at h2
      obtain ⟨q1, q2⟩ := h2
      have r1 := q1
      have r2 := q2
      unfold inB at r1 r2
      rw [decide_eq_true_eq] at r1 r2
      obtain ⟨s, rfl⟩ : ∃ s : Nat, i = s := ⟨i.toNat, by omega⟩
      obtain ⟨f, rfl⟩ : ∃ f : Nat, j = f := ⟨j.toNat, by omega⟩
      have hs0 : 0 < s := by omega
      have hs40 : s ≤ 40 := by omega
      have hfn : f < n := by omega
      simp only [Int.toNat_natCast]
      replace hB := hid hB
      obtain ⟨N, hN⟩ : ∃ N, evN n s f = N := ⟨_, rfl⟩
      have HN := hid (fun k => evN_iff (k := k) hs0 hfn)
      rw [hN] at HN ⊢
      clear hc0 h r1 r2 hN
      go_enter Try.func29, Try.ntmps29
      go_wp2_with (first | (go_at_call 58; refine (HV.out _ st.keep).mono ?_; rintro _ _ ⟨rfl, hk⟩; replace st := st.call hk; clear hk) | (go_at_call 60; (with_reducible refine (l00In_v q1 _).mono ?_); rintro _ _ ⟨rfl, hk⟩; replace st := st.call hk; clear hk) | (go_at_call 60; (with_reducible refine (l00In_v q2 _).mono ?_); rintro _ _ ⟨rfl, hk⟩; replace st := st.call hk; clear hk) | ((with_reducible refine gate_bsl rfl ?_); refine ia_bsl0 (sl := 26) st rfl rfl rfl ?_; clear st; intro B26 _ st) | ((with_reducible refine gate_lst ?_); (first | ((with_reducible refine' wpl_ung ?_ ?_ ?_); rotate_left 1; (focus exact rfl); (focus exact rfl)) | ((with_reducible refine gate_load rfl ?_); (first | (refine ia_loadAll st rfl rfl rfl ?_ ?_; (focus (first | rfl | (simp; done) | (simp; assumption) | (simp; omega) | (simp [*]; done)))) | (refine ia_loadC (hb.keep st.keep (by simp)) rfl rfl rfl ?_ ?_; (focus (first | rfl | (simp; done) | (simp; assumption) | (simp; omega) | (simp [*]; done)))) | (refine ia_loadC (hb'.keep st.keep (by simp)) rfl rfl rfl ?_ ?_; (focus (first | rfl | (simp; done) | (simp; assumption) | (simp; omega) | (simp [*]; done)))) | (refine ia_loadC (Cl.of (hb1.keep st.keep (by simp))) rfl rfl rfl ?_ ?_; (focus (first | rfl | (simp; done) | (simp; assumption) | (simp; omega) | (simp [*]; done)))) | (refine ia_loadC (Cl.of (hb2.keep st.keep (by simp))) rfl rfl rfl ?_ ?_; (focus (first | rfl | (simp; done) | (simp; assumption) | (simp; omega) | (simp [*]; done)))))) | ((with_reducible refine gate_addr rfl ?_); (first | (refine' ia_slcP HP.out rfl rfl rfl rfl ?_ ?_ ?_) | (refine' ia_slcP HP2.out rfl rfl rfl rfl ?_ ?_ ?_)); rotate_left 1; (focus (first | exact (rfl : (0 : Int) = ((0 : Nat) : Int)) | exact (rfl : (1 : Int) = ((1 : Nat) : Int)) | exact rfl)); (focus (first | omega | (simp; done) | (simp; omega) | (simp [*]; omega)))))))
      go_loopw [8, 9] (fun v i wr => ∃ k a : Nat, ∃ g cap : Nat, ∃ spare : List Value, k ≤ N ∧ Hid (a = f + k * s) ∧ a ≤ n + 40 ∧ i = .int .i64 a ∧ v = .slice (some ⟨g, 0, none⟩) k cap ∧ St [] w wr [(g, encs fv (evL B s f k) ++ spare, 52)] ∧ (encs fv (evL B s f k) ++ spare).length = cap * 12 ∧ cap ≤ maxLen ∧ k ≤ n) (fun _ i _ => n + 40 - (intOf i).toNat)
      case atStart => exact ⟨0, f, B26, 0, [], by omega, hid (by omega), by omega, rfl, rfl, st, rfl, Nat.zero_le _, by omega⟩
      case round =>
        clear st
        obtain ⟨k, a, g, cap, spare, hk, ha, han, rfl, rfl, st, hcap, hcm, hkn⟩ := hrel
        have HC := hid hcap
        clear hcap
        by_cases hlt : a < n
        · have hd : decide ((a : Int) < (n : Int)) = true := by simpa using hlt
          have HI : Hid (inB a 0 ((n : Int) - 1) = true) := hid (inB_yes (by omega) (by omega))
          have hkN : k < N := (HN.out k).1 (by have := ha.out; omega)
          have hkn2 : k + 1 ≤ n := by
            have h1 := ha.out
            have h2 : k * 1 ≤ k * s := Nat.mul_le_mul_left _ hs0
            omega
          obtain ⟨b, o, hp, hcl⟩ := hr (by omega)
          have HP := hid hp
          have hkB : a < B.length := by rw [hB.out]; exact hlt
          have hb := hcl.seg fv_len hkB
          have HS := hid (evL_step B s f k)
          have HX : B.getD (f + k * s) fz = B[a] := by rw [← ha.out, List.getD_eq_getElem?_getD, List.getElem?_eq_getElem hkB]; rfl
          rw [HX] at HS
          obtain ⟨x, hx⟩ : ∃ x, B[a] = x := ⟨_, rfl⟩
          rw [hx] at hb HS
          clear hx hp hcl hkB HX
          go_wp2_with (first | ((with_reducible refine gate_bsl rfl ?_); refine ia_bsl1 (sl := 40) st rfl rfl rfl rfl rfl ?_ (by decide) ?_; (focus (first | rfl | (simp; done) | (simp; assumption) | (simp; omega) | (simp [*]; done))); clear st; intro B40 _ st) | ((with_reducible refine gate_app rfl ?_); refine ia_appendR (news := (fv x)) (xs := (encs fv (evL B s f k))) (spare := spare) st rfl rfl rfl rfl (by rw [encs_fv_length, evL_length]) HC.out hcm (.fr (st.get (by repeat (first | exact At.here | apply At.there)))) (fun h => by cases h) (fv_len x) (fv_one x) (by unfold maxLen; omega) (by omega) ?_; clear st; intro g2 cap2 spare2 _ st hcap2 hcm2; (try simp only [List.set_cons_zero, List.set_cons_succ] at st)) | ((with_reducible refine gate_lst ?_); (first | ((with_reducible refine' wpl_ung ?_ ?_ ?_); rotate_left 1; (focus exact rfl); (focus exact rfl)) | ((with_reducible refine gate_load rfl ?_); (first | (refine ia_loadAll st rfl rfl rfl ?_ ?_; (focus (first | rfl | (simp; done) | (simp; assumption) | (simp; omega) | (simp [*]; done)))) | (refine ia_loadC (hb.keep st.keep (by simp)) rfl rfl rfl ?_ ?_; (focus (first | rfl | (simp; done) | (simp; assumption) | (simp; omega) | (simp [*]; done)))) | (refine ia_loadC (hb'.keep st.keep (by simp)) rfl rfl rfl ?_ ?_; (focus (first | rfl | (simp; done) | (simp; assumption) | (simp; omega) | (simp [*]; done)))) | (refine ia_loadC (Cl.of (hb1.keep st.keep (by simp))) rfl rfl rfl ?_ ?_; (focus (first | rfl | (simp; done) | (simp; assumption) | (simp; omega) | (simp [*]; done)))) | (refine ia_loadC (Cl.of (hb2.keep st.keep (by simp))) rfl rfl rfl ?_ ?_; (focus (first | rfl | (simp; done) | (simp; assumption) | (simp; omega) | (simp [*]; done)))))) | ((with_reducible refine gate_addr rfl ?_); (first | (refine' ia_slcP HP.out rfl rfl rfl rfl ?_ ?_ ?_) | (refine' ia_slcP HP2.out rfl rfl rfl rfl ?_ ?_ ?_)); rotate_left 1; (focus (first | exact (rfl : (0 : Int) = ((0 : Nat) : Int)) | exact (rfl : (1 : Int) = ((1 : Nat) : Int)) | exact rfl)); (focus (first | omega | (simp; done) | (simp; omega) | (simp [*]; omega)))))))
          have e : encs fv (evL B s f (k + 1)) = encs fv (evL B s f k) ++ fv x := by rw [← HS.out, encs_append]; simp [encs]
          go_roundw
          case rel => exact ⟨k + 1, a + s, g2, cap2, spare2, by omega, hid (by have := ha.out; rw [Nat.succ_mul]; omega), by omega, by go_num, rfl, by rw [e]; exact st.drop, by rw [e]; exact hcap2, hcm2, hkn2⟩
          case measure => first | (simp [intOf]; done) | (simp [intOf]; omega)
        · have hd : decide ((a : Int) < (n : Int)) = false := by simp; omega
          have HNI : Hid (inB a 0 ((n : Int) - 1) = false) := hid (inB_no2 (by omega))
          obtain rfl : k = N := by
            have h1 := ha.out
            have h2 : ¬ k < N := fun h => by have := (HN.out k).2 h; omega
            omega
          go_wp2_with (first | ((with_reducible refine gate_lst ?_); (first | ((with_reducible refine' wpl_ung ?_ ?_ ?_); rotate_left 1; (focus exact rfl); (focus exact rfl)) | ((with_reducible refine gate_load rfl ?_); (first | (refine ia_loadAll st rfl rfl rfl ?_ ?_; (focus (first | rfl | (simp; done) | (simp; assumption) | (simp; omega) | (simp [*]; done)))) | (refine ia_loadC (hb.keep st.keep (by simp)) rfl rfl rfl ?_ ?_; (focus (first | rfl | (simp; done) | (simp; assumption) | (simp; omega) | (simp [*]; done)))) | (refine ia_loadC (hb'.keep st.keep (by simp)) rfl rfl rfl ?_ ?_; (focus (first | rfl | (simp; done) | (simp; assumption) | (simp; omega) | (simp [*]; done)))) | (refine ia_loadC (Cl.of (hb1.keep st.keep (by simp))) rfl rfl rfl ?_ ?_; (focus (first | rfl | (simp; done) | (simp; assumption) | (simp; omega) | (simp [*]; done)))) | (refine ia_loadC (Cl.of (hb2.keep st.keep (by simp))) rfl rfl rfl ?_ ?_; (focus (first | rfl | (simp; done) | (simp; assumption) | (simp; omega) | (simp [*]; done)))))) | ((with_reducible refine gate_addr rfl ?_); (first | (refine' ia_slcP HP.out rfl rfl rfl rfl ?_ ?_ ?_) | (refine' ia_slcP HP2.out rfl rfl rfl rfl ?_ ?_ ?_)); rotate_left 1; (focus (first | exact (rfl : (0 : Int) = ((0 : Nat) : Int)) | exact (rfl : (1 : Int) = ((1 : Nat) : Int)) | exact rfl)); (focus (first | omega | (simp; done) | (simp; omega) | (simp [*]; omega)))))))
          go_ret2
          exact ⟨_, rfl, Or.inr ⟨g, cap, spare, rfl, out_of st .here, st.get .here, HC.out, hcm⟩, st.keep⟩
    · have hc2 : evC B i j = 2 := by unfold evC; rw [if_pos h, hB, if_neg (by rw [h2]; decide)]
      unfold evR
      rw [hc2, if_neg (by decide)]
      unfold evIn at h2
      clear hc2 h hB
      rcases Bool.eq_false_or_eq_true (inB i 1 40) with q1 | q1
      · have q2 : inB j 0 ((n : Int) - 1) = false := by rw [q1, Bool.true_and] at h2; exact h2
        clear h2
        go_enter Try.func29, Try.ntmps29
        go_wp2_with (first | (go_at_call 58; refine (HV.out _ st.keep).mono ?_; rintro _ _ ⟨rfl, hk⟩; replace st := st.call hk; clear hk) | (go_at_call 60; (with_reducible refine (l00In_v q1 _).mono ?_); rintro _ _ ⟨rfl, hk⟩; replace st := st.call hk; clear hk) | (go_at_call 60; (with_reducible refine (l00In_v q2 _).mono ?_); rintro _ _ ⟨rfl, hk⟩; replace st := st.call hk; clear hk) | ((with_reducible refine gate_bsl rfl ?_); refine ia_bsl0 (sl := 25) st rfl rfl rfl ?_; clear st; intro B25 _ st) | ((with_reducible refine gate_lst ?_); (first | ((with_reducible refine' wpl_ung ?_ ?_ ?_); rotate_left 1; (focus exact rfl); (focus exact rfl)) | ((with_reducible refine gate_load rfl ?_); (first | (refine ia_loadAll st rfl rfl rfl ?_ ?_; (focus (first | rfl | (simp; done) | (simp; assumption) | (simp; omega) | (simp [*]; done)))) | (refine ia_loadC (hb.keep st.keep (by simp)) rfl rfl rfl ?_ ?_; (focus (first | rfl | (simp; done) | (simp; assumption) | (simp; omega) | (simp [*]; done)))) | (refine ia_loadC (hb'.keep st.keep (by simp)) rfl rfl rfl ?_ ?_; (focus (first | rfl | (simp; done) | (simp; assumption) | (simp; omega) | (simp [*]; done)))) | (refine ia_loadC (Cl.of (hb1.keep st.keep (by simp))) rfl rfl rfl ?_ ?_; (focus (first | rfl | (simp; done) | (simp; assumption) | (simp; omega) | (simp [*]; done)))) | (refine ia_loadC (Cl.of (hb2.keep st.keep (by simp))) rfl rfl rfl ?_ ?_; (focus (first | rfl | (simp; done) | (simp; assumption) | (simp; omega) | (simp [*]; done)))))) | ((with_reducible refine gate_addr rfl ?_); (first | (refine' ia_slcP HP.out rfl rfl rfl rfl ?_ ?_ ?_) | (refine' ia_slcP HP2.out rfl rfl rfl rfl ?_ ?_ ?_)); rotate_left 1; (focus (first | exact (rfl : (0 : Int) = ((0 : Nat) : Int)) | exact (rfl : (1 : Int) = ((1 : Nat) : Int)) | exact rfl)); (focus (first | omega | (simp; done) | (simp; omega) | (simp [*]; omega)))))))
        go_ret2
        exact ⟨_, rfl, Or.inr (gives0 st .here), st.keep⟩
      · clear h2
        go_enter Try.func29, Try.ntmps29
        go_wp2_with (first | (go_at_call 58; refine (HV.out _ st.keep).mono ?_; rintro _ _ ⟨rfl, hk⟩; replace st := st.call hk; clear hk) | (go_at_call 60; (with_reducible refine (l00In_v q1 _).mono ?_); rintro _ _ ⟨rfl, hk⟩; replace st := st.call hk; clear hk) | ((with_reducible refine gate_bsl rfl ?_); refine ia_bsl0 (sl := 25) st rfl rfl rfl ?_; clear st; intro B25 _ st) | ((with_reducible refine gate_lst ?_); (first | ((with_reducible refine' wpl_ung ?_ ?_ ?_); rotate_left 1; (focus exact rfl); (focus exact rfl)) | ((with_reducible refine gate_load rfl ?_); (first | (refine ia_loadAll st rfl rfl rfl ?_ ?_; (focus (first | rfl | (simp; done) | (simp; assumption) | (simp; omega) | (simp [*]; done)))) | (refine ia_loadC (hb.keep st.keep (by simp)) rfl rfl rfl ?_ ?_; (focus (first | rfl | (simp; done) | (simp; assumption) | (simp; omega) | (simp [*]; done)))) | (refine ia_loadC (hb'.keep st.keep (by simp)) rfl rfl rfl ?_ ?_; (focus (first | rfl | (simp; done) | (simp; assumption) | (simp; omega) | (simp [*]; done)))) | (refine ia_loadC (Cl.of (hb1.keep st.keep (by simp))) rfl rfl rfl ?_ ?_; (focus (first | rfl | (simp; done) | (simp; assumption) | (simp; omega) | (simp [*]; done)))) | (refine ia_loadC (Cl.of (hb2.keep st.keep (by simp))) rfl rfl rfl ?_ ?_; (focus (first | rfl | (simp; done) | (simp; assumption) | (simp; omega) | (simp [*]; done)))))) | ((with_reducible refine gate_addr rfl ?_); (first | (refine' ia_slcP HP.out rfl rfl rfl rfl ?_ ?_ ?_) | (refine' ia_slcP HP2.out rfl rfl rfl rfl ?_ ?_ ?_)); rotate_left 1; (focus (first | exact (rfl : (0 : Int) = ((0 : Nat) : Int)) | exact (rfl : (1 : Int) = ((1 : Nat) : Int)) | exact rfl)); (focus (first | omega | (simp; done) | (simp; omega) | (simp [*]; omega)))))))
        go_ret2
        exact ⟨_, rfl, Or.inr (gives0 st .here), st.keep⟩
  · have HV := hid (fun w' hk => l02Ok_v h n hB (by omega) p c w' (hr.keep (w1 := w') hk))
    have hc1 : evC B i j = 1 := by unfold evC; rw [if_neg (by rw [h]; decide)]
    unfold evR
    rw [hc1, if_neg (by decide)]
    clear hc1 h hB
    go_enter Try.func29, Try.ntmps29
    go_wp2_with (first | (go_at_call 58; refine (HV.out _ st.keep).mono ?_; rintro _ _ ⟨rfl, hk⟩; replace st := st.call hk; clear hk) | ((with_reducible refine gate_bsl rfl ?_); refine ia_bsl0 (sl := 13) st rfl rfl rfl ?_; clear st; intro B13 _ st) | ((with_reducible refine gate_lst ?_); (first | ((with_reducible refine' wpl_ung ?_ ?_ ?_); rotate_left 1; (focus exact rfl); (focus exact rfl)) | ((with_reducible refine gate_load rfl ?_); (first | (refine ia_loadAll st rfl rfl rfl ?_ ?_; (focus (first | rfl | (simp; done) | (simp; assumption) | (simp; omega) | (simp [*]; done)))) | (refine ia_loadC (hb.keep st.keep (by simp)) rfl rfl rfl ?_ ?_; (focus (first | rfl | (simp; done) | (simp; assumption) | (simp; omega) | (simp [*]; done)))) | (refine ia_loadC (hb'.keep st.keep (by simp)) rfl rfl rfl ?_ ?_; (focus (first | rfl | (simp; done) | (simp; assumption) | (simp; omega) | (simp [*]; done)))) | (refine ia_loadC (Cl.of (hb1.keep st.keep (by simp))) rfl rfl rfl ?_ ?_; (focus (first | rfl | (simp; done) | (simp; assumption) | (simp; omega) | (simp [*]; done)))) | (refine ia_loadC (Cl.of (hb2.keep st.keep (by simp))) rfl rfl rfl ?_ ?_; (focus (first | rfl | (simp; done) | (simp; assumption) | (simp; omega) | (simp [*]; done)))))) | ((with_reducible refine gate_addr rfl ?_); (first | (refine' ia_slcP HP.out rfl rfl rfl rfl ?_ ?_ ?_) | (refine' ia_slcP HP2.out rfl rfl rfl rfl ?_ ?_ ?_)); rotate_left 1; (focus (first | exact (rfl : (0 : Int) = ((0 : Nat) : Int)) | exact (rfl : (1 : Int) = ((1 : Nat) : Int)) | exact rfl)); (focus (first | omega | (simp; done) | (simp; omega) | (simp [*]; omega)))))))
    go_ret2
    exact ⟨_, rfl, Or.inr (gives0 st .here), st.keep⟩
theorem isPage_v {n : Nat} {i : Int} {v : Bool} (h : inB i 0 ((n : Int) - 1) = v) (hn : n ≤ 1000000) (p : Option Addr) (c : Nat) (w : World) : Calls Try.prog 64 #[.slice p n c, .int .i64 i] w fun e w' => e = .returned (.bool v) ∧ Keep [] w w' := by
  have st := St.start w
  have HR := hid (fun w => inRange_v h w)
  clear h
  go_enter Try.func64, Try.ntmps64
  go_wp2_with (first | (go_at_call 61; refine (HR.out _).mono ?_; rintro _ _ ⟨rfl, hk⟩; replace st := st.call hk; clear hk))
  go_ret
  exact ⟨rfl, st.keep⟩
set_option maxHeartbeats 1000000 in
set_option maxRecDepth 100000 in
theorem EveryPage_c (B : List Fm) (n : Nat) (hB : B.length = n) (hn : n ≤ 1000000) (p : Option Addr) (c : Nat) (i j : Int) (w : World) (hr : Rd w p n (encs fv B)) :
    Calls Try.prog 30 #[.slice p n c, .int .i64 i, .int .i64 j] w (BookCode (evR B i j) (evR B i j).length (evC B i j) True w) := by
  have st := St.start w
  rcases Bool.eq_false_or_eq_true (bkB B) with h | h
  · have HV := hid (fun w' hk => ValidBook_v h n hB (by omega) p c w' (hr.keep (w1 := w') hk))
    rcases Bool.eq_false_or_eq_true (evIn n i j) with h2 | h2
    · have hc0 : evC B i j = 0 := by unfold evC; rw [if_pos h, hB, if_pos h2]
      unfold evR
      rw [hc0, if_pos rfl, evL_length, hB]
      unfold evIn at h2
      rw [Bool.and_eq_true] at h2
      obtain ⟨q1, q2⟩ := h2
      have r1 := q1
      have r2 := q2
      unfold inB at r1 r2
      rw [decide_eq_true_eq] at r1 r2
      obtain ⟨s, rfl⟩ : ∃ s : Nat, i = s := ⟨i.toNat, by omega⟩
      obtain ⟨f, rfl⟩ : ∃ f : Nat, j = f := ⟨j.toNat, by omega⟩
      have hs0 : 0 < s := by omega
      have hs40 : s ≤ 40 := by omega
      have hfn : f < n := by omega
      simp only [Int.toNat_natCast]
      replace hB := hid hB
      obtain ⟨N, hN⟩ : ∃ N, evN n s f = N := ⟨_, rfl⟩
      have HN := hid (fun k => evN_iff (k := k) hs0 hfn)
      rw [hN] at HN ⊢
      clear hc0 h r1 r2 hN
      go_enter Try.func30, Try.ntmps30
      go_wp2_with (first | (go_at_call 23; refine (HV.out _ st.keep).mono ?_; rintro _ _ ⟨rfl, hk⟩; replace st := st.call hk; clear hk) | (go_at_call 61; (with_reducible refine (inRange_v q1 _).mono ?_); rintro _ _ ⟨rfl, hk⟩; replace st := st.call hk; clear hk) | (go_at_call 64; refine (isPage_v q2 hn _ _ _).mono ?_; rintro _ _ ⟨rfl, hk⟩; replace st := st.call hk; clear hk) | ((with_reducible refine gate_bsl rfl ?_); refine ia_bsl0 (sl := 24) st rfl rfl rfl ?_; clear st; intro B24 _ st) | ((with_reducible refine gate_lst ?_); (first | ((with_reducible refine' wpl_ung ?_ ?_ ?_); rotate_left 1; (focus exact rfl); (focus exact rfl)) | ((with_reducible refine gate_load rfl ?_); (first | (refine ia_loadAll st rfl rfl rfl ?_ ?_; (focus (first | rfl | (simp; done) | (simp; assumption) | (simp; omega) | (simp [*]; done)))) | (refine ia_loadC (hb.keep st.keep (by simp)) rfl rfl rfl ?_ ?_; (focus (first | rfl | (simp; done) | (simp; assumption) | (simp; omega) | (simp [*]; done)))) | (refine ia_loadC (hb'.keep st.keep (by simp)) rfl rfl rfl ?_ ?_; (focus (first | rfl | (simp; done) | (simp; assumption) | (simp; omega) | (simp [*]; done)))) | (refine ia_loadC (Cl.of (hb1.keep st.keep (by simp))) rfl rfl rfl ?_ ?_; (focus (first | rfl | (simp; done) | (simp; assumption) | (simp; omega) | (simp [*]; done)))) | (refine ia_loadC (Cl.of (hb2.keep st.keep (by simp))) rfl rfl rfl ?_ ?_; (focus (first | rfl | (simp; done) | (simp; assumption) | (simp; omega) | (simp [*]; done)))))) | ((with_reducible refine gate_addr rfl ?_); (first | (refine' ia_slcP HP.out rfl rfl rfl rfl ?_ ?_ ?_) | (refine' ia_slcP HP2.out rfl rfl rfl rfl ?_ ?_ ?_)); rotate_left 1; (focus (first | exact (rfl : (0 : Int) = ((0 : Nat) : Int)) | exact (rfl : (1 : Int) = ((1 : Nat) : Int)) | exact rfl)); (focus (first | omega | (simp; done) | (simp; omega) | (simp [*]; omega)))))))
      go_loopw [8, 9] (fun v i wr => ∃ k a : Nat, ∃ g cap : Nat, ∃ spare : List Value, k ≤ N ∧ Hid (a = f + k * s) ∧ a ≤ n + 40 ∧ i = .int .i64 a ∧ v = .slice (some ⟨g, 0, none⟩) k cap ∧ St [] w wr [(g, encs fv (evL B s f k) ++ spare, 52)] ∧ (encs fv (evL B s f k) ++ spare).length = cap * 12 ∧ cap ≤ maxLen ∧ k ≤ n) (fun _ i _ => n + 40 - (intOf i).toNat)
      case atStart => exact ⟨0, f, B24, 0, [], by omega, hid (by omega), by omega, rfl, rfl, st, rfl, Nat.zero_le _, by omega⟩
      case round =>
        clear st
        obtain ⟨k, a, g, cap, spare, hk, ha, han, rfl, rfl, st, hcap, hcm, hkn⟩ := hrel
        have HC := hid hcap
        clear hcap
        by_cases hlt : a < n
        · have hd : decide ((a : Int) < (n : Int)) = true := by simpa using hlt
          have HI : Hid (inB a 0 ((n : Int) - 1) = true) := hid (inB_yes (by omega) (by omega))
          have hkN : k < N := (HN.out k).1 (by have := ha.out; omega)
          have hkn2 : k + 1 ≤ n := by
            have h1 := ha.out
            have h2 : k * 1 ≤ k * s := Nat.mul_le_mul_left _ hs0
            omega
          obtain ⟨b, o, hp, hcl⟩ := hr (by omega)
          have HP := hid hp
          have hkB : a < B.length := by rw [hB.out]; exact hlt
          have hb := hcl.seg fv_len hkB
          have HS := hid (evL_step B s f k)
          have HX : B.getD (f + k * s) fz = B[a] := by rw [← ha.out, List.getD_eq_getElem?_getD, List.getElem?_eq_getElem hkB]; rfl
          rw [HX] at HS
          obtain ⟨x, hx⟩ : ∃ x, B[a] = x := ⟨_, rfl⟩
          rw [hx] at hb HS
          clear hx hp hcl hkB HX
          go_wp2_with (first | (go_at_call 64; refine (isPage_v HI.out hn _ _ _).mono ?_; rintro _ _ ⟨rfl, hk⟩; replace st := st.call hk; clear hk) | ((with_reducible refine gate_bsl rfl ?_); refine ia_bsl1 (sl := 37) st rfl rfl rfl rfl rfl ?_ (by decide) ?_; (focus (first | rfl | (simp; done) | (simp; assumption) | (simp; omega) | (simp [*]; done))); clear st; intro B37 _ st) | ((with_reducible refine gate_app rfl ?_); refine ia_appendR (news := (fv x)) (xs := (encs fv (evL B s f k))) (spare := spare) st rfl rfl rfl rfl (by rw [encs_fv_length, evL_length]) HC.out hcm (.fr (st.get (by repeat (first | exact At.here | apply At.there)))) (fun h => by cases h) (fv_len x) (fv_one x) (by unfold maxLen; omega) (by omega) ?_; clear st; intro g2 cap2 spare2 _ st hcap2 hcm2; (try simp only [List.set_cons_zero, List.set_cons_succ] at st)) | ((with_reducible refine gate_lst ?_); (first | ((with_reducible refine' wpl_ung ?_ ?_ ?_); rotate_left 1; (focus exact rfl); (focus exact rfl)) | ((with_reducible refine gate_load rfl ?_); (first | (refine ia_loadAll st rfl rfl rfl ?_ ?_; (focus (first | rfl | (simp; done) | (simp; assumption) | (simp; omega) | (simp [*]; done)))) | (refine ia_loadC (hb.keep st.keep (by simp)) rfl rfl rfl ?_ ?_; (focus (first | rfl | (simp; done) | (simp; assumption) | (simp; omega) | (simp [*]; done)))) | (refine ia_loadC (hb'.keep st.keep (by simp)) rfl rfl rfl ?_ ?_; (focus (first | rfl | (simp; done) | (simp; assumption) | (simp; omega) | (simp [*]; done)))) | (refine ia_loadC (Cl.of (hb1.keep st.keep (by simp))) rfl rfl rfl ?_ ?_; (focus (first | rfl | (simp; done) | (simp; assumption) | (simp; omega) | (simp [*]; done)))) | (refine ia_loadC (Cl.of (hb2.keep st.keep (by simp))) rfl rfl rfl ?_ ?_; (focus (first | rfl | (simp; done) | (simp; assumption) | (simp; omega) | (simp [*]; done)))))) | ((with_reducible refine gate_addr rfl ?_); (first | (refine' ia_slcP HP.out rfl rfl rfl rfl ?_ ?_ ?_) | (refine' ia_slcP HP2.out rfl rfl rfl rfl ?_ ?_ ?_)); rotate_left 1; (focus (first | exact (rfl : (0 : Int) = ((0 : Nat) : Int)) | exact (rfl : (1 : Int) = ((1 : Nat) : Int)) | exact rfl)); (focus (first | omega | (simp; done) | (simp; omega) | (simp [*]; omega)))))))
          have e : encs fv (evL B s f (k + 1)) = encs fv (evL B s f k) ++ fv x := by rw [← HS.out, encs_append]; simp [encs]
          go_roundw
          case rel => exact ⟨k + 1, a + s, g2, cap2, spare2, by omega, hid (by have := ha.out; rw [Nat.succ_mul]; omega), by omega, by go_num, rfl, by rw [e]; exact st.drop, by rw [e]; exact hcap2, hcm2, hkn2⟩
          case measure => first | (simp [intOf]; done) | (simp [intOf]; omega)
        · have hd : decide ((a : Int) < (n : Int)) = false := by simp; omega
          have HNI : Hid (inB a 0 ((n : Int) - 1) = false) := hid (inB_no2 (by omega))
          obtain rfl : k = N := by
            have h1 := ha.out
            have h2 : ¬ k < N := fun h => by have := (HN.out k).2 h; omega
            omega
          go_wp2_with (first | (go_at_call 64; refine (isPage_v HNI.out hn _ _ _).mono ?_; rintro _ _ ⟨rfl, hk⟩; replace st := st.call hk; clear hk) | ((with_reducible refine gate_lst ?_); (first | ((with_reducible refine' wpl_ung ?_ ?_ ?_); rotate_left 1; (focus exact rfl); (focus exact rfl)) | ((with_reducible refine gate_load rfl ?_); (first | (refine ia_loadAll st rfl rfl rfl ?_ ?_; (focus (first | rfl | (simp; done) | (simp; assumption) | (simp; omega) | (simp [*]; done)))) | (refine ia_loadC (hb.keep st.keep (by simp)) rfl rfl rfl ?_ ?_; (focus (first | rfl | (simp; done) | (simp; assumption) | (simp; omega) | (simp [*]; done)))) | (refine ia_loadC (hb'.keep st.keep (by simp)) rfl rfl rfl ?_ ?_; (focus (first | rfl | (simp; done) | (simp; assumption) | (simp; omega) | (simp [*]; done)))) | (refine ia_loadC (Cl.of (hb1.keep st.keep (by simp))) rfl rfl rfl ?_ ?_; (focus (first | rfl | (simp; done) | (simp; assumption) | (simp; omega) | (simp [*]; done)))) | (refine ia_loadC (Cl.of (hb2.keep st.keep (by simp))) rfl rfl rfl ?_ ?_; (focus (first | rfl | (simp; done) | (simp; assumption) | (simp; omega) | (simp [*]; done)))))) | ((with_reducible refine gate_addr rfl ?_); (first | (refine' ia_slcP HP.out rfl rfl rfl rfl ?_ ?_ ?_) | (refine' ia_slcP HP2.out rfl rfl rfl rfl ?_ ?_ ?_)); rotate_left 1; (focus (first | exact (rfl : (0 : Int) = ((0 : Nat) : Int)) | exact (rfl : (1 : Int) = ((1 : Nat) : Int)) | exact rfl)); (focus (first | omega | (simp; done) | (simp; omega) | (simp [*]; omega)))))))
          go_ret2
          exact ⟨_, rfl, Or.inr ⟨g, cap, spare, rfl, out_of st .here, st.get .here, HC.out, hcm⟩, st.keep⟩
    · have hc2 : evC B i j = 2 := by unfold evC; rw [if_pos h, hB, if_neg (by rw [h2]; decide)]
      unfold evR
      rw [hc2, if_neg (by decide)]
      unfold evIn at h2
      clear hc2 h hB
      rcases Bool.eq_false_or_eq_true (inB i 1 40) with q1 | q1
      · have q2 : inB j 0 ((n : Int) - 1) = false := by rw [q1, Bool.true_and] at h2; exact h2
        clear h2
        go_enter Try.func30, Try.ntmps30
        go_wp2_with (first | (go_at_call 23; refine (HV.out _ st.keep).mono ?_; rintro _ _ ⟨rfl, hk⟩; replace st := st.call hk; clear hk) | (go_at_call 61; (with_reducible refine (inRange_v q1 _).mono ?_); rintro _ _ ⟨rfl, hk⟩; replace st := st.call hk; clear hk) | (go_at_call 64; refine (isPage_v q2 hn _ _ _).mono ?_; rintro _ _ ⟨rfl, hk⟩; replace st := st.call hk; clear hk) | ((with_reducible refine gate_lst ?_); (first | ((with_reducible refine' wpl_ung ?_ ?_ ?_); rotate_left 1; (focus exact rfl); (focus exact rfl)) | ((with_reducible refine gate_load rfl ?_); (first | (refine ia_loadAll st rfl rfl rfl ?_ ?_; (focus (first | rfl | (simp; done) | (simp; assumption) | (simp; omega) | (simp [*]; done)))) | (refine ia_loadC (hb.keep st.keep (by simp)) rfl rfl rfl ?_ ?_; (focus (first | rfl | (simp; done) | (simp; assumption) | (simp; omega) | (simp [*]; done)))) | (refine ia_loadC (hb'.keep st.keep (by simp)) rfl rfl rfl ?_ ?_; (focus (first | rfl | (simp; done) | (simp; assumption) | (simp; omega) | (simp [*]; done)))) | (refine ia_loadC (Cl.of (hb1.keep st.keep (by simp))) rfl rfl rfl ?_ ?_; (focus (first | rfl | (simp; done) | (simp; assumption) | (simp; omega) | (simp [*]; done)))) | (refine ia_loadC (Cl.of (hb2.keep st.keep (by simp))) rfl rfl rfl ?_ ?_; (focus (first | rfl | (simp; done) | (simp; assumption) | (simp; omega) | (simp [*]; done)))))) | ((with_reducible refine gate_addr rfl ?_); (first | (refine' ia_slcP HP.out rfl rfl rfl rfl ?_ ?_ ?_) | (refine' ia_slcP HP2.out rfl rfl rfl rfl ?_ ?_ ?_)); rotate_left 1; (focus (first | exact (rfl : (0 : Int) = ((0 : Nat) : Int)) | exact (rfl : (1 : Int) = ((1 : Nat) : Int)) | exact rfl)); (focus (first | omega | (simp; done) | (simp; omega) | (simp [*]; omega)))))))
        go_ret2
        exact ⟨_, rfl, Or.inl ⟨trivial, rfl, rfl⟩, st.keep⟩
      · clear h2
        go_enter Try.func30, Try.ntmps30
        go_wp2_with (first | (go_at_call 23; refine (HV.out _ st.keep).mono ?_; rintro _ _ ⟨rfl, hk⟩; replace st := st.call hk; clear hk) | (go_at_call 61; (with_reducible refine (inRange_v q1 _).mono ?_); rintro _ _ ⟨rfl, hk⟩; replace st := st.call hk; clear hk) | ((with_reducible refine gate_lst ?_); (first | ((with_reducible refine' wpl_ung ?_ ?_ ?_); rotate_left 1; (focus exact rfl); (focus exact rfl)) | ((with_reducible refine gate_load rfl ?_); (first | (refine ia_loadAll st rfl rfl rfl ?_ ?_; (focus (first | rfl | (simp; done) | (simp; assumption) | (simp; omega) | (simp [*]; done)))) | (refine ia_loadC (hb.keep st.keep (by simp)) rfl rfl rfl ?_ ?_; (focus (first | rfl | (simp; done) | (simp; assumption) | (simp; omega) | (simp [*]; done)))) | (refine ia_loadC (hb'.keep st.keep (by simp)) rfl rfl rfl ?_ ?_; (focus (first | rfl | (simp; done) | (simp; assumption) | (simp; omega) | (simp [*]; done)))) | (refine ia_loadC (Cl.of (hb1.keep st.keep (by simp))) rfl rfl rfl ?_ ?_; (focus (first | rfl | (simp; done) | (simp; assumption) | (simp; omega) | (simp [*]; done)))) | (refine ia_loadC (Cl.of (hb2.keep st.keep (by simp))) rfl rfl rfl ?_ ?_; (focus (first | rfl | (simp; done) | (simp; assumption) | (simp; omega) | (simp [*]; done)))))) | ((with_reducible refine gate_addr rfl ?_); (first | (refine' ia_slcP HP.out rfl rfl rfl rfl ?_ ?_ ?_) | (refine' ia_slcP HP2.out rfl rfl rfl rfl ?_ ?_ ?_)); rotate_left 1; (focus (first | exact (rfl : (0 : Int) = ((0 : Nat) : Int)) | exact (rfl : (1 : Int) = ((1 : Nat) : Int)) | exact rfl)); (focus (first | omega | (simp; done) | (simp; omega) | (simp [*]; omega)))))))
        go_ret2
        exact ⟨_, rfl, Or.inl ⟨trivial, rfl, rfl⟩, st.keep⟩
  · have HV := hid (fun w' hk => ValidBook_v h n hB (by omega) p c w' (hr.keep (w1 := w') hk))
    have hc1 : evC B i j = 1 := by unfold evC; rw [if_neg (by rw [h]; decide)]
    unfold evR
    rw [hc1, if_neg (by decide)]
    clear hc1 h hB
    go_enter Try.func30, Try.ntmps30
    go_wp2_with (first | (go_at_call 23; refine (HV.out _ st.keep).mono ?_; rintro _ _ ⟨rfl, hk⟩; replace st := st.call hk; clear hk) | ((with_reducible refine gate_lst ?_); (first | ((with_reducible refine' wpl_ung ?_ ?_ ?_); rotate_left 1; (focus exact rfl); (focus exact rfl)) | ((with_reducible refine gate_load rfl ?_); (first | (refine ia_loadAll st rfl rfl rfl ?_ ?_; (focus (first | rfl | (simp; done) | (simp; assumption) | (simp; omega) | (simp [*]; done)))) | (refine ia_loadC (hb.keep st.keep (by simp)) rfl rfl rfl ?_ ?_; (focus (first | rfl | (simp; done) | (simp; assumption) | (simp; omega) | (simp [*]; done)))) | (refine ia_loadC (hb'.keep st.keep (by simp)) rfl rfl rfl ?_ ?_; (focus (first | rfl | (simp; done) | (simp; assumption) | (simp; omega) | (simp [*]; done)))) | (refine ia_loadC (Cl.of (hb1.keep st.keep (by simp))) rfl rfl rfl ?_ ?_; (focus (first | rfl | (simp; done) | (simp; assumption) | (simp; omega) | (simp [*]; done)))) | (refine ia_loadC (Cl.of (hb2.keep st.keep (by simp))) rfl rfl rfl ?_ ?_; (focus (first | rfl | (simp; done) | (simp; assumption) | (simp; omega) | (simp [*]; done)))))) | ((with_reducible refine gate_addr rfl ?_); (first | (refine' ia_slcP HP.out rfl rfl rfl rfl ?_ ?_ ?_) | (refine' ia_slcP HP2.out rfl rfl rfl rfl ?_ ?_ ?_)); rotate_left 1; (focus (first | exact (rfl : (0 : Int) = ((0 : Nat) : Int)) | exact (rfl : (1 : Int) = ((1 : Nat) : Int)) | exact rfl)); (focus (first | omega | (simp; done) | (simp; omega) | (simp [*]; omega)))))))
    go_ret2
    exact ⟨_, rfl, Or.inl ⟨trivial, rfl, rfl⟩, st.keep⟩
end Go.Proofs.Ytmfgbkmkcljciaa
