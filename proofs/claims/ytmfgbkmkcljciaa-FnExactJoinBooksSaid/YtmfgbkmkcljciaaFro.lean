/- Books to and fro, and every so many pages: the reference and the program; no condition. -/
import Derived.Test.YtmfgbkmkcljciaaBack
namespace Go.Proofs.Ytmfgbkmkcljciaa
open Go.RowKit
set_option linter.unusedSimpArgs false
set_option linter.unusedVariables false

theorem limited_n (n c : Nat) (p : Option Addr) (hn : n ≤ 4000000) (w : World) : Calls Try.prog 67 #[.slice p n c] w fun e w' => e = .returned (if n ≤ 40 then .tuple #[.slice p n c, .int .i64 0] else .tuple #[.slice none 0 0, .int .i64 3]) ∧ Keep [] w w' := by
  have st := St.start w
  by_cases h : n ≤ 40
  · have hd : decide ((40 : Int) < (n : Int)) = false := by simp; omega
    rw [if_pos h]
    go_enter Try.func67, Try.ntmps67
    go_wp2_with fail
    go_ret2
    exact ⟨rfl, st.keep⟩
  · have hd : decide ((40 : Int) < (n : Int)) = true := by simp; omega
    rw [if_neg h]
    go_enter Try.func67, Try.ntmps67
    go_wp2_with fail
    go_ret2
    exact ⟨rfl, st.keep⟩
theorem limited_0 {n c : Nat} {p : Option Addr} (hn : n ≤ 4000000) (h : n ≤ 40) (w : World) : Calls Try.prog 67 #[.slice p n c] w fun e w' => e = .returned (.tuple #[.slice p n c, .int .i64 0]) ∧ Keep [] w w' := by
  have := limited_n n c p hn w
  rwa [if_pos h] at this
theorem limited_3 {n c : Nat} {p : Option Addr} (hn : n ≤ 4000000) (h : ¬ n ≤ 40) (w : World) : Calls Try.prog 67 #[.slice p n c] w fun e w' => e = .returned (.tuple #[.slice none 0 0, .int .i64 3]) ∧ Keep [] w w' := by
  have := limited_n n c p hn w
  rwa [if_neg h] at this
def froL (B : List Fm) (k : Nat) : List Fm := B ++ (B.reverse.drop 1).take k
theorem froL_length (B : List Fm) {n k : Nat} (hn : B.length = n) (hk : k ≤ n - 2) : (froL B k).length = n + k := by
  unfold froL; rw [List.length_append, List.length_take, List.length_drop, List.length_reverse]; omega
theorem froL_zero (B : List Fm) : froL B 0 = B := by simp [froL]
theorem froL_step (B : List Fm) {n k : Nat} (hn : B.length = n) (hk : k < n - 2) : froL B k ++ [B[n - 2 - k]] = froL B (k + 1) := by
  unfold froL
  rw [List.append_assoc]
  congr 1
  rw [List.take_succ_eq_append_getElem (by rw [List.length_drop, List.length_reverse]; omega), List.getElem_drop, List.getElem_reverse]
  congr 2
  congr 1
  omega
def froF (B : List Fm) : List Fm := froL B (B.length - 2)
def froC (B : List Fm) : Int := if bkB B = true then (if (froF B).length ≤ 40 then 0 else 3) else 1
def froR (B : List Fm) : List Fm := if froC B = 0 then froF B else []
theorem froR_len {B : List Fm} {n : Nat} (hB : B.length = n) (hn : n ≤ 1000000) : (froR B).length ≤ 4000000 := by
  unfold froR froF
  split
  · rw [froL_length B hB (by omega)]; omega
  · simp
set_option maxHeartbeats 1000000 in
set_option maxRecDepth 100000 in
theorem specFro_c (B : List Fm) (n : Nat) (hB : B.length = n) (hn : n ≤ 1000000) (p : Option Addr) (hp : p = none → n = 0) (c : Nat) (w : World) (hr : Rd w p n (encs fv B)) :
    Calls Try.prog 33 #[.slice p n c] w (BookCode (froR B) (froR B).length (froC B) False w) := by
  have st := St.start w
  rcases Bool.eq_false_or_eq_true (bkB B) with h | h
  · have HV := hid (fun w' hk => l02Ok_v h n hB (by omega) p c w' (hr.keep (w1 := w') hk))
    have HF : (froF B).length = n + (n - 2) := by unfold froF; rw [froL_length B hB (by omega), hB]
    have HFF : froF B = froL B (n - 2) := by unfold froF; rw [hB]
    replace hB := hid hB
    have HP0 := hid hp
    clear hp
    have HBL := hid (show (encs fv B).length = n * 12 by rw [encs_fv_length, hB.out])
    obtain ⟨C, hC⟩ : ∃ C, froC B = C := ⟨_, rfl⟩
    obtain ⟨R, hR⟩ : ∃ R, froR B = R := ⟨_, rfl⟩
    rw [hC, hR]
    replace hC := hid hC
    replace hR := hid hR
    replace HF := hid HF
    replace HFF := hid HFF
    replace h := hid h
    go_enter Try.func33, Try.ntmps33
    go_wp2_with (first | (go_at_call 58; refine (HV.out _ st.keep).mono ?_; rintro _ _ ⟨rfl, hk⟩; replace st := st.call hk; clear hk) | ((with_reducible refine gate_bsl rfl ?_); refine ia_bsl0 (sl := 10) st rfl rfl rfl ?_; clear st; intro B10 _ st) | ((with_reducible refine gate_app rfl ?_); refine ia_appendR0 (news := encs fv B) st rfl rfl rfl rfl (hr.keep st.keep) HP0.out HBL.out (encs_one fv_one _) (by unfold maxLen; omega) (by omega) ?_; clear st; intro g2 cap2 spare2 _ st hcap2 hcm2; (try simp only [List.set_cons_zero, List.set_cons_succ] at st)) | ((with_reducible refine gate_lst ?_); (first | ((with_reducible refine gate_load rfl ?_); (first | (refine ia_loadAll st rfl rfl rfl ?_ ?_; (focus (first | rfl | (simp; done) | (simp; assumption) | (simp; omega) | (simp [*]; done)))) | (refine ia_loadC (hb.keep st.keep (by simp)) rfl rfl rfl ?_ ?_; (focus (first | rfl | (simp; done) | (simp; assumption) | (simp; omega) | (simp [*]; done)))) | (refine ia_loadC (hb'.keep st.keep (by simp)) rfl rfl rfl ?_ ?_; (focus (first | rfl | (simp; done) | (simp; assumption) | (simp; omega) | (simp [*]; done)))) | (refine ia_loadC (Cl.of (hb1.keep st.keep (by simp))) rfl rfl rfl ?_ ?_; (focus (first | rfl | (simp; done) | (simp; assumption) | (simp; omega) | (simp [*]; done)))) | (refine ia_loadC (Cl.of (hb2.keep st.keep (by simp))) rfl rfl rfl ?_ ?_; (focus (first | rfl | (simp; done) | (simp; assumption) | (simp; omega) | (simp [*]; done)))))) | ((with_reducible refine gate_addr rfl ?_); (first | (refine' ia_slcP HP.out rfl rfl rfl rfl ?_ ?_ ?_) | (refine' ia_slcP HP2.out rfl rfl rfl rfl ?_ ?_ ?_)); rotate_left 1; (focus (first | exact (rfl : (0 : Int) = ((0 : Nat) : Int)) | exact (rfl : (1 : Int) = ((1 : Nat) : Int)) | exact rfl | exact HE1.out | exact HE2.out)); (focus (first | omega | (simp; done) | (simp; omega) | (simp [*]; omega)))))))
    go_loopw [4, 5] (fun v i wr => ∃ k : Nat, ∃ g cap : Nat, ∃ spare : List Value, k ≤ n - 2 ∧ i = .int .i64 ((n : Int) - 2 - k) ∧ v = .slice (some ⟨g, 0, none⟩) (n + k) cap ∧ St [] w wr [(g, encs fv (froL B k) ++ spare, 52)] ∧ (encs fv (froL B k) ++ spare).length = cap * 12 ∧ cap ≤ maxLen) (fun _ i _ => (intOf i + 2).toNat)
    case atStart => exact ⟨0, g2, cap2, spare2, by omega, by simp, rfl, by rw [froL_zero]; exact st, by rw [froL_zero]; exact hcap2, hcm2⟩
    case round =>
      clear st hcap2 hcm2
      obtain ⟨k, g, cap, spare, hk, rfl, rfl, st, hcap, hcm⟩ := hrel
      have HC := hid hcap
      clear hcap
      by_cases hlt : k < n - 2
      · obtain ⟨q, hq⟩ : ∃ q : Nat, q = n - 2 - k := ⟨_, rfl⟩
        have hqi : (n : Int) - 2 - k = (q : Int) := by omega
        have hqn : q < n := by omega
        have hq0 : 0 < q := by omega
        rw [hqi]
        have HQ := hid hqi
        clear hqi
        obtain ⟨b, f, hp, hcl⟩ := hr (by omega)
        have HP := hid hp
        have hkB : q < B.length := by rw [hB.out]; exact hqn
        have hb := hcl.seg fv_len hkB
        have HS := hid (froL_step B hB.out hlt)
        rw [show B[n - 2 - k]'(by rw [hB.out]; omega) = B[q] by congr 1; omega] at HS
        obtain ⟨x, hx⟩ : ∃ x, B[q] = x := ⟨_, rfl⟩
        rw [hx] at hb HS
        have HLL := hid (froL_length B (k := k) hB.out hk)
        have HK := hid hq
        clear hx hp hcl hkB hq
        go_wp2_with (first | ((with_reducible refine gate_bsl rfl ?_); refine ia_bsl1 (sl := 25) st rfl rfl rfl rfl rfl ?_ (by decide) ?_; (focus (first | rfl | (simp; done) | (simp; assumption) | (simp; omega) | (simp [*]; done))); clear st; intro B25 _ st) | ((with_reducible refine gate_app rfl ?_); refine ia_appendR (news := (fv x)) (xs := (encs fv (froL B k))) (spare := spare) st rfl rfl rfl rfl (by rw [encs_fv_length, HLL.out]) HC.out hcm (.fr (st.get (by repeat (first | exact At.here | apply At.there)))) (fun h => by cases h) (fv_len x) (fv_one x) (by unfold maxLen; omega) (by omega) ?_; clear st; intro g2 cap2 spare2 _ st hcap2 hcm2; (try simp only [List.set_cons_zero, List.set_cons_succ] at st)) | ((with_reducible refine gate_lst ?_); (first | ((with_reducible refine gate_load rfl ?_); (first | (refine ia_loadAll st rfl rfl rfl ?_ ?_; (focus (first | rfl | (simp; done) | (simp; assumption) | (simp; omega) | (simp [*]; done)))) | (refine ia_loadC (hb.keep st.keep (by simp)) rfl rfl rfl ?_ ?_; (focus (first | rfl | (simp; done) | (simp; assumption) | (simp; omega) | (simp [*]; done)))) | (refine ia_loadC (hb'.keep st.keep (by simp)) rfl rfl rfl ?_ ?_; (focus (first | rfl | (simp; done) | (simp; assumption) | (simp; omega) | (simp [*]; done)))) | (refine ia_loadC (Cl.of (hb1.keep st.keep (by simp))) rfl rfl rfl ?_ ?_; (focus (first | rfl | (simp; done) | (simp; assumption) | (simp; omega) | (simp [*]; done)))) | (refine ia_loadC (Cl.of (hb2.keep st.keep (by simp))) rfl rfl rfl ?_ ?_; (focus (first | rfl | (simp; done) | (simp; assumption) | (simp; omega) | (simp [*]; done)))))) | ((with_reducible refine gate_addr rfl ?_); (first | (refine' ia_slcP HP.out rfl rfl rfl rfl ?_ ?_ ?_) | (refine' ia_slcP HP2.out rfl rfl rfl rfl ?_ ?_ ?_)); rotate_left 1; (focus (first | exact (rfl : (0 : Int) = ((0 : Nat) : Int)) | exact (rfl : (1 : Int) = ((1 : Nat) : Int)) | exact rfl | exact HE1.out | exact HE2.out)); (focus (first | omega | (simp; done) | (simp; omega) | (simp [*]; omega)))))))
        have e : encs fv (froL B (k + 1)) = encs fv (froL B k) ++ fv x := by rw [← HS.out, encs_append]; simp [encs]
        go_roundw
        case rel => exact ⟨k + 1, g2, cap2, spare2, by omega, by rw [show (q : Int) - 1 = (n : Int) - 2 - ((k + 1 : Nat) : Int) by have := HQ.out; omega], by rw [Nat.add_assoc], by rw [e]; exact st.drop, by rw [e]; exact hcap2, hcm2⟩
        case measure => first | (simp [intOf]; done) | (simp [intOf]; omega)
      · obtain rfl : k = n - 2 := by omega
        obtain ⟨r, hr2⟩ : ∃ r : Int, (n : Int) - 2 - ((n - 2 : Nat) : Int) = r := ⟨_, rfl⟩
        have hr3 : r ≤ 0 := by omega
        have hd0 : decide (0 < r) = false := by simp; omega
        rw [hr2]
        clear hr2
        obtain ⟨m, hm⟩ : ∃ m, n + (n - 2) = m := ⟨_, rfl⟩
        have hm4 : m ≤ 4000000 := by omega
        rw [hm]
        have HM := hid hm
        clear hm
        by_cases h40 : m ≤ 40
        · have hd : decide ((40 : Int) < (m : Int)) = false := by simp; omega
          have hd' : decide (40 < m) = false := by simp; omega
          go_wp2_with (first | ((with_reducible refine gate_lst ?_); (first | ((with_reducible refine gate_load rfl ?_); (first | (refine ia_loadAll st rfl rfl rfl ?_ ?_; (focus (first | rfl | (simp; done) | (simp; assumption) | (simp; omega) | (simp [*]; done)))) | (refine ia_loadC (hb.keep st.keep (by simp)) rfl rfl rfl ?_ ?_; (focus (first | rfl | (simp; done) | (simp; assumption) | (simp; omega) | (simp [*]; done)))) | (refine ia_loadC (hb'.keep st.keep (by simp)) rfl rfl rfl ?_ ?_; (focus (first | rfl | (simp; done) | (simp; assumption) | (simp; omega) | (simp [*]; done)))) | (refine ia_loadC (Cl.of (hb1.keep st.keep (by simp))) rfl rfl rfl ?_ ?_; (focus (first | rfl | (simp; done) | (simp; assumption) | (simp; omega) | (simp [*]; done)))) | (refine ia_loadC (Cl.of (hb2.keep st.keep (by simp))) rfl rfl rfl ?_ ?_; (focus (first | rfl | (simp; done) | (simp; assumption) | (simp; omega) | (simp [*]; done)))))) | ((with_reducible refine gate_addr rfl ?_); (first | (refine' ia_slcP HP.out rfl rfl rfl rfl ?_ ?_ ?_) | (refine' ia_slcP HP2.out rfl rfl rfl rfl ?_ ?_ ?_)); rotate_left 1; (focus (first | exact (rfl : (0 : Int) = ((0 : Nat) : Int)) | exact (rfl : (1 : Int) = ((1 : Nat) : Int)) | exact rfl | exact HE1.out | exact HE2.out)); (focus (first | omega | (simp; done) | (simp; omega) | (simp [*]; omega)))))))
          have hCC : C = 0 := by rw [← hC.out]; unfold froC; rw [if_pos h.out, if_pos (by rw [HF.out, HM.out]; exact h40)]
          have hRR : R = froL B (n - 2) := by rw [← hR.out]; unfold froR; rw [hC.out, hCC, if_pos rfl, HFF.out]
          subst hCC
          subst hRR
          go_ret2
          exact ⟨_, rfl, Or.inr ⟨g, cap, spare, by rw [froL_length B hB.out hk, HM.out]; rfl, out_of st .here, st.get .here, HC.out, hcm⟩, st.keep⟩
        · have hd : decide ((40 : Int) < (m : Int)) = true := by simp; omega
          have hd' : decide (40 < m) = true := by simp; omega
          have hCC : C = 3 := by rw [← hC.out]; unfold froC; rw [if_pos h.out, if_neg (by rw [HF.out, HM.out]; exact h40)]
          have hRR : R = [] := by rw [← hR.out]; unfold froR; rw [hC.out, hCC, if_neg (by decide)]
          subst hCC
          subst hRR
          go_wp2_with (first | ((with_reducible refine gate_bsl rfl ?_); refine ia_bsl0 (sl := 30) st rfl rfl rfl ?_; clear st; intro B30 _ st) | ((with_reducible refine gate_lst ?_); (first | ((with_reducible refine gate_load rfl ?_); (first | (refine ia_loadAll st rfl rfl rfl ?_ ?_; (focus (first | rfl | (simp; done) | (simp; assumption) | (simp; omega) | (simp [*]; done)))) | (refine ia_loadC (hb.keep st.keep (by simp)) rfl rfl rfl ?_ ?_; (focus (first | rfl | (simp; done) | (simp; assumption) | (simp; omega) | (simp [*]; done)))) | (refine ia_loadC (hb'.keep st.keep (by simp)) rfl rfl rfl ?_ ?_; (focus (first | rfl | (simp; done) | (simp; assumption) | (simp; omega) | (simp [*]; done)))) | (refine ia_loadC (Cl.of (hb1.keep st.keep (by simp))) rfl rfl rfl ?_ ?_; (focus (first | rfl | (simp; done) | (simp; assumption) | (simp; omega) | (simp [*]; done)))) | (refine ia_loadC (Cl.of (hb2.keep st.keep (by simp))) rfl rfl rfl ?_ ?_; (focus (first | rfl | (simp; done) | (simp; assumption) | (simp; omega) | (simp [*]; done)))))) | ((with_reducible refine gate_addr rfl ?_); (first | (refine' ia_slcP HP.out rfl rfl rfl rfl ?_ ?_ ?_) | (refine' ia_slcP HP2.out rfl rfl rfl rfl ?_ ?_ ?_)); rotate_left 1; (focus (first | exact (rfl : (0 : Int) = ((0 : Nat) : Int)) | exact (rfl : (1 : Int) = ((1 : Nat) : Int)) | exact rfl | exact HE1.out | exact HE2.out)); (focus (first | omega | (simp; done) | (simp; omega) | (simp [*]; omega)))))))
          go_ret2
          exact ⟨_, rfl, Or.inr (gives0 st .here), st.keep⟩
  · have HV := hid (fun w' hk => l02Ok_v h n hB (by omega) p c w' (hr.keep (w1 := w') hk))
    have hC : froC B = 1 := by unfold froC; rw [if_neg (by rw [h]; decide)]
    have hR : froR B = [] := by unfold froR; rw [hC, if_neg (by decide)]
    rw [hC, hR]
    clear hB h hp hC hR
    go_enter Try.func33, Try.ntmps33
    go_wp2_with (first | (go_at_call 58; refine (HV.out _ st.keep).mono ?_; rintro _ _ ⟨rfl, hk⟩; replace st := st.call hk; clear hk) | ((with_reducible refine gate_bsl rfl ?_); refine ia_bsl0 (sl := 9) st rfl rfl rfl ?_; clear st; intro B9 _ st) | ((with_reducible refine gate_lst ?_); (first | ((with_reducible refine gate_load rfl ?_); (first | (refine ia_loadAll st rfl rfl rfl ?_ ?_; (focus (first | rfl | (simp; done) | (simp; assumption) | (simp; omega) | (simp [*]; done)))) | (refine ia_loadC (hb.keep st.keep (by simp)) rfl rfl rfl ?_ ?_; (focus (first | rfl | (simp; done) | (simp; assumption) | (simp; omega) | (simp [*]; done)))) | (refine ia_loadC (hb'.keep st.keep (by simp)) rfl rfl rfl ?_ ?_; (focus (first | rfl | (simp; done) | (simp; assumption) | (simp; omega) | (simp [*]; done)))) | (refine ia_loadC (Cl.of (hb1.keep st.keep (by simp))) rfl rfl rfl ?_ ?_; (focus (first | rfl | (simp; done) | (simp; assumption) | (simp; omega) | (simp [*]; done)))) | (refine ia_loadC (Cl.of (hb2.keep st.keep (by simp))) rfl rfl rfl ?_ ?_; (focus (first | rfl | (simp; done) | (simp; assumption) | (simp; omega) | (simp [*]; done)))))) | ((with_reducible refine gate_addr rfl ?_); (first | (refine' ia_slcP HP.out rfl rfl rfl rfl ?_ ?_ ?_) | (refine' ia_slcP HP2.out rfl rfl rfl rfl ?_ ?_ ?_)); rotate_left 1; (focus (first | exact (rfl : (0 : Int) = ((0 : Nat) : Int)) | exact (rfl : (1 : Int) = ((1 : Nat) : Int)) | exact rfl | exact HE1.out | exact HE2.out)); (focus (first | omega | (simp; done) | (simp; omega) | (simp [*]; omega)))))))
    go_ret2
    exact ⟨_, rfl, Or.inr (gives0 st .here), st.keep⟩
set_option maxRecDepth 100000 in
theorem Clone_nil (c : Nat) (w : World) : Calls Try.prog 62 #[.slice none 0 c] w fun e w' => e = .returned (.slice none 0 0) ∧ Keep [] w w' := by
  have st := St.start w
  have hnil := fun w => Lib.run_eql_slice_nil (P := Try.prog) w 26 52 none 0 c 0 0 Try.underlying26
  go_enter Try.func62, Try.ntmps62
  go_wp2_with fail
  go_ret
  exact ⟨rfl, st.keep⟩
set_option maxHeartbeats 1000000 in
set_option maxRecDepth 100000 in
theorem ToAndFro_c (B : List Fm) (n : Nat) (hB : B.length = n) (hn : n ≤ 1000000) (p : Option Addr) (hp : p = none → n = 0) (c : Nat) (w : World) (hr : Rd w p n (encs fv B)) :
    Calls Try.prog 34 #[.slice p n c] w (BookCode (froR B) (froR B).length (froC B) True w) := by
  have st := St.start w
  rcases Bool.eq_false_or_eq_true (bkB B) with h | h
  · have HV := hid (fun w' hk => ValidBook_v h n hB (by omega) p c w' (hr.keep (w1 := w') hk))
    have HCl := hid (fun w' hk => Clone_c B n hB (by omega) p hp c w' (hr.keep (w1 := w') hk))
    have HF : (froF B).length = n + (n - 2) := by unfold froF; rw [froL_length B hB (by omega), hB]
    have HFF : froF B = froL B (n - 2) := by unfold froF; rw [hB]
    replace hB := hid hB
    have HP0 := hid hp
    clear hp
    obtain ⟨C, hC⟩ : ∃ C, froC B = C := ⟨_, rfl⟩
    obtain ⟨R, hR⟩ : ∃ R, froR B = R := ⟨_, rfl⟩
    rw [hC, hR]
    replace hC := hid hC
    replace hR := hid hR
    replace HF := hid HF
    replace HFF := hid HFF
    replace h := hid h
    cases p with
    | none =>
      obtain rfl : n = 0 := HP0.out rfl
      have hCC : C = 0 := by rw [← hC.out]; unfold froC; rw [if_pos h.out, if_pos (by rw [HF.out]; omega)]
      have hRR : R = [] := by rw [← hR.out]; unfold froR; rw [hC.out, hCC, if_pos rfl]; exact List.eq_nil_of_length_eq_zero HF.out
      subst hCC
      subst hRR
      go_enter Try.func34, Try.ntmps34
      go_wp2_with (first | (go_at_call 23; refine (HV.out _ st.keep).mono ?_; rintro _ _ ⟨rfl, hk⟩; replace st := st.call hk; clear hk) | (go_at_call 62; refine (Clone_nil _ _).mono ?_; rintro _ _ ⟨rfl, hk⟩; replace st := st.call hk; clear hk) | ((with_reducible refine gate_lst ?_); (first | ((with_reducible refine gate_load rfl ?_); (first | (refine ia_loadAll st rfl rfl rfl ?_ ?_; (focus (first | rfl | (simp; done) | (simp; assumption) | (simp; omega) | (simp [*]; done)))) | (refine ia_loadC (hb.keep st.keep (by simp)) rfl rfl rfl ?_ ?_; (focus (first | rfl | (simp; done) | (simp; assumption) | (simp; omega) | (simp [*]; done)))) | (refine ia_loadC (hb'.keep st.keep (by simp)) rfl rfl rfl ?_ ?_; (focus (first | rfl | (simp; done) | (simp; assumption) | (simp; omega) | (simp [*]; done)))) | (refine ia_loadC (Cl.of (hb1.keep st.keep (by simp))) rfl rfl rfl ?_ ?_; (focus (first | rfl | (simp; done) | (simp; assumption) | (simp; omega) | (simp [*]; done)))) | (refine ia_loadC (Cl.of (hb2.keep st.keep (by simp))) rfl rfl rfl ?_ ?_; (focus (first | rfl | (simp; done) | (simp; assumption) | (simp; omega) | (simp [*]; done)))))) | ((with_reducible refine gate_addr rfl ?_); (first | (refine' ia_slcP HP.out rfl rfl rfl rfl ?_ ?_ ?_) | (refine' ia_slcP HP2.out rfl rfl rfl rfl ?_ ?_ ?_)); rotate_left 1; (focus (first | exact (rfl : (0 : Int) = ((0 : Nat) : Int)) | exact (rfl : (1 : Int) = ((1 : Nat) : Int)) | exact rfl | exact HE1.out | exact HE2.out)); (focus (first | omega | (simp; done) | (simp; omega) | (simp [*]; omega)))))))
      go_loopw [4, 5] (fun v i wr => i = .int .i64 (-2) ∧ v = .slice none 0 0 ∧ St [] w wr []) (fun _ i _ => 0)
      case atStart => exact ⟨rfl, rfl, st⟩
      case round =>
        clear st
        obtain ⟨rfl, rfl, st⟩ := hrel
        go_wp2_with (first | (go_at_call 67; refine (limited_n 0 _ _ (by omega) _).mono ?_; rintro _ _ ⟨rfl, hk⟩; replace st := st.call hk; clear hk) | ((with_reducible refine gate_lst ?_); (first | ((with_reducible refine gate_load rfl ?_); (first | (refine ia_loadAll st rfl rfl rfl ?_ ?_; (focus (first | rfl | (simp; done) | (simp; assumption) | (simp; omega) | (simp [*]; done)))) | (refine ia_loadC (hb.keep st.keep (by simp)) rfl rfl rfl ?_ ?_; (focus (first | rfl | (simp; done) | (simp; assumption) | (simp; omega) | (simp [*]; done)))) | (refine ia_loadC (hb'.keep st.keep (by simp)) rfl rfl rfl ?_ ?_; (focus (first | rfl | (simp; done) | (simp; assumption) | (simp; omega) | (simp [*]; done)))) | (refine ia_loadC (Cl.of (hb1.keep st.keep (by simp))) rfl rfl rfl ?_ ?_; (focus (first | rfl | (simp; done) | (simp; assumption) | (simp; omega) | (simp [*]; done)))) | (refine ia_loadC (Cl.of (hb2.keep st.keep (by simp))) rfl rfl rfl ?_ ?_; (focus (first | rfl | (simp; done) | (simp; assumption) | (simp; omega) | (simp [*]; done)))))) | ((with_reducible refine gate_addr rfl ?_); (first | (refine' ia_slcP HP.out rfl rfl rfl rfl ?_ ?_ ?_) | (refine' ia_slcP HP2.out rfl rfl rfl rfl ?_ ?_ ?_)); rotate_left 1; (focus (first | exact (rfl : (0 : Int) = ((0 : Nat) : Int)) | exact (rfl : (1 : Int) = ((1 : Nat) : Int)) | exact rfl | exact HE1.out | exact HE2.out)); (focus (first | omega | (simp; done) | (simp; omega) | (simp [*]; omega)))))))
        go_ret2
        exact ⟨_, rfl, Or.inl ⟨trivial, rfl, rfl⟩, st.keep⟩
    | some ad =>
      go_enter Try.func34, Try.ntmps34
      go_wp2_with (first | (go_at_call 23; refine (HV.out _ st.keep).mono ?_; rintro _ _ ⟨rfl, hk⟩; replace st := st.call hk; clear hk) | (go_at_call 62; refine (HCl.out _ st.keep).mono ?_; rintro _ _ ⟨v, rfl, (⟨hF, _⟩ | ⟨g, cap, spare, rfl, hg, hbg, hcap, hcm⟩), hk⟩; (exact absurd hF (by simp)); (replace st := st.adopt hk hg hbg; have HC := hid hcap; have HM := hid hcm; clear hk hg hbg hcap hcm)) | ((with_reducible refine gate_lst ?_); (first | ((with_reducible refine gate_load rfl ?_); (first | (refine ia_loadAll st rfl rfl rfl ?_ ?_; (focus (first | rfl | (simp; done) | (simp; assumption) | (simp; omega) | (simp [*]; done)))) | (refine ia_loadC (hb.keep st.keep (by simp)) rfl rfl rfl ?_ ?_; (focus (first | rfl | (simp; done) | (simp; assumption) | (simp; omega) | (simp [*]; done)))) | (refine ia_loadC (hb'.keep st.keep (by simp)) rfl rfl rfl ?_ ?_; (focus (first | rfl | (simp; done) | (simp; assumption) | (simp; omega) | (simp [*]; done)))) | (refine ia_loadC (Cl.of (hb1.keep st.keep (by simp))) rfl rfl rfl ?_ ?_; (focus (first | rfl | (simp; done) | (simp; assumption) | (simp; omega) | (simp [*]; done)))) | (refine ia_loadC (Cl.of (hb2.keep st.keep (by simp))) rfl rfl rfl ?_ ?_; (focus (first | rfl | (simp; done) | (simp; assumption) | (simp; omega) | (simp [*]; done)))))) | ((with_reducible refine gate_addr rfl ?_); (first | (refine' ia_slcP HP.out rfl rfl rfl rfl ?_ ?_ ?_) | (refine' ia_slcP HP2.out rfl rfl rfl rfl ?_ ?_ ?_)); rotate_left 1; (focus (first | exact (rfl : (0 : Int) = ((0 : Nat) : Int)) | exact (rfl : (1 : Int) = ((1 : Nat) : Int)) | exact rfl | exact HE1.out | exact HE2.out)); (focus (first | omega | (simp; done) | (simp; omega) | (simp [*]; omega)))))))
      go_loopw [4, 5] (fun v i wr => ∃ k : Nat, ∃ g cap : Nat, ∃ spare : List Value, k ≤ n - 2 ∧ i = .int .i64 ((n : Int) - 2 - k) ∧ v = .slice (some ⟨g, 0, none⟩) (n + k) cap ∧ St [] w wr [(g, encs fv (froL B k) ++ spare, 52)] ∧ (encs fv (froL B k) ++ spare).length = cap * 12 ∧ cap ≤ maxLen) (fun _ i _ => (intOf i + 2).toNat)
      case atStart => exact ⟨0, g, cap, spare, by omega, by simp, rfl, by rw [froL_zero]; exact st, by rw [froL_zero]; exact HC.out, HM.out⟩
      case round =>
        clear st HC HM
        obtain ⟨k, g, cap, spare, hk, rfl, rfl, st, hcap, hcm⟩ := hrel
        have HC := hid hcap
        clear hcap
        by_cases hlt : k < n - 2
        · obtain ⟨q, hq⟩ : ∃ q : Nat, q = n - 2 - k := ⟨_, rfl⟩
          have hqi : (n : Int) - 2 - k = (q : Int) := by omega
          have hqn : q < n := by omega
          have hq0 : 0 < q := by omega
          rw [hqi]
          have HQ := hid hqi
          clear hqi
          obtain ⟨b, f, hp, hcl⟩ := hr (by omega)
          obtain rfl : ad = ⟨b, f, none⟩ := by injection hp
          have hkB : q < B.length := by rw [hB.out]; exact hqn
          have hb := hcl.seg fv_len hkB
          have HS := hid (froL_step B hB.out hlt)
          rw [show B[n - 2 - k]'(by rw [hB.out]; omega) = B[q] by congr 1; omega] at HS
          obtain ⟨x, hx⟩ : ∃ x, B[q] = x := ⟨_, rfl⟩
          rw [hx] at hb HS
          have HLL := hid (froL_length B (k := k) hB.out hk)
          have HK := hid hq
          clear hx hp hcl hkB hq
          go_wp2_with (first | ((with_reducible refine gate_bsl rfl ?_); refine ia_bsl1 (sl := 23) st rfl rfl rfl rfl rfl ?_ (by decide) ?_; (focus (first | rfl | (simp; done) | (simp; assumption) | (simp; omega) | (simp [*]; done))); clear st; intro B23 _ st) | ((with_reducible refine gate_app rfl ?_); refine ia_appendR (news := (fv x)) (xs := (encs fv (froL B k))) (spare := spare) st rfl rfl rfl rfl (by rw [encs_fv_length, HLL.out]) HC.out hcm (.fr (st.get (by repeat (first | exact At.here | apply At.there)))) (fun h => by cases h) (fv_len x) (fv_one x) (by unfold maxLen; omega) (by omega) ?_; clear st; intro g2 cap2 spare2 _ st hcap2 hcm2; (try simp only [List.set_cons_zero, List.set_cons_succ] at st)) | ((with_reducible refine gate_lst ?_); (first | ((with_reducible refine gate_load rfl ?_); (first | (refine ia_loadAll st rfl rfl rfl ?_ ?_; (focus (first | rfl | (simp; done) | (simp; assumption) | (simp; omega) | (simp [*]; done)))) | (refine ia_loadC (hb.keep st.keep (by simp)) rfl rfl rfl ?_ ?_; (focus (first | rfl | (simp; done) | (simp; assumption) | (simp; omega) | (simp [*]; done)))) | (refine ia_loadC (hb'.keep st.keep (by simp)) rfl rfl rfl ?_ ?_; (focus (first | rfl | (simp; done) | (simp; assumption) | (simp; omega) | (simp [*]; done)))) | (refine ia_loadC (Cl.of (hb1.keep st.keep (by simp))) rfl rfl rfl ?_ ?_; (focus (first | rfl | (simp; done) | (simp; assumption) | (simp; omega) | (simp [*]; done)))) | (refine ia_loadC (Cl.of (hb2.keep st.keep (by simp))) rfl rfl rfl ?_ ?_; (focus (first | rfl | (simp; done) | (simp; assumption) | (simp; omega) | (simp [*]; done)))))) | ((with_reducible refine gate_addr rfl ?_); (first | (refine' ia_slcP HP.out rfl rfl rfl rfl ?_ ?_ ?_) | (refine' ia_slcP HP2.out rfl rfl rfl rfl ?_ ?_ ?_)); rotate_left 1; (focus (first | exact (rfl : (0 : Int) = ((0 : Nat) : Int)) | exact (rfl : (1 : Int) = ((1 : Nat) : Int)) | exact rfl | exact HE1.out | exact HE2.out)); (focus (first | omega | (simp; done) | (simp; omega) | (simp [*]; omega)))))))
          have e : encs fv (froL B (k + 1)) = encs fv (froL B k) ++ fv x := by rw [← HS.out, encs_append]; simp [encs]
          go_roundw
          case rel => exact ⟨k + 1, g2, cap2, spare2, by omega, by rw [show (q : Int) - 1 = (n : Int) - 2 - ((k + 1 : Nat) : Int) by have := HQ.out; omega], by rw [Nat.add_assoc], by rw [e]; exact st.drop, by rw [e]; exact hcap2, hcm2⟩
          case measure => first | (simp [intOf]; done) | (simp [intOf]; omega)
        · obtain rfl : k = n - 2 := by omega
          obtain ⟨r, hr2⟩ : ∃ r : Int, (n : Int) - 2 - ((n - 2 : Nat) : Int) = r := ⟨_, rfl⟩
          have hr3 : r ≤ 0 := by omega
          have hd0 : decide (0 < r) = false := by simp; omega
          rw [hr2]
          clear hr2
          obtain ⟨m, hm⟩ : ∃ m, n + (n - 2) = m := ⟨_, rfl⟩
          have hm4 : m ≤ 4000000 := by omega
          rw [hm]
          have HM := hid hm
          clear hm
          by_cases h40 : m ≤ 40
          · go_wp2_with (first | (go_at_call 67; refine (limited_0 hm4 h40 _).mono ?_; rintro _ _ ⟨rfl, hk⟩; replace st := st.call hk; clear hk) | ((with_reducible refine gate_lst ?_); (first | ((with_reducible refine gate_load rfl ?_); (first | (refine ia_loadAll st rfl rfl rfl ?_ ?_; (focus (first | rfl | (simp; done) | (simp; assumption) | (simp; omega) | (simp [*]; done)))) | (refine ia_loadC (hb.keep st.keep (by simp)) rfl rfl rfl ?_ ?_; (focus (first | rfl | (simp; done) | (simp; assumption) | (simp; omega) | (simp [*]; done)))) | (refine ia_loadC (hb'.keep st.keep (by simp)) rfl rfl rfl ?_ ?_; (focus (first | rfl | (simp; done) | (simp; assumption) | (simp; omega) | (simp [*]; done)))) | (refine ia_loadC (Cl.of (hb1.keep st.keep (by simp))) rfl rfl rfl ?_ ?_; (focus (first | rfl | (simp; done) | (simp; assumption) | (simp; omega) | (simp [*]; done)))) | (refine ia_loadC (Cl.of (hb2.keep st.keep (by simp))) rfl rfl rfl ?_ ?_; (focus (first | rfl | (simp; done) | (simp; assumption) | (simp; omega) | (simp [*]; done)))))) | ((with_reducible refine gate_addr rfl ?_); (first | (refine' ia_slcP HP.out rfl rfl rfl rfl ?_ ?_ ?_) | (refine' ia_slcP HP2.out rfl rfl rfl rfl ?_ ?_ ?_)); rotate_left 1; (focus (first | exact (rfl : (0 : Int) = ((0 : Nat) : Int)) | exact (rfl : (1 : Int) = ((1 : Nat) : Int)) | exact rfl | exact HE1.out | exact HE2.out)); (focus (first | omega | (simp; done) | (simp; omega) | (simp [*]; omega)))))))
            have hCC : C = 0 := by rw [← hC.out]; unfold froC; rw [if_pos h.out, if_pos (by rw [HF.out, HM.out]; exact h40)]
            have hRR : R = froL B (n - 2) := by rw [← hR.out]; unfold froR; rw [hC.out, hCC, if_pos rfl, HFF.out]
            subst hCC
            subst hRR
            go_ret2
            exact ⟨_, rfl, Or.inr ⟨g, cap, spare, by rw [froL_length B hB.out hk, HM.out]; rfl, out_of st .here, st.get .here, HC.out, hcm⟩, st.keep⟩
          · have HLi := hid h40
            have hCC : C = 3 := by rw [← hC.out]; unfold froC; rw [if_pos h.out, if_neg (by rw [HF.out, HM.out]; exact h40)]
            have hRR : R = [] := by rw [← hR.out]; unfold froR; rw [hC.out, hCC, if_neg (by decide)]
            subst hCC
            subst hRR
            go_wp2_with (first | (go_at_call 67; refine (limited_3 hm4 HLi.out _).mono ?_; rintro _ _ ⟨rfl, hk⟩; replace st := st.call hk; clear hk) | ((with_reducible refine gate_lst ?_); (first | ((with_reducible refine gate_load rfl ?_); (first | (refine ia_loadAll st rfl rfl rfl ?_ ?_; (focus (first | rfl | (simp; done) | (simp; assumption) | (simp; omega) | (simp [*]; done)))) | (refine ia_loadC (hb.keep st.keep (by simp)) rfl rfl rfl ?_ ?_; (focus (first | rfl | (simp; done) | (simp; assumption) | (simp; omega) | (simp [*]; done)))) | (refine ia_loadC (hb'.keep st.keep (by simp)) rfl rfl rfl ?_ ?_; (focus (first | rfl | (simp; done) | (simp; assumption) | (simp; omega) | (simp [*]; done)))) | (refine ia_loadC (Cl.of (hb1.keep st.keep (by simp))) rfl rfl rfl ?_ ?_; (focus (first | rfl | (simp; done) | (simp; assumption) | (simp; omega) | (simp [*]; done)))) | (refine ia_loadC (Cl.of (hb2.keep st.keep (by simp))) rfl rfl rfl ?_ ?_; (focus (first | rfl | (simp; done) | (simp; assumption) | (simp; omega) | (simp [*]; done)))))) | ((with_reducible refine gate_addr rfl ?_); (first | (refine' ia_slcP HP.out rfl rfl rfl rfl ?_ ?_ ?_) | (refine' ia_slcP HP2.out rfl rfl rfl rfl ?_ ?_ ?_)); rotate_left 1; (focus (first | exact (rfl : (0 : Int) = ((0 : Nat) : Int)) | exact (rfl : (1 : Int) = ((1 : Nat) : Int)) | exact rfl | exact HE1.out | exact HE2.out)); (focus (first | omega | (simp; done) | (simp; omega) | (simp [*]; omega)))))))
            go_ret2
            exact ⟨_, rfl, Or.inl ⟨trivial, rfl, rfl⟩, st.keep⟩
  · have HV := hid (fun w' hk => ValidBook_v h n hB (by omega) p c w' (hr.keep (w1 := w') hk))
    have hC : froC B = 1 := by unfold froC; rw [if_neg (by rw [h]; decide)]
    have hR : froR B = [] := by unfold froR; rw [hC, if_neg (by decide)]
    rw [hC, hR]
    clear hB h hp hC hR
    go_enter Try.func34, Try.ntmps34
    go_wp2_with (first | (go_at_call 23; refine (HV.out _ st.keep).mono ?_; rintro _ _ ⟨rfl, hk⟩; replace st := st.call hk; clear hk) | ((with_reducible refine gate_lst ?_); (first | ((with_reducible refine gate_load rfl ?_); (first | (refine ia_loadAll st rfl rfl rfl ?_ ?_; (focus (first | rfl | (simp; done) | (simp; assumption) | (simp; omega) | (simp [*]; done)))) | (refine ia_loadC (hb.keep st.keep (by simp)) rfl rfl rfl ?_ ?_; (focus (first | rfl | (simp; done) | (simp; assumption) | (simp; omega) | (simp [*]; done)))) | (refine ia_loadC (hb'.keep st.keep (by simp)) rfl rfl rfl ?_ ?_; (focus (first | rfl | (simp; done) | (simp; assumption) | (simp; omega) | (simp [*]; done)))) | (refine ia_loadC (Cl.of (hb1.keep st.keep (by simp))) rfl rfl rfl ?_ ?_; (focus (first | rfl | (simp; done) | (simp; assumption) | (simp; omega) | (simp [*]; done)))) | (refine ia_loadC (Cl.of (hb2.keep st.keep (by simp))) rfl rfl rfl ?_ ?_; (focus (first | rfl | (simp; done) | (simp; assumption) | (simp; omega) | (simp [*]; done)))))) | ((with_reducible refine gate_addr rfl ?_); (first | (refine' ia_slcP HP.out rfl rfl rfl rfl ?_ ?_ ?_) | (refine' ia_slcP HP2.out rfl rfl rfl rfl ?_ ?_ ?_)); rotate_left 1; (focus (first | exact (rfl : (0 : Int) = ((0 : Nat) : Int)) | exact (rfl : (1 : Int) = ((1 : Nat) : Int)) | exact rfl | exact HE1.out | exact HE2.out)); (focus (first | omega | (simp; done) | (simp; omega) | (simp [*]; omega)))))))
    go_ret2
    exact ⟨_, rfl, Or.inl ⟨trivial, rfl, rfl⟩, st.keep⟩
end Go.Proofs.Ytmfgbkmkcljciaa
