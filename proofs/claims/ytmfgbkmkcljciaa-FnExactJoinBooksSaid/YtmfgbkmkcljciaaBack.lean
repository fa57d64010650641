/- Books backwards: the reference and the program; no condition. -/
import Derived.Test.YtmfgbkmkcljciaaCutB
namespace Go.Proofs.Ytmfgbkmkcljciaa
open Go.RowKit
set_option linter.unusedSimpArgs false
set_option linter.unusedVariables false

/-- The last k elements, the last one first. -/
def lastK {α : Type} (B : List α) (k : Nat) : List α := B.reverse.take k
theorem lastK_length {α : Type} (B : List α) {k : Nat} (hk : k ≤ B.length) : (lastK B k).length = k := by unfold lastK; rw [List.length_take, List.length_reverse]; omega
theorem lastK_step {α : Type} (B : List α) {k n : Nat} (hn : B.length = n) (hk : k < n) : lastK B k ++ [B[n - 1 - k]] = lastK B (k + 1) := by
  unfold lastK
  rw [List.take_succ_eq_append_getElem (by rw [List.length_reverse]; omega), List.getElem_reverse]
  simp [hn]
theorem lastK_all {α : Type} (B : List α) {n : Nat} (hn : B.length = n) : lastK B n = B.reverse := by unfold lastK; rw [List.take_of_length_le (by rw [List.length_reverse]; omega)]
set_option maxHeartbeats 1000000 in
set_option maxRecDepth 100000 in
theorem l02Back_c (B : List Fm) (n : Nat) (hB : B.length = n) (hn : n ≤ 1000000) (p : Option Addr) (c : Nat) (w : World) (hr : Rd w p n (encs fv B)) :
    Calls Try.prog 65 #[.slice p n c] w (BookPost B.reverse n False w) := by
  have st := St.start w
  replace hB := hid hB
  go_enter Try.func65, Try.ntmps65
  go_wp2_with (first | ((with_reducible refine gate_bsl rfl ?_); refine ia_bsl0 (sl := 5) st rfl rfl rfl ?_; clear st; intro B5 _ st) | ((with_reducible refine gate_lst ?_); (first | ((with_reducible refine gate_load rfl ?_); (first | (refine ia_loadAll st rfl rfl rfl ?_ ?_; (focus (first | rfl | (simp; done) | (simp; assumption) | (simp; omega) | (simp [*]; done)))) | (refine ia_loadC (hb.keep st.keep (by simp)) rfl rfl rfl ?_ ?_; (focus (first | rfl | (simp; done) | (simp; assumption) | (simp; omega) | (simp [*]; done)))) | (refine ia_loadC (hb'.keep st.keep (by simp)) rfl rfl rfl ?_ ?_; (focus (first | rfl | (simp; done) | (simp; assumption) | (simp; omega) | (simp [*]; done)))) | (refine ia_loadC (Cl.of (hb1.keep st.keep (by simp))) rfl rfl rfl ?_ ?_; (focus (first | rfl | (simp; done) | (simp; assumption) | (simp; omega) | (simp [*]; done)))) | (refine ia_loadC (Cl.of (hb2.keep st.keep (by simp))) rfl rfl rfl ?_ ?_; (focus (first | rfl | (simp; done) | (simp; assumption) | (simp; omega) | (simp [*]; done)))))) | ((with_reducible refine gate_addr rfl ?_); (first | (refine' ia_slcP HP.out rfl rfl rfl rfl ?_ ?_ ?_) | (refine' ia_slcP HP2.out rfl rfl rfl rfl ?_ ?_ ?_)); rotate_left 1; (focus (first | exact (rfl : (0 : Int) = ((0 : Nat) : Int)) | exact (rfl : (1 : Int) = ((1 : Nat) : Int)) | exact rfl | exact HE1.out | exact HE2.out)); (focus (first | omega | (simp; done) | (simp; omega) | (simp [*]; omega)))))))
  go_loopw [3, 4] (fun v i wr => ∃ k : Nat, ∃ g cap : Nat, ∃ spare : List Value, k ≤ n ∧ i = .int .i64 ((n : Int) - 1 - k) ∧ v = .slice (some ⟨g, 0, none⟩) k cap ∧ St [] w wr [(g, encs fv (lastK B k) ++ spare, 52)] ∧ (encs fv (lastK B k) ++ spare).length = cap * 12 ∧ cap ≤ maxLen) (fun _ i _ => (intOf i + 1).toNat)
  case atStart => exact ⟨0, B5, 0, [], by omega, by simp, rfl, st, rfl, Nat.zero_le _⟩
  case round =>
    clear st
    obtain ⟨k, g, cap, spare, hk, rfl, rfl, st, hcap, hcm⟩ := hrel
    have HC := hid hcap
    clear hcap
    by_cases hlt : k < n
    · have hd : decide ((0 : Int) ≤ (n : Int) - 1 - k) = true := by simp; omega
      obtain ⟨q, hq⟩ : ∃ q : Nat, q = n - 1 - k := ⟨_, rfl⟩
      have hqi : (n : Int) - 1 - k = (q : Int) := by omega
      have hqn : q < n := by omega
      rw [hqi]
      have HQ := hid hqi
      clear hqi hd
      obtain ⟨b, f, hp, hcl⟩ := hr (by omega)
      have HP := hid hp
      have hkB : q < B.length := by rw [hB.out]; exact hqn
      have hb := hcl.seg fv_len hkB
      have HS := hid (lastK_step B hB.out hlt)
      have hql : B[n - 1 - k]'(by rw [hB.out]; omega) = B[q] := by congr 1; omega
      rw [show B[n - 1 - k]'(by rw [hB.out]; omega) = B[q] from hql] at HS
      obtain ⟨x, hx⟩ : ∃ x, B[q] = x := ⟨_, rfl⟩
      rw [hx] at hb HS
      have HLL := hid (lastK_length B (k := k) (by rw [hB.out]; omega))
      have HK := hid hq
      clear hx hp hcl hkB hql hq
      go_wp2_with (first | ((with_reducible refine gate_bsl rfl ?_); refine ia_bsl1 (sl := 18) st rfl rfl rfl rfl rfl ?_ (by decide) ?_; (focus (first | rfl | (simp; done) | (simp; assumption) | (simp; omega) | (simp [*]; done))); clear st; intro B18 _ st) | ((with_reducible refine gate_app rfl ?_); refine ia_appendR (news := (fv x)) (xs := (encs fv (lastK B k))) (spare := spare) st rfl rfl rfl rfl (by rw [encs_fv_length, HLL.out]) HC.out hcm (.fr (st.get (by repeat (first | exact At.here | apply At.there)))) (fun h => by cases h) (fv_len x) (fv_one x) (by unfold maxLen; omega) (by omega) ?_; clear st; intro g2 cap2 spare2 _ st hcap2 hcm2; (try simp only [List.set_cons_zero, List.set_cons_succ] at st)) | ((with_reducible refine gate_lst ?_); (first | ((with_reducible refine gate_load rfl ?_); (first | (refine ia_loadAll st rfl rfl rfl ?_ ?_; (focus (first | rfl | (simp; done) | (simp; assumption) | (simp; omega) | (simp [*]; done)))) | (refine ia_loadC (hb.keep st.keep (by simp)) rfl rfl rfl ?_ ?_; (focus (first | rfl | (simp; done) | (simp; assumption) | (simp; omega) | (simp [*]; done)))) | (refine ia_loadC (hb'.keep st.keep (by simp)) rfl rfl rfl ?_ ?_; (focus (first | rfl | (simp; done) | (simp; assumption) | (simp; omega) | (simp [*]; done)))) | (refine ia_loadC (Cl.of (hb1.keep st.keep (by simp))) rfl rfl rfl ?_ ?_; (focus (first | rfl | (simp; done) | (simp; assumption) | (simp; omega) | (simp [*]; done)))) | (refine ia_loadC (Cl.of (hb2.keep st.keep (by simp))) rfl rfl rfl ?_ ?_; (focus (first | rfl | (simp; done) | (simp; assumption) | (simp; omega) | (simp [*]; done)))))) | ((with_reducible refine gate_addr rfl ?_); (first | (refine' ia_slcP HP.out rfl rfl rfl rfl ?_ ?_ ?_) | (refine' ia_slcP HP2.out rfl rfl rfl rfl ?_ ?_ ?_)); rotate_left 1; (focus (first | exact (rfl : (0 : Int) = ((0 : Nat) : Int)) | exact (rfl : (1 : Int) = ((1 : Nat) : Int)) | exact rfl | exact HE1.out | exact HE2.out)); (focus (first | omega | (simp; done) | (simp; omega) | (simp [*]; omega)))))))
      have e : encs fv (lastK B (k + 1)) = encs fv (lastK B k) ++ fv x := by rw [← HS.out, encs_append]; simp [encs]
      go_roundw
      case rel => exact ⟨k + 1, g2, cap2, spare2, by omega, by rw [show (q : Int) - 1 = (n : Int) - 1 - ((k + 1 : Nat) : Int) by have := HQ.out; omega], rfl, by rw [e]; exact st.drop, by rw [e]; exact hcap2, hcm2⟩
      case measure => first | (simp [intOf]; done) | (simp [intOf]; omega)
    · obtain rfl : k = n := by omega
      have hd : decide ((0 : Int) ≤ (k : Int) - 1 - k) = false := by simp; omega
      have hk1 : (k : Int) - 1 - k = -1 := by omega
      rw [hk1]
      clear hk1 hd
      rw [lastK_all B hB.out] at st HC
      go_wp2_with (first | ((with_reducible refine gate_lst ?_); (first | ((with_reducible refine gate_load rfl ?_); (first | (refine ia_loadAll st rfl rfl rfl ?_ ?_; (focus (first | rfl | (simp; done) | (simp; assumption) | (simp; omega) | (simp [*]; done)))) | (refine ia_loadC (hb.keep st.keep (by simp)) rfl rfl rfl ?_ ?_; (focus (first | rfl | (simp; done) | (simp; assumption) | (simp; omega) | (simp [*]; done)))) | (refine ia_loadC (hb'.keep st.keep (by simp)) rfl rfl rfl ?_ ?_; (focus (first | rfl | (simp; done) | (simp; assumption) | (simp; omega) | (simp [*]; done)))) | (refine ia_loadC (Cl.of (hb1.keep st.keep (by simp))) rfl rfl rfl ?_ ?_; (focus (first | rfl | (simp; done) | (simp; assumption) | (simp; omega) | (simp [*]; done)))) | (refine ia_loadC (Cl.of (hb2.keep st.keep (by simp))) rfl rfl rfl ?_ ?_; (focus (first | rfl | (simp; done) | (simp; assumption) | (simp; omega) | (simp [*]; done)))))) | ((with_reducible refine gate_addr rfl ?_); (first | (refine' ia_slcP HP.out rfl rfl rfl rfl ?_ ?_ ?_) | (refine' ia_slcP HP2.out rfl rfl rfl rfl ?_ ?_ ?_)); rotate_left 1; (focus (first | exact (rfl : (0 : Int) = ((0 : Nat) : Int)) | exact (rfl : (1 : Int) = ((1 : Nat) : Int)) | exact rfl | exact HE1.out | exact HE2.out)); (focus (first | omega | (simp; done) | (simp; omega) | (simp [*]; omega)))))))
      go_ret
      exact ⟨_, rfl, Or.inr ⟨g, cap, spare, rfl, out_of st .here, st.get .here, HC.out, hcm⟩, st.keep⟩
def bkCode (B : List Fm) : Int := if bkB B = true then 0 else 1
def backR (B : List Fm) : List Fm := if bkB B = true then B.reverse else []
theorem backR_len (B : List Fm) : (backR B).length ≤ B.length := by unfold backR; split <;> simp
set_option maxRecDepth 100000 in
theorem specBackBook_c (B : List Fm) (n : Nat) (hB : B.length = n) (hn : n ≤ 1000000) (p : Option Addr) (c : Nat) (w : World) (hr : Rd w p n (encs fv B)) :
    Calls Try.prog 31 #[.slice p n c] w (BookCode (backR B) (backR B).length (bkCode B) False w) := by
  have st := St.start w
  unfold backR bkCode
  rcases Bool.eq_false_or_eq_true (bkB B) with h | h
  · have HV := hid (fun w' hk => l02Ok_v h n hB (by omega) p c w' (hr.keep (w1 := w') hk))
    have HB := hid (fun w' hk => l02Back_c B n hB hn p c w' (hr.keep (w1 := w') hk))
    rw [if_pos h, if_pos h, List.length_reverse, hB]
    clear hB h
    go_enter Try.func31, Try.ntmps31
    go_wp2_with (first | (go_at_call 58; refine (HV.out _ st.keep).mono ?_; rintro _ _ ⟨rfl, hk⟩; replace st := st.call hk; clear hk) | (go_at_call 65; refine (HB.out _ st.keep).mono ?_; rintro _ _ ⟨v, rfl, hv, hk⟩; have HVV := hid (hv.since st.keep id); clear hv; replace st := st.call hk; clear hk))
    go_ret2
    exact ⟨_, rfl, HVV.out, st.keep⟩
  · have HV := hid (fun w' hk => l02Ok_v h n hB (by omega) p c w' (hr.keep (w1 := w') hk))
    rw [if_neg (by rw [h]; decide), if_neg (by rw [h]; decide)]
    clear hB h
    go_enter Try.func31, Try.ntmps31
    go_wp2_with (first | (go_at_call 58; refine (HV.out _ st.keep).mono ?_; rintro _ _ ⟨rfl, hk⟩; replace st := st.call hk; clear hk) | ((with_reducible refine gate_bsl rfl ?_); refine ia_bsl0 (sl := 7) st rfl rfl rfl ?_; clear st; intro B7 _ st))
    go_ret2
    exact ⟨_, rfl, Or.inr (gives0 st .here), st.keep⟩
end Go.Proofs.Ytmfgbkmkcljciaa
