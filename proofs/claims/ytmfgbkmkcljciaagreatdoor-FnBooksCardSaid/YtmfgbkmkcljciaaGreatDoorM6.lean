/- Texts of this seat, one behind the other: Back, Fro, FbP, Rev, LBack, Join; no condition. -/
import Derived.Test.YtmfgbkmkcljciaaGreatDoorM3
import Derived.Test.YtmfgbkmkcljciaaGreatDoorM5
import Derived.Test.YtmfgbkmkcljciaaGreatDoorM1
import Derived.Lib.AppendZerosOnto
/- Books backwards: the reference and the program; no condition. -/
namespace Go.Proofs.YtmfgbkmkcljciaaGreatDoor
open Go.RowKit
set_option linter.unusedSimpArgs false
set_option linter.unusedVariables false

/-- The last k elements, the last one first. -/
def lastK {α : Type} (B : List α) (k : Nat) : List α := B.reverse.take k
theorem lastK_length {α : Type} (B : List α) {k : Nat} (hk : k ≤ B.length) : (lastK B k).length = k := by unfold lastK; rw [List.length_take, List.length_reverse]; omega
theorem lastK_step {α : Type} (B : List α) {k n : Nat} (hn : B.length = n) (hk : k < n) : lastK B k ++ [B[n - 1 - k]] = lastK B (k + 1) := by
  unfold lastK
  rw [List.take_succ_eq_append_getElem (by rw [List.length_reverse]; omega), List.getElem_reverse]
  simp [hn]
theorem lastK_all {α : Type} (B : List α) {n : Nat} (hn : B.length = n) : lastK B n = B.reverse := by unfold lastK; rw [List.take_of_length_le (by rw [List.length_reverse]; omega)]
set_option maxHeartbeats 1000000 in
set_option maxRecDepth 100000 in
theorem l02Back_c (B : List Fm) (n : Nat) (hB : B.length = n) (hn : n ≤ 1000000) (p : Option Addr) (c : Nat) (w : World) (hr : Rd w p n (encs fv B)) :
    Calls Tryz.prog 43 #[.slice p n c] w (BookPost B.reverse n False w) := by
  have st := St.start w
  replace hB := hid hB
  go_enter Tryz.func43, Tryz.ntmps43
  go_wp2_with (first | ((with_reducible refine gate_bsl rfl ?_); refine ia_bsl0 (sl := 5) st rfl rfl rfl ?_; clear st; intro B5 _ st) | ((with_reducible refine gate_lst ?_); (first | ((with_reducible refine gate_load rfl ?_); (first | (refine ia_loadAll st rfl rfl rfl ?_ ?_; (focus (first | rfl | (simp; done) | (simp; assumption) | (simp; omega) | (simp [*]; done)))) | (refine ia_loadC (hb.keep st.keep (by simp)) rfl rfl rfl ?_ ?_; (focus (first | rfl | (simp; done) | (simp; assumption) | (simp; omega) | (simp [*]; done)))) | (refine ia_loadC (hb'.keep st.keep (by simp)) rfl rfl rfl ?_ ?_; (focus (first | rfl | (simp; done) | (simp; assumption) | (simp; omega) | (simp [*]; done)))) | (refine ia_loadC (Cl.of (hb1.keep st.keep (by simp))) rfl rfl rfl ?_ ?_; (focus (first | rfl | (simp; done) | (simp; assumption) | (simp; omega) | (simp [*]; done)))) | (refine ia_loadC (Cl.of (hb2.keep st.keep (by simp))) rfl rfl rfl ?_ ?_; (focus (first | rfl | (simp; done) | (simp; assumption) | (simp; omega) | (simp [*]; done)))))) | ((with_reducible refine gate_addr rfl ?_); (first | (refine' ia_slcP HP.out rfl rfl rfl rfl ?_ ?_ ?_) | (refine' ia_slcP HP2.out rfl rfl rfl rfl ?_ ?_ ?_)); rotate_left 1; (focus (first | exact (rfl : (0 : Int) = ((0 : Nat) : Int)) | exact (rfl : (1 : Int) = ((1 : Nat) : Int)) | exact rfl | exact HE1.out | exact HE2.out)); (focus (first | omega | (simp; done) | (simp; omega) | (simp [*]; omega)))))))
  go_loopw [3, 4] (fun v i wr => ∃ k : Nat, ∃ g cap : Nat, ∃ spare : List Value, k ≤ n ∧ i = .int .i64 ((n : Int) - 1 - k) ∧ v = .slice (some ⟨g, 0, none⟩) k cap ∧ St [] w wr [(g, encs fv (lastK B k) ++ spare, 42)] ∧ (encs fv (lastK B k) ++ spare).length = cap * 12 ∧ cap ≤ maxLen) (fun _ i _ => (intOf i + 1).toNat)
  case atStart => exact ⟨0, B5, 0, [], by omega, by simp, rfl, st, rfl, Nat.zero_le _⟩
  case round =>
    clear st
    obtain ⟨k, g, cap, spare, hk, rfl, rfl, st, hcap, hcm⟩ := hrel
    have HC := hid hcap
    clear hcap
    by_cases hlt : k < n
    · have hd : decide ((0 : Int) ≤ (n : Int) - 1 - k) = true := by simp; omega
      obtain ⟨q, hq⟩ : ∃ q : Nat, q = n - 1 - k := ⟨_, rfl⟩
      have hqi : (n : Int) - 1 - k = (q : Int) := by omega
      have hqn : q < n := by omega
      rw [hqi]
      have HQ := hid hqi
      clear hqi hd
      obtain ⟨b, f, hp, hcl⟩ := hr (by omega)
      have HP := hid hp
      have hkB : q < B.length := by rw [hB.out]; exact hqn
      have hb := hcl.seg fv_len hkB
      have HS := hid (lastK_step B hB.out hlt)
      have hql : B[n - 1 - k]'(by rw [hB.out]; omega) = B[q] := by congr 1; omega
      rw [show B[n - 1 - k]'(by rw [hB.out]; omega) = B[q] from hql] at HS
      obtain ⟨x, hx⟩ : ∃ x, B[q] = x := ⟨_, rfl⟩
      rw [hx] at hb HS
      have HLL := hid (lastK_length B (k := k) (by rw [hB.out]; omega))
      have HK := hid hq
      clear hx hp hcl hkB hql hq
      go_wp2_with (first | ((with_reducible refine gate_bsl rfl ?_); refine ia_bsl1 (sl := 18) st rfl rfl rfl rfl rfl ?_ (by decide) ?_; (focus (first | rfl | (simp; done) | (simp; assumption) | (simp; omega) | (simp [*]; done))); clear st; intro B18 _ st) | ((with_reducible refine gate_app rfl ?_); refine ia_appendR (news := (fv x)) (xs := (encs fv (lastK B k))) (spare := spare) st rfl rfl rfl rfl (by rw [encs_fv_length, HLL.out]) HC.out hcm (.fr (st.get (by repeat (first | exact At.here | apply At.there)))) (fun h => by cases h) (fv_len x) (fv_one x) (by unfold maxLen; omega) (by omega) ?_; clear st; intro g2 cap2 spare2 _ st hcap2 hcm2; (try simp only [List.set_cons_zero, List.set_cons_succ] at st)) | ((with_reducible refine gate_lst ?_); (first | ((with_reducible refine gate_load rfl ?_); (first | (refine ia_loadAll st rfl rfl rfl ?_ ?_; (focus (first | rfl | (simp; done) | (simp; assumption) | (simp; omega) | (simp [*]; done)))) | (refine ia_loadC (hb.keep st.keep (by simp)) rfl rfl rfl ?_ ?_; (focus (first | rfl | (simp; done) | (simp; assumption) | (simp; omega) | (simp [*]; done)))) | (refine ia_loadC (hb'.keep st.keep (by simp)) rfl rfl rfl ?_ ?_; (focus (first | rfl | (simp; done) | (simp; assumption) | (simp; omega) | (simp [*]; done)))) | (refine ia_loadC (Cl.of (hb1.keep st.keep (by simp))) rfl rfl rfl ?_ ?_; (focus (first | rfl | (simp; done) | (simp; assumption) | (simp; omega) | (simp [*]; done)))) | (refine ia_loadC (Cl.of (hb2.keep st.keep (by simp))) rfl rfl rfl ?_ ?_; (focus (first | rfl | (simp; done) | (simp; assumption) | (simp; omega) | (simp [*]; done)))))) | ((with_reducible refine gate_addr rfl ?_); (first | (refine' ia_slcP HP.out rfl rfl rfl rfl ?_ ?_ ?_) | (refine' ia_slcP HP2.out rfl rfl rfl rfl ?_ ?_ ?_)); rotate_left 1; (focus (first | exact (rfl : (0 : Int) = ((0 : Nat) : Int)) | exact (rfl : (1 : Int) = ((1 : Nat) : Int)) | exact rfl | exact HE1.out | exact HE2.out)); (focus (first | omega | (simp; done) | (simp; omega) | (simp [*]; omega)))))))
      have e : encs fv (lastK B (k + 1)) = encs fv (lastK B k) ++ fv x := by rw [← HS.out, encs_append]; simp [encs]
      go_roundw
      case rel => exact ⟨k + 1, g2, cap2, spare2, by omega, by rw [show (q : Int) - 1 = (n : Int) - 1 - ((k + 1 : Nat) : Int) by have := HQ.out; omega], rfl, by rw [e]; exact st.drop, by rw [e]; exact hcap2, hcm2⟩
      case measure => first | (simp [intOf]; done) | (simp [intOf]; omega)
    · obtain rfl : k = n := by omega
      have hd : decide ((0 : Int) ≤ (k : Int) - 1 - k) = false := by simp; omega
      have hk1 : (k : Int) - 1 - k = -1 := by omega
      rw [hk1]
      clear hk1 hd
      rw [lastK_all B hB.out] at st HC
      go_wp2_with (first | ((with_reducible refine gate_lst ?_); (first | ((with_reducible refine gate_load rfl ?_); (first | (refine ia_loadAll st rfl rfl rfl ?_ ?_; (focus (first | rfl | (simp; done) | (simp; assumption) | (simp; omega) | (simp [*]; done)))) | (refine ia_loadC (hb.keep st.keep (by simp)) rfl rfl rfl ?_ ?_; (focus (first | rfl | (simp; done) | (simp; assumption) | (simp; omega) | (simp [*]; done)))) | (refine ia_loadC (hb'.keep st.keep (by simp)) rfl rfl rfl ?_ ?_; (focus (first | rfl | (simp; done) | (simp; assumption) | (simp; omega) | (simp [*]; done)))) | (refine ia_loadC (Cl.of (hb1.keep st.keep (by simp))) rfl rfl rfl ?_ ?_; (focus (first | rfl | (simp; done) | (simp; assumption) | (simp; omega) | (simp [*]; done)))) | (refine ia_loadC (Cl.of (hb2.keep st.keep (by simp))) rfl rfl rfl ?_ ?_; (focus (first | rfl | (simp; done) | (simp; assumption) | (simp; omega) | (simp [*]; done)))))) | ((with_reducible refine gate_addr rfl ?_); (first | (refine' ia_slcP HP.out rfl rfl rfl rfl ?_ ?_ ?_) | (refine' ia_slcP HP2.out rfl rfl rfl rfl ?_ ?_ ?_)); rotate_left 1; (focus (first | exact (rfl : (0 : Int) = ((0 : Nat) : Int)) | exact (rfl : (1 : Int) = ((1 : Nat) : Int)) | exact rfl | exact HE1.out | exact HE2.out)); (focus (first | omega | (simp; done) | (simp; omega) | (simp [*]; omega)))))))
      go_ret
      exact ⟨_, rfl, Or.inr ⟨g, cap, spare, rfl, out_of st .here, st.get .here, HC.out, hcm⟩, st.keep⟩
def bkCode (B : List Fm) : Int := if bkB B = true then 0 else 1
def backR (B : List Fm) : List Fm := if bkB B = true then B.reverse else []
theorem backR_len (B : List Fm) : (backR B).length ≤ B.length := by unfold backR; split <;> simp
set_option maxRecDepth 100000 in
theorem specBackBook_c (B : List Fm) (n : Nat) (hB : B.length = n) (hn : n ≤ 1000000) (p : Option Addr) (c : Nat) (w : World) (hr : Rd w p n (encs fv B)) :
    Calls Tryz.prog 11 #[.slice p n c] w (BookCode (backR B) (backR B).length (bkCode B) False w) := by
  have st := St.start w
  unfold backR bkCode
  rcases Bool.eq_false_or_eq_true (bkB B) with h | h
  · have HV := hid (fun w' hk => l02Ok_v h n hB (by omega) p c w' (hr.keep (w1 := w') hk))
    have HB := hid (fun w' hk => l02Back_c B n hB hn p c w' (hr.keep (w1 := w') hk))
    rw [if_pos h, if_pos h, List.length_reverse, hB]
    clear hB h
    go_enter Tryz.func11, Tryz.ntmps11
    go_wp2_with (first | (go_at_call 39; refine (HV.out _ st.keep).mono ?_; rintro _ _ ⟨rfl, hk⟩; replace st := st.call hk; clear hk) | (go_at_call 43; refine (HB.out _ st.keep).mono ?_; rintro _ _ ⟨v, rfl, hv, hk⟩; have HVV := hid (hv.since st.keep id); clear hv; replace st := st.call hk; clear hk))
    go_ret2
    exact ⟨_, rfl, HVV.out, st.keep⟩
  · have HV := hid (fun w' hk => l02Ok_v h n hB (by omega) p c w' (hr.keep (w1 := w') hk))
    rw [if_neg (by rw [h]; decide), if_neg (by rw [h]; decide)]
    clear hB h
    go_enter Tryz.func11, Tryz.ntmps11
    go_wp2_with (first | (go_at_call 39; refine (HV.out _ st.keep).mono ?_; rintro _ _ ⟨rfl, hk⟩; replace st := st.call hk; clear hk) | ((with_reducible refine gate_bsl rfl ?_); refine ia_bsl0 (sl := 7) st rfl rfl rfl ?_; clear st; intro B7 _ st))
    go_ret2
    exact ⟨_, rfl, Or.inr (gives0 st .here), st.keep⟩
end Go.Proofs.YtmfgbkmkcljciaaGreatDoor
/- Books to and fro, and every so many pages: the reference and the program; no condition. -/
namespace Go.Proofs.YtmfgbkmkcljciaaGreatDoor
open Go.RowKit
set_option linter.unusedSimpArgs false
set_option linter.unusedVariables false

theorem limited_n (n c : Nat) (p : Option Addr) (hn : n ≤ 4000000) (w : World) : Calls Tryz.prog 57 #[.slice p n c] w fun e w' => e = .returned (if n ≤ 40 then .tuple #[.slice p n c, .int .i64 0] else .tuple #[.slice none 0 0, .int .i64 3]) ∧ Keep [] w w' := by
  have st := St.start w
  by_cases h : n ≤ 40
  · have hd : decide ((40 : Int) < (n : Int)) = false := by simp; omega
    rw [if_pos h]
    go_enter Tryz.func57, Tryz.ntmps57
    go_wp2_with fail
    go_ret2
    exact ⟨rfl, st.keep⟩
  · have hd : decide ((40 : Int) < (n : Int)) = true := by simp; omega
    rw [if_neg h]
    go_enter Tryz.func57, Tryz.ntmps57
    go_wp2_with fail
    go_ret2
    exact ⟨rfl, st.keep⟩
theorem limited_0 {n c : Nat} {p : Option Addr} (hn : n ≤ 4000000) (h : n ≤ 40) (w : World) : Calls Tryz.prog 57 #[.slice p n c] w fun e w' => e = .returned (.tuple #[.slice p n c, .int .i64 0]) ∧ Keep [] w w' := by
  have := limited_n n c p hn w
  rwa [if_pos h] at this
theorem limited_3 {n c : Nat} {p : Option Addr} (hn : n ≤ 4000000) (h : ¬ n ≤ 40) (w : World) : Calls Tryz.prog 57 #[.slice p n c] w fun e w' => e = .returned (.tuple #[.slice none 0 0, .int .i64 3]) ∧ Keep [] w w' := by
  have := limited_n n c p hn w
  rwa [if_neg h] at this
def froL (B : List Fm) (k : Nat) : List Fm := B ++ (B.reverse.drop 1).take k
theorem froL_length (B : List Fm) {n k : Nat} (hn : B.length = n) (hk : k ≤ n - 2) : (froL B k).length = n + k := by
  unfold froL; rw [List.length_append, List.length_take, List.length_drop, List.length_reverse]; omega
theorem froL_zero (B : List Fm) : froL B 0 = B := by simp [froL]
theorem froL_step (B : List Fm) {n k : Nat} (hn : B.length = n) (hk : k < n - 2) : froL B k ++ [B[n - 2 - k]] = froL B (k + 1) := by
  unfold froL
  rw [List.append_assoc]
  congr 1
  rw [List.take_succ_eq_append_getElem (by rw [List.length_drop, List.length_reverse]; omega), List.getElem_drop, List.getElem_reverse]
  congr 2
  congr 1
  omega
def froF (B : List Fm) : List Fm := froL B (B.length - 2)
def froC (B : List Fm) : Int := if bkB B = true then (if (froF B).length ≤ 40 then 0 else 3) else 1
def froR (B : List Fm) : List Fm := if froC B = 0 then froF B else []
theorem froR_len {B : List Fm} {n : Nat} (hB : B.length = n) (hn : n ≤ 1000000) : (froR B).length ≤ 4000000 := by
  unfold froR froF
  split
  · rw [froL_length B hB (by omega)]; omega
  · simp
set_option maxHeartbeats 1000000 in
set_option maxRecDepth 100000 in
theorem specFro_c (B : List Fm) (n : Nat) (hB : B.length = n) (hn : n ≤ 1000000) (p : Option Addr) (hp : p = none → n = 0) (c : Nat) (w : World) (hr : Rd w p n (encs fv B)) :
    Calls Tryz.prog 28 #[.slice p n c] w (BookCode (froR B) (froR B).length (froC B) False w) := by
  have st := St.start w
  rcases Bool.eq_false_or_eq_true (bkB B) with h | h
  · have HV := hid (fun w' hk => l02Ok_v h n hB (by omega) p c w' (hr.keep (w1 := w') hk))
    have HF : (froF B).length = n + (n - 2) := by unfold froF; rw [froL_length B hB (by omega), hB]
    have HFF : froF B = froL B (n - 2) := by unfold froF; rw [hB]
    replace hB := hid hB
    have HP0 := hid hp
    clear hp
    have HBL := hid (show (encs fv B).length = n * 12 by rw [encs_fv_length, hB.out])
    obtain ⟨C, hC⟩ : ∃ C, froC B = C := ⟨_, rfl⟩
    obtain ⟨R, hR⟩ : ∃ R, froR B = R := ⟨_, rfl⟩
    rw [hC, hR]
    replace hC := hid hC
    replace hR := hid hR
    replace HF := hid HF
    replace HFF := hid HFF
    replace h := hid h
    go_enter Tryz.func28, Tryz.ntmps28
    go_wp2_with (first | (go_at_call 39; refine (HV.out _ st.keep).mono ?_; rintro _ _ ⟨rfl, hk⟩; replace st := st.call hk; clear hk) | ((with_reducible refine gate_bsl rfl ?_); refine ia_bsl0 (sl := 10) st rfl rfl rfl ?_; clear st; intro B10 _ st) | ((with_reducible refine gate_app rfl ?_); refine ia_appendR0 (news := encs fv B) st rfl rfl rfl rfl (hr.keep st.keep) HP0.out HBL.out (encs_one fv_one _) (by unfold maxLen; omega) (by omega) ?_; clear st; intro g2 cap2 spare2 _ st hcap2 hcm2; (try simp only [List.set_cons_zero, List.set_cons_succ] at st)) | ((with_reducible refine gate_lst ?_); (first | ((with_reducible refine gate_load rfl ?_); (first | (refine ia_loadAll st rfl rfl rfl ?_ ?_; (focus (first | rfl | (simp; done) | (simp; assumption) | (simp; omega) | (simp [*]; done)))) | (refine ia_loadC (hb.keep st.keep (by simp)) rfl rfl rfl ?_ ?_; (focus (first | rfl | (simp; done) | (simp; assumption) | (simp; omega) | (simp [*]; done)))) | (refine ia_loadC (hb'.keep st.keep (by simp)) rfl rfl rfl ?_ ?_; (focus (first | rfl | (simp; done) | (simp; assumption) | (simp; omega) | (simp [*]; done)))) | (refine ia_loadC (Cl.of (hb1.keep st.keep (by simp))) rfl rfl rfl ?_ ?_; (focus (first | rfl | (simp; done) | (simp; assumption) | (simp; omega) | (simp [*]; done)))) | (refine ia_loadC (Cl.of (hb2.keep st.keep (by simp))) rfl rfl rfl ?_ ?_; (focus (first | rfl | (simp; done) | (simp; assumption) | (simp; omega) | (simp [*]; done)))))) | ((with_reducible refine gate_addr rfl ?_); (first | (refine' ia_slcP HP.out rfl rfl rfl rfl ?_ ?_ ?_) | (refine' ia_slcP HP2.out rfl rfl rfl rfl ?_ ?_ ?_)); rotate_left 1; (focus (first | exact (rfl : (0 : Int) = ((0 : Nat) : Int)) | exact (rfl : (1 : Int) = ((1 : Nat) : Int)) | exact rfl | exact HE1.out | exact HE2.out)); (focus (first | omega | (simp; done) | (simp; omega) | (simp [*]; omega)))))))
    go_loopw [4, 5] (fun v i wr => ∃ k : Nat, ∃ g cap : Nat, ∃ spare : List Value, k ≤ n - 2 ∧ i = .int .i64 ((n : Int) - 2 - k) ∧ v = .slice (some ⟨g, 0, none⟩) (n + k) cap ∧ St [] w wr [(g, encs fv (froL B k) ++ spare, 42)] ∧ (encs fv (froL B k) ++ spare).length = cap * 12 ∧ cap ≤ maxLen) (fun _ i _ => (intOf i + 2).toNat)
    case atStart => exact ⟨0, g2, cap2, spare2, by omega, by simp, rfl, by rw [froL_zero]; exact st, by rw [froL_zero]; exact hcap2, hcm2⟩
    case round =>
      clear st hcap2 hcm2
      obtain ⟨k, g, cap, spare, hk, rfl, rfl, st, hcap, hcm⟩ := hrel
      have HC := hid hcap
      clear hcap
      by_cases hlt : k < n - 2
      · obtain ⟨q, hq⟩ : ∃ q : Nat, q = n - 2 - k := ⟨_, rfl⟩
        have hqi : (n : Int) - 2 - k = (q : Int) := by omega
        have hqn : q < n := by omega
        have hq0 : 0 < q := by omega
        rw [hqi]
        have HQ := hid hqi
        clear hqi
        obtain ⟨b, f, hp, hcl⟩ := hr (by omega)
        have HP := hid hp
        have hkB : q < B.length := by rw [hB.out]; exact hqn
        have hb := hcl.seg fv_len hkB
        have HS := hid (froL_step B hB.out hlt)
        rw [show B[n - 2 - k]'(by rw [hB.out]; omega) = B[q] by congr 1; omega] at HS
        obtain ⟨x, hx⟩ : ∃ x, B[q] = x := ⟨_, rfl⟩
        rw [hx] at hb HS
        have HLL := hid (froL_length B (k := k) hB.out hk)
        have HK := hid hq
        clear hx hp hcl hkB hq
        go_wp2_with (first | ((with_reducible refine gate_bsl rfl ?_); refine ia_bsl1 (sl := 25) st rfl rfl rfl rfl rfl ?_ (by decide) ?_; (focus (first | rfl | (simp; done) | (simp; assumption) | (simp; omega) | (simp [*]; done))); clear st; intro B25 _ st) | ((with_reducible refine gate_app rfl ?_); refine ia_appendR (news := (fv x)) (xs := (encs fv (froL B k))) (spare := spare) st rfl rfl rfl rfl (by rw [encs_fv_length, HLL.out]) HC.out hcm (.fr (st.get (by repeat (first | exact At.here | apply At.there)))) (fun h => by cases h) (fv_len x) (fv_one x) (by unfold maxLen; omega) (by omega) ?_; clear st; intro g2 cap2 spare2 _ st hcap2 hcm2; (try simp only [List.set_cons_zero, List.set_cons_succ] at st)) | ((with_reducible refine gate_lst ?_); (first | ((with_reducible refine gate_load rfl ?_); (first | (refine ia_loadAll st rfl rfl rfl ?_ ?_; (focus (first | rfl | (simp; done) | (simp; assumption) | (simp; omega) | (simp [*]; done)))) | (refine ia_loadC (hb.keep st.keep (by simp)) rfl rfl rfl ?_ ?_; (focus (first | rfl | (simp; done) | (simp; assumption) | (simp; omega) | (simp [*]; done)))) | (refine ia_loadC (hb'.keep st.keep (by simp)) rfl rfl rfl ?_ ?_; (focus (first | rfl | (simp; done) | (simp; assumption) | (simp; omega) | (simp [*]; done)))) | (refine ia_loadC (Cl.of (hb1.keep st.keep (by simp))) rfl rfl rfl ?_ ?_; (focus (first | rfl | (simp; done) | (simp; assumption) | (simp; omega) | (simp [*]; done)))) | (refine ia_loadC (Cl.of (hb2.keep st.keep (by simp))) rfl rfl rfl ?_ ?_; (focus (first | rfl | (simp; done) | (simp; assumption) | (simp; omega) | (simp [*]; done)))))) | ((with_reducible refine gate_addr rfl ?_); (first | (refine' ia_slcP HP.out rfl rfl rfl rfl ?_ ?_ ?_) | (refine' ia_slcP HP2.out rfl rfl rfl rfl ?_ ?_ ?_)); rotate_left 1; (focus (first | exact (rfl : (0 : Int) = ((0 : Nat) : Int)) | exact (rfl : (1 : Int) = ((1 : Nat) : Int)) | exact rfl | exact HE1.out | exact HE2.out)); (focus (first | omega | (simp; done) | (simp; omega) | (simp [*]; omega)))))))
        have e : encs fv (froL B (k + 1)) = encs fv (froL B k) ++ fv x := by rw [← HS.out, encs_append]; simp [encs]
        go_roundw
        case rel => exact ⟨k + 1, g2, cap2, spare2, by omega, by rw [show (q : Int) - 1 = (n : Int) - 2 - ((k + 1 : Nat) : Int) by have := HQ.out; omega], by rw [Nat.add_assoc], by rw [e]; exact st.drop, by rw [e]; exact hcap2, hcm2⟩
        case measure => first | (simp [intOf]; done) | (simp [intOf]; omega)
      · obtain rfl : k = n - 2 := by omega
        obtain ⟨r, hr2⟩ : ∃ r : Int, (n : Int) - 2 - ((n - 2 : Nat) : Int) = r := ⟨_, rfl⟩
        have hr3 : r ≤ 0 := by omega
        have hd0 : decide (0 < r) = false := by simp; omega
        rw [hr2]
        clear hr2
        obtain ⟨m, hm⟩ : ∃ m, n + (n - 2) = m := ⟨_, rfl⟩
        have hm4 : m ≤ 4000000 := by omega
        rw [hm]
        have HM := hid hm
        clear hm
        by_cases h40 : m ≤ 40
        · have hd : decide ((40 : Int) < (m : Int)) = false := by simp; omega
          have hd' : decide (40 < m) = false := by simp; omega
          go_wp2_with (first | ((with_reducible refine gate_lst ?_); (first | ((with_reducible refine gate_load rfl ?_); (first | (refine ia_loadAll st rfl rfl rfl ?_ ?_; (focus (first | rfl | (simp; done) | (simp; assumption) | (simp; omega) | (simp [*]; done)))) | (refine ia_loadC (hb.keep st.keep (by simp)) rfl rfl rfl ?_ ?_; (focus (first | rfl | (simp; done) | (simp; assumption) | (simp; omega) | (simp [*]; done)))) | (refine ia_loadC (hb'.keep st.keep (by simp)) rfl rfl rfl ?_ ?_; (focus (first | rfl | (simp; done) | (simp; assumption) | (simp; omega) | (simp [*]; done)))) | (refine ia_loadC (Cl.of (hb1.keep st.keep (by simp))) rfl rfl rfl ?_ ?_; (focus (first | rfl | (simp; done) | (simp; assumption) | (simp; omega) | (simp [*]; done)))) | (refine ia_loadC (Cl.of (hb2.keep st.keep (by simp))) rfl rfl rfl ?_ ?_; (focus (first | rfl | (simp; done) | (simp; assumption) | (simp; omega) | (simp [*]; done)))))) | ((with_reducible refine gate_addr rfl ?_); (first | (refine' ia_slcP HP.out rfl rfl rfl rfl ?_ ?_ ?_) | (refine' ia_slcP HP2.out rfl rfl rfl rfl ?_ ?_ ?_)); rotate_left 1; (focus (first | exact (rfl : (0 : Int) = ((0 : Nat) : Int)) | exact (rfl : (1 : Int) = ((1 : Nat) : Int)) | exact rfl | exact HE1.out | exact HE2.out)); (focus (first | omega | (simp; done) | (simp; omega) | (simp [*]; omega)))))))
          have hCC : C = 0 := by rw [← hC.out]; unfold froC; rw [if_pos h.out, if_pos (by rw [HF.out, HM.out]; exact h40)]
          have hRR : R = froL B (n - 2) := by rw [← hR.out]; unfold froR; rw [hC.out, hCC, if_pos rfl, HFF.out]
          subst hCC
          subst hRR
          go_ret2
          exact ⟨_, rfl, Or.inr ⟨g, cap, spare, by rw [froL_length B hB.out hk, HM.out]; rfl, out_of st .here, st.get .here, HC.out, hcm⟩, st.keep⟩
        · have hd : decide ((40 : Int) < (m : Int)) = true := by simp; omega
          have hd' : decide (40 < m) = true := by simp; omega
          have hCC : C = 3 := by rw [← hC.out]; unfold froC; rw [if_pos h.out, if_neg (by rw [HF.out, HM.out]; exact h40)]
          have hRR : R = [] := by rw [← hR.out]; unfold froR; rw [hC.out, hCC, if_neg (by decide)]
          subst hCC
          subst hRR
          go_wp2_with (first | ((with_reducible refine gate_bsl rfl ?_); refine ia_bsl0 (sl := 30) st rfl rfl rfl ?_; clear st; intro B30 _ st) | ((with_reducible refine gate_lst ?_); (first | ((with_reducible refine gate_load rfl ?_); (first | (refine ia_loadAll st rfl rfl rfl ?_ ?_; (focus (first | rfl | (simp; done) | (simp; assumption) | (simp; omega) | (simp [*]; done)))) | (refine ia_loadC (hb.keep st.keep (by simp)) rfl rfl rfl ?_ ?_; (focus (first | rfl | (simp; done) | (simp; assumption) | (simp; omega) | (simp [*]; done)))) | (refine ia_loadC (hb'.keep st.keep (by simp)) rfl rfl rfl ?_ ?_; (focus (first | rfl | (simp; done) | (simp; assumption) | (simp; omega) | (simp [*]; done)))) | (refine ia_loadC (Cl.of (hb1.keep st.keep (by simp))) rfl rfl rfl ?_ ?_; (focus (first | rfl | (simp; done) | (simp; assumption) | (simp; omega) | (simp [*]; done)))) | (refine ia_loadC (Cl.of (hb2.keep st.keep (by simp))) rfl rfl rfl ?_ ?_; (focus (first | rfl | (simp; done) | (simp; assumption) | (simp; omega) | (simp [*]; done)))))) | ((with_reducible refine gate_addr rfl ?_); (first | (refine' ia_slcP HP.out rfl rfl rfl rfl ?_ ?_ ?_) | (refine' ia_slcP HP2.out rfl rfl rfl rfl ?_ ?_ ?_)); rotate_left 1; (focus (first | exact (rfl : (0 : Int) = ((0 : Nat) : Int)) | exact (rfl : (1 : Int) = ((1 : Nat) : Int)) | exact rfl | exact HE1.out | exact HE2.out)); (focus (first | omega | (simp; done) | (simp; omega) | (simp [*]; omega)))))))
          go_ret2
          exact ⟨_, rfl, Or.inr (gives0 st .here), st.keep⟩
  · have HV := hid (fun w' hk => l02Ok_v h n hB (by omega) p c w' (hr.keep (w1 := w') hk))
    have hC : froC B = 1 := by unfold froC; rw [if_neg (by rw [h]; decide)]
    have hR : froR B = [] := by unfold froR; rw [hC, if_neg (by decide)]
    rw [hC, hR]
    clear hB h hp hC hR
    go_enter Tryz.func28, Tryz.ntmps28
    go_wp2_with (first | (go_at_call 39; refine (HV.out _ st.keep).mono ?_; rintro _ _ ⟨rfl, hk⟩; replace st := st.call hk; clear hk) | ((with_reducible refine gate_bsl rfl ?_); refine ia_bsl0 (sl := 9) st rfl rfl rfl ?_; clear st; intro B9 _ st) | ((with_reducible refine gate_lst ?_); (first | ((with_reducible refine gate_load rfl ?_); (first | (refine ia_loadAll st rfl rfl rfl ?_ ?_; (focus (first | rfl | (simp; done) | (simp; assumption) | (simp; omega) | (simp [*]; done)))) | (refine ia_loadC (hb.keep st.keep (by simp)) rfl rfl rfl ?_ ?_; (focus (first | rfl | (simp; done) | (simp; assumption) | (simp; omega) | (simp [*]; done)))) | (refine ia_loadC (hb'.keep st.keep (by simp)) rfl rfl rfl ?_ ?_; (focus (first | rfl | (simp; done) | (simp; assumption) | (simp; omega) | (simp [*]; done)))) | (refine ia_loadC (Cl.of (hb1.keep st.keep (by simp))) rfl rfl rfl ?_ ?_; (focus (first | rfl | (simp; done) | (simp; assumption) | (simp; omega) | (simp [*]; done)))) | (refine ia_loadC (Cl.of (hb2.keep st.keep (by simp))) rfl rfl rfl ?_ ?_; (focus (first | rfl | (simp; done) | (simp; assumption) | (simp; omega) | (simp [*]; done)))))) | ((with_reducible refine gate_addr rfl ?_); (first | (refine' ia_slcP HP.out rfl rfl rfl rfl ?_ ?_ ?_) | (refine' ia_slcP HP2.out rfl rfl rfl rfl ?_ ?_ ?_)); rotate_left 1; (focus (first | exact (rfl : (0 : Int) = ((0 : Nat) : Int)) | exact (rfl : (1 : Int) = ((1 : Nat) : Int)) | exact rfl | exact HE1.out | exact HE2.out)); (focus (first | omega | (simp; done) | (simp; omega) | (simp [*]; omega)))))))
    go_ret2
    exact ⟨_, rfl, Or.inr (gives0 st .here), st.keep⟩
set_option maxRecDepth 100000 in
theorem Clone_nil (c : Nat) (w : World) : Calls Tryz.prog 41 #[.slice none 0 c] w fun e w' => e = .returned (.slice none 0 0) ∧ Keep [] w w' := by
  have st := St.start w
  have hnil := fun w => Lib.run_eql_slice_nil (P := Tryz.prog) w 25 42 none 0 c 0 0 Tryz.underlying25
  go_enter Tryz.func41, Tryz.ntmps41
  go_wp2_with fail
  go_ret
  exact ⟨rfl, st.keep⟩
set_option maxHeartbeats 1000000 in
set_option maxRecDepth 100000 in
theorem ToAndFro_c (B : List Fm) (n : Nat) (hB : B.length = n) (hn : n ≤ 1000000) (p : Option Addr) (hp : p = none → n = 0) (c : Nat) (w : World) (hr : Rd w p n (encs fv B)) :
    Calls Tryz.prog 27 #[.slice p n c] w (BookCode (froR B) (froR B).length (froC B) (froC B ≠ 0 ∨ p = none) w) := by
  have st := St.start w
  rcases Bool.eq_false_or_eq_true (bkB B) with h | h
  · have HV := hid (fun w' hk => ValidBook_v h n hB (by omega) p c w' (hr.keep (w1 := w') hk))
    have HCl := hid (fun w' hk => Clone_c B n hB (by omega) p hp c w' (hr.keep (w1 := w') hk))
    have HF : (froF B).length = n + (n - 2) := by unfold froF; rw [froL_length B hB (by omega), hB]
    have HFF : froF B = froL B (n - 2) := by unfold froF; rw [hB]
    replace hB := hid hB
    have HP0 := hid hp
    clear hp
    obtain ⟨C, hC⟩ : ∃ C, froC B = C := ⟨_, rfl⟩
    obtain ⟨R, hR⟩ : ∃ R, froR B = R := ⟨_, rfl⟩
    rw [hC, hR]
    replace hC := hid hC
    replace hR := hid hR
    replace HF := hid HF
    replace HFF := hid HFF
    replace h := hid h
    cases p with
    | none =>
      obtain rfl : n = 0 := HP0.out rfl
      have hCC : C = 0 := by rw [← hC.out]; unfold froC; rw [if_pos h.out, if_pos (by rw [HF.out]; omega)]
      have hRR : R = [] := by rw [← hR.out]; unfold froR; rw [hC.out, hCC, if_pos rfl]; exact List.eq_nil_of_length_eq_zero HF.out
      subst hCC
      subst hRR
      go_enter Tryz.func27, Tryz.ntmps27
      go_wp2_with (first | (go_at_call 16; refine (HV.out _ st.keep).mono ?_; rintro _ _ ⟨rfl, hk⟩; replace st := st.call hk; clear hk) | (go_at_call 41; refine (Clone_nil _ _).mono ?_; rintro _ _ ⟨rfl, hk⟩; replace st := st.call hk; clear hk) | ((with_reducible refine gate_lst ?_); (first | ((with_reducible refine gate_load rfl ?_); (first | (refine ia_loadAll st rfl rfl rfl ?_ ?_; (focus (first | rfl | (simp; done) | (simp; assumption) | (simp; omega) | (simp [*]; done)))) | (refine ia_loadC (hb.keep st.keep (by simp)) rfl rfl rfl ?_ ?_; (focus (first | rfl | (simp; done) | (simp; assumption) | (simp; omega) | (simp [*]; done)))) | (refine ia_loadC (hb'.keep st.keep (by simp)) rfl rfl rfl ?_ ?_; (focus (first | rfl | (simp; done) | (simp; assumption) | (simp; omega) | (simp [*]; done)))) | (refine ia_loadC (Cl.of (hb1.keep st.keep (by simp))) rfl rfl rfl ?_ ?_; (focus (first | rfl | (simp; done) | (simp; assumption) | (simp; omega) | (simp [*]; done)))) | (refine ia_loadC (Cl.of (hb2.keep st.keep (by simp))) rfl rfl rfl ?_ ?_; (focus (first | rfl | (simp; done) | (simp; assumption) | (simp; omega) | (simp [*]; done)))))) | ((with_reducible refine gate_addr rfl ?_); (first | (refine' ia_slcP HP.out rfl rfl rfl rfl ?_ ?_ ?_) | (refine' ia_slcP HP2.out rfl rfl rfl rfl ?_ ?_ ?_)); rotate_left 1; (focus (first | exact (rfl : (0 : Int) = ((0 : Nat) : Int)) | exact (rfl : (1 : Int) = ((1 : Nat) : Int)) | exact rfl | exact HE1.out | exact HE2.out)); (focus (first | omega | (simp; done) | (simp; omega) | (simp [*]; omega)))))))
      go_loopw [4, 5] (fun v i wr => i = .int .i64 (-2) ∧ v = .slice none 0 0 ∧ St [] w wr []) (fun _ i _ => 0)
      case atStart => exact ⟨rfl, rfl, st⟩
      case round =>
        clear st
        obtain ⟨rfl, rfl, st⟩ := hrel
        go_wp2_with (first | (go_at_call 57; refine (limited_n 0 _ _ (by omega) _).mono ?_; rintro _ _ ⟨rfl, hk⟩; replace st := st.call hk; clear hk) | ((with_reducible refine gate_lst ?_); (first | ((with_reducible refine gate_load rfl ?_); (first | (refine ia_loadAll st rfl rfl rfl ?_ ?_; (focus (first | rfl | (simp; done) | (simp; assumption) | (simp; omega) | (simp [*]; done)))) | (refine ia_loadC (hb.keep st.keep (by simp)) rfl rfl rfl ?_ ?_; (focus (first | rfl | (simp; done) | (simp; assumption) | (simp; omega) | (simp [*]; done)))) | (refine ia_loadC (hb'.keep st.keep (by simp)) rfl rfl rfl ?_ ?_; (focus (first | rfl | (simp; done) | (simp; assumption) | (simp; omega) | (simp [*]; done)))) | (refine ia_loadC (Cl.of (hb1.keep st.keep (by simp))) rfl rfl rfl ?_ ?_; (focus (first | rfl | (simp; done) | (simp; assumption) | (simp; omega) | (simp [*]; done)))) | (refine ia_loadC (Cl.of (hb2.keep st.keep (by simp))) rfl rfl rfl ?_ ?_; (focus (first | rfl | (simp; done) | (simp; assumption) | (simp; omega) | (simp [*]; done)))))) | ((with_reducible refine gate_addr rfl ?_); (first | (refine' ia_slcP HP.out rfl rfl rfl rfl ?_ ?_ ?_) | (refine' ia_slcP HP2.out rfl rfl rfl rfl ?_ ?_ ?_)); rotate_left 1; (focus (first | exact (rfl : (0 : Int) = ((0 : Nat) : Int)) | exact (rfl : (1 : Int) = ((1 : Nat) : Int)) | exact rfl | exact HE1.out | exact HE2.out)); (focus (first | omega | (simp; done) | (simp; omega) | (simp [*]; omega)))))))
        go_ret2
        exact ⟨_, rfl, Or.inl ⟨.inr (by simp), rfl, rfl⟩, st.keep⟩
    | some ad =>
      go_enter Tryz.func27, Tryz.ntmps27
      go_wp2_with (first | (go_at_call 16; refine (HV.out _ st.keep).mono ?_; rintro _ _ ⟨rfl, hk⟩; replace st := st.call hk; clear hk) | (go_at_call 41; refine (HCl.out _ st.keep).mono ?_; rintro _ _ ⟨v, rfl, (⟨hF, _⟩ | ⟨g, cap, spare, rfl, hg, hbg, hcap, hcm⟩), hk⟩; (exact absurd hF (by simp)); (replace st := st.adopt hk hg hbg; have HC := hid hcap; have HM := hid hcm; clear hk hg hbg hcap hcm)) | ((with_reducible refine gate_lst ?_); (first | ((with_reducible refine gate_load rfl ?_); (first | (refine ia_loadAll st rfl rfl rfl ?_ ?_; (focus (first | rfl | (simp; done) | (simp; assumption) | (simp; omega) | (simp [*]; done)))) | (refine ia_loadC (hb.keep st.keep (by simp)) rfl rfl rfl ?_ ?_; (focus (first | rfl | (simp; done) | (simp; assumption) | (simp; omega) | (simp [*]; done)))) | (refine ia_loadC (hb'.keep st.keep (by simp)) rfl rfl rfl ?_ ?_; (focus (first | rfl | (simp; done) | (simp; assumption) | (simp; omega) | (simp [*]; done)))) | (refine ia_loadC (Cl.of (hb1.keep st.keep (by simp))) rfl rfl rfl ?_ ?_; (focus (first | rfl | (simp; done) | (simp; assumption) | (simp; omega) | (simp [*]; done)))) | (refine ia_loadC (Cl.of (hb2.keep st.keep (by simp))) rfl rfl rfl ?_ ?_; (focus (first | rfl | (simp; done) | (simp; assumption) | (simp; omega) | (simp [*]; done)))))) | ((with_reducible refine gate_addr rfl ?_); (first | (refine' ia_slcP HP.out rfl rfl rfl rfl ?_ ?_ ?_) | (refine' ia_slcP HP2.out rfl rfl rfl rfl ?_ ?_ ?_)); rotate_left 1; (focus (first | exact (rfl : (0 : Int) = ((0 : Nat) : Int)) | exact (rfl : (1 : Int) = ((1 : Nat) : Int)) | exact rfl | exact HE1.out | exact HE2.out)); (focus (first | omega | (simp; done) | (simp; omega) | (simp [*]; omega)))))))
      go_loopw [4, 5] (fun v i wr => ∃ k : Nat, ∃ g cap : Nat, ∃ spare : List Value, k ≤ n - 2 ∧ i = .int .i64 ((n : Int) - 2 - k) ∧ v = .slice (some ⟨g, 0, none⟩) (n + k) cap ∧ St [] w wr [(g, encs fv (froL B k) ++ spare, 42)] ∧ (encs fv (froL B k) ++ spare).length = cap * 12 ∧ cap ≤ maxLen) (fun _ i _ => (intOf i + 2).toNat)
      case atStart => exact ⟨0, g, cap, spare, by omega, by simp, rfl, by rw [froL_zero]; exact st, by rw [froL_zero]; exact HC.out, HM.out⟩
      case round =>
        clear st HC HM
        obtain ⟨k, g, cap, spare, hk, rfl, rfl, st, hcap, hcm⟩ := hrel
        have HC := hid hcap
        clear hcap
        by_cases hlt : k < n - 2
        · obtain ⟨q, hq⟩ : ∃ q : Nat, q = n - 2 - k := ⟨_, rfl⟩
          have hqi : (n : Int) - 2 - k = (q : Int) := by omega
          have hqn : q < n := by omega
          have hq0 : 0 < q := by omega
          rw [hqi]
          have HQ := hid hqi
          clear hqi
          obtain ⟨b, f, hp, hcl⟩ := hr (by omega)
          obtain rfl : ad = ⟨b, f, none⟩ := by injection hp
          have hkB : q < B.length := by rw [hB.out]; exact hqn
          have hb := hcl.seg fv_len hkB
          have HS := hid (froL_step B hB.out hlt)
          rw [show B[n - 2 - k]'(by rw [hB.out]; omega) = B[q] by congr 1; omega] at HS
          obtain ⟨x, hx⟩ : ∃ x, B[q] = x := ⟨_, rfl⟩
          rw [hx] at hb HS
          have HLL := hid (froL_length B (k := k) hB.out hk)
          have HK := hid hq
          clear hx hp hcl hkB hq
          go_wp2_with (first | ((with_reducible refine gate_bsl rfl ?_); refine ia_bsl1 (sl := 23) st rfl rfl rfl rfl rfl ?_ (by decide) ?_; (focus (first | rfl | (simp; done) | (simp; assumption) | (simp; omega) | (simp [*]; done))); clear st; intro B23 _ st) | ((with_reducible refine gate_app rfl ?_); refine ia_appendR (news := (fv x)) (xs := (encs fv (froL B k))) (spare := spare) st rfl rfl rfl rfl (by rw [encs_fv_length, HLL.out]) HC.out hcm (.fr (st.get (by repeat (first | exact At.here | apply At.there)))) (fun h => by cases h) (fv_len x) (fv_one x) (by unfold maxLen; omega) (by omega) ?_; clear st; intro g2 cap2 spare2 _ st hcap2 hcm2; (try simp only [List.set_cons_zero, List.set_cons_succ] at st)) | ((with_reducible refine gate_lst ?_); (first | ((with_reducible refine gate_load rfl ?_); (first | (refine ia_loadAll st rfl rfl rfl ?_ ?_; (focus (first | rfl | (simp; done) | (simp; assumption) | (simp; omega) | (simp [*]; done)))) | (refine ia_loadC (hb.keep st.keep (by simp)) rfl rfl rfl ?_ ?_; (focus (first | rfl | (simp; done) | (simp; assumption) | (simp; omega) | (simp [*]; done)))) | (refine ia_loadC (hb'.keep st.keep (by simp)) rfl rfl rfl ?_ ?_; (focus (first | rfl | (simp; done) | (simp; assumption) | (simp; omega) | (simp [*]; done)))) | (refine ia_loadC (Cl.of (hb1.keep st.keep (by simp))) rfl rfl rfl ?_ ?_; (focus (first | rfl | (simp; done) | (simp; assumption) | (simp; omega) | (simp [*]; done)))) | (refine ia_loadC (Cl.of (hb2.keep st.keep (by simp))) rfl rfl rfl ?_ ?_; (focus (first | rfl | (simp; done) | (simp; assumption) | (simp; omega) | (simp [*]; done)))))) | ((with_reducible refine gate_addr rfl ?_); (first | (refine' ia_slcP HP.out rfl rfl rfl rfl ?_ ?_ ?_) | (refine' ia_slcP HP2.out rfl rfl rfl rfl ?_ ?_ ?_)); rotate_left 1; (focus (first | exact (rfl : (0 : Int) = ((0 : Nat) : Int)) | exact (rfl : (1 : Int) = ((1 : Nat) : Int)) | exact rfl | exact HE1.out | exact HE2.out)); (focus (first | omega | (simp; done) | (simp; omega) | (simp [*]; omega)))))))
          have e : encs fv (froL B (k + 1)) = encs fv (froL B k) ++ fv x := by rw [← HS.out, encs_append]; simp [encs]
          go_roundw
          case rel => exact ⟨k + 1, g2, cap2, spare2, by omega, by rw [show (q : Int) - 1 = (n : Int) - 2 - ((k + 1 : Nat) : Int) by have := HQ.out; omega], by rw [Nat.add_assoc], by rw [e]; exact st.drop, by rw [e]; exact hcap2, hcm2⟩
          case measure => first | (simp [intOf]; done) | (simp [intOf]; omega)
        · obtain rfl : k = n - 2 := by omega
          obtain ⟨r, hr2⟩ : ∃ r : Int, (n : Int) - 2 - ((n - 2 : Nat) : Int) = r := ⟨_, rfl⟩
          have hr3 : r ≤ 0 := by omega
          have hd0 : decide (0 < r) = false := by simp; omega
          rw [hr2]
          clear hr2
          obtain ⟨m, hm⟩ : ∃ m, n + (n - 2) = m := ⟨_, rfl⟩
          have hm4 : m ≤ 4000000 := by omega
          rw [hm]
          have HM := hid hm
          clear hm
          by_cases h40 : m ≤ 40
          · go_wp2_with (first | (go_at_call 57; refine (limited_0 hm4 h40 _).mono ?_; rintro _ _ ⟨rfl, hk⟩; replace st := st.call hk; clear hk) | ((with_reducible refine gate_lst ?_); (first | ((with_reducible refine gate_load rfl ?_); (first | (refine ia_loadAll st rfl rfl rfl ?_ ?_; (focus (first | rfl | (simp; done) | (simp; assumption) | (simp; omega) | (simp [*]; done)))) | (refine ia_loadC (hb.keep st.keep (by simp)) rfl rfl rfl ?_ ?_; (focus (first | rfl | (simp; done) | (simp; assumption) | (simp; omega) | (simp [*]; done)))) | (refine ia_loadC (hb'.keep st.keep (by simp)) rfl rfl rfl ?_ ?_; (focus (first | rfl | (simp; done) | (simp; assumption) | (simp; omega) | (simp [*]; done)))) | (refine ia_loadC (Cl.of (hb1.keep st.keep (by simp))) rfl rfl rfl ?_ ?_; (focus (first | rfl | (simp; done) | (simp; assumption) | (simp; omega) | (simp [*]; done)))) | (refine ia_loadC (Cl.of (hb2.keep st.keep (by simp))) rfl rfl rfl ?_ ?_; (focus (first | rfl | (simp; done) | (simp; assumption) | (simp; omega) | (simp [*]; done)))))) | ((with_reducible refine gate_addr rfl ?_); (first | (refine' ia_slcP HP.out rfl rfl rfl rfl ?_ ?_ ?_) | (refine' ia_slcP HP2.out rfl rfl rfl rfl ?_ ?_ ?_)); rotate_left 1; (focus (first | exact (rfl : (0 : Int) = ((0 : Nat) : Int)) | exact (rfl : (1 : Int) = ((1 : Nat) : Int)) | exact rfl | exact HE1.out | exact HE2.out)); (focus (first | omega | (simp; done) | (simp; omega) | (simp [*]; omega)))))))
            have hCC : C = 0 := by rw [← hC.out]; unfold froC; rw [if_pos h.out, if_pos (by rw [HF.out, HM.out]; exact h40)]
            have hRR : R = froL B (n - 2) := by rw [← hR.out]; unfold froR; rw [hC.out, hCC, if_pos rfl, HFF.out]
            subst hCC
            subst hRR
            go_ret2
            exact ⟨_, rfl, Or.inr ⟨g, cap, spare, by rw [froL_length B hB.out hk, HM.out]; rfl, out_of st .here, st.get .here, HC.out, hcm⟩, st.keep⟩
          · have HLi := hid h40
            have hCC : C = 3 := by rw [← hC.out]; unfold froC; rw [if_pos h.out, if_neg (by rw [HF.out, HM.out]; exact h40)]
            have hRR : R = [] := by rw [← hR.out]; unfold froR; rw [hC.out, hCC, if_neg (by decide)]
            subst hCC
            subst hRR
            go_wp2_with (first | (go_at_call 57; refine (limited_3 hm4 HLi.out _).mono ?_; rintro _ _ ⟨rfl, hk⟩; replace st := st.call hk; clear hk) | ((with_reducible refine gate_lst ?_); (first | ((with_reducible refine gate_load rfl ?_); (first | (refine ia_loadAll st rfl rfl rfl ?_ ?_; (focus (first | rfl | (simp; done) | (simp; assumption) | (simp; omega) | (simp [*]; done)))) | (refine ia_loadC (hb.keep st.keep (by simp)) rfl rfl rfl ?_ ?_; (focus (first | rfl | (simp; done) | (simp; assumption) | (simp; omega) | (simp [*]; done)))) | (refine ia_loadC (hb'.keep st.keep (by simp)) rfl rfl rfl ?_ ?_; (focus (first | rfl | (simp; done) | (simp; assumption) | (simp; omega) | (simp [*]; done)))) | (refine ia_loadC (Cl.of (hb1.keep st.keep (by simp))) rfl rfl rfl ?_ ?_; (focus (first | rfl | (simp; done) | (simp; assumption) | (simp; omega) | (simp [*]; done)))) | (refine ia_loadC (Cl.of (hb2.keep st.keep (by simp))) rfl rfl rfl ?_ ?_; (focus (first | rfl | (simp; done) | (simp; assumption) | (simp; omega) | (simp [*]; done)))))) | ((with_reducible refine gate_addr rfl ?_); (first | (refine' ia_slcP HP.out rfl rfl rfl rfl ?_ ?_ ?_) | (refine' ia_slcP HP2.out rfl rfl rfl rfl ?_ ?_ ?_)); rotate_left 1; (focus (first | exact (rfl : (0 : Int) = ((0 : Nat) : Int)) | exact (rfl : (1 : Int) = ((1 : Nat) : Int)) | exact rfl | exact HE1.out | exact HE2.out)); (focus (first | omega | (simp; done) | (simp; omega) | (simp [*]; omega)))))))
            go_ret2
            exact ⟨_, rfl, Or.inl ⟨.inl (by decide), rfl, rfl⟩, st.keep⟩
  · have HV := hid (fun w' hk => ValidBook_v h n hB (by omega) p c w' (hr.keep (w1 := w') hk))
    have hC : froC B = 1 := by unfold froC; rw [if_neg (by rw [h]; decide)]
    have hR : froR B = [] := by unfold froR; rw [hC, if_neg (by decide)]
    rw [hC, hR]
    clear hB h hp hC hR
    go_enter Tryz.func27, Tryz.ntmps27
    go_wp2_with (first | (go_at_call 16; refine (HV.out _ st.keep).mono ?_; rintro _ _ ⟨rfl, hk⟩; replace st := st.call hk; clear hk) | ((with_reducible refine gate_lst ?_); (first | ((with_reducible refine gate_load rfl ?_); (first | (refine ia_loadAll st rfl rfl rfl ?_ ?_; (focus (first | rfl | (simp; done) | (simp; assumption) | (simp; omega) | (simp [*]; done)))) | (refine ia_loadC (hb.keep st.keep (by simp)) rfl rfl rfl ?_ ?_; (focus (first | rfl | (simp; done) | (simp; assumption) | (simp; omega) | (simp [*]; done)))) | (refine ia_loadC (hb'.keep st.keep (by simp)) rfl rfl rfl ?_ ?_; (focus (first | rfl | (simp; done) | (simp; assumption) | (simp; omega) | (simp [*]; done)))) | (refine ia_loadC (Cl.of (hb1.keep st.keep (by simp))) rfl rfl rfl ?_ ?_; (focus (first | rfl | (simp; done) | (simp; assumption) | (simp; omega) | (simp [*]; done)))) | (refine ia_loadC (Cl.of (hb2.keep st.keep (by simp))) rfl rfl rfl ?_ ?_; (focus (first | rfl | (simp; done) | (simp; assumption) | (simp; omega) | (simp [*]; done)))))) | ((with_reducible refine gate_addr rfl ?_); (first | (refine' ia_slcP HP.out rfl rfl rfl rfl ?_ ?_ ?_) | (refine' ia_slcP HP2.out rfl rfl rfl rfl ?_ ?_ ?_)); rotate_left 1; (focus (first | exact (rfl : (0 : Int) = ((0 : Nat) : Int)) | exact (rfl : (1 : Int) = ((1 : Nat) : Int)) | exact rfl | exact HE1.out | exact HE2.out)); (focus (first | omega | (simp; done) | (simp; omega) | (simp [*]; omega)))))))
    go_ret2
    exact ⟨_, rfl, Or.inl ⟨.inl (by decide), rfl, rfl⟩, st.keep⟩
end Go.Proofs.YtmfgbkmkcljciaaGreatDoor
/- Books played backwards, their greatest jumps and distinct pages, by plain mathematics; no condition. -/
namespace Go.Proofs.YtmfgbkmkcljciaaGreatDoor
open Go.RowKit
set_option linter.unusedSimpArgs false
set_option linter.unusedVariables false
theorem jmp_comm (x y : Fm) : jmp x y = jmp y x := by
  unfold jmp
  have : mixR (fun a b => a ^^^ b) x.1 y.1 = mixR (fun a b => a ^^^ b) y.1 x.1 := by
    unfold mixR
    congr 1
    funext k
    exact Nat.xor_comm _ _
  rw [this]
theorem jmpL_get {B : List Fm} {k : Nat} (hk : k + 1 < B.length) : (jmpL B).getD k 0 = jmp (B.getD k fz) (B.getD (k + 1) fz) := by
  unfold jmpL jmpK
  rw [List.getD_eq_getElem?_getD, List.getElem?_map, List.getElem?_range (by omega)]
  rfl
theorem rev_getD (B : List Fm) {k : Nat} (hk : k < B.length) : B.reverse.getD k fz = B.getD (B.length - 1 - k) fz := by
  rw [List.getD_eq_getElem?_getD, List.getD_eq_getElem?_getD, List.getElem?_reverse hk]
theorem jmpL_rev (B : List Fm) : jmpL B.reverse = (jmpL B).reverse := by
  apply List.ext_getElem (by simp [jmpL_length])
  intro k h1 h2
  rw [jmpL_length, List.length_reverse] at h1
  refine Eq.trans (b := jmp (B.reverse.getD k fz) (B.reverse.getD (k + 1) fz)) (by simp [jmpL, jmpK]) ?_
  rw [List.getElem_reverse]
  refine Eq.trans ?_ (b := jmp (B.getD (B.length - 1 - 1 - k) fz) (B.getD (B.length - 1 - 1 - k + 1) fz)) (by simp [jmpL, jmpK])
  rw [rev_getD B (by omega), rev_getD B (by omega), jmp_comm]
  congr 2 <;> omega
theorem sumI_sum (l : List Int) : sumI l = l.sum := by
  have : ∀ (l : List Int) (s : Int), l.foldl (· + ·) s = s + l.sum := by
    intro l
    induction l with
    | nil => intro s; simp
    | cons x l ih => intro s; rw [List.foldl_cons, ih, List.sum_cons]; omega
  unfold sumI
  rw [this]; omega
theorem sumI_rev (l : List Int) : sumI l.reverse = sumI l := by
  rw [sumI_sum, sumI_sum]
  induction l with
  | nil => rfl
  | cons x l ih => rw [List.reverse_cons, List.sum_append, ih, List.sum_cons]; simp; omega
theorem bkB_rev (B : List Fm) : bkB B.reverse = bkB B := by unfold bkB okL; rw [List.all_reverse, List.length_reverse]
theorem loop_rev (B : List Fm) : loopR B.reverse = loopR B := by
  unfold loopR
  rw [bkB_rev, List.length_reverse]
  by_cases h0 : B.length = 0
  · rw [if_pos h0, if_pos h0]
  · rw [if_neg h0, if_neg h0, jmpL_rev, sumI_rev, rev_getD B (by omega), rev_getD B (by omega), jmp_comm]
    simp only [Nat.sub_self, Nat.sub_zero]
theorem loop_ge (B : List Fm) : allR B ≤ loopR B := by
  unfold allR loopR
  split
  · split
    · rename_i h0
      have : B = [] := List.eq_nil_of_length_eq_zero h0
      subst this
      decide
    · have := (jmp_range (B.getD (B.length - 1) fz) (B.getD 0 fz)).1
      omega
  · exact Int.le_refl _
theorem dst_nodup {α : Type} [DecidableEq α] (B : List α) : (dst B).1.Nodup := by
  have : ∀ (B : List α) (s : List α × List Nat), s.1.Nodup → (B.foldl dstep s).1.Nodup := by
    intro B
    induction B with
    | nil => intro s h; exact h
    | cons x B ih =>
      intro s h
      rw [List.foldl_cons]
      refine ih _ ?_
      simp only [dstep]
      split
      · exact h
      · rename_i hn
        have hx : x ∉ s.1 := fun hm => hn (fidx_lt hm)
        rw [List.nodup_append]
        refine ⟨h, by simp, fun a ha b hb e => ?_⟩
        rw [List.mem_singleton] at hb
        subst hb
        subst e
        exact hx ha
  exact this B ([], []) List.nodup_nil
theorem dbk_ne {B : List Fm} {i k : Nat} (hi : i < (dbk B).length) (hk : k < i) : (dbk B)[i] ≠ (dbk B)[k] := by
  have h : (dbk B).Nodup := dst_nodup B
  exact fun e => (List.pairwise_iff_getElem.1 h) k i (by omega) hi hk e.symm
/-- The greatest jump: where it is, and that none is greater. -/
theorem gAt_spec {J : List Int} (h : 0 < J.length) : ArgMax J J.length (gAt J) := by
  have hm : ∀ k, 0 < k → k ≤ J.length → ∃ m, MaxTo J k m := by
    intro k
    induction k with
    | zero => intro h; omega
    | succ k ih =>
      intro _ hk
      rcases Nat.eq_zero_or_pos k with h0 | h0
      · subst h0; exact ⟨_, MaxTo.one J⟩
      · obtain ⟨m, hm⟩ := ih h0 (by omega)
        exact ⟨_, hm.step⟩
  obtain ⟨m, hm⟩ := hm J.length h (Nat.le_refl _)
  have := (ArgMax.of_max hm).1
  rw [gAt_eq this]
  exact this
theorem dpl_get {B : List Fm} {k : Nat} (hk : k < B.length) : (dpl B)[k]? = some ((fidx B[k] (dbk B) : Nat) : Int) ∧ ∃ h : fidx B[k] (dbk B) < (dbk B).length, (dbk B)[fidx B[k] (dbk B)] = B[k] := by
  have hm : B[k] ∈ (dst B).1 := dst_mem.2 (List.getElem_mem hk)
  refine ⟨plI_get (dst_place k hk), fidx_lt hm, fidx_get (fidx_lt hm)⟩
theorem rep_get {B : List Fm} {k : Nat} (hk : k < B.length) : fidx B[k] B ≤ k ∧ ∃ h : fidx B[k] B < B.length, B[fidx B[k] B] = B[k] :=
  ⟨fidx_self hk, fidx_lt (List.getElem_mem hk), fidx_get (fidx_lt (List.getElem_mem hk))⟩
theorem jmpL_at {B : List Fm} {n q k : Nat} (hB : B.length = n) (hl : (jmpL B).length = q) (hk : k < q) (h1 : k + 1 < n) : (jmpL B)[k]'(by omega) = jmp (B[k]'(by omega)) (B[k + 1]'(by omega)) := by
  have h := jmpL_get (B := B) (k := k) (by omega)
  rw [List.getD_eq_getElem?_getD, List.getElem?_eq_getElem (by omega), List.getD_eq_getElem?_getD, List.getElem?_eq_getElem (by omega), List.getD_eq_getElem?_getD, List.getElem?_eq_getElem (by omega)] at h
  exact h
theorem rev_at {J : List Int} {q k j : Nat} (hl : J.length = q) (hk : k < q) (hj : q - 1 - k = j) : J.reverse[j]'(by rw [List.length_reverse]; omega) = J[k]'(by omega) := by
  subst hj
  rw [List.getElem_reverse]
  congr 1
  omega
theorem sum_bd {B : List Fm} {q k : Nat} (hl : (jmpL B).length = q) (hk : k ≤ q) (hq : q ≤ 100) : 0 ≤ sumI ((jmpL B).take k) ∧ sumI ((jmpL B).take k) ≤ 14400 := by
  have h := sumI_le (c := 144) (l := (jmpL B).take k) (by omega) (fun x hx => jmpL_range B x (List.mem_of_mem_take hx))
  have h2 : ((jmpL B).take k).length = k := by rw [List.length_take]; omega
  rw [h2] at h
  omega
theorem dpl_at {B : List Fm} {n k : Nat} (hB : B.length = n) (hk : k < n) (hl : (dpl B).length = n) : ∃ lx : Nat, (dpl B)[k]'(by omega) = (lx : Int) ∧ ∃ h : lx < (dbk B).length, (dbk B)[lx] = B[k]'(by omega) := by
  obtain ⟨h1, h2, h3⟩ := dpl_get (B := B) (k := k) (by omega)
  rw [List.getElem?_eq_getElem (by omega)] at h1
  exact ⟨_, Option.some.inj h1, h2, h3⟩
theorem rep_at {B : List Fm} {n k : Nat} (hB : B.length = n) (hk : k < n) (hl : (repL B).length = n) : ∃ rx : Nat, (repL B)[k]'(by omega) = (rx : Int) ∧ rx ≤ k ∧ ∃ h : rx < B.length, B[rx] = B[k]'(by omega) := by
  have h1 := repL_get (B := B) (k := k) (by omega)
  rw [List.getElem?_eq_getElem (by omega)] at h1
  obtain ⟨h2, h3, h4⟩ := rep_get (B := B) (k := k) (by omega)
  exact ⟨_, Option.some.inj h1, h2, h3, h4⟩
theorem froF_len7 {B : List Fm} {n : Nat} (hB : B.length = n) (hn : n ≤ 7) : (froF B).length ≤ 12 := by
  unfold froF
  rw [froL_length B hB (by omega), hB]
  omega
end Go.Proofs.YtmfgbkmkcljciaaGreatDoor
/- Books turned round in place; no condition. -/
namespace Go.Proofs.YtmfgbkmkcljciaaGreatDoor
open Go.RowKit
set_option linter.unusedSimpArgs false
set_option linter.unusedVariables false

/-- The first i elements and the last i have changed places. -/
def revTo {α : Type} (d : α) (B : List α) (i : Nat) : List α := (List.range B.length).map fun y => if y < i ∨ B.length ≤ y + i then B.getD (B.length - 1 - y) d else B.getD y d
theorem revTo_length {α : Type} (d : α) (B : List α) (i : Nat) : (revTo d B i).length = B.length := by simp [revTo]
theorem revTo_get {α : Type} (d : α) (B : List α) (i y : Nat) (hy : y < B.length) : (revTo d B i)[y]? = some (if y < i ∨ B.length ≤ y + i then B.getD (B.length - 1 - y) d else B.getD y d) := by
  unfold revTo
  rw [List.getElem?_map, List.getElem?_range hy]; rfl
theorem revTo_zero {α : Type} (d : α) (B : List α) : revTo d B 0 = B := by
  apply List.ext_getElem?
  intro y
  by_cases hy : y < B.length
  · rw [revTo_get d B 0 y hy, if_neg (by omega), List.getD_eq_getElem?_getD, List.getElem?_eq_getElem hy]; rfl
  · rw [List.getElem?_eq_none (by rw [revTo_length]; omega), List.getElem?_eq_none (by omega)]
theorem revTo_all {α : Type} (d : α) (B : List α) (i : Nat) (hi : B.length ≤ 2 * i + 1) : revTo d B i = B.reverse := by
  apply List.ext_getElem?
  intro y
  by_cases hy : y < B.length
  · rw [revTo_get d B i y hy, List.getElem?_reverse hy]
    by_cases h : y < i ∨ B.length ≤ y + i
    · rw [if_pos h, List.getD_eq_getElem?_getD, List.getElem?_eq_getElem (by omega)]; rfl
    · rw [if_neg h, show B.length - 1 - y = y by omega, List.getD_eq_getElem?_getD, List.getElem?_eq_getElem hy]; rfl
  · rw [List.getElem?_eq_none (by rw [revTo_length]; omega), List.getElem?_eq_none (by simp; omega)]
theorem revTo_step {α : Type} (d : α) (B : List α) {i : Nat} (hi : 2 * i + 1 < B.length) : ((revTo d B i).set i (B.getD (B.length - 1 - i) d)).set (B.length - 1 - i) (B.getD i d) = revTo d B (i + 1) := by
  apply List.ext_getElem?
  intro y
  by_cases hy : y < B.length
  · rw [revTo_get d B (i + 1) y hy, List.getElem?_set, List.getElem?_set, revTo_get d B i y hy, List.length_set, revTo_length]
    by_cases e1 : B.length - 1 - i = y
    · rw [if_pos e1, if_pos (by omega), if_pos (by omega), show B.length - 1 - y = i by omega]
    · rw [if_neg e1]
      by_cases e2 : i = y
      · subst e2; rw [if_pos rfl, if_pos (by omega), if_pos (by omega)]
      · rw [if_neg e2]
        by_cases h : y < i ∨ B.length ≤ y + i
        · rw [if_pos h, if_pos (by omega)]
        · rw [if_neg h, if_neg (by omega)]
  · rw [List.getElem?_eq_none (by rw [List.length_set, List.length_set, revTo_length]; omega), List.getElem?_eq_none (by rw [revTo_length]; omega)]
theorem slcAddr_run {P : Program} {a : Act} {o : Oper} (T : TypeId) (x ix : Operand) (ho : o.op = .indexAddr T x ix) (b m c : Nat) (hx : a.eval x = .slice (some ⟨b, 0, none⟩) m c) (k : IntKind) (i : Int) (hi : a.eval ix = .int k i)
    {E : TypeId} {s y : Nat} {z : List Value} (hT : SlcT P T E s y z) (j : Nat) (hj : i = j) (h1 : j < m) : ∀ w : World, (execOp a.eval o).run P w = .ok (.value (.pointer (some ⟨b, j * s, none⟩))) w := by
  subst hj
  intro w
  have hsz := hT.sizeOf w
  have h1' : (j : Int) < m := by omega
  have h0 : (0 : Int) ≤ j := by omega
  unfold execOp
  simp only [ho, hx, hi, Instr.indexAt, asIntOf, Sem.run_bind, Sem.run_pure, Result.andThen_ok, run_underlying hT.u w, h0, h1', and_self, if_true, hsz, Addr.add_lit, Int.toNat_natCast, Nat.zero_add]
theorem encs_setA {α : Type} {e : α → List Value} {s : Nat} (hs : ∀ a, (e a).length = s) (l : List α) (sp : List Value) (k : Nat) (hk : k < l.length) (x : α) : (encs e l ++ sp).take (k * s) ++ e x ++ (encs e l ++ sp).drop (k * s + s) = encs e (l.set k x) ++ sp := by
  have h1 : k * s + s ≤ l.length * s := by rw [← Nat.succ_mul]; exact Nat.mul_le_mul_right _ hk
  have hl := encs_length hs l
  rw [List.take_append_of_le_length (by omega), List.drop_append_of_le_length (by omega), ← encs_set hs l k hk x]
  simp
theorem revTo_cl {w : World} {g : Nat} {B : List Fm} {k y n : Nat} {sp : List Value} {T : TypeId} (h : Blk w g (encs fv (revTo fz B k) ++ sp) T) (hn : B.length = n) (hy : y < n) (h1 : k ≤ y) (h2 : y + k < n) : Cl w g (y * 12) (fv (B.getD y fz)) := by
  have hl : y < (revTo fz B k).length := by rw [revTo_length]; omega
  have := h.seg fv_len hl
  have e := revTo_get fz B k y (by omega)
  rw [List.getElem?_eq_getElem hl, if_neg (by omega)] at e
  injection e with e
  rwa [e] at this
set_option maxHeartbeats 1000000 in
set_option maxRecDepth 100000 in
theorem Reverse_c (B : List Fm) (n : Nat) (hB : B.length = n) (hn : n ≤ 1000000) (g c : Nat) (spare : List Value) (T : TypeId) (w : World) (hb0 : Blk w g (encs fv B ++ spare) T) :
    Calls Tryz.prog 42 #[.slice (some ⟨g, 0, none⟩) n c] w fun e w' => e = .returned (.tuple #[]) ∧ Keep [g] w w' ∧ Blk w' g (encs fv B.reverse ++ spare) T := by
  have st := St.start1 hb0
  replace hB := hid hB
  go_enter Tryz.func42, Tryz.ntmps42
  go_wp2_with fail
  go_loopw [2, 3] (fun i j wr => ∃ k : Nat, 2 * k ≤ n + 1 ∧ i = .int .i64 k ∧ j = .int .i64 ((n : Int) - 1 - (k : Int)) ∧ St [g] w wr [(g, encs fv (revTo fz B k) ++ spare, T)]) (fun i _ _ => n - (intOf i).toNat)
  case atStart => exact ⟨0, by omega, rfl, by simp, by rw [revTo_zero]; exact st⟩
  case round =>
    clear st hb0
    obtain ⟨k, hk, rfl, rfl, st⟩ := hrel
    by_cases hlt : 2 * k + 1 < n
    · have hd : decide ((k : Int) < (n : Int) - 1 - (k : Int)) = true := by simp; omega
      obtain ⟨q, hq⟩ : ∃ q : Nat, q = n - 1 - k := ⟨_, rfl⟩
      have hj : (n : Int) - 1 - (k : Int) = ((q : Nat) : Int) := by omega
      have hqn : q < n := by omega
      have hkn : k < n := by omega
      have HX := hid (fun w' (h : Blk w' g (encs fv (revTo fz B k) ++ spare) T) => revTo_cl (y := q) h hB.out hqn (by omega) (by omega))
      have HY := hid (fun w' (h : Blk w' g (encs fv (revTo fz B k) ++ spare) T) => revTo_cl (y := k) h hB.out hkn (by omega) (by omega))
      have HE1 := hid (encs_setA fv_len (revTo fz B k) spare k (by rw [revTo_length, hB.out]; omega) (B.getD q fz))
      have HE2 := hid (encs_setA fv_len ((revTo fz B k).set k (B.getD q fz)) spare q (by rw [List.length_set, revTo_length, hB.out]; omega) (B.getD k fz))
      have HS := hid (revTo_step fz B (i := k) (by rw [hB.out]; omega))
      rw [show B.length - 1 - k = q by rw [hB.out, hq]] at HS
      have HL := hid (show (encs fv (revTo fz B k) ++ spare).length = n * 12 + spare.length by rw [List.length_append, encs_fv_length, revTo_length, hB.out])
      have HL2 := hid (show (encs fv ((revTo fz B k).set k (B.getD q fz)) ++ spare).length = n * 12 + spare.length by rw [List.length_append, encs_fv_length, List.length_set, revTo_length, hB.out])
      obtain ⟨X, hX⟩ : ∃ X, B.getD q fz = X := ⟨_, rfl⟩
      obtain ⟨Y, hY⟩ : ∃ Y, B.getD k fz = Y := ⟨_, rfl⟩
      rw [hX] at HX HE1 HE2 HS HL2
      rw [hY] at HY HE2 HS
      have HQ := hid hq
      clear hX hY hq hd
      rw [hj]
      have HJ := hid hj
      clear hj
      have hd2 : decide (k < q) = true := by rw [decide_eq_true_eq]; have := HQ.out; omega
      go_wp2_with fail
      apply wp_region_meet0 st 16 rfl (by kernel_rfl)
      case h =>
        intro _ st
        refine take_pure' (i := 0) rfl (by kernel_rfl) (by kernel_rfl) (by kernel_rfl) (fun _ _ _ h => h) rfl (fun _ => rfl) ?_
        (simp only [Act.put, Act.eval, Array.getD_eq_getD_getElem?, List.getElem?_toArray, List.getElem?_cons_succ, List.getElem?_cons_zero, Option.getD_some, List.setIfInBounds_toArray, List.set_cons_succ, List.set_cons_zero, List.getElem_toArray, List.getElem_cons_succ, List.getElem_cons_zero])
        refine take_pure' (i := 1) rfl (by kernel_rfl) (by kernel_rfl) (by kernel_rfl) (fun _ _ _ h => h) rfl (fun _ => rfl) ?_
        (simp only [Act.put, Act.eval, Array.getD_eq_getD_getElem?, List.getElem?_toArray, List.getElem?_cons_succ, List.getElem?_cons_zero, Option.getD_some, List.setIfInBounds_toArray, List.set_cons_succ, List.set_cons_zero, List.getElem_toArray, List.getElem_cons_succ, List.getElem_cons_zero])
        refine take_pure' (i := 2) rfl (by kernel_rfl) (by kernel_rfl) (by kernel_rfl) (fun _ _ _ h => h) rfl (fun _ => rfl) ?_
        (simp only [Act.put, Act.eval, Array.getD_eq_getD_getElem?, List.getElem?_toArray, List.getElem?_cons_succ, List.getElem?_cons_zero, Option.getD_some, List.setIfInBounds_toArray, List.set_cons_succ, List.set_cons_zero, List.getElem_toArray, List.getElem_cons_succ, List.getElem_cons_zero])
        refine take_pure' (i := 3) rfl (by kernel_rfl) (by kernel_rfl) (by kernel_rfl) (fun _ _ _ h => h) rfl (fun _ => rfl) ?_
        (simp only [Act.put, Act.eval, Array.getD_eq_getD_getElem?, List.getElem?_toArray, List.getElem?_cons_succ, List.getElem?_cons_zero, Option.getD_some, List.setIfInBounds_toArray, List.set_cons_succ, List.set_cons_zero, List.getElem_toArray, List.getElem_cons_succ, List.getElem_cons_zero])
        refine take_pure' (i := 4) rfl (by kernel_rfl) (by kernel_rfl) (by kernel_rfl) (fun _ _ _ h => h) rfl (fun _ => rfl) ?_
        (simp only [Act.put, Act.eval, Array.getD_eq_getD_getElem?, List.getElem?_toArray, List.getElem?_cons_succ, List.getElem?_cons_zero, Option.getD_some, List.setIfInBounds_toArray, List.set_cons_succ, List.set_cons_zero, List.getElem_toArray, List.getElem_cons_succ, List.getElem_cons_zero])
        refine take_pure' (i := 5) rfl (by kernel_rfl) (by kernel_rfl) (by kernel_rfl) (fun _ _ _ h => h) rfl (fun _ => rfl) ?_
        (simp only [Act.put, Act.eval, Array.getD_eq_getD_getElem?, List.getElem?_toArray, List.getElem?_cons_succ, List.getElem?_cons_zero, Option.getD_some, List.setIfInBounds_toArray, List.set_cons_succ, List.set_cons_zero, List.getElem_toArray, List.getElem_cons_succ, List.getElem_cons_zero])
        refine take_pure' (i := 6) rfl (by kernel_rfl) (by kernel_rfl) (by kernel_rfl) (fun _ _ _ h => h) rfl (slcAddr_run _ _ _ rfl _ _ _ rfl _ _ rfl tBook q rfl hqn) ?_
        (simp only [Act.put, Act.eval, Array.getD_eq_getD_getElem?, List.getElem?_toArray, List.getElem?_cons_succ, List.getElem?_cons_zero, Option.getD_some, List.setIfInBounds_toArray, List.set_cons_succ, List.set_cons_zero, List.getElem_toArray, List.getElem_cons_succ, List.getElem_cons_zero])
        refine take_pure' (i := 8) rfl (by kernel_rfl) (by kernel_rfl) (by kernel_rfl) (fun _ _ _ h => h) rfl (fun _ => rfl) ?_
        (simp only [Act.put, Act.eval, Array.getD_eq_getD_getElem?, List.getElem?_toArray, List.getElem?_cons_succ, List.getElem?_cons_zero, Option.getD_some, List.setIfInBounds_toArray, List.set_cons_succ, List.set_cons_zero, List.getElem_toArray, List.getElem_cons_succ, List.getElem_cons_zero])
        refine take_pure' (i := 9) rfl (by kernel_rfl) (by kernel_rfl) (by kernel_rfl) (fun _ _ _ h => h) rfl (fun _ => rfl) ?_
        (simp only [Act.put, Act.eval, Array.getD_eq_getD_getElem?, List.getElem?_toArray, List.getElem?_cons_succ, List.getElem?_cons_zero, Option.getD_some, List.setIfInBounds_toArray, List.set_cons_succ, List.set_cons_zero, List.getElem_toArray, List.getElem_cons_succ, List.getElem_cons_zero])
        refine take_pure' (i := 10) rfl (by kernel_rfl) (by kernel_rfl) (by kernel_rfl) (fun _ _ _ h => h) rfl (slcAddr_run _ _ _ rfl _ _ _ rfl _ _ rfl tBook k rfl hkn) ?_
        (simp only [Act.put, Act.eval, Array.getD_eq_getD_getElem?, List.getElem?_toArray, List.getElem?_cons_succ, List.getElem?_cons_zero, Option.getD_some, List.setIfInBounds_toArray, List.set_cons_succ, List.set_cons_zero, List.getElem_toArray, List.getElem_cons_succ, List.getElem_cons_zero])
        refine wpAny_ready (rs := [7, 11]) (by kernel_rfl) (by simp) ?_
        refine AllReady.one' rfl rfl ?_ ?_
        · ((with_reducible refine gate_load rfl ?_); refine ia_loadC (HX.out _ (st.get (by repeat (first | exact At.here | apply At.there)))) rfl rfl rfl (fv_len _) ?_)
          (simp only [Act.put, Act.eval, Array.getD_eq_getD_getElem?, List.getElem?_toArray, List.getElem?_cons_succ, List.getElem?_cons_zero, Option.getD_some, List.setIfInBounds_toArray, List.set_cons_succ, List.set_cons_zero, List.getElem_toArray, List.getElem_cons_succ, List.getElem_cons_zero])
          refine wpList_aft ?_
          refine wpAny_ready (rs := [11]) (by kernel_rfl) (by simp) ?_
          refine AllReady.one' rfl rfl ?_ ?_
          · ((with_reducible refine gate_load rfl ?_); refine ia_loadC (HY.out _ (st.get (by repeat (first | exact At.here | apply At.there)))) rfl rfl rfl (fv_len _) ?_)
            (simp only [Act.put, Act.eval, Array.getD_eq_getD_getElem?, List.getElem?_toArray, List.getElem?_cons_succ, List.getElem?_cons_zero, Option.getD_some, List.setIfInBounds_toArray, List.set_cons_succ, List.set_cons_zero, List.getElem_toArray, List.getElem_cons_succ, List.getElem_cons_zero])
            refine wpList_aft ?_
            refine wpAny_ready (rs := [12]) (by kernel_rfl) (by simp) ?_
            refine AllReady.one' rfl rfl ?_ ?_
            · ((with_reducible refine gate_addr rfl ?_); refine wpl_slcAddr rfl _ _ _ rfl _ _ _ _ rfl _ _ rfl tBook k rfl hkn ?_)
              (simp only [Act.put, Act.eval, Array.getD_eq_getD_getElem?, List.getElem?_toArray, List.getElem?_cons_succ, List.getElem?_cons_zero, Option.getD_some, List.setIfInBounds_toArray, List.set_cons_succ, List.set_cons_zero, List.getElem_toArray, List.getElem_cons_succ, List.getElem_cons_zero])
              refine wpList_aft ?_
              refine wpAny_ready (rs := [13]) (by kernel_rfl) (by simp) ?_
              refine AllReady.one' rfl rfl ?_ ?_
              · ((with_reducible refine gate_store rfl ?_); refine ia_storeSeg st rfl rfl rfl rfl (fv_len _) (fv_one _) (by rw [HL.out]; omega) ?_; clear st; intro _ st; simp only [List.set_cons_zero, Nat.zero_add] at st; rw [HE1.out] at st)
                (simp only [Act.put, Act.eval, Array.getD_eq_getD_getElem?, List.getElem?_toArray, List.getElem?_cons_succ, List.getElem?_cons_zero, Option.getD_some, List.setIfInBounds_toArray, List.set_cons_succ, List.set_cons_zero, List.getElem_toArray, List.getElem_cons_succ, List.getElem_cons_zero])
                refine wpList_aft ?_
                refine wpAny_ready (rs := [14]) (by kernel_rfl) (by simp) ?_
                refine AllReady.one' rfl rfl ?_ ?_
                · ((with_reducible refine gate_addr rfl ?_); refine wpl_slcAddr rfl _ _ _ rfl _ _ _ _ rfl _ _ rfl tBook q rfl hqn ?_)
                  (simp only [Act.put, Act.eval, Array.getD_eq_getD_getElem?, List.getElem?_toArray, List.getElem?_cons_succ, List.getElem?_cons_zero, Option.getD_some, List.setIfInBounds_toArray, List.set_cons_succ, List.set_cons_zero, List.getElem_toArray, List.getElem_cons_succ, List.getElem_cons_zero])
                  refine wpList_aft ?_
                  refine wpAny_ready (rs := [15]) (by kernel_rfl) (by simp) ?_
                  refine AllReady.one' rfl rfl ?_ ?_
                  · ((with_reducible refine gate_store rfl ?_); refine ia_storeSeg st rfl rfl rfl rfl (fv_len _) (fv_one _) (by rw [HL2.out]; omega) ?_; clear st; intro _ st; simp only [List.set_cons_zero, Nat.zero_add] at st; rw [HE2.out, HS.out] at st)
                    (simp only [Act.put, Act.eval, Array.getD_eq_getD_getElem?, List.getElem?_toArray, List.getElem?_cons_succ, List.getElem?_cons_zero, Option.getD_some, List.setIfInBounds_toArray, List.set_cons_succ, List.set_cons_zero, List.getElem_toArray, List.getElem_cons_succ, List.getElem_cons_zero])
                    refine wpList_aft ?_
                    refine wpAny_done (by kernel_rfl) ?_ _; exact ⟨rfl, st⟩
                  exact AllReady.nil
                exact AllReady.nil
              exact AllReady.nil
            exact AllReady.nil
          exact AllReady.nil
        refine AllReady.one' rfl rfl ?_ ?_
        · ((with_reducible refine gate_load rfl ?_); refine ia_loadC (HY.out _ (st.get (by repeat (first | exact At.here | apply At.there)))) rfl rfl rfl (fv_len _) ?_)
          (simp only [Act.put, Act.eval, Array.getD_eq_getD_getElem?, List.getElem?_toArray, List.getElem?_cons_succ, List.getElem?_cons_zero, Option.getD_some, List.setIfInBounds_toArray, List.set_cons_succ, List.set_cons_zero, List.getElem_toArray, List.getElem_cons_succ, List.getElem_cons_zero])
          refine wpList_aft ?_
          refine wpAny_ready (rs := [7]) (by kernel_rfl) (by simp) ?_
          refine AllReady.one' rfl rfl ?_ ?_
          · ((with_reducible refine gate_load rfl ?_); refine ia_loadC (HX.out _ (st.get (by repeat (first | exact At.here | apply At.there)))) rfl rfl rfl (fv_len _) ?_)
            (simp only [Act.put, Act.eval, Array.getD_eq_getD_getElem?, List.getElem?_toArray, List.getElem?_cons_succ, List.getElem?_cons_zero, Option.getD_some, List.setIfInBounds_toArray, List.set_cons_succ, List.set_cons_zero, List.getElem_toArray, List.getElem_cons_succ, List.getElem_cons_zero])
            refine wpList_aft ?_
            refine wpAny_ready (rs := [12]) (by kernel_rfl) (by simp) ?_
            refine AllReady.one' rfl rfl ?_ ?_
            · ((with_reducible refine gate_addr rfl ?_); refine wpl_slcAddr rfl _ _ _ rfl _ _ _ _ rfl _ _ rfl tBook k rfl hkn ?_)
              (simp only [Act.put, Act.eval, Array.getD_eq_getD_getElem?, List.getElem?_toArray, List.getElem?_cons_succ, List.getElem?_cons_zero, Option.getD_some, List.setIfInBounds_toArray, List.set_cons_succ, List.set_cons_zero, List.getElem_toArray, List.getElem_cons_succ, List.getElem_cons_zero])
              refine wpList_aft ?_
              refine wpAny_ready (rs := [13]) (by kernel_rfl) (by simp) ?_
              refine AllReady.one' rfl rfl ?_ ?_
              · ((with_reducible refine gate_store rfl ?_); refine ia_storeSeg st rfl rfl rfl rfl (fv_len _) (fv_one _) (by rw [HL.out]; omega) ?_; clear st; intro _ st; simp only [List.set_cons_zero, Nat.zero_add] at st; rw [HE1.out] at st)
                (simp only [Act.put, Act.eval, Array.getD_eq_getD_getElem?, List.getElem?_toArray, List.getElem?_cons_succ, List.getElem?_cons_zero, Option.getD_some, List.setIfInBounds_toArray, List.set_cons_succ, List.set_cons_zero, List.getElem_toArray, List.getElem_cons_succ, List.getElem_cons_zero])
                refine wpList_aft ?_
                refine wpAny_ready (rs := [14]) (by kernel_rfl) (by simp) ?_
                refine AllReady.one' rfl rfl ?_ ?_
                · ((with_reducible refine gate_addr rfl ?_); refine wpl_slcAddr rfl _ _ _ rfl _ _ _ _ rfl _ _ rfl tBook q rfl hqn ?_)
                  (simp only [Act.put, Act.eval, Array.getD_eq_getD_getElem?, List.getElem?_toArray, List.getElem?_cons_succ, List.getElem?_cons_zero, Option.getD_some, List.setIfInBounds_toArray, List.set_cons_succ, List.set_cons_zero, List.getElem_toArray, List.getElem_cons_succ, List.getElem_cons_zero])
                  refine wpList_aft ?_
                  refine wpAny_ready (rs := [15]) (by kernel_rfl) (by simp) ?_
                  refine AllReady.one' rfl rfl ?_ ?_
                  · ((with_reducible refine gate_store rfl ?_); refine ia_storeSeg st rfl rfl rfl rfl (fv_len _) (fv_one _) (by rw [HL2.out]; omega) ?_; clear st; intro _ st; simp only [List.set_cons_zero, Nat.zero_add] at st; rw [HE2.out, HS.out] at st)
                    (simp only [Act.put, Act.eval, Array.getD_eq_getD_getElem?, List.getElem?_toArray, List.getElem?_cons_succ, List.getElem?_cons_zero, Option.getD_some, List.setIfInBounds_toArray, List.set_cons_succ, List.set_cons_zero, List.getElem_toArray, List.getElem_cons_succ, List.getElem_cons_zero])
                    refine wpList_aft ?_
                    refine wpAny_done (by kernel_rfl) ?_ _; exact ⟨rfl, st⟩
                  exact AllReady.nil
                exact AllReady.nil
              exact AllReady.nil
            exact AllReady.nil
          exact AllReady.nil
        exact AllReady.nil
      clear st; intro _ st
      go_wp2_with fail
      go_roundw
      case rel => exact ⟨k + 1, by omega, by go_num, by rw [show (q : Int) - 1 = (n : Int) - 1 - ((k + 1 : Nat) : Int) by have := HJ.out; omega], st⟩
      case measure => simp [intOf]; omega
    · have hd : decide ((k : Int) < (n : Int) - 1 - (k : Int)) = false := by simp; omega
      rw [revTo_all fz B k (by rw [hB.out]; omega)] at st
      go_wp2_with fail
      go_end0
      exact ⟨rfl, st.keep1⟩
theorem Reverse_z (p : Option Addr) (c : Nat) (w : World) : Calls Tryz.prog 42 #[.slice p 0 c] w fun e w' => e = .returned (.tuple #[]) ∧ Keep [] w w' := by
  have st := St.start w
  go_enter Tryz.func42, Tryz.ntmps42
  go_wp2_with fail
  go_loopw [2, 3] (fun i j wr => i = .int .i64 0 ∧ j = .int .i64 (-1) ∧ St [] w wr []) (fun i _ _ => 0)
  case atStart => exact ⟨rfl, rfl, st⟩
  case round =>
    clear st
    obtain ⟨rfl, rfl, st⟩ := hrel
    go_wp2_with fail
    go_end0
    exact ⟨rfl, st.keep⟩
end Go.Proofs.YtmfgbkmkcljciaaGreatDoor
/- The law BackBook: the program, and what the law answers; no condition. -/
namespace Go.Proofs.YtmfgbkmkcljciaaGreatDoor
open Go.RowKit
set_option linter.unusedSimpArgs false
set_option linter.unusedVariables false
set_option maxHeartbeats 1000000 in
set_option maxRecDepth 100000 in
theorem BackBook_c (B : List Fm) (n : Nat) (hB : B.length = n) (hn : n ≤ 1000000) (p : Option Addr) (hp : p = none → n = 0) (c : Nat) (w : World) (hr : Rd w p n (encs fv B)) :
    Calls Tryz.prog 10 #[.slice p n c] w (BookCode (backR B) (backR B).length (bkCode B) (bkCode B ≠ 0 ∨ p = none) w) := by
  have st := St.start w
  unfold backR bkCode
  rcases Bool.eq_false_or_eq_true (bkB B) with h | h
  · have HV := hid (fun w' hk => ValidBook_v h n hB (by omega) p c w' (hr.keep (w1 := w') hk))
    have HCl := hid (fun w' hk => Clone_c B n hB (by omega) p hp c w' (hr.keep (w1 := w') hk))
    rw [if_pos h, if_pos h, List.length_reverse, hB]
    replace hB := hid hB
    clear h hp
    go_enter Tryz.func10, Tryz.ntmps10
    go_wp2_with (first | (go_at_call 16; refine (HV.out _ st.keep).mono ?_; rintro _ _ ⟨rfl, hk⟩; replace st := st.call hk; clear hk) | (go_at_call 41; refine (HCl.out _ st.keep).mono ?_; rintro _ _ ⟨v, rfl, (⟨hpn, hn0, rfl⟩ | ⟨g, cap, spare, rfl, hg, hbg, hcap, hcm⟩), hk⟩; all_goals (first | (replace st := st.adopt hk hg hbg; have HC := hid hcap; have HM := hid hcm; clear hk hg hbg hcap hcm) | (replace hn0 := hid hn0; replace st := st.call hk; clear hk))) | (go_at_call 42; (with_reducible refine (Reverse_z _ _ _).mono ?_); rintro _ _ ⟨rfl, hk⟩; replace st := st.call hk; clear hk) | (go_at_call 42; (with_reducible refine (Reverse_c B n hB.out hn _ _ _ _ _ (st.get (by repeat (first | exact At.here | apply At.there)))).mono ?_); rintro _ _ ⟨rfl, hk, hb1⟩; replace st := st.wrote (by repeat (first | exact Upd.here | apply Upd.there)) hk hb1; clear hk hb1))
    · go_ret2
      exact ⟨_, rfl, Or.inl ⟨.inr hpn, hn0.out, rfl⟩, st.keep⟩
    · go_ret2
      exact ⟨_, rfl, Or.inr ⟨g, cap, spare, rfl, out_of st .here, st.get .here, by have := HC.out; rw [List.length_append, encs_fv_length] at this ⊢; rw [List.length_reverse]; exact this, HM.out⟩, st.keep⟩
  · have HV := hid (fun w' hk => ValidBook_v h n hB (by omega) p c w' (hr.keep (w1 := w') hk))
    rw [if_neg (by rw [h]; decide), if_neg (by rw [h]; decide)]
    clear hB h hp
    go_enter Tryz.func10, Tryz.ntmps10
    go_wp2_with (first | (go_at_call 16; refine (HV.out _ st.keep).mono ?_; rintro _ _ ⟨rfl, hk⟩; replace st := st.call hk; clear hk))
    go_ret2
    exact ⟨_, rfl, Or.inl ⟨.inl (by decide), rfl, rfl⟩, st.keep⟩
end Go.Proofs.YtmfgbkmkcljciaaGreatDoor
/- Books joined: the library's Grow and Concat, the reference and the program; no condition. -/
namespace Go.Proofs.YtmfgbkmkcljciaaGreatDoor
open Go.RowKit
set_option linter.unusedSimpArgs false
set_option linter.unusedVariables false

section
variable {P : Program} {ops : Array Oper} {rest : List Oper} {o : Oper} {a : Act} {w w0 : World} {Q : Exit → Act → World → Prop} {M : List Nat} {L : List (Nat × List Value × TypeId)}
theorem gate_app2 {s x : Operand} {T T' : TypeId} (_ho : o.op = .call { callee := .builtin .append, args := #[s, x], argTypes := #[T, T'] }) (h : wpList P ops Q (o :: rest) a w) : wpList P ops Q (o :: rest) a w := h
/-- The nil slice grows by zero values. -/
theorem ia_appZ {s x : Operand} {T T' E : TypeId} {sz y k : Nat} {z : List Value} {K K' : IntKind} (st : St M w0 w L) (hgd : o.guard = none) (ho : o.op = .call { callee := .builtin .append, args := #[s, x], argTypes := #[T, T'] })
    (hs : a.eval s = .slice none 0 0) (hx : a.eval x = .int K k) [hT : SlcC P T E sz y z] [hI : IntC P T' K'] (h0 : 0 < k) (h63 : k ≤ 4611686018427387904) (hby : k * y ≤ 140737488355328)
    (h : ∀ g cap cells w1, St M w0 w1 ((g, cells, E) :: L) → cells.length = cap * sz → k ≤ cap → cap ≤ maxLen → wpList P ops Q rest (a.put o.dst (.slice (some ⟨g, 0, none⟩) k cap)) w1) : wpList P ops Q (o :: rest) a w := by
  obtain ⟨i, v, hi, hs', hy', hz, hc⟩ := hT.out.i
  subst hs'
  subst hy'
  have hp := hT.out.p
  have hold : (Builtin.firstCells i.size 0 (.slice none 0 0)).run P w.drew = .ok ([] : List Value).toArray w.drew := run_firstCells_none w.drew i.size 0 0 0
  have hr := Lib.run_append_grow_zeros (P := P) w T T' o.type E i v K K' hT.out.u hI.out hi hz none 0 0 [] hold k h0 hp (by omega) (by omega) (by omega) (by rw [Nat.zero_add]; exact growslice_fits (by omega) hby)
  simp only [Nat.zero_add] at hr
  have hge := grownCap_ge w k 0 E
  have hcm' := grownCap_le_maxLen w k 0 E (by unfold maxLen; omega)
  obtain ⟨zs, hzs⟩ : ∃ zs : List Value, ([] : List Value).toArray ++ Builtin.zeroCells v.cells k ++ Builtin.zeroCells v.cells (grownCap w k 0 E - k) = zs.toArray := ⟨_, (Array.toArray_toList).symm⟩
  have hzl : zs.length = grownCap w k 0 E * i.size := by
    have h1 := congrArg Array.size hzs
    have h2 := hT.out.l
    simp only [Array.size_append, size_zeroCells, hc, List.size_toArray, List.length_nil, Nat.zero_add, h2] at h1
    rw [← h1, ← Nat.add_mul]
    congr 1
    omega
  rw [hzs] at hr
  have st1 := (st.call (Keep.drew w)).alloc zs E
  refine wpList_plain hgd fun Kc hK => ?_
  unfold Oper.wp execOp
  simp only [ho, resolve, invoke, builtin, Sem.run_bind, Sem.run_pure, Result.andThen_ok, List.map_toArray, List.map_cons, List.map_nil, hs, hx, hr]
  exact hK _ _ (h _ _ zs _ st1 hzl hge hcm')
/-- A slice cut at its length: its own head. -/
theorem ia_cutH {T E : TypeId} {s y n c : Nat} {z : List Value} {x ih : Operand} {p : Option Addr} {k : IntKind} {h : Nat} (hgd : o.guard = none) (ho : o.op = .slice T x none (some ih) none) (hx : a.eval x = .slice p n c) (hih : a.eval ih = .int k h) [hT : SlcC P T E s y z] (hhc : h ≤ c)
    (hk : wpList P ops Q rest (a.put o.dst (.slice p h c)) w) : wpList P ops Q (o :: rest) a w := by
  have he : P.elem T = E := by unfold Program.elem; rw [hT.out.u]
  have hu : P.underlying T = some (.slice (P.elem T)) := by rw [he]; exact hT.out.u
  have hr := run_slice_h (P := P) w T p n c hu k h (by omega) (by omega)
  rw [he, hT.out.sizeOf w] at hr
  simp only [Result.andThen_ok, Int.toNat_natCast, sliced_zero P] at hr
  exact wpl_val hgd _ (by
    unfold execOp
    simp only [ho, hx, hih, Sem.run_bind, Sem.run_pure, Result.andThen_ok, Option.map_some, Option.map_none, run_sliceAt_slice w T _ _ _ _ hu, hr]) hk
/-- The nil slice grows by nothing. -/
theorem ia_appNil {s x : Operand} {T E : TypeId} {sz y c : Nat} {z : List Value} {p : Option Addr} (hgd : o.guard = none) (ho : o.op = .call { callee := .builtin .append, args := #[s, x], argTypes := #[T, T] }) (hs : a.eval s = .slice none 0 0) (hx : a.eval x = .slice p 0 c) [hT : SlcC P T E sz y z]
    (h : wpList P ops Q rest (a.put o.dst (.slice none 0 0)) w) : wpList P ops Q (o :: rest) a w := by
  obtain ⟨u, v, hi, hs', hy', hz, hc⟩ := hT.out.i
  have hrun : (Builtin.append_ #[T, T] o.type #[.slice none 0 0, .slice p 0 c]).run P w = .ok (.slice none 0 0) w := by
    have hfc : (Builtin.firstCells u.size 0 (.slice p 0 c)).run P w = .ok ([] : List Value).toArray w := by
      cases p with
      | none => exact run_firstCells_none w u.size 0 0 c
      | some ad => exact run_firstCells_some w u.size 0 ad 0 c [] (by simp) (by simp)
    simp [Builtin.append_, run_underlying hT.out.u, sizeOf, typeInfo, hi, Builtin.lenOf, hfc, storeCells]
  refine wpList_plain hgd fun K hK => ?_
  unfold Oper.wp execOp
  simp only [ho, resolve, invoke, builtin, Sem.run_bind, Sem.run_pure, Result.andThen_ok, List.map_toArray, List.map_cons, List.map_nil, hs, hx, hrun]
  exact hK _ _ h
end
def GrowPost (N : Nat) (w : World) (e : Ending) (w' : World) : Prop := ∃ v, e = .returned v ∧ ((N = 0 ∧ v = .slice none 0 0) ∨ (0 < N ∧ Gives 42 12 0 [] w v w')) ∧ Keep [] w w'
set_option maxHeartbeats 1000000 in
set_option maxRecDepth 100000 in
theorem GrowB_c (N : Nat) (hN : N ≤ 4000000) (w : World) : Calls Tryz.prog 80 #[.slice none 0 0, .int .i64 N] w (GrowPost N w) := by
  have st := St.start w
  rcases Nat.eq_zero_or_pos N with h0 | hpos
  · subst h0
    go_enter Tryz.func80, Tryz.ntmps80
    go_wp2_with fail
    go_ret
    exact ⟨_, rfl, Or.inl ⟨rfl, rfl⟩, st.keep⟩
  · have hd : decide ((0 : Int) < (N : Int)) = true := by simp; omega
    go_enter Tryz.func80, Tryz.ntmps80
    go_wp2_with (first | ((with_reducible refine gate_slice rfl ?_); refine ia_cutH (h := 0) rfl rfl rfl rfl (by omega) ?_) | ((with_reducible refine gate_app2 rfl ?_); refine ia_appZ (k := N) st rfl rfl rfl rfl hpos (by omega) (by omega) ?_; clear st; intro g cap cells _ st hcl hkc hcm))
    go_ret
    exact ⟨_, rfl, Or.inr ⟨hpos, g, cap, cells, rfl, out_of st .here, st.get .here, hcl, hcm⟩, st.keep⟩
theorem tBookS : SlcT Tryz.prog 101 25 1 24 [.slice none 0 0] := slcT_of Tryz.underlying101 (.slice none 0 0) (by kernel_rfl) rfl (by decide) rfl
instance : SlcC Tryz.prog 101 25 1 24 [.slice none 0 0] := ⟨tBookS⟩
instance : OneC Tryz.prog 25 (.slice none 0 0) := ⟨oneT_of Tryz.underlying25 rfl (by kernel_rfl) rfl⟩
/-- What Concat answers: nil where there is nothing. -/
def ConcPost (R : List Fm) (N : Nat) (w : World) (e : Ending) (w' : World) : Prop := ∃ v, e = .returned v ∧ ((N = 0 ∧ v = .slice none 0 0) ∨ Gives 42 12 N (encs fv R) w v w') ∧ Keep [] w w'
def szK (n m k : Nat) : Nat := if k = 0 then 0 else if k = 1 then n else n + m
set_option maxHeartbeats 2000000 in
set_option maxRecDepth 100000 in
theorem ConcatB_c (A B : List Fm) (n m : Nat) (hA : A.length = n) (hB : B.length = m) (hn : n ≤ 1000000) (hm : m ≤ 1000000) (p p' : Option Addr) (c c' : Nat) (hp : p = none → n = 0) (hp' : p' = none → m = 0) (g0 : Nat) (w : World) (hb0 : Blk w g0 [.slice p n c, .slice p' m c'] 25) (hr : Rd w p n (encs fv A)) (hr' : Rd w p' m (encs fv B)) :
    Calls Tryz.prog 58 #[.slice (some ⟨g0, 0, none⟩) 2 2] w (ConcPost (A ++ B) (n + m) w) := by
  have st := St.start w
  have HG := hid (GrowB_c (n + m) (by omega))
  have hlen : (encs fv A).length = n * 12 := by rw [encs_fv_length, hA]
  have hlen' : (encs fv B).length = m * 12 := by rw [encs_fv_length, hB]
  have HLEN := hid hlen
  have HLEN' := hid hlen'
  have HP0 := hid hp
  have HP1 := hid hp'
  have hb1 := hb0
  have N0 : Hid (([.slice p n c, .slice p' m c'] : List Value)[0 + 0 * 1]? = some (.slice p n c)) := hid rfl
  have N1 : Hid (([.slice p n c, .slice p' m c'] : List Value)[0 + 1 * 1]? = some (.slice p' m c')) := hid rfl
  have N2 : Hid (([.slice p n c, .slice p' m c'] : List Value)[0]? = some (.slice p n c)) := hid rfl
  have N3 : Hid (([.slice p n c, .slice p' m c'] : List Value)[1]? = some (.slice p' m c')) := hid rfl
  clear hlen hlen' hA hB hp hp'
  go_enter Tryz.func58, Tryz.ntmps58
  go_wp2_with (first | ((with_reducible refine gate_lst ?_); (first | ((with_reducible refine gate_load rfl ?_); (first | (refine' ia_load1 st rfl rfl rfl ?_ ?_; rotate_left 1; (focus (first | exact N0.out | exact N1.out | exact N2.out | exact N3.out | exact N4.out | exact N5.out | exact G2.out | exact G3.out | exact G4.out | exact G0.out | exact G1.out | (refine frv_get _ _ ?_; (first | omega | (simp; done) | (simp; omega) | (simp [*]; omega))) | exact rfl))) | (refine' ia_load1Z (hb.keep st.keep (by simp)) rfl rfl rfl ?_ ?_; rotate_left 1; (focus exact rfl)) | (refine' ia_load1Z (hb'.keep st.keep (by simp)) rfl rfl rfl ?_ ?_; rotate_left 1; (focus exact rfl)) | (refine' ia_load1C (hb.keep st.keep (by simp)) rfl rfl rfl ?_ ?_; rotate_left 1; (focus (first | exact N0.out | exact N1.out | exact N2.out | exact N3.out | exact N4.out | exact N5.out | exact G2.out | exact G3.out | exact G4.out | exact G0.out | exact G1.out | (refine frv_get _ _ ?_; (first | omega | (simp; done) | (simp; omega) | (simp [*]; omega))) | exact rfl))) | (refine' ia_load1C (hb'.keep st.keep (by simp)) rfl rfl rfl ?_ ?_; rotate_left 1; (focus (first | exact N0.out | exact N1.out | exact N2.out | exact N3.out | exact N4.out | exact N5.out | exact G2.out | exact G3.out | exact G4.out | exact G0.out | exact G1.out | (refine frv_get _ _ ?_; (first | omega | (simp; done) | (simp; omega) | (simp [*]; omega))) | exact rfl))) | (refine' ia_load1B (hb1.keep st.keep (by simp)) rfl rfl rfl ?_ ?_; rotate_left 1; (focus (first | exact N0.out | exact N1.out | exact N2.out | exact N3.out | exact N4.out | exact N5.out | exact G2.out | exact G3.out | exact G4.out | exact G0.out | exact G1.out | (refine frv_get _ _ ?_; (first | omega | (simp; done) | (simp; omega) | (simp [*]; omega))) | exact rfl))) | (refine' ia_load1B (hb2.keep st.keep (by simp)) rfl rfl rfl ?_ ?_; rotate_left 1; (focus (first | exact N0.out | exact N1.out | exact N2.out | exact N3.out | exact N4.out | exact N5.out | exact G2.out | exact G3.out | exact G4.out | exact G0.out | exact G1.out | (refine frv_get _ _ ?_; (first | omega | (simp; done) | (simp; omega) | (simp [*]; omega))) | exact rfl))))) | ((with_reducible refine gate_addr rfl ?_); (first | (refine' ia_slcP HP.out rfl rfl rfl rfl ?_ ?_ ?_) | (refine' ia_slcP HP2.out rfl rfl rfl rfl ?_ ?_ ?_)); rotate_left 1; (focus (first | exact (rfl : (0 : Int) = ((0 : Nat) : Int)) | exact (rfl : (1 : Int) = ((1 : Nat) : Int)) | exact rfl | exact HE1.out | exact HE2.out)); (focus (first | omega | (simp; done) | (simp; omega) | (simp [*]; omega)))))))
  go_loopw [3, 11] (fun v i wr => ∃ k : Nat, k ≤ 2 ∧ i = .int .i64 k ∧ v = .int .i64 (szK n m k : Nat) ∧ St [] w wr []) (fun _ i _ => 2 - (intOf i).toNat)
  case atStart => exact ⟨0, by omega, rfl, rfl, st⟩
  case round =>
    clear st
    obtain ⟨k, hk, rfl, rfl, st⟩ := hrel
    have hk3 : k = 0 ∨ k = 1 ∨ k = 2 := by omega
    rcases hk3 with rfl | rfl | rfl
    · simp only [szK, if_pos]
      go_wp2_with (first | ((with_reducible refine gate_lst ?_); (first | ((with_reducible refine gate_load rfl ?_); (first | (refine' ia_load1 st rfl rfl rfl ?_ ?_; rotate_left 1; (focus (first | exact N0.out | exact N1.out | exact N2.out | exact N3.out | exact N4.out | exact N5.out | exact G2.out | exact G3.out | exact G4.out | exact G0.out | exact G1.out | (refine frv_get _ _ ?_; (first | omega | (simp; done) | (simp; omega) | (simp [*]; omega))) | exact rfl))) | (refine' ia_load1Z (hb.keep st.keep (by simp)) rfl rfl rfl ?_ ?_; rotate_left 1; (focus exact rfl)) | (refine' ia_load1Z (hb'.keep st.keep (by simp)) rfl rfl rfl ?_ ?_; rotate_left 1; (focus exact rfl)) | (refine' ia_load1C (hb.keep st.keep (by simp)) rfl rfl rfl ?_ ?_; rotate_left 1; (focus (first | exact N0.out | exact N1.out | exact N2.out | exact N3.out | exact N4.out | exact N5.out | exact G2.out | exact G3.out | exact G4.out | exact G0.out | exact G1.out | (refine frv_get _ _ ?_; (first | omega | (simp; done) | (simp; omega) | (simp [*]; omega))) | exact rfl))) | (refine' ia_load1C (hb'.keep st.keep (by simp)) rfl rfl rfl ?_ ?_; rotate_left 1; (focus (first | exact N0.out | exact N1.out | exact N2.out | exact N3.out | exact N4.out | exact N5.out | exact G2.out | exact G3.out | exact G4.out | exact G0.out | exact G1.out | (refine frv_get _ _ ?_; (first | omega | (simp; done) | (simp; omega) | (simp [*]; omega))) | exact rfl))) | (refine' ia_load1B (hb1.keep st.keep (by simp)) rfl rfl rfl ?_ ?_; rotate_left 1; (focus (first | exact N0.out | exact N1.out | exact N2.out | exact N3.out | exact N4.out | exact N5.out | exact G2.out | exact G3.out | exact G4.out | exact G0.out | exact G1.out | (refine frv_get _ _ ?_; (first | omega | (simp; done) | (simp; omega) | (simp [*]; omega))) | exact rfl))) | (refine' ia_load1B (hb2.keep st.keep (by simp)) rfl rfl rfl ?_ ?_; rotate_left 1; (focus (first | exact N0.out | exact N1.out | exact N2.out | exact N3.out | exact N4.out | exact N5.out | exact G2.out | exact G3.out | exact G4.out | exact G0.out | exact G1.out | (refine frv_get _ _ ?_; (first | omega | (simp; done) | (simp; omega) | (simp [*]; omega))) | exact rfl))))) | ((with_reducible refine gate_addr rfl ?_); (first | (refine' ia_slcP HP.out rfl rfl rfl rfl ?_ ?_ ?_) | (refine' ia_slcP HP2.out rfl rfl rfl rfl ?_ ?_ ?_)); rotate_left 1; (focus (first | exact (rfl : (0 : Int) = ((0 : Nat) : Int)) | exact (rfl : (1 : Int) = ((1 : Nat) : Int)) | exact rfl | exact HE1.out | exact HE2.out)); (focus (first | omega | (simp; done) | (simp; omega) | (simp [*]; omega)))))))
      go_roundw
      case rel => exact ⟨1, by omega, by go_num, by simp [szK], st⟩
      case measure => simp [intOf]
    · have hs1 : szK n m 1 = n := by simp [szK]
      rw [hs1]
      go_wp2_with (first | ((with_reducible refine gate_lst ?_); (first | ((with_reducible refine gate_load rfl ?_); (first | (refine' ia_load1 st rfl rfl rfl ?_ ?_; rotate_left 1; (focus (first | exact N0.out | exact N1.out | exact N2.out | exact N3.out | exact N4.out | exact N5.out | exact G2.out | exact G3.out | exact G4.out | exact G0.out | exact G1.out | (refine frv_get _ _ ?_; (first | omega | (simp; done) | (simp; omega) | (simp [*]; omega))) | exact rfl))) | (refine' ia_load1Z (hb.keep st.keep (by simp)) rfl rfl rfl ?_ ?_; rotate_left 1; (focus exact rfl)) | (refine' ia_load1Z (hb'.keep st.keep (by simp)) rfl rfl rfl ?_ ?_; rotate_left 1; (focus exact rfl)) | (refine' ia_load1C (hb.keep st.keep (by simp)) rfl rfl rfl ?_ ?_; rotate_left 1; (focus (first | exact N0.out | exact N1.out | exact N2.out | exact N3.out | exact N4.out | exact N5.out | exact G2.out | exact G3.out | exact G4.out | exact G0.out | exact G1.out | (refine frv_get _ _ ?_; (first | omega | (simp; done) | (simp; omega) | (simp [*]; omega))) | exact rfl))) | (refine' ia_load1C (hb'.keep st.keep (by simp)) rfl rfl rfl ?_ ?_; rotate_left 1; (focus (first | exact N0.out | exact N1.out | exact N2.out | exact N3.out | exact N4.out | exact N5.out | exact G2.out | exact G3.out | exact G4.out | exact G0.out | exact G1.out | (refine frv_get _ _ ?_; (first | omega | (simp; done) | (simp; omega) | (simp [*]; omega))) | exact rfl))) | (refine' ia_load1B (hb1.keep st.keep (by simp)) rfl rfl rfl ?_ ?_; rotate_left 1; (focus (first | exact N0.out | exact N1.out | exact N2.out | exact N3.out | exact N4.out | exact N5.out | exact G2.out | exact G3.out | exact G4.out | exact G0.out | exact G1.out | (refine frv_get _ _ ?_; (first | omega | (simp; done) | (simp; omega) | (simp [*]; omega))) | exact rfl))) | (refine' ia_load1B (hb2.keep st.keep (by simp)) rfl rfl rfl ?_ ?_; rotate_left 1; (focus (first | exact N0.out | exact N1.out | exact N2.out | exact N3.out | exact N4.out | exact N5.out | exact G2.out | exact G3.out | exact G4.out | exact G0.out | exact G1.out | (refine frv_get _ _ ?_; (first | omega | (simp; done) | (simp; omega) | (simp [*]; omega))) | exact rfl))))) | ((with_reducible refine gate_addr rfl ?_); (first | (refine' ia_slcP HP.out rfl rfl rfl rfl ?_ ?_ ?_) | (refine' ia_slcP HP2.out rfl rfl rfl rfl ?_ ?_ ?_)); rotate_left 1; (focus (first | exact (rfl : (0 : Int) = ((0 : Nat) : Int)) | exact (rfl : (1 : Int) = ((1 : Nat) : Int)) | exact rfl | exact HE1.out | exact HE2.out)); (focus (first | omega | (simp; done) | (simp; omega) | (simp [*]; omega)))))))
      go_roundw
      case rel => exact ⟨2, by omega, by go_num, by simp [szK], st⟩
      case measure => simp [intOf]
    · have hs2 : szK n m 2 = n + m := by simp [szK]
      rw [hs2]
      obtain ⟨wo, rfl⟩ : ∃ wo : World, wo = wr := ⟨_, rfl⟩
      obtain ⟨N, hN⟩ : ∃ N, n + m = N := ⟨_, rfl⟩
      rw [hN] at HG ⊢
      have hN2 : N ≤ 2000000 := by omega
      have HNN := hid hN
      clear hN
      rcases Nat.eq_zero_or_pos N with hz | hpos
      · have hn0 : n = 0 := by have := HNN.out; omega
        have hm0 : m = 0 := by have := HNN.out; omega
        subst hz
        subst hn0
        subst hm0
        go_wp2_with (first | (go_at_call 80; refine (HG.out _).mono ?_; rintro _ _ ⟨v, rfl, (⟨_, rfl⟩ | ⟨h0, _⟩), hk⟩; rotate_left 1; (exact absurd h0 (by omega)); replace st := st.call hk; clear hk) | ((with_reducible refine gate_lst ?_); (first | ((with_reducible refine gate_load rfl ?_); (first | (refine' ia_load1 st rfl rfl rfl ?_ ?_; rotate_left 1; (focus (first | exact N0.out | exact N1.out | exact N2.out | exact N3.out | exact N4.out | exact N5.out | exact G2.out | exact G3.out | exact G4.out | exact G0.out | exact G1.out | (refine frv_get _ _ ?_; (first | omega | (simp; done) | (simp; omega) | (simp [*]; omega))) | exact rfl))) | (refine' ia_load1Z (hb.keep st.keep (by simp)) rfl rfl rfl ?_ ?_; rotate_left 1; (focus exact rfl)) | (refine' ia_load1Z (hb'.keep st.keep (by simp)) rfl rfl rfl ?_ ?_; rotate_left 1; (focus exact rfl)) | (refine' ia_load1C (hb.keep st.keep (by simp)) rfl rfl rfl ?_ ?_; rotate_left 1; (focus (first | exact N0.out | exact N1.out | exact N2.out | exact N3.out | exact N4.out | exact N5.out | exact G2.out | exact G3.out | exact G4.out | exact G0.out | exact G1.out | (refine frv_get _ _ ?_; (first | omega | (simp; done) | (simp; omega) | (simp [*]; omega))) | exact rfl))) | (refine' ia_load1C (hb'.keep st.keep (by simp)) rfl rfl rfl ?_ ?_; rotate_left 1; (focus (first | exact N0.out | exact N1.out | exact N2.out | exact N3.out | exact N4.out | exact N5.out | exact G2.out | exact G3.out | exact G4.out | exact G0.out | exact G1.out | (refine frv_get _ _ ?_; (first | omega | (simp; done) | (simp; omega) | (simp [*]; omega))) | exact rfl))) | (refine' ia_load1B (hb1.keep st.keep (by simp)) rfl rfl rfl ?_ ?_; rotate_left 1; (focus (first | exact N0.out | exact N1.out | exact N2.out | exact N3.out | exact N4.out | exact N5.out | exact G2.out | exact G3.out | exact G4.out | exact G0.out | exact G1.out | (refine frv_get _ _ ?_; (first | omega | (simp; done) | (simp; omega) | (simp [*]; omega))) | exact rfl))) | (refine' ia_load1B (hb2.keep st.keep (by simp)) rfl rfl rfl ?_ ?_; rotate_left 1; (focus (first | exact N0.out | exact N1.out | exact N2.out | exact N3.out | exact N4.out | exact N5.out | exact G2.out | exact G3.out | exact G4.out | exact G0.out | exact G1.out | (refine frv_get _ _ ?_; (first | omega | (simp; done) | (simp; omega) | (simp [*]; omega))) | exact rfl))))) | ((with_reducible refine gate_addr rfl ?_); (first | (refine' ia_slcP HP.out rfl rfl rfl rfl ?_ ?_ ?_) | (refine' ia_slcP HP2.out rfl rfl rfl rfl ?_ ?_ ?_)); rotate_left 1; (focus (first | exact (rfl : (0 : Int) = ((0 : Nat) : Int)) | exact (rfl : (1 : Int) = ((1 : Nat) : Int)) | exact rfl | exact HE1.out | exact HE2.out)); (focus (first | omega | (simp; done) | (simp; omega) | (simp [*]; omega)))))))
        go_loopw [6, 27] (fun v i wr => ∃ k : Nat, k ≤ 2 ∧ i = .int .i64 k ∧ v = .slice none 0 0 ∧ St [] w wr []) (fun _ i _ => 2 - (intOf i).toNat)
        case atStart => exact ⟨0, by omega, rfl, rfl, st⟩
        case round =>
          clear st
          obtain ⟨k, hk, rfl, rfl, st⟩ := hrel
          have hk3 : k = 0 ∨ k = 1 ∨ k = 2 := by omega
          rcases hk3 with rfl | rfl | rfl
          · go_wp2_with (first | ((with_reducible refine gate_app rfl ?_); refine ia_appNil rfl rfl rfl rfl ?_) | ((with_reducible refine gate_lst ?_); (first | ((with_reducible refine gate_load rfl ?_); (first | (refine' ia_load1 st rfl rfl rfl ?_ ?_; rotate_left 1; (focus (first | exact N0.out | exact N1.out | exact N2.out | exact N3.out | exact N4.out | exact N5.out | exact G2.out | exact G3.out | exact G4.out | exact G0.out | exact G1.out | (refine frv_get _ _ ?_; (first | omega | (simp; done) | (simp; omega) | (simp [*]; omega))) | exact rfl))) | (refine' ia_load1Z (hb.keep st.keep (by simp)) rfl rfl rfl ?_ ?_; rotate_left 1; (focus exact rfl)) | (refine' ia_load1Z (hb'.keep st.keep (by simp)) rfl rfl rfl ?_ ?_; rotate_left 1; (focus exact rfl)) | (refine' ia_load1C (hb.keep st.keep (by simp)) rfl rfl rfl ?_ ?_; rotate_left 1; (focus (first | exact N0.out | exact N1.out | exact N2.out | exact N3.out | exact N4.out | exact N5.out | exact G2.out | exact G3.out | exact G4.out | exact G0.out | exact G1.out | (refine frv_get _ _ ?_; (first | omega | (simp; done) | (simp; omega) | (simp [*]; omega))) | exact rfl))) | (refine' ia_load1C (hb'.keep st.keep (by simp)) rfl rfl rfl ?_ ?_; rotate_left 1; (focus (first | exact N0.out | exact N1.out | exact N2.out | exact N3.out | exact N4.out | exact N5.out | exact G2.out | exact G3.out | exact G4.out | exact G0.out | exact G1.out | (refine frv_get _ _ ?_; (first | omega | (simp; done) | (simp; omega) | (simp [*]; omega))) | exact rfl))) | (refine' ia_load1B (hb1.keep st.keep (by simp)) rfl rfl rfl ?_ ?_; rotate_left 1; (focus (first | exact N0.out | exact N1.out | exact N2.out | exact N3.out | exact N4.out | exact N5.out | exact G2.out | exact G3.out | exact G4.out | exact G0.out | exact G1.out | (refine frv_get _ _ ?_; (first | omega | (simp; done) | (simp; omega) | (simp [*]; omega))) | exact rfl))) | (refine' ia_load1B (hb2.keep st.keep (by simp)) rfl rfl rfl ?_ ?_; rotate_left 1; (focus (first | exact N0.out | exact N1.out | exact N2.out | exact N3.out | exact N4.out | exact N5.out | exact G2.out | exact G3.out | exact G4.out | exact G0.out | exact G1.out | (refine frv_get _ _ ?_; (first | omega | (simp; done) | (simp; omega) | (simp [*]; omega))) | exact rfl))))) | ((with_reducible refine gate_addr rfl ?_); (first | (refine' ia_slcP HP.out rfl rfl rfl rfl ?_ ?_ ?_) | (refine' ia_slcP HP2.out rfl rfl rfl rfl ?_ ?_ ?_)); rotate_left 1; (focus (first | exact (rfl : (0 : Int) = ((0 : Nat) : Int)) | exact (rfl : (1 : Int) = ((1 : Nat) : Int)) | exact rfl | exact HE1.out | exact HE2.out)); (focus (first | omega | (simp; done) | (simp; omega) | (simp [*]; omega)))))))
            go_roundw
            case rel => exact ⟨1, by omega, by go_num, rfl, st⟩
            case measure => simp [intOf]
          · go_wp2_with (first | ((with_reducible refine gate_app rfl ?_); refine ia_appNil rfl rfl rfl rfl ?_) | ((with_reducible refine gate_lst ?_); (first | ((with_reducible refine gate_load rfl ?_); (first | (refine' ia_load1 st rfl rfl rfl ?_ ?_; rotate_left 1; (focus (first | exact N0.out | exact N1.out | exact N2.out | exact N3.out | exact N4.out | exact N5.out | exact G2.out | exact G3.out | exact G4.out | exact G0.out | exact G1.out | (refine frv_get _ _ ?_; (first | omega | (simp; done) | (simp; omega) | (simp [*]; omega))) | exact rfl))) | (refine' ia_load1Z (hb.keep st.keep (by simp)) rfl rfl rfl ?_ ?_; rotate_left 1; (focus exact rfl)) | (refine' ia_load1Z (hb'.keep st.keep (by simp)) rfl rfl rfl ?_ ?_; rotate_left 1; (focus exact rfl)) | (refine' ia_load1C (hb.keep st.keep (by simp)) rfl rfl rfl ?_ ?_; rotate_left 1; (focus (first | exact N0.out | exact N1.out | exact N2.out | exact N3.out | exact N4.out | exact N5.out | exact G2.out | exact G3.out | exact G4.out | exact G0.out | exact G1.out | (refine frv_get _ _ ?_; (first | omega | (simp; done) | (simp; omega) | (simp [*]; omega))) | exact rfl))) | (refine' ia_load1C (hb'.keep st.keep (by simp)) rfl rfl rfl ?_ ?_; rotate_left 1; (focus (first | exact N0.out | exact N1.out | exact N2.out | exact N3.out | exact N4.out | exact N5.out | exact G2.out | exact G3.out | exact G4.out | exact G0.out | exact G1.out | (refine frv_get _ _ ?_; (first | omega | (simp; done) | (simp; omega) | (simp [*]; omega))) | exact rfl))) | (refine' ia_load1B (hb1.keep st.keep (by simp)) rfl rfl rfl ?_ ?_; rotate_left 1; (focus (first | exact N0.out | exact N1.out | exact N2.out | exact N3.out | exact N4.out | exact N5.out | exact G2.out | exact G3.out | exact G4.out | exact G0.out | exact G1.out | (refine frv_get _ _ ?_; (first | omega | (simp; done) | (simp; omega) | (simp [*]; omega))) | exact rfl))) | (refine' ia_load1B (hb2.keep st.keep (by simp)) rfl rfl rfl ?_ ?_; rotate_left 1; (focus (first | exact N0.out | exact N1.out | exact N2.out | exact N3.out | exact N4.out | exact N5.out | exact G2.out | exact G3.out | exact G4.out | exact G0.out | exact G1.out | (refine frv_get _ _ ?_; (first | omega | (simp; done) | (simp; omega) | (simp [*]; omega))) | exact rfl))))) | ((with_reducible refine gate_addr rfl ?_); (first | (refine' ia_slcP HP.out rfl rfl rfl rfl ?_ ?_ ?_) | (refine' ia_slcP HP2.out rfl rfl rfl rfl ?_ ?_ ?_)); rotate_left 1; (focus (first | exact (rfl : (0 : Int) = ((0 : Nat) : Int)) | exact (rfl : (1 : Int) = ((1 : Nat) : Int)) | exact rfl | exact HE1.out | exact HE2.out)); (focus (first | omega | (simp; done) | (simp; omega) | (simp [*]; omega)))))))
            go_roundw
            case rel => exact ⟨2, by omega, by go_num, rfl, st⟩
            case measure => simp [intOf]
          · go_wp2_with (first | ((with_reducible refine gate_lst ?_); (first | ((with_reducible refine gate_load rfl ?_); (first | (refine' ia_load1 st rfl rfl rfl ?_ ?_; rotate_left 1; (focus (first | exact N0.out | exact N1.out | exact N2.out | exact N3.out | exact N4.out | exact N5.out | exact G2.out | exact G3.out | exact G4.out | exact G0.out | exact G1.out | (refine frv_get _ _ ?_; (first | omega | (simp; done) | (simp; omega) | (simp [*]; omega))) | exact rfl))) | (refine' ia_load1Z (hb.keep st.keep (by simp)) rfl rfl rfl ?_ ?_; rotate_left 1; (focus exact rfl)) | (refine' ia_load1Z (hb'.keep st.keep (by simp)) rfl rfl rfl ?_ ?_; rotate_left 1; (focus exact rfl)) | (refine' ia_load1C (hb.keep st.keep (by simp)) rfl rfl rfl ?_ ?_; rotate_left 1; (focus (first | exact N0.out | exact N1.out | exact N2.out | exact N3.out | exact N4.out | exact N5.out | exact G2.out | exact G3.out | exact G4.out | exact G0.out | exact G1.out | (refine frv_get _ _ ?_; (first | omega | (simp; done) | (simp; omega) | (simp [*]; omega))) | exact rfl))) | (refine' ia_load1C (hb'.keep st.keep (by simp)) rfl rfl rfl ?_ ?_; rotate_left 1; (focus (first | exact N0.out | exact N1.out | exact N2.out | exact N3.out | exact N4.out | exact N5.out | exact G2.out | exact G3.out | exact G4.out | exact G0.out | exact G1.out | (refine frv_get _ _ ?_; (first | omega | (simp; done) | (simp; omega) | (simp [*]; omega))) | exact rfl))) | (refine' ia_load1B (hb1.keep st.keep (by simp)) rfl rfl rfl ?_ ?_; rotate_left 1; (focus (first | exact N0.out | exact N1.out | exact N2.out | exact N3.out | exact N4.out | exact N5.out | exact G2.out | exact G3.out | exact G4.out | exact G0.out | exact G1.out | (refine frv_get _ _ ?_; (first | omega | (simp; done) | (simp; omega) | (simp [*]; omega))) | exact rfl))) | (refine' ia_load1B (hb2.keep st.keep (by simp)) rfl rfl rfl ?_ ?_; rotate_left 1; (focus (first | exact N0.out | exact N1.out | exact N2.out | exact N3.out | exact N4.out | exact N5.out | exact G2.out | exact G3.out | exact G4.out | exact G0.out | exact G1.out | (refine frv_get _ _ ?_; (first | omega | (simp; done) | (simp; omega) | (simp [*]; omega))) | exact rfl))))) | ((with_reducible refine gate_addr rfl ?_); (first | (refine' ia_slcP HP.out rfl rfl rfl rfl ?_ ?_ ?_) | (refine' ia_slcP HP2.out rfl rfl rfl rfl ?_ ?_ ?_)); rotate_left 1; (focus (first | exact (rfl : (0 : Int) = ((0 : Nat) : Int)) | exact (rfl : (1 : Int) = ((1 : Nat) : Int)) | exact rfl | exact HE1.out | exact HE2.out)); (focus (first | omega | (simp; done) | (simp; omega) | (simp [*]; omega)))))))
            go_ret
            exact ⟨_, rfl, Or.inl ⟨rfl, rfl⟩, st.keep⟩
      · go_wp2_with (first | (go_at_call 80; refine (HG.out _).mono ?_; rintro _ _ ⟨v, rfl, (⟨h0, _⟩ | ⟨_, ⟨g, cap, spare, rfl, hg, hbg, hcap, hcm⟩⟩), hk⟩; (exact absurd h0 (by omega)); (replace st := st.adopt hk hg hbg; clear hk hg hbg; rw [List.nil_append] at st hcap)) | ((with_reducible refine gate_lst ?_); (first | ((with_reducible refine gate_load rfl ?_); (first | (refine' ia_load1 st rfl rfl rfl ?_ ?_; rotate_left 1; (focus (first | exact N0.out | exact N1.out | exact N2.out | exact N3.out | exact N4.out | exact N5.out | exact G2.out | exact G3.out | exact G4.out | exact G0.out | exact G1.out | (refine frv_get _ _ ?_; (first | omega | (simp; done) | (simp; omega) | (simp [*]; omega))) | exact rfl))) | (refine' ia_load1Z (hb.keep st.keep (by simp)) rfl rfl rfl ?_ ?_; rotate_left 1; (focus exact rfl)) | (refine' ia_load1Z (hb'.keep st.keep (by simp)) rfl rfl rfl ?_ ?_; rotate_left 1; (focus exact rfl)) | (refine' ia_load1C (hb.keep st.keep (by simp)) rfl rfl rfl ?_ ?_; rotate_left 1; (focus (first | exact N0.out | exact N1.out | exact N2.out | exact N3.out | exact N4.out | exact N5.out | exact G2.out | exact G3.out | exact G4.out | exact G0.out | exact G1.out | (refine frv_get _ _ ?_; (first | omega | (simp; done) | (simp; omega) | (simp [*]; omega))) | exact rfl))) | (refine' ia_load1C (hb'.keep st.keep (by simp)) rfl rfl rfl ?_ ?_; rotate_left 1; (focus (first | exact N0.out | exact N1.out | exact N2.out | exact N3.out | exact N4.out | exact N5.out | exact G2.out | exact G3.out | exact G4.out | exact G0.out | exact G1.out | (refine frv_get _ _ ?_; (first | omega | (simp; done) | (simp; omega) | (simp [*]; omega))) | exact rfl))) | (refine' ia_load1B (hb1.keep st.keep (by simp)) rfl rfl rfl ?_ ?_; rotate_left 1; (focus (first | exact N0.out | exact N1.out | exact N2.out | exact N3.out | exact N4.out | exact N5.out | exact G2.out | exact G3.out | exact G4.out | exact G0.out | exact G1.out | (refine frv_get _ _ ?_; (first | omega | (simp; done) | (simp; omega) | (simp [*]; omega))) | exact rfl))) | (refine' ia_load1B (hb2.keep st.keep (by simp)) rfl rfl rfl ?_ ?_; rotate_left 1; (focus (first | exact N0.out | exact N1.out | exact N2.out | exact N3.out | exact N4.out | exact N5.out | exact G2.out | exact G3.out | exact G4.out | exact G0.out | exact G1.out | (refine frv_get _ _ ?_; (first | omega | (simp; done) | (simp; omega) | (simp [*]; omega))) | exact rfl))))) | ((with_reducible refine gate_addr rfl ?_); (first | (refine' ia_slcP HP.out rfl rfl rfl rfl ?_ ?_ ?_) | (refine' ia_slcP HP2.out rfl rfl rfl rfl ?_ ?_ ?_)); rotate_left 1; (focus (first | exact (rfl : (0 : Int) = ((0 : Nat) : Int)) | exact (rfl : (1 : Int) = ((1 : Nat) : Int)) | exact rfl | exact HE1.out | exact HE2.out)); (focus (first | omega | (simp; done) | (simp; omega) | (simp [*]; omega)))))))
        go_loopw [6, 27] (fun v i wr => ∃ k j : Nat, ∃ R : List Value, k ≤ 2 ∧ j ≤ N ∧ ((k = 0 ∧ j = 0 ∧ R = []) ∨ (k = 1 ∧ j = n ∧ R = encs fv A) ∨ (k = 2 ∧ j = N ∧ R = encs fv A ++ encs fv B)) ∧ i = .int .i64 k ∧ Own 42 12 j R [] w wr [] v) (fun _ i _ => 2 - (intOf i).toNat)
        case atStart => exact ⟨0, 0, [], by omega, by omega, Or.inl ⟨rfl, rfl, rfl⟩, rfl, g, cap, spare, rfl, st, hcap, hcm⟩
        case round =>
          clear st hcap hcm
          obtain ⟨k, j, R, hk, hjN, hcase, rfl, g, cap, spare, rfl, st, hcap, hcm⟩ := hrel
          have HC := hid hcap
          clear hcap
          rcases hcase with ⟨rfl, rfl, rfl⟩ | ⟨rfl, rfl, rfl⟩ | ⟨rfl, rfl, rfl⟩
          · go_wp2_with (first | ((with_reducible refine gate_app rfl ?_); refine ia_appendR (news := (encs fv A)) (xs := []) (spare := spare) st rfl rfl rfl rfl (by simp) HC.out hcm (hr.keep st.keep) HP0.out HLEN.out (encs_one fv_one _) (by unfold maxLen; omega) (by omega) ?_; clear st; intro g2 cap2 spare2 _ st hcap2 hcm2; (try simp only [List.set_cons_zero, List.set_cons_succ] at st)) | ((with_reducible refine gate_lst ?_); (first | ((with_reducible refine gate_load rfl ?_); (first | (refine' ia_load1 st rfl rfl rfl ?_ ?_; rotate_left 1; (focus (first | exact N0.out | exact N1.out | exact N2.out | exact N3.out | exact N4.out | exact N5.out | exact G2.out | exact G3.out | exact G4.out | exact G0.out | exact G1.out | (refine frv_get _ _ ?_; (first | omega | (simp; done) | (simp; omega) | (simp [*]; omega))) | exact rfl))) | (refine' ia_load1Z (hb.keep st.keep (by simp)) rfl rfl rfl ?_ ?_; rotate_left 1; (focus exact rfl)) | (refine' ia_load1Z (hb'.keep st.keep (by simp)) rfl rfl rfl ?_ ?_; rotate_left 1; (focus exact rfl)) | (refine' ia_load1C (hb.keep st.keep (by simp)) rfl rfl rfl ?_ ?_; rotate_left 1; (focus (first | exact N0.out | exact N1.out | exact N2.out | exact N3.out | exact N4.out | exact N5.out | exact G2.out | exact G3.out | exact G4.out | exact G0.out | exact G1.out | (refine frv_get _ _ ?_; (first | omega | (simp; done) | (simp; omega) | (simp [*]; omega))) | exact rfl))) | (refine' ia_load1C (hb'.keep st.keep (by simp)) rfl rfl rfl ?_ ?_; rotate_left 1; (focus (first | exact N0.out | exact N1.out | exact N2.out | exact N3.out | exact N4.out | exact N5.out | exact G2.out | exact G3.out | exact G4.out | exact G0.out | exact G1.out | (refine frv_get _ _ ?_; (first | omega | (simp; done) | (simp; omega) | (simp [*]; omega))) | exact rfl))) | (refine' ia_load1B (hb1.keep st.keep (by simp)) rfl rfl rfl ?_ ?_; rotate_left 1; (focus (first | exact N0.out | exact N1.out | exact N2.out | exact N3.out | exact N4.out | exact N5.out | exact G2.out | exact G3.out | exact G4.out | exact G0.out | exact G1.out | (refine frv_get _ _ ?_; (first | omega | (simp; done) | (simp; omega) | (simp [*]; omega))) | exact rfl))) | (refine' ia_load1B (hb2.keep st.keep (by simp)) rfl rfl rfl ?_ ?_; rotate_left 1; (focus (first | exact N0.out | exact N1.out | exact N2.out | exact N3.out | exact N4.out | exact N5.out | exact G2.out | exact G3.out | exact G4.out | exact G0.out | exact G1.out | (refine frv_get _ _ ?_; (first | omega | (simp; done) | (simp; omega) | (simp [*]; omega))) | exact rfl))))) | ((with_reducible refine gate_addr rfl ?_); (first | (refine' ia_slcP HP.out rfl rfl rfl rfl ?_ ?_ ?_) | (refine' ia_slcP HP2.out rfl rfl rfl rfl ?_ ?_ ?_)); rotate_left 1; (focus (first | exact (rfl : (0 : Int) = ((0 : Nat) : Int)) | exact (rfl : (1 : Int) = ((1 : Nat) : Int)) | exact rfl | exact HE1.out | exact HE2.out)); (focus (first | omega | (simp; done) | (simp; omega) | (simp [*]; omega)))))))
            rw [List.nil_append] at hcap2 st
            go_roundw
            case rel => exact ⟨1, n, encs fv A, by omega, by have := HNN.out; omega, Or.inr (Or.inl ⟨rfl, rfl, rfl⟩), by go_num, g2, cap2, spare2, rfl, st, hcap2, hcm2⟩
            case measure => simp [intOf]
          · go_wp2_with (first | ((with_reducible refine gate_app rfl ?_); refine ia_appendR (news := (encs fv B)) (xs := (encs fv A)) (spare := spare) st rfl rfl rfl rfl HLEN.out HC.out hcm (hr'.keep st.keep) HP1.out HLEN'.out (encs_one fv_one _) (by unfold maxLen; omega) (by omega) ?_; clear st; intro g2 cap2 spare2 _ st hcap2 hcm2; (try simp only [List.set_cons_zero, List.set_cons_succ] at st)) | ((with_reducible refine gate_lst ?_); (first | ((with_reducible refine gate_load rfl ?_); (first | (refine' ia_load1 st rfl rfl rfl ?_ ?_; rotate_left 1; (focus (first | exact N0.out | exact N1.out | exact N2.out | exact N3.out | exact N4.out | exact N5.out | exact G2.out | exact G3.out | exact G4.out | exact G0.out | exact G1.out | (refine frv_get _ _ ?_; (first | omega | (simp; done) | (simp; omega) | (simp [*]; omega))) | exact rfl))) | (refine' ia_load1Z (hb.keep st.keep (by simp)) rfl rfl rfl ?_ ?_; rotate_left 1; (focus exact rfl)) | (refine' ia_load1Z (hb'.keep st.keep (by simp)) rfl rfl rfl ?_ ?_; rotate_left 1; (focus exact rfl)) | (refine' ia_load1C (hb.keep st.keep (by simp)) rfl rfl rfl ?_ ?_; rotate_left 1; (focus (first | exact N0.out | exact N1.out | exact N2.out | exact N3.out | exact N4.out | exact N5.out | exact G2.out | exact G3.out | exact G4.out | exact G0.out | exact G1.out | (refine frv_get _ _ ?_; (first | omega | (simp; done) | (simp; omega) | (simp [*]; omega))) | exact rfl))) | (refine' ia_load1C (hb'.keep st.keep (by simp)) rfl rfl rfl ?_ ?_; rotate_left 1; (focus (first | exact N0.out | exact N1.out | exact N2.out | exact N3.out | exact N4.out | exact N5.out | exact G2.out | exact G3.out | exact G4.out | exact G0.out | exact G1.out | (refine frv_get _ _ ?_; (first | omega | (simp; done) | (simp; omega) | (simp [*]; omega))) | exact rfl))) | (refine' ia_load1B (hb1.keep st.keep (by simp)) rfl rfl rfl ?_ ?_; rotate_left 1; (focus (first | exact N0.out | exact N1.out | exact N2.out | exact N3.out | exact N4.out | exact N5.out | exact G2.out | exact G3.out | exact G4.out | exact G0.out | exact G1.out | (refine frv_get _ _ ?_; (first | omega | (simp; done) | (simp; omega) | (simp [*]; omega))) | exact rfl))) | (refine' ia_load1B (hb2.keep st.keep (by simp)) rfl rfl rfl ?_ ?_; rotate_left 1; (focus (first | exact N0.out | exact N1.out | exact N2.out | exact N3.out | exact N4.out | exact N5.out | exact G2.out | exact G3.out | exact G4.out | exact G0.out | exact G1.out | (refine frv_get _ _ ?_; (first | omega | (simp; done) | (simp; omega) | (simp [*]; omega))) | exact rfl))))) | ((with_reducible refine gate_addr rfl ?_); (first | (refine' ia_slcP HP.out rfl rfl rfl rfl ?_ ?_ ?_) | (refine' ia_slcP HP2.out rfl rfl rfl rfl ?_ ?_ ?_)); rotate_left 1; (focus (first | exact (rfl : (0 : Int) = ((0 : Nat) : Int)) | exact (rfl : (1 : Int) = ((1 : Nat) : Int)) | exact rfl | exact HE1.out | exact HE2.out)); (focus (first | omega | (simp; done) | (simp; omega) | (simp [*]; omega)))))))
            go_roundw
            case rel => exact ⟨2, N, encs fv A ++ encs fv B, by omega, by omega, Or.inr (Or.inr ⟨rfl, rfl, rfl⟩), by go_num, g2, cap2, spare2, by rw [HNN.out], st, hcap2, hcm2⟩
            case measure => simp [intOf]
          · go_wp2_with (first | ((with_reducible refine gate_lst ?_); (first | ((with_reducible refine gate_load rfl ?_); (first | (refine' ia_load1 st rfl rfl rfl ?_ ?_; rotate_left 1; (focus (first | exact N0.out | exact N1.out | exact N2.out | exact N3.out | exact N4.out | exact N5.out | exact G2.out | exact G3.out | exact G4.out | exact G0.out | exact G1.out | (refine frv_get _ _ ?_; (first | omega | (simp; done) | (simp; omega) | (simp [*]; omega))) | exact rfl))) | (refine' ia_load1Z (hb.keep st.keep (by simp)) rfl rfl rfl ?_ ?_; rotate_left 1; (focus exact rfl)) | (refine' ia_load1Z (hb'.keep st.keep (by simp)) rfl rfl rfl ?_ ?_; rotate_left 1; (focus exact rfl)) | (refine' ia_load1C (hb.keep st.keep (by simp)) rfl rfl rfl ?_ ?_; rotate_left 1; (focus (first | exact N0.out | exact N1.out | exact N2.out | exact N3.out | exact N4.out | exact N5.out | exact G2.out | exact G3.out | exact G4.out | exact G0.out | exact G1.out | (refine frv_get _ _ ?_; (first | omega | (simp; done) | (simp; omega) | (simp [*]; omega))) | exact rfl))) | (refine' ia_load1C (hb'.keep st.keep (by simp)) rfl rfl rfl ?_ ?_; rotate_left 1; (focus (first | exact N0.out | exact N1.out | exact N2.out | exact N3.out | exact N4.out | exact N5.out | exact G2.out | exact G3.out | exact G4.out | exact G0.out | exact G1.out | (refine frv_get _ _ ?_; (first | omega | (simp; done) | (simp; omega) | (simp [*]; omega))) | exact rfl))) | (refine' ia_load1B (hb1.keep st.keep (by simp)) rfl rfl rfl ?_ ?_; rotate_left 1; (focus (first | exact N0.out | exact N1.out | exact N2.out | exact N3.out | exact N4.out | exact N5.out | exact G2.out | exact G3.out | exact G4.out | exact G0.out | exact G1.out | (refine frv_get _ _ ?_; (first | omega | (simp; done) | (simp; omega) | (simp [*]; omega))) | exact rfl))) | (refine' ia_load1B (hb2.keep st.keep (by simp)) rfl rfl rfl ?_ ?_; rotate_left 1; (focus (first | exact N0.out | exact N1.out | exact N2.out | exact N3.out | exact N4.out | exact N5.out | exact G2.out | exact G3.out | exact G4.out | exact G0.out | exact G1.out | (refine frv_get _ _ ?_; (first | omega | (simp; done) | (simp; omega) | (simp [*]; omega))) | exact rfl))))) | ((with_reducible refine gate_addr rfl ?_); (first | (refine' ia_slcP HP.out rfl rfl rfl rfl ?_ ?_ ?_) | (refine' ia_slcP HP2.out rfl rfl rfl rfl ?_ ?_ ?_)); rotate_left 1; (focus (first | exact (rfl : (0 : Int) = ((0 : Nat) : Int)) | exact (rfl : (1 : Int) = ((1 : Nat) : Int)) | exact rfl | exact HE1.out | exact HE2.out)); (focus (first | omega | (simp; done) | (simp; omega) | (simp [*]; omega)))))))
            go_ret
            refine ⟨_, rfl, Or.inr ?_, st.keep⟩
            rw [HNN.out, encs_append]
            exact ⟨g, cap, spare, rfl, out_of st .here, st.get .here, HC.out, hcm⟩
def joC (A B : List Fm) : Int := if (bkB A && bkB B) = true then (if (A ++ B).length ≤ 40 then 0 else 3) else 1
def joR (A B : List Fm) : List Fm := if joC A B = 0 then A ++ B else []
theorem joR_len (A B : List Fm) : (joR A B).length ≤ 40 := by
  unfold joR
  split
  · rename_i h
    unfold joC at h
    split at h
    · split at h
      · assumption
      · cases h
    · cases h
  · simp
set_option maxHeartbeats 2000000 in
set_option maxRecDepth 100000 in
theorem Join_b (A B : List Fm) (n m : Nat) (hA : A.length = n) (hB : B.length = m) (hn : n ≤ 1000000) (hm : m ≤ 1000000) (p p' : Option Addr) (c c' : Nat) (hp : p = none → n = 0) (hp' : p' = none → m = 0) (w : World) (hr : Rd w p n (encs fv A)) (hr' : Rd w p' m (encs fv B)) :
    Calls Tryz.prog 26 #[.slice p n c, .slice p' m c'] w (BookCode (joR A B) (joR A B).length (joC A B) True w) := by
  have st := St.start w
  have HVA := hid (fun w' hk => ValidBook_c A n hA (by omega) p c w' (hr.keep (w1 := w') hk))
  have HVB := hid (fun w' hk => ValidBook_c B m hB (by omega) p' c' w' (hr'.keep (w1 := w') hk))
  rcases Bool.eq_false_or_eq_true (bkB A) with h1 | h1
  · rw [h1] at HVA
    rcases Bool.eq_false_or_eq_true (bkB B) with h2 | h2
    · rw [h2] at HVB
      have HCC := hid (fun g0 w' (hk : Keep [] w w') hb0 => ConcatB_c A B n m hA hB hn hm p p' c c' hp hp' g0 w' hb0 (hr.keep hk) (hr'.keep hk))
      have hab : (A ++ B).length = n + m := by rw [List.length_append, hA, hB]
      obtain ⟨N, hN⟩ : ∃ N, n + m = N := ⟨_, rfl⟩
      have hN2 : N ≤ 2000000 := by omega
      rw [hN] at hab HCC
      obtain ⟨R, hRR⟩ : ∃ R, A ++ B = R := ⟨_, rfl⟩
      by_cases h40 : N ≤ 40
      · have hC : joC A B = 0 := by unfold joC; rw [h1, h2]; simp only [Bool.and_self, if_true]; rw [if_pos (by omega)]
        have hR : joR A B = A ++ B := by unfold joR; rw [hC, if_pos rfl]
        rw [hC, hR, hab]
        rw [hRR] at HCC ⊢
        clear hA hB hab hC hR h1 h2 hN hp hp' hr hr' hRR
        go_enter Tryz.func26, Tryz.ntmps26
        go_wp2_with (first | (go_at_call 16; (first | (with_reducible refine (HVA.out _ st.keep).mono ?_) | (with_reducible refine (HVB.out _ st.keep).mono ?_)); rintro _ _ ⟨rfl, hk⟩; replace st := st.call hk; clear hk) | ((with_reducible refine gate_bsl rfl ?_); refine wpl_buildSlice2 rfl _ _ _ rfl _ _ rfl rfl _ _ rfl rfl SlcC.out ?_ ?_ (by decide) st ?_; (focus (first | rfl | (simp; done) | (simp; assumption) | (simp; omega) | (simp [*]; done))); (focus (first | rfl | (simp; done) | (simp; assumption) | (simp; omega) | (simp [*]; done))); clear st; intro B16 _ st) | (go_at_call 58; refine (HCC.out _ _ st.keep (st.get (by repeat (first | exact At.here | apply At.there)))).mono ?_; rintro _ _ ⟨v, rfl, (⟨hz, rfl⟩ | ⟨g, cap, spare, rfl, hg, hbg, hcap, hcm⟩), hk⟩ <;> (first | (replace st := st.adopt hk hg hbg; clear hk hg hbg) | (replace hz := hid hz; replace st := st.call hk; clear hk))) | (go_at_call 57; (first | (with_reducible refine (limited_0 (n := N) (by omega) h40 _).mono ?_) | (with_reducible refine (limited_0 (n := 0) (by omega) (by omega) _).mono ?_)); rintro _ _ ⟨rfl, hk⟩; replace st := st.call hk; clear hk) | ((with_reducible refine gate_lst ?_); (first | ((with_reducible refine' wpl_ung ?_ ?_ ?_); rotate_left 1; (focus exact rfl); (focus exact rfl)))))
        · go_ret2
          exact ⟨_, rfl, Or.inl ⟨trivial, hz.out, rfl⟩, st.keep⟩
        · go_ret2
          exact ⟨_, rfl, Or.inr ⟨g, cap, spare, rfl, out_of st .here, st.get .here, hcap, hcm⟩, st.keep⟩
      · have hC : joC A B = 3 := by unfold joC; rw [h1, h2]; simp only [Bool.and_self, if_true]; rw [if_neg (by omega)]
        have hR : joR A B = [] := by unfold joR; rw [hC, if_neg (by decide)]
        rw [hC, hR]
        rw [hRR] at HCC
        clear hA hB hab hC hR h1 h2 hN hp hp' hr hr' hRR
        go_enter Tryz.func26, Tryz.ntmps26
        go_wp2_with (first | (go_at_call 16; (first | (with_reducible refine (HVA.out _ st.keep).mono ?_) | (with_reducible refine (HVB.out _ st.keep).mono ?_)); rintro _ _ ⟨rfl, hk⟩; replace st := st.call hk; clear hk) | ((with_reducible refine gate_bsl rfl ?_); refine wpl_buildSlice2 rfl _ _ _ rfl _ _ rfl rfl _ _ rfl rfl SlcC.out ?_ ?_ (by decide) st ?_; (focus (first | rfl | (simp; done) | (simp; assumption) | (simp; omega) | (simp [*]; done))); (focus (first | rfl | (simp; done) | (simp; assumption) | (simp; omega) | (simp [*]; done))); clear st; intro B16 _ st) | (go_at_call 58; refine (HCC.out _ _ st.keep (st.get (by repeat (first | exact At.here | apply At.there)))).mono ?_; rintro _ _ ⟨v, rfl, (⟨hz, _⟩ | ⟨g, cap, spare, rfl, hg, hbg, hcap, hcm⟩), hk⟩; (exact absurd hz (by omega)); replace st := st.adopt hk hg hbg; clear hk hg hbg) | (go_at_call 57; refine (limited_3 (n := N) (by omega) h40 _).mono ?_; rintro _ _ ⟨rfl, hk⟩; replace st := st.call hk; clear hk) | ((with_reducible refine gate_lst ?_); (first | ((with_reducible refine' wpl_ung ?_ ?_ ?_); rotate_left 1; (focus exact rfl); (focus exact rfl)))))
        go_ret2
        exact ⟨_, rfl, Or.inl ⟨trivial, rfl, rfl⟩, st.keep⟩
    · rw [h2] at HVB
      have hC : joC A B = 1 := by unfold joC; rw [h1, h2]; rfl
      have hR : joR A B = [] := by unfold joR; rw [hC, if_neg (by decide)]
      rw [hC, hR]
      clear hA hB hC hR h1 h2 hp hp'
      go_enter Tryz.func26, Tryz.ntmps26
      go_wp2_with (first | (go_at_call 16; (first | (with_reducible refine (HVA.out _ st.keep).mono ?_) | (with_reducible refine (HVB.out _ st.keep).mono ?_)); rintro _ _ ⟨rfl, hk⟩; replace st := st.call hk; clear hk) | ((with_reducible refine gate_lst ?_); (first | ((with_reducible refine' wpl_ung ?_ ?_ ?_); rotate_left 1; (focus exact rfl); (focus exact rfl)))))
      go_ret2
      exact ⟨_, rfl, Or.inl ⟨trivial, rfl, rfl⟩, st.keep⟩
  · rw [h1] at HVA
    have hC : joC A B = 1 := by unfold joC; rw [h1]; rfl
    have hR : joR A B = [] := by unfold joR; rw [hC, if_neg (by decide)]
    rw [hC, hR]
    clear hA hB hC hR h1 hp hp'
    go_enter Tryz.func26, Tryz.ntmps26
    go_wp2_with (first | (go_at_call 16; (first | (with_reducible refine (HVA.out _ st.keep).mono ?_) | (with_reducible refine (HVB.out _ st.keep).mono ?_)); rintro _ _ ⟨rfl, hk⟩; replace st := st.call hk; clear hk) | ((with_reducible refine gate_lst ?_); (first | ((with_reducible refine' wpl_ung ?_ ?_ ?_); rotate_left 1; (focus exact rfl); (focus exact rfl)))))
    go_ret2
    exact ⟨_, rfl, Or.inl ⟨trivial, rfl, rfl⟩, st.keep⟩
end Go.Proofs.YtmfgbkmkcljciaaGreatDoor
