/- Texts of this seat, one behind the other: Every, LVal, Open, OpenV, OpenB, Pick, Pick2, Pick3, A2b, Drw; no condition. -/
import Derived.Test.YtmfgbkmkcljciaaGreatDoorM6
import Derived.Test.YtmfgbkmkcljciaaGreatDoorM2
import Derived.Test.YtmfgbkmkcljciaaGreatDoorM1
import Derived.ProofKit
import Derived.OpenShut
import Derived.SizedLaws
import Derived.Deep.Slices
import Derived.Test.YtmfgbkmkcljciaaGreatDoorM3
import Derived.OwnWalk
import Derived.IntWalk
import Derived.Laws.BitsLemmas
import Derived.Test.YtmfgbkmkcljciaaGreatDoorM4
/- Every so many pages: the reference and the program; no condition. -/
namespace Go.Proofs.YtmfgbkmkcljciaaGreatDoor
open Go.RowKit
set_option linter.unusedSimpArgs false
set_option linter.unusedVariables false

/-- The elements at f, f + s, .., k of them. -/
def evL (B : List Fm) (s f k : Nat) : List Fm := (List.range k).map fun t => B.getD (f + t * s) fz
theorem evL_length (B : List Fm) (s f k : Nat) : (evL B s f k).length = k := by simp [evL]
theorem evL_step (B : List Fm) (s f k : Nat) : evL B s f k ++ [B.getD (f + k * s) fz] = evL B s f (k + 1) := by simp [evL, List.range_succ]
/-- How many there are below n. -/
def evN (n s f : Nat) : Nat := (n - f + s - 1) / s
theorem evN_iff {n s f k : Nat} (hs : 0 < s) (hf : f < n) : f + k * s < n ↔ k < evN n s f := by
  unfold evN
  rw [Nat.lt_div_iff_mul_lt hs]
  have : s * k = k * s := Nat.mul_comm _ _
  omega
def evIn (n : Nat) (s f : Int) : Bool := inB s 1 40 && inB f 0 ((n : Int) - 1)
def evC (B : List Fm) (s f : Int) : Int := if bkB B = true then (if evIn B.length s f = true then 0 else 2) else 1
def evR (B : List Fm) (s f : Int) : List Fm := if evC B s f = 0 then evL B s.toNat f.toNat (evN B.length s.toNat f.toNat) else []
set_option maxHeartbeats 1000000 in
set_option maxRecDepth 100000 in
theorem specEvery_c (B : List Fm) (n : Nat) (hB : B.length = n) (hn : n ≤ 1000000) (p : Option Addr) (c : Nat) (i j : Int) (w : World) (hr : Rd w p n (encs fv B)) :
    Calls Tryz.prog 30 #[.slice p n c, .int .i64 i, .int .i64 j] w (BookCode (evR B i j) (evR B i j).length (evC B i j) False w) := by
  have st := St.start w
  rcases Bool.eq_false_or_eq_true (bkB B) with h | h
  · have HV := hid (fun w' hk => l02Ok_v h n hB (by omega) p c w' (hr.keep (w1 := w') hk))
    rcases Bool.eq_false_or_eq_true (evIn n i j) with h2 | h2
    · have hc0 : evC B i j = 0 := by unfold evC; rw [if_pos h, hB, if_pos h2]
      unfold evR
      rw [hc0, if_pos rfl, evL_length, hB]
      unfold evIn at h2
      rw [Bool.and_eq_true] at h2
      obtain ⟨q1, q2⟩ := h2
      have r1 := q1
      have r2 := q2
      unfold inB at r1 r2
      rw [decide_eq_true_eq] at r1 r2
      obtain ⟨s, rfl⟩ : ∃ s : Nat, i = s := ⟨i.toNat, by omega⟩
      obtain ⟨f, rfl⟩ : ∃ f : Nat, j = f := ⟨j.toNat, by omega⟩
      have hs0 : 0 < s := by omega
      have hs40 : s ≤ 40 := by omega
      have hfn : f < n := by omega
      simp only [Int.toNat_natCast]
      replace hB := hid hB
      obtain ⟨N, hN⟩ : ∃ N, evN n s f = N := ⟨_, rfl⟩
      have HN := hid (fun k => evN_iff (k := k) hs0 hfn)
      rw [hN] at HN ⊢
      clear hc0 h r1 r2 hN
      go_enter Tryz.func30, Tryz.ntmps30
      go_wp2_with (first | (go_at_call 39; refine (HV.out _ st.keep).mono ?_; rintro _ _ ⟨rfl, hk⟩; replace st := st.call hk; clear hk) | (go_at_call 60; (with_reducible refine (l00In_v q1 _).mono ?_); rintro _ _ ⟨rfl, hk⟩; replace st := st.call hk; clear hk) | (go_at_call 60; (with_reducible refine (l00In_v q2 _).mono ?_); rintro _ _ ⟨rfl, hk⟩; replace st := st.call hk; clear hk) | ((with_reducible refine gate_bsl rfl ?_); refine ia_bsl0 (sl := 26) st rfl rfl rfl ?_; clear st; intro B26 _ st) | ((with_reducible refine gate_lst ?_); (first | ((with_reducible refine' wpl_ung ?_ ?_ ?_); rotate_left 1; (focus exact rfl); (focus exact rfl)) | ((with_reducible refine gate_load rfl ?_); (first | (refine ia_loadAll st rfl rfl rfl ?_ ?_; (focus (first | rfl | (simp; done) | (simp; assumption) | (simp; omega) | (simp [*]; done)))) | (refine ia_loadC (hb.keep st.keep (by simp)) rfl rfl rfl ?_ ?_; (focus (first | rfl | (simp; done) | (simp; assumption) | (simp; omega) | (simp [*]; done)))) | (refine ia_loadC (hb'.keep st.keep (by simp)) rfl rfl rfl ?_ ?_; (focus (first | rfl | (simp; done) | (simp; assumption) | (simp; omega) | (simp [*]; done)))) | (refine ia_loadC (Cl.of (hb1.keep st.keep (by simp))) rfl rfl rfl ?_ ?_; (focus (first | rfl | (simp; done) | (simp; assumption) | (simp; omega) | (simp [*]; done)))) | (refine ia_loadC (Cl.of (hb2.keep st.keep (by simp))) rfl rfl rfl ?_ ?_; (focus (first | rfl | (simp; done) | (simp; assumption) | (simp; omega) | (simp [*]; done)))))) | ((with_reducible refine gate_addr rfl ?_); (first | (refine' ia_slcP HP.out rfl rfl rfl rfl ?_ ?_ ?_) | (refine' ia_slcP HP2.out rfl rfl rfl rfl ?_ ?_ ?_)); rotate_left 1; (focus (first | exact (rfl : (0 : Int) = ((0 : Nat) : Int)) | exact (rfl : (1 : Int) = ((1 : Nat) : Int)) | exact rfl | exact HE1.out | exact HE2.out)); (focus (first | omega | (simp; done) | (simp; omega) | (simp [*]; omega)))))))
      go_loopw [8, 9] (fun v i wr => ∃ k a : Nat, ∃ g cap : Nat, ∃ spare : List Value, k ≤ N ∧ Hid (a = f + k * s) ∧ a ≤ n + 40 ∧ i = .int .i64 a ∧ v = .slice (some ⟨g, 0, none⟩) k cap ∧ St [] w wr [(g, encs fv (evL B s f k) ++ spare, 42)] ∧ (encs fv (evL B s f k) ++ spare).length = cap * 12 ∧ cap ≤ maxLen ∧ k ≤ n) (fun _ i _ => n + 40 - (intOf i).toNat)
      case atStart => exact ⟨0, f, B26, 0, [], by omega, hid (by omega), by omega, rfl, rfl, st, rfl, Nat.zero_le _, by omega⟩
      case round =>
        clear st
        obtain ⟨k, a, g, cap, spare, hk, ha, han, rfl, rfl, st, hcap, hcm, hkn⟩ := hrel
        have HC := hid hcap
        clear hcap
        by_cases hlt : a < n
        · have hd : decide ((a : Int) < (n : Int)) = true := by simpa using hlt
          have HI : Hid (inB a 0 ((n : Int) - 1) = true) := hid (inB_yes (by omega) (by omega))
          have hkN : k < N := (HN.out k).1 (by have := ha.out; omega)
          have hkn2 : k + 1 ≤ n := by
            have h1 := ha.out
            have h2 : k * 1 ≤ k * s := Nat.mul_le_mul_left _ hs0
            omega
          obtain ⟨b, o, hp, hcl⟩ := hr (by omega)
          have HP := hid hp
          have hkB : a < B.length := by rw [hB.out]; exact hlt
          have hb := hcl.seg fv_len hkB
          have HS := hid (evL_step B s f k)
          have HX : B.getD (f + k * s) fz = B[a] := by rw [← ha.out, List.getD_eq_getElem?_getD, List.getElem?_eq_getElem hkB]; rfl
          rw [HX] at HS
          obtain ⟨x, hx⟩ : ∃ x, B[a] = x := ⟨_, rfl⟩
          rw [hx] at hb HS
          clear hx hp hcl hkB HX
          go_wp2_with (first | ((with_reducible refine gate_bsl rfl ?_); refine ia_bsl1 (sl := 40) st rfl rfl rfl rfl rfl ?_ (by decide) ?_; (focus (first | rfl | (simp; done) | (simp; assumption) | (simp; omega) | (simp [*]; done))); clear st; intro B40 _ st) | ((with_reducible refine gate_app rfl ?_); refine ia_appendR (news := (fv x)) (xs := (encs fv (evL B s f k))) (spare := spare) st rfl rfl rfl rfl (by rw [encs_fv_length, evL_length]) HC.out hcm (.fr (st.get (by repeat (first | exact At.here | apply At.there)))) (fun h => by cases h) (fv_len x) (fv_one x) (by unfold maxLen; omega) (by omega) ?_; clear st; intro g2 cap2 spare2 _ st hcap2 hcm2; (try simp only [List.set_cons_zero, List.set_cons_succ] at st)) | ((with_reducible refine gate_lst ?_); (first | ((with_reducible refine' wpl_ung ?_ ?_ ?_); rotate_left 1; (focus exact rfl); (focus exact rfl)) | ((with_reducible refine gate_load rfl ?_); (first | (refine ia_loadAll st rfl rfl rfl ?_ ?_; (focus (first | rfl | (simp; done) | (simp; assumption) | (simp; omega) | (simp [*]; done)))) | (refine ia_loadC (hb.keep st.keep (by simp)) rfl rfl rfl ?_ ?_; (focus (first | rfl | (simp; done) | (simp; assumption) | (simp; omega) | (simp [*]; done)))) | (refine ia_loadC (hb'.keep st.keep (by simp)) rfl rfl rfl ?_ ?_; (focus (first | rfl | (simp; done) | (simp; assumption) | (simp; omega) | (simp [*]; done)))) | (refine ia_loadC (Cl.of (hb1.keep st.keep (by simp))) rfl rfl rfl ?_ ?_; (focus (first | rfl | (simp; done) | (simp; assumption) | (simp; omega) | (simp [*]; done)))) | (refine ia_loadC (Cl.of (hb2.keep st.keep (by simp))) rfl rfl rfl ?_ ?_; (focus (first | rfl | (simp; done) | (simp; assumption) | (simp; omega) | (simp [*]; done)))))) | ((with_reducible refine gate_addr rfl ?_); (first | (refine' ia_slcP HP.out rfl rfl rfl rfl ?_ ?_ ?_) | (refine' ia_slcP HP2.out rfl rfl rfl rfl ?_ ?_ ?_)); rotate_left 1; (focus (first | exact (rfl : (0 : Int) = ((0 : Nat) : Int)) | exact (rfl : (1 : Int) = ((1 : Nat) : Int)) | exact rfl | exact HE1.out | exact HE2.out)); (focus (first | omega | (simp; done) | (simp; omega) | (simp [*]; omega)))))))
          have e : encs fv (evL B s f (k + 1)) = encs fv (evL B s f k) ++ fv x := by rw [← HS.out, encs_append]; simp [encs]
          go_roundw
          case rel => exact ⟨k + 1, a + s, g2, cap2, spare2, by omega, hid (by have := ha.out; rw [Nat.succ_mul]; omega), by omega, by go_num, rfl, by rw [e]; exact st.drop, by rw [e]; exact hcap2, hcm2, hkn2⟩
          case measure => first | (simp [intOf]; done) | (simp [intOf]; omega)
        · have hd : decide ((a : Int) < (n : Int)) = false := by simp; omega
          have HNI : Hid (inB a 0 ((n : Int) - 1) = false) := hid (inB_no2 (by omega))
          obtain rfl : k = N := by
            have h1 := ha.out
            have h2 : ¬ k < N := fun h => by have := (HN.out k).2 h; omega
            omega
          go_wp2_with (first | ((with_reducible refine gate_lst ?_); (first | ((with_reducible refine' wpl_ung ?_ ?_ ?_); rotate_left 1; (focus exact rfl); (focus exact rfl)) | ((with_reducible refine gate_load rfl ?_); (first | (refine ia_loadAll st rfl rfl rfl ?_ ?_; (focus (first | rfl | (simp; done) | (simp; assumption) | (simp; omega) | (simp [*]; done)))) | (refine ia_loadC (hb.keep st.keep (by simp)) rfl rfl rfl ?_ ?_; (focus (first | rfl | (simp; done) | (simp; assumption) | (simp; omega) | (simp [*]; done)))) | (refine ia_loadC (hb'.keep st.keep (by simp)) rfl rfl rfl ?_ ?_; (focus (first | rfl | (simp; done) | (simp; assumption) | (simp; omega) | (simp [*]; done)))) | (refine ia_loadC (Cl.of (hb1.keep st.keep (by simp))) rfl rfl rfl ?_ ?_; (focus (first | rfl | (simp; done) | (simp; assumption) | (simp; omega) | (simp [*]; done)))) | (refine ia_loadC (Cl.of (hb2.keep st.keep (by simp))) rfl rfl rfl ?_ ?_; (focus (first | rfl | (simp; done) | (simp; assumption) | (simp; omega) | (simp [*]; done)))))) | ((with_reducible refine gate_addr rfl ?_); (first | (refine' ia_slcP HP.out rfl rfl rfl rfl ?_ ?_ ?_) | (refine' ia_slcP HP2.out rfl rfl rfl rfl ?_ ?_ ?_)); rotate_left 1; (focus (first | exact (rfl : (0 : Int) = ((0 : Nat) : Int)) | exact (rfl : (1 : Int) = ((1 : Nat) : Int)) | exact rfl | exact HE1.out | exact HE2.out)); (focus (first | omega | (simp; done) | (simp; omega) | (simp [*]; omega)))))))
          go_ret2
          exact ⟨_, rfl, Or.inr ⟨g, cap, spare, rfl, out_of st .here, st.get .here, HC.out, hcm⟩, st.keep⟩
    · have hc2 : evC B i j = 2 := by unfold evC; rw [if_pos h, hB, if_neg (by rw [h2]; decide)]
      unfold evR
      rw [hc2, if_neg (by decide)]
      unfold evIn at h2
      clear hc2 h hB
      rcases Bool.eq_false_or_eq_true (inB i 1 40) with q1 | q1
      · have q2 : inB j 0 ((n : Int) - 1) = false := by rw [q1, Bool.true_and] at h2; exact h2
        clear h2
        go_enter Tryz.func30, Tryz.ntmps30
        go_wp2_with (first | (go_at_call 39; refine (HV.out _ st.keep).mono ?_; rintro _ _ ⟨rfl, hk⟩; replace st := st.call hk; clear hk) | (go_at_call 60; (with_reducible refine (l00In_v q1 _).mono ?_); rintro _ _ ⟨rfl, hk⟩; replace st := st.call hk; clear hk) | (go_at_call 60; (with_reducible refine (l00In_v q2 _).mono ?_); rintro _ _ ⟨rfl, hk⟩; replace st := st.call hk; clear hk) | ((with_reducible refine gate_bsl rfl ?_); refine ia_bsl0 (sl := 25) st rfl rfl rfl ?_; clear st; intro B25 _ st) | ((with_reducible refine gate_lst ?_); (first | ((with_reducible refine' wpl_ung ?_ ?_ ?_); rotate_left 1; (focus exact rfl); (focus exact rfl)) | ((with_reducible refine gate_load rfl ?_); (first | (refine ia_loadAll st rfl rfl rfl ?_ ?_; (focus (first | rfl | (simp; done) | (simp; assumption) | (simp; omega) | (simp [*]; done)))) | (refine ia_loadC (hb.keep st.keep (by simp)) rfl rfl rfl ?_ ?_; (focus (first | rfl | (simp; done) | (simp; assumption) | (simp; omega) | (simp [*]; done)))) | (refine ia_loadC (hb'.keep st.keep (by simp)) rfl rfl rfl ?_ ?_; (focus (first | rfl | (simp; done) | (simp; assumption) | (simp; omega) | (simp [*]; done)))) | (refine ia_loadC (Cl.of (hb1.keep st.keep (by simp))) rfl rfl rfl ?_ ?_; (focus (first | rfl | (simp; done) | (simp; assumption) | (simp; omega) | (simp [*]; done)))) | (refine ia_loadC (Cl.of (hb2.keep st.keep (by simp))) rfl rfl rfl ?_ ?_; (focus (first | rfl | (simp; done) | (simp; assumption) | (simp; omega) | (simp [*]; done)))))) | ((with_reducible refine gate_addr rfl ?_); (first | (refine' ia_slcP HP.out rfl rfl rfl rfl ?_ ?_ ?_) | (refine' ia_slcP HP2.out rfl rfl rfl rfl ?_ ?_ ?_)); rotate_left 1; (focus (first | exact (rfl : (0 : Int) = ((0 : Nat) : Int)) | exact (rfl : (1 : Int) = ((1 : Nat) : Int)) | exact rfl | exact HE1.out | exact HE2.out)); (focus (first | omega | (simp; done) | (simp; omega) | (simp [*]; omega)))))))
        go_ret2
        exact ⟨_, rfl, Or.inr (gives0 st .here), st.keep⟩
      · clear h2
        go_enter Tryz.func30, Tryz.ntmps30
        go_wp2_with (first | (go_at_call 39; refine (HV.out _ st.keep).mono ?_; rintro _ _ ⟨rfl, hk⟩; replace st := st.call hk; clear hk) | (go_at_call 60; (with_reducible refine (l00In_v q1 _).mono ?_); rintro _ _ ⟨rfl, hk⟩; replace st := st.call hk; clear hk) | ((with_reducible refine gate_bsl rfl ?_); refine ia_bsl0 (sl := 25) st rfl rfl rfl ?_; clear st; intro B25 _ st) | ((with_reducible refine gate_lst ?_); (first | ((with_reducible refine' wpl_ung ?_ ?_ ?_); rotate_left 1; (focus exact rfl); (focus exact rfl)) | ((with_reducible refine gate_load rfl ?_); (first | (refine ia_loadAll st rfl rfl rfl ?_ ?_; (focus (first | rfl | (simp; done) | (simp; assumption) | (simp; omega) | (simp [*]; done)))) | (refine ia_loadC (hb.keep st.keep (by simp)) rfl rfl rfl ?_ ?_; (focus (first | rfl | (simp; done) | (simp; assumption) | (simp; omega) | (simp [*]; done)))) | (refine ia_loadC (hb'.keep st.keep (by simp)) rfl rfl rfl ?_ ?_; (focus (first | rfl | (simp; done) | (simp; assumption) | (simp; omega) | (simp [*]; done)))) | (refine ia_loadC (Cl.of (hb1.keep st.keep (by simp))) rfl rfl rfl ?_ ?_; (focus (first | rfl | (simp; done) | (simp; assumption) | (simp; omega) | (simp [*]; done)))) | (refine ia_loadC (Cl.of (hb2.keep st.keep (by simp))) rfl rfl rfl ?_ ?_; (focus (first | rfl | (simp; done) | (simp; assumption) | (simp; omega) | (simp [*]; done)))))) | ((with_reducible refine gate_addr rfl ?_); (first | (refine' ia_slcP HP.out rfl rfl rfl rfl ?_ ?_ ?_) | (refine' ia_slcP HP2.out rfl rfl rfl rfl ?_ ?_ ?_)); rotate_left 1; (focus (first | exact (rfl : (0 : Int) = ((0 : Nat) : Int)) | exact (rfl : (1 : Int) = ((1 : Nat) : Int)) | exact rfl | exact HE1.out | exact HE2.out)); (focus (first | omega | (simp; done) | (simp; omega) | (simp [*]; omega)))))))
        go_ret2
        exact ⟨_, rfl, Or.inr (gives0 st .here), st.keep⟩
  · have HV := hid (fun w' hk => l02Ok_v h n hB (by omega) p c w' (hr.keep (w1 := w') hk))
    have hc1 : evC B i j = 1 := by unfold evC; rw [if_neg (by rw [h]; decide)]
    unfold evR
    rw [hc1, if_neg (by decide)]
    clear hc1 h hB
    go_enter Tryz.func30, Tryz.ntmps30
    go_wp2_with (first | (go_at_call 39; refine (HV.out _ st.keep).mono ?_; rintro _ _ ⟨rfl, hk⟩; replace st := st.call hk; clear hk) | ((with_reducible refine gate_bsl rfl ?_); refine ia_bsl0 (sl := 13) st rfl rfl rfl ?_; clear st; intro B13 _ st) | ((with_reducible refine gate_lst ?_); (first | ((with_reducible refine' wpl_ung ?_ ?_ ?_); rotate_left 1; (focus exact rfl); (focus exact rfl)) | ((with_reducible refine gate_load rfl ?_); (first | (refine ia_loadAll st rfl rfl rfl ?_ ?_; (focus (first | rfl | (simp; done) | (simp; assumption) | (simp; omega) | (simp [*]; done)))) | (refine ia_loadC (hb.keep st.keep (by simp)) rfl rfl rfl ?_ ?_; (focus (first | rfl | (simp; done) | (simp; assumption) | (simp; omega) | (simp [*]; done)))) | (refine ia_loadC (hb'.keep st.keep (by simp)) rfl rfl rfl ?_ ?_; (focus (first | rfl | (simp; done) | (simp; assumption) | (simp; omega) | (simp [*]; done)))) | (refine ia_loadC (Cl.of (hb1.keep st.keep (by simp))) rfl rfl rfl ?_ ?_; (focus (first | rfl | (simp; done) | (simp; assumption) | (simp; omega) | (simp [*]; done)))) | (refine ia_loadC (Cl.of (hb2.keep st.keep (by simp))) rfl rfl rfl ?_ ?_; (focus (first | rfl | (simp; done) | (simp; assumption) | (simp; omega) | (simp [*]; done)))))) | ((with_reducible refine gate_addr rfl ?_); (first | (refine' ia_slcP HP.out rfl rfl rfl rfl ?_ ?_ ?_) | (refine' ia_slcP HP2.out rfl rfl rfl rfl ?_ ?_ ?_)); rotate_left 1; (focus (first | exact (rfl : (0 : Int) = ((0 : Nat) : Int)) | exact (rfl : (1 : Int) = ((1 : Nat) : Int)) | exact rfl | exact HE1.out | exact HE2.out)); (focus (first | omega | (simp; done) | (simp; omega) | (simp [*]; omega)))))))
    go_ret2
    exact ⟨_, rfl, Or.inr (gives0 st .here), st.keep⟩
theorem isPage_v {n : Nat} {i : Int} {v : Bool} (h : inB i 0 ((n : Int) - 1) = v) (hn : n ≤ 1000000) (p : Option Addr) (c : Nat) (w : World) : Calls Tryz.prog 59 #[.slice p n c, .int .i64 i] w fun e w' => e = .returned (.bool v) ∧ Keep [] w w' := by
  have st := St.start w
  have HR := hid (fun w => inRange_v h w)
  clear h
  go_enter Tryz.func59, Tryz.ntmps59
  go_wp2_with (first | (go_at_call 56; refine (HR.out _).mono ?_; rintro _ _ ⟨rfl, hk⟩; replace st := st.call hk; clear hk))
  go_ret
  exact ⟨rfl, st.keep⟩
set_option maxHeartbeats 1000000 in
set_option maxRecDepth 100000 in
theorem EveryPage_c (B : List Fm) (n : Nat) (hB : B.length = n) (hn : n ≤ 1000000) (p : Option Addr) (c : Nat) (i j : Int) (w : World) (hr : Rd w p n (encs fv B)) :
    Calls Tryz.prog 29 #[.slice p n c, .int .i64 i, .int .i64 j] w (BookCode (evR B i j) (evR B i j).length (evC B i j) (evC B i j ≠ 0 ∨ p = none) w) := by
  have st := St.start w
  rcases Bool.eq_false_or_eq_true (bkB B) with h | h
  · have HV := hid (fun w' hk => ValidBook_v h n hB (by omega) p c w' (hr.keep (w1 := w') hk))
    rcases Bool.eq_false_or_eq_true (evIn n i j) with h2 | h2
    · have hc0 : evC B i j = 0 := by unfold evC; rw [if_pos h, hB, if_pos h2]
      unfold evR
      rw [hc0, if_pos rfl, evL_length, hB]
      unfold evIn at h2
      rw [Bool.and_eq_true] at h2
      obtain ⟨q1, q2⟩ := h2
      have r1 := q1
      have r2 := q2
      unfold inB at r1 r2
      rw [decide_eq_true_eq] at r1 r2
      obtain ⟨s, rfl⟩ : ∃ s : Nat, i = s := ⟨i.toNat, by omega⟩
      obtain ⟨f, rfl⟩ : ∃ f : Nat, j = f := ⟨j.toNat, by omega⟩
      have hs0 : 0 < s := by omega
      have hs40 : s ≤ 40 := by omega
      have hfn : f < n := by omega
      simp only [Int.toNat_natCast]
      replace hB := hid hB
      obtain ⟨N, hN⟩ : ∃ N, evN n s f = N := ⟨_, rfl⟩
      have HN := hid (fun k => evN_iff (k := k) hs0 hfn)
      rw [hN] at HN ⊢
      clear hc0 h r1 r2 hN
      go_enter Tryz.func29, Tryz.ntmps29
      go_wp2_with (first | (go_at_call 16; refine (HV.out _ st.keep).mono ?_; rintro _ _ ⟨rfl, hk⟩; replace st := st.call hk; clear hk) | (go_at_call 56; (with_reducible refine (inRange_v q1 _).mono ?_); rintro _ _ ⟨rfl, hk⟩; replace st := st.call hk; clear hk) | (go_at_call 59; refine (isPage_v q2 hn _ _ _).mono ?_; rintro _ _ ⟨rfl, hk⟩; replace st := st.call hk; clear hk) | ((with_reducible refine gate_bsl rfl ?_); refine ia_bsl0 (sl := 24) st rfl rfl rfl ?_; clear st; intro B24 _ st) | ((with_reducible refine gate_lst ?_); (first | ((with_reducible refine' wpl_ung ?_ ?_ ?_); rotate_left 1; (focus exact rfl); (focus exact rfl)) | ((with_reducible refine gate_load rfl ?_); (first | (refine ia_loadAll st rfl rfl rfl ?_ ?_; (focus (first | rfl | (simp; done) | (simp; assumption) | (simp; omega) | (simp [*]; done)))) | (refine ia_loadC (hb.keep st.keep (by simp)) rfl rfl rfl ?_ ?_; (focus (first | rfl | (simp; done) | (simp; assumption) | (simp; omega) | (simp [*]; done)))) | (refine ia_loadC (hb'.keep st.keep (by simp)) rfl rfl rfl ?_ ?_; (focus (first | rfl | (simp; done) | (simp; assumption) | (simp; omega) | (simp [*]; done)))) | (refine ia_loadC (Cl.of (hb1.keep st.keep (by simp))) rfl rfl rfl ?_ ?_; (focus (first | rfl | (simp; done) | (simp; assumption) | (simp; omega) | (simp [*]; done)))) | (refine ia_loadC (Cl.of (hb2.keep st.keep (by simp))) rfl rfl rfl ?_ ?_; (focus (first | rfl | (simp; done) | (simp; assumption) | (simp; omega) | (simp [*]; done)))))) | ((with_reducible refine gate_addr rfl ?_); (first | (refine' ia_slcP HP.out rfl rfl rfl rfl ?_ ?_ ?_) | (refine' ia_slcP HP2.out rfl rfl rfl rfl ?_ ?_ ?_)); rotate_left 1; (focus (first | exact (rfl : (0 : Int) = ((0 : Nat) : Int)) | exact (rfl : (1 : Int) = ((1 : Nat) : Int)) | exact rfl | exact HE1.out | exact HE2.out)); (focus (first | omega | (simp; done) | (simp; omega) | (simp [*]; omega)))))))
      go_loopw [8, 9] (fun v i wr => ∃ k a : Nat, ∃ g cap : Nat, ∃ spare : List Value, k ≤ N ∧ Hid (a = f + k * s) ∧ a ≤ n + 40 ∧ i = .int .i64 a ∧ v = .slice (some ⟨g, 0, none⟩) k cap ∧ St [] w wr [(g, encs fv (evL B s f k) ++ spare, 42)] ∧ (encs fv (evL B s f k) ++ spare).length = cap * 12 ∧ cap ≤ maxLen ∧ k ≤ n) (fun _ i _ => n + 40 - (intOf i).toNat)
      case atStart => exact ⟨0, f, B24, 0, [], by omega, hid (by omega), by omega, rfl, rfl, st, rfl, Nat.zero_le _, by omega⟩
      case round =>
        clear st
        obtain ⟨k, a, g, cap, spare, hk, ha, han, rfl, rfl, st, hcap, hcm, hkn⟩ := hrel
        have HC := hid hcap
        clear hcap
        by_cases hlt : a < n
        · have hd : decide ((a : Int) < (n : Int)) = true := by simpa using hlt
          have HI : Hid (inB a 0 ((n : Int) - 1) = true) := hid (inB_yes (by omega) (by omega))
          have hkN : k < N := (HN.out k).1 (by have := ha.out; omega)
          have hkn2 : k + 1 ≤ n := by
            have h1 := ha.out
            have h2 : k * 1 ≤ k * s := Nat.mul_le_mul_left _ hs0
            omega
          obtain ⟨b, o, hp, hcl⟩ := hr (by omega)
          have HP := hid hp
          have hkB : a < B.length := by rw [hB.out]; exact hlt
          have hb := hcl.seg fv_len hkB
          have HS := hid (evL_step B s f k)
          have HX : B.getD (f + k * s) fz = B[a] := by rw [← ha.out, List.getD_eq_getElem?_getD, List.getElem?_eq_getElem hkB]; rfl
          rw [HX] at HS
          obtain ⟨x, hx⟩ : ∃ x, B[a] = x := ⟨_, rfl⟩
          rw [hx] at hb HS
          clear hx hp hcl hkB HX
          go_wp2_with (first | (go_at_call 59; refine (isPage_v HI.out hn _ _ _).mono ?_; rintro _ _ ⟨rfl, hk⟩; replace st := st.call hk; clear hk) | ((with_reducible refine gate_bsl rfl ?_); refine ia_bsl1 (sl := 37) st rfl rfl rfl rfl rfl ?_ (by decide) ?_; (focus (first | rfl | (simp; done) | (simp; assumption) | (simp; omega) | (simp [*]; done))); clear st; intro B37 _ st) | ((with_reducible refine gate_app rfl ?_); refine ia_appendR (news := (fv x)) (xs := (encs fv (evL B s f k))) (spare := spare) st rfl rfl rfl rfl (by rw [encs_fv_length, evL_length]) HC.out hcm (.fr (st.get (by repeat (first | exact At.here | apply At.there)))) (fun h => by cases h) (fv_len x) (fv_one x) (by unfold maxLen; omega) (by omega) ?_; clear st; intro g2 cap2 spare2 _ st hcap2 hcm2; (try simp only [List.set_cons_zero, List.set_cons_succ] at st)) | ((with_reducible refine gate_lst ?_); (first | ((with_reducible refine' wpl_ung ?_ ?_ ?_); rotate_left 1; (focus exact rfl); (focus exact rfl)) | ((with_reducible refine gate_load rfl ?_); (first | (refine ia_loadAll st rfl rfl rfl ?_ ?_; (focus (first | rfl | (simp; done) | (simp; assumption) | (simp; omega) | (simp [*]; done)))) | (refine ia_loadC (hb.keep st.keep (by simp)) rfl rfl rfl ?_ ?_; (focus (first | rfl | (simp; done) | (simp; assumption) | (simp; omega) | (simp [*]; done)))) | (refine ia_loadC (hb'.keep st.keep (by simp)) rfl rfl rfl ?_ ?_; (focus (first | rfl | (simp; done) | (simp; assumption) | (simp; omega) | (simp [*]; done)))) | (refine ia_loadC (Cl.of (hb1.keep st.keep (by simp))) rfl rfl rfl ?_ ?_; (focus (first | rfl | (simp; done) | (simp; assumption) | (simp; omega) | (simp [*]; done)))) | (refine ia_loadC (Cl.of (hb2.keep st.keep (by simp))) rfl rfl rfl ?_ ?_; (focus (first | rfl | (simp; done) | (simp; assumption) | (simp; omega) | (simp [*]; done)))))) | ((with_reducible refine gate_addr rfl ?_); (first | (refine' ia_slcP HP.out rfl rfl rfl rfl ?_ ?_ ?_) | (refine' ia_slcP HP2.out rfl rfl rfl rfl ?_ ?_ ?_)); rotate_left 1; (focus (first | exact (rfl : (0 : Int) = ((0 : Nat) : Int)) | exact (rfl : (1 : Int) = ((1 : Nat) : Int)) | exact rfl | exact HE1.out | exact HE2.out)); (focus (first | omega | (simp; done) | (simp; omega) | (simp [*]; omega)))))))
          have e : encs fv (evL B s f (k + 1)) = encs fv (evL B s f k) ++ fv x := by rw [← HS.out, encs_append]; simp [encs]
          go_roundw
          case rel => exact ⟨k + 1, a + s, g2, cap2, spare2, by omega, hid (by have := ha.out; rw [Nat.succ_mul]; omega), by omega, by go_num, rfl, by rw [e]; exact st.drop, by rw [e]; exact hcap2, hcm2, hkn2⟩
          case measure => first | (simp [intOf]; done) | (simp [intOf]; omega)
        · have hd : decide ((a : Int) < (n : Int)) = false := by simp; omega
          have HNI : Hid (inB a 0 ((n : Int) - 1) = false) := hid (inB_no2 (by omega))
          obtain rfl : k = N := by
            have h1 := ha.out
            have h2 : ¬ k < N := fun h => by have := (HN.out k).2 h; omega
            omega
          go_wp2_with (first | (go_at_call 59; refine (isPage_v HNI.out hn _ _ _).mono ?_; rintro _ _ ⟨rfl, hk⟩; replace st := st.call hk; clear hk) | ((with_reducible refine gate_lst ?_); (first | ((with_reducible refine' wpl_ung ?_ ?_ ?_); rotate_left 1; (focus exact rfl); (focus exact rfl)) | ((with_reducible refine gate_load rfl ?_); (first | (refine ia_loadAll st rfl rfl rfl ?_ ?_; (focus (first | rfl | (simp; done) | (simp; assumption) | (simp; omega) | (simp [*]; done)))) | (refine ia_loadC (hb.keep st.keep (by simp)) rfl rfl rfl ?_ ?_; (focus (first | rfl | (simp; done) | (simp; assumption) | (simp; omega) | (simp [*]; done)))) | (refine ia_loadC (hb'.keep st.keep (by simp)) rfl rfl rfl ?_ ?_; (focus (first | rfl | (simp; done) | (simp; assumption) | (simp; omega) | (simp [*]; done)))) | (refine ia_loadC (Cl.of (hb1.keep st.keep (by simp))) rfl rfl rfl ?_ ?_; (focus (first | rfl | (simp; done) | (simp; assumption) | (simp; omega) | (simp [*]; done)))) | (refine ia_loadC (Cl.of (hb2.keep st.keep (by simp))) rfl rfl rfl ?_ ?_; (focus (first | rfl | (simp; done) | (simp; assumption) | (simp; omega) | (simp [*]; done)))))) | ((with_reducible refine gate_addr rfl ?_); (first | (refine' ia_slcP HP.out rfl rfl rfl rfl ?_ ?_ ?_) | (refine' ia_slcP HP2.out rfl rfl rfl rfl ?_ ?_ ?_)); rotate_left 1; (focus (first | exact (rfl : (0 : Int) = ((0 : Nat) : Int)) | exact (rfl : (1 : Int) = ((1 : Nat) : Int)) | exact rfl | exact HE1.out | exact HE2.out)); (focus (first | omega | (simp; done) | (simp; omega) | (simp [*]; omega)))))))
          go_ret2
          exact ⟨_, rfl, Or.inr ⟨g, cap, spare, rfl, out_of st .here, st.get .here, HC.out, hcm⟩, st.keep⟩
    · have hc2 : evC B i j = 2 := by unfold evC; rw [if_pos h, hB, if_neg (by rw [h2]; decide)]
      unfold evR
      rw [hc2, if_neg (by decide)]
      unfold evIn at h2
      clear hc2 h hB
      rcases Bool.eq_false_or_eq_true (inB i 1 40) with q1 | q1
      · have q2 : inB j 0 ((n : Int) - 1) = false := by rw [q1, Bool.true_and] at h2; exact h2
        clear h2
        go_enter Tryz.func29, Tryz.ntmps29
        go_wp2_with (first | (go_at_call 16; refine (HV.out _ st.keep).mono ?_; rintro _ _ ⟨rfl, hk⟩; replace st := st.call hk; clear hk) | (go_at_call 56; (with_reducible refine (inRange_v q1 _).mono ?_); rintro _ _ ⟨rfl, hk⟩; replace st := st.call hk; clear hk) | (go_at_call 59; refine (isPage_v q2 hn _ _ _).mono ?_; rintro _ _ ⟨rfl, hk⟩; replace st := st.call hk; clear hk) | ((with_reducible refine gate_lst ?_); (first | ((with_reducible refine' wpl_ung ?_ ?_ ?_); rotate_left 1; (focus exact rfl); (focus exact rfl)) | ((with_reducible refine gate_load rfl ?_); (first | (refine ia_loadAll st rfl rfl rfl ?_ ?_; (focus (first | rfl | (simp; done) | (simp; assumption) | (simp; omega) | (simp [*]; done)))) | (refine ia_loadC (hb.keep st.keep (by simp)) rfl rfl rfl ?_ ?_; (focus (first | rfl | (simp; done) | (simp; assumption) | (simp; omega) | (simp [*]; done)))) | (refine ia_loadC (hb'.keep st.keep (by simp)) rfl rfl rfl ?_ ?_; (focus (first | rfl | (simp; done) | (simp; assumption) | (simp; omega) | (simp [*]; done)))) | (refine ia_loadC (Cl.of (hb1.keep st.keep (by simp))) rfl rfl rfl ?_ ?_; (focus (first | rfl | (simp; done) | (simp; assumption) | (simp; omega) | (simp [*]; done)))) | (refine ia_loadC (Cl.of (hb2.keep st.keep (by simp))) rfl rfl rfl ?_ ?_; (focus (first | rfl | (simp; done) | (simp; assumption) | (simp; omega) | (simp [*]; done)))))) | ((with_reducible refine gate_addr rfl ?_); (first | (refine' ia_slcP HP.out rfl rfl rfl rfl ?_ ?_ ?_) | (refine' ia_slcP HP2.out rfl rfl rfl rfl ?_ ?_ ?_)); rotate_left 1; (focus (first | exact (rfl : (0 : Int) = ((0 : Nat) : Int)) | exact (rfl : (1 : Int) = ((1 : Nat) : Int)) | exact rfl | exact HE1.out | exact HE2.out)); (focus (first | omega | (simp; done) | (simp; omega) | (simp [*]; omega)))))))
        go_ret2
        exact ⟨_, rfl, Or.inl ⟨.inl (by decide), rfl, rfl⟩, st.keep⟩
      · clear h2
        go_enter Tryz.func29, Tryz.ntmps29
        go_wp2_with (first | (go_at_call 16; refine (HV.out _ st.keep).mono ?_; rintro _ _ ⟨rfl, hk⟩; replace st := st.call hk; clear hk) | (go_at_call 56; (with_reducible refine (inRange_v q1 _).mono ?_); rintro _ _ ⟨rfl, hk⟩; replace st := st.call hk; clear hk) | ((with_reducible refine gate_lst ?_); (first | ((with_reducible refine' wpl_ung ?_ ?_ ?_); rotate_left 1; (focus exact rfl); (focus exact rfl)) | ((with_reducible refine gate_load rfl ?_); (first | (refine ia_loadAll st rfl rfl rfl ?_ ?_; (focus (first | rfl | (simp; done) | (simp; assumption) | (simp; omega) | (simp [*]; done)))) | (refine ia_loadC (hb.keep st.keep (by simp)) rfl rfl rfl ?_ ?_; (focus (first | rfl | (simp; done) | (simp; assumption) | (simp; omega) | (simp [*]; done)))) | (refine ia_loadC (hb'.keep st.keep (by simp)) rfl rfl rfl ?_ ?_; (focus (first | rfl | (simp; done) | (simp; assumption) | (simp; omega) | (simp [*]; done)))) | (refine ia_loadC (Cl.of (hb1.keep st.keep (by simp))) rfl rfl rfl ?_ ?_; (focus (first | rfl | (simp; done) | (simp; assumption) | (simp; omega) | (simp [*]; done)))) | (refine ia_loadC (Cl.of (hb2.keep st.keep (by simp))) rfl rfl rfl ?_ ?_; (focus (first | rfl | (simp; done) | (simp; assumption) | (simp; omega) | (simp [*]; done)))))) | ((with_reducible refine gate_addr rfl ?_); (first | (refine' ia_slcP HP.out rfl rfl rfl rfl ?_ ?_ ?_) | (refine' ia_slcP HP2.out rfl rfl rfl rfl ?_ ?_ ?_)); rotate_left 1; (focus (first | exact (rfl : (0 : Int) = ((0 : Nat) : Int)) | exact (rfl : (1 : Int) = ((1 : Nat) : Int)) | exact rfl | exact HE1.out | exact HE2.out)); (focus (first | omega | (simp; done) | (simp; omega) | (simp [*]; omega)))))))
        go_ret2
        exact ⟨_, rfl, Or.inl ⟨.inl (by decide), rfl, rfl⟩, st.keep⟩
  · have HV := hid (fun w' hk => ValidBook_v h n hB (by omega) p c w' (hr.keep (w1 := w') hk))
    have hc1 : evC B i j = 1 := by unfold evC; rw [if_neg (by rw [h]; decide)]
    unfold evR
    rw [hc1, if_neg (by decide)]
    clear hc1 h hB
    go_enter Tryz.func29, Tryz.ntmps29
    go_wp2_with (first | (go_at_call 16; refine (HV.out _ st.keep).mono ?_; rintro _ _ ⟨rfl, hk⟩; replace st := st.call hk; clear hk) | ((with_reducible refine gate_lst ?_); (first | ((with_reducible refine' wpl_ung ?_ ?_ ?_); rotate_left 1; (focus exact rfl); (focus exact rfl)) | ((with_reducible refine gate_load rfl ?_); (first | (refine ia_loadAll st rfl rfl rfl ?_ ?_; (focus (first | rfl | (simp; done) | (simp; assumption) | (simp; omega) | (simp [*]; done)))) | (refine ia_loadC (hb.keep st.keep (by simp)) rfl rfl rfl ?_ ?_; (focus (first | rfl | (simp; done) | (simp; assumption) | (simp; omega) | (simp [*]; done)))) | (refine ia_loadC (hb'.keep st.keep (by simp)) rfl rfl rfl ?_ ?_; (focus (first | rfl | (simp; done) | (simp; assumption) | (simp; omega) | (simp [*]; done)))) | (refine ia_loadC (Cl.of (hb1.keep st.keep (by simp))) rfl rfl rfl ?_ ?_; (focus (first | rfl | (simp; done) | (simp; assumption) | (simp; omega) | (simp [*]; done)))) | (refine ia_loadC (Cl.of (hb2.keep st.keep (by simp))) rfl rfl rfl ?_ ?_; (focus (first | rfl | (simp; done) | (simp; assumption) | (simp; omega) | (simp [*]; done)))))) | ((with_reducible refine gate_addr rfl ?_); (first | (refine' ia_slcP HP.out rfl rfl rfl rfl ?_ ?_ ?_) | (refine' ia_slcP HP2.out rfl rfl rfl rfl ?_ ?_ ?_)); rotate_left 1; (focus (first | exact (rfl : (0 : Int) = ((0 : Nat) : Int)) | exact (rfl : (1 : Int) = ((1 : Nat) : Int)) | exact rfl | exact HE1.out | exact HE2.out)); (focus (first | omega | (simp; done) | (simp; omega) | (simp [*]; omega)))))))
    go_ret2
    exact ⟨_, rfl, Or.inl ⟨.inl (by decide), rfl, rfl⟩, st.keep⟩
end Go.Proofs.YtmfgbkmkcljciaaGreatDoor
/- The laws SameBook and ValidBook: what they answer; no condition. -/
namespace Go.Proofs.YtmfgbkmkcljciaaGreatDoor
open Go.RowKit
set_option linter.unusedSimpArgs false
set_option linter.unusedVariables false
theorem specSameBook_c (A B : List Fm) (n m : Nat) (hA : A.length = n) (hB : B.length = m) (hn : n ≤ 4000000) (hm : m ≤ 4000000) (p p' : Option Addr) (c c' : Nat) (w : World) (hr : Rd w p n (encs fv A)) (hr' : Rd w p' m (encs fv B)) :
    Calls Tryz.prog 15 #[.slice p n c, .slice p' m c'] w fun e w' => e = .returned (.bool (decide (A = B))) ∧ Keep [] w w' := by
  have st := St.start w
  go_enter Tryz.func15, Tryz.ntmps15
  go_wp2_with (first | (go_at_call 47; refine (l02Same_c A B n m hA hB hn hm _ _ _ _ _ (hr.keep st.keep) (hr'.keep st.keep)).mono ?_; rintro _ _ ⟨rfl, hk⟩; replace st := st.call hk; clear hk))
  go_ret
  exact ⟨rfl, st.keep⟩
theorem SameBook_c (A B : List Fm) (n m : Nat) (hA : A.length = n) (hB : B.length = m) (hn : n ≤ 4000000) (hm : m ≤ 4000000) (p p' : Option Addr) (c c' : Nat) (w : World) (hr : Rd w p n (encs fv A)) (hr' : Rd w p' m (encs fv B)) :
    Calls Tryz.prog 14 #[.slice p n c, .slice p' m c'] w fun e w' => e = .returned (.bool (decide (A = B))) ∧ Keep [] w w' := by
  have st := St.start w
  go_enter Tryz.func14, Tryz.ntmps14
  go_wp2_with (first | (go_at_call 46; refine (slicesEqual_c A B n m hA hB hn hm _ _ _ _ _ (hr.keep st.keep) (hr'.keep st.keep)).mono ?_; rintro _ _ ⟨rfl, hk⟩; replace st := st.call hk; clear hk))
  go_ret
  exact ⟨rfl, st.keep⟩
end Go.Proofs.YtmfgbkmkcljciaaGreatDoor
/- How the arguments of a law are read: arrays of numbers, and slices of arrays and structs; no condition. -/
namespace Go.Proofs.YtmfgbkmkcljciaaGreatDoor
open Go.RowKit Go.ChangeShapes Go.WideShapes

theorem okWide_array {P : Program} {w : World} {r : Reach} {base : Nat} {t e : TypeId} {n : Nat} {v : Value} (ht : P.underlying t = some (.array n e)) (h : Value.okWide P w r base t v) : ∃ cs, v = .agg cs ∧ cs.size = P.cellsOf t := by
  simp only [Value.okWide, ht] at h
  obtain ⟨cs, h1, h2, _⟩ := h
  exact ⟨cs, h1, h2⟩
section
variable {H : Type} {enc : TypeId × Value → H} {P : Program} {w : World} {base : Nat} {spare : Nat → Bool} {held : Bool} {t e : TypeId}
theorem u16_of_wf {n : Int} (h : (Lit.int .u16 n).wf = true) : 0 ≤ n ∧ n < 65536 := by
  simp [Lit.wf, IntKind.min, IntKind.max, IntKind.signed, IntKind.bits] at h; omega
/-- Twelve cells of 16 bits. -/
theorem frame_cells {fuel : Nat} {cs : List Value} {x : DataW H × List MemPlace} (ht : P.underlying t = some (.array 12 e)) (he : P.underlying e = some (.int .u16)) (hce : P.cellsOf e = 1) (hct : P.cellsOf t = 12)
    (h : DataW.trod enc P w base spare held fuel t cs = some x) : ∃ f : List Nat, FrOk f ∧ cs = frv f ∧ x.2 = [] := by
  obtain ⟨xs, m, _, rfl, hl, hxs, hx⟩ := DataW.trod_array ht h
  rw [hct] at hl
  have each : ∀ i, i < 12 → ∃ n : Nat, n < 65536 ∧ cs[i]? = some (.int .u16 (n : Int)) ∧ (xs[i]?.map (·.2)) = some [] := by
    intro i hi
    have h1 := hx i hi
    rw [hce, Nat.mul_one] at h1
    cases hxi : xs[i]? with
    | none => rw [List.getElem?_eq_none_iff] at hxi; omega
    | some y =>
      rw [hxi] at h1
      obtain ⟨n, e0, hy, wn⟩ := DataW.trod_int he h1
      have hb := u16_of_wf wn
      have hlt : i < cs.length := by omega
      rw [List.drop_eq_getElem_cons hlt] at e0
      simp only [List.take_succ_cons, List.take_zero, List.cons.injEq, and_true] at e0
      refine ⟨n.toNat, by omega, ?_, ?_⟩
      · rw [List.getElem?_eq_getElem hlt, e0, Int.toNat_of_nonneg hb.1]
      · subst hy; rfl
  have hex : ∃ f : List Nat, f.length = 12 ∧ ∀ i, i < 12 → ∃ n : Nat, f[i]? = some n ∧ n < 65536 ∧ cs[i]? = some (.int .u16 (n : Int)) := by
    refine ⟨(List.range 12).map fun i => if h : i < 12 then (each i h).choose else 0, by simp, fun i hi => ?_⟩
    refine ⟨(each i hi).choose, ?_, (each i hi).choose_spec.1, (each i hi).choose_spec.2.1⟩
    rw [List.getElem?_map, List.getElem?_range hi]
    simp [hi]
  obtain ⟨f, hfl, hf⟩ := hex
  refine ⟨f, ⟨hfl, fun x hx => ?_⟩, ?_, ?_⟩
  · obtain ⟨i, hi, rfl⟩ := List.mem_iff_getElem.1 hx
    obtain ⟨n, e1, h2, _⟩ := hf i (by omega)
    rw [List.getElem?_eq_getElem hi] at e1
    injection e1 with e1; rw [e1]; exact h2
  · apply List.ext_getElem?
    intro i
    by_cases hi : i < 12
    · obtain ⟨n, e1, _, e2⟩ := hf i hi
      rw [e2, frv, List.getElem?_map, e1]; rfl
    · rw [List.getElem?_eq_none (by omega), List.getElem?_eq_none (by rw [frv_length]; omega)]
  · simp only
    rw [List.flatMap_eq_nil_iff]
    intro y hy
    obtain ⟨i, hi, rfl⟩ := List.mem_iff_getElem.1 hy
    obtain ⟨n, _, _, e3⟩ := each i (by omega)
    rw [List.getElem?_eq_getElem hi] at e3
    simpa using e3
theorem open_frame {r : Reach} {b0 : Nat} {v : Value} {d : DataW H} {ps : List MemPlace} (ht : P.underlying t = some (.array 12 e)) (he : P.underlying e = some (.int .u16)) (hce : P.cellsOf e = 1) (hct : P.cellsOf t = 12)
    (hval : Value.okWide P w r b0 t v) (hd : DataW.Trod enc P w base spare held t v d ps) : ∃ f : List Nat, FrOk f ∧ v = .agg (frv f).toArray ∧ ps = [] := by
  obtain ⟨cs, rfl, hs⟩ := okWide_array ht hval
  obtain ⟨fuel, hf⟩ := hd
  obtain ⟨f, hok, e1, e2⟩ := frame_cells ht he hce hct hf
  refine ⟨f, hok, ?_, e2⟩
  simp only [Value.cells] at e1
  rw [← e1]
end
end Go.Proofs.YtmfgbkmkcljciaaGreatDoor
/- How slices among a law's arguments are read; no condition. -/
namespace Go.Proofs.YtmfgbkmkcljciaaGreatDoor
open Go.RowKit Go.ChangeShapes Go.WideShapes
section
variable {H : Type} {enc : TypeId × Value → H} {P : Program} {w : World} {base : Nat} {spare : Nat → Bool} {held : Bool} {t te : TypeId}
theorem cell_spot {a : Addr} {v : Value} (h : w.cell? a = some v) : a = ⟨a.block, a.off, none⟩ ∧ a.block < w.heap.size := by
  unfold World.cell? at h
  split at h
  · rename_i c _ _ hb
    split at h
    · cases h
    · rename_i hs
      refine ⟨?_, (Array.getElem?_eq_some_iff.1 hb).1⟩
      obtain ⟨b, o, s⟩ := a
      cases s with
      | none => rfl
      | some _ => simp at hs
  · cases h
theorem open_vecC {α : Type} (e : α → List Value) {s : Nat} (hs0 : 0 < s) (hes : ∀ a, (e a).length = s) (ht : P.underlying t = some (.slice te)) (hc : P.cellsOf te = s)
    (helem : ∀ fuel cs x, DataW.trod enc P w base spare held fuel te cs = some x → ∃ a : α, cs = e a) {fuel : Nat} {cs : List Value} {x : DataW H × List MemPlace}
    (hf : DataW.trod enc P w base spare held fuel t cs = some x) : ∃ (B : List α) (p : Option Addr) (n c : Nat), B.length = n ∧ cs = [.slice p n c] ∧ n ≤ 9223372036854775807 ∧ Rd w p n (encs e B) := by
  rcases Go.Deep.open_slice ht hf with ⟨hcs, _⟩ | ⟨a, len, cap, m, n, D, Pl, hcs, _, hlc, hcm, hm, hxe, hx⟩
  · exact ⟨[], none, 0, 0, rfl, hcs, by omega, .nil⟩
  · have hlm : len ≤ m := by rw [hm]; split <;> omega
    have each : ∀ i, i < len → ∃ x : α, ∀ j, j < s → w.cell? (a.add (i * s + j)) = (e x)[j]? := by
      intro i hi
      obtain ⟨cs', h1, h2⟩ := hx i (by omega)
      obtain ⟨x, rfl⟩ := helem _ _ _ h2
      rw [hc] at h1
      obtain ⟨_, _, h3⟩ := World.cells?_some h1
      exact ⟨x, fun j hj => by rw [← h3 j hj, Go.Deep.add_add]⟩
    have hB : ∃ B : List α, B.length = len ∧ ∀ i (h : i < B.length), ∀ j, j < s → w.cell? (a.add (i * s + j)) = (e B[i])[j]? := by
      clear hx hm hlm hcm hlc hf hxe hcs
      induction len with
      | zero => exact ⟨[], rfl, fun i h => absurd h (by simp)⟩
      | succ k ih =>
        obtain ⟨B, h1, h2⟩ := ih (fun i hi => each i (by omega))
        obtain ⟨x, hx⟩ := each k (by omega)
        refine ⟨B ++ [x], by simp [h1], fun i h j hj => ?_⟩
        by_cases hik : i < B.length
        · rw [List.getElem_append_left hik]; exact h2 i hik j hj
        · have : i = k := by simp at h; omega
          subst this
          rw [List.getElem_append_right (by omega)]
          simp only [h1, Nat.sub_self, List.getElem_cons_zero]
          exact hx j hj
    obtain ⟨B, hBl, hBc⟩ := hB
    refine ⟨B, some a, len, cap, hBl, hcs, by simp only [maxLen] at hcm; omega, fun hn => ?_⟩
    have h0 := hBc 0 (by omega) 0 hs0
    rw [Nat.zero_mul, Nat.add_zero] at h0
    have ha0 : a.add 0 = a := by simp [Addr.add]
    rw [ha0] at h0
    have hsome : ∃ v, (e B[0])[0]? = some v := ⟨_, List.getElem?_eq_getElem (by rw [hes]; exact hs0)⟩
    obtain ⟨v0, hv0⟩ := hsome
    rw [hv0] at h0
    obtain ⟨hsp, hlt⟩ := cell_spot h0
    refine ⟨a.block, a.off, by rw [← hsp], hlt, fun j u hj => ?_⟩
    have hjl : j < B.length * s := by rw [← encs_length hes]; exact (List.getElem?_eq_some_iff.1 hj).1
    have hk : j / s < B.length := (Nat.div_lt_iff_lt_mul hs0).2 hjl
    have hr : j % s < s := Nat.mod_lt _ hs0
    have hdm : j / s * s + j % s = j := by rw [Nat.mul_comm]; exact Nat.div_add_mod j s
    have h1 := encs_get hes B (j / s) hk (j % s) hr
    rw [hdm, hj] at h1
    have h2 := hBc (j / s) hk (j % s) hr
    rw [hdm, ← h1] at h2
    rw [← h2, hsp, Addr.add_lit]
theorem open_vec {α : Type} (e : α → List Value) {s : Nat} (hs0 : 0 < s) (hes : ∀ a, (e a).length = s) (ht : P.underlying t = some (.slice te)) (hc : P.cellsOf te = s)
    (helem : ∀ fuel cs x, DataW.trod enc P w base spare held fuel te cs = some x → ∃ a : α, cs = e a) {r : Reach} {b0 : Nat} {v : Value} {d : DataW H} {ps : List MemPlace}
    (hval : Value.okWide P w r b0 t v) (hd : DataW.Trod enc P w base spare held t v d ps) : ∃ (B : List α) (p : Option Addr) (n c : Nat), B.length = n ∧ v = .slice p n c ∧ n ≤ 9223372036854775807 ∧ Rd w p n (encs e B) := by
  obtain ⟨a0, len, cap, rfl⟩ := okWide_slice ht hval
  obtain ⟨fuel, hf⟩ := hd
  obtain ⟨B, p, n, c, hB, hcs, hn, hr⟩ := open_vecC e hs0 hes ht hc helem hf
  simp [Value.cells] at hcs
  obtain ⟨rfl, rfl, rfl⟩ := hcs
  exact ⟨B, _, _, _, hB, rfl, hn, hr⟩
theorem open_book {te2 : TypeId} (ht : P.underlying t = some (.slice te)) (he : P.underlying te = some (.array 12 te2)) (he2 : P.underlying te2 = some (.int .u16)) (hce : P.cellsOf te2 = 1) (hct : P.cellsOf te = 12)
    {r : Reach} {b0 : Nat} {v : Value} {d : DataW H} {ps : List MemPlace} (hval : Value.okWide P w r b0 t v) (hd : DataW.Trod enc P w base spare held t v d ps) : ∃ (B : List Fm) (p : Option Addr) (n c : Nat), B.length = n ∧ v = .slice p n c ∧ n ≤ 9223372036854775807 ∧ Rd w p n (encs fv B) :=
  open_vec fv (by decide) fv_len ht hct (fun fuel cs x h => by
    obtain ⟨f, ok, e1, _⟩ := frame_cells he he2 hce hct h
    exact ⟨⟨f, ok⟩, e1⟩) hval hd
theorem open_i64s (ht : P.underlying t = some (.slice te)) (he : P.underlying te = some (.int .i64)) (hct : P.cellsOf te = 1)
    {r : Reach} {b0 : Nat} {v : Value} {d : DataW H} {ps : List MemPlace} (hval : Value.okWide P w r b0 t v) (hd : DataW.Trod enc P w base spare held t v d ps) : ∃ (B : List Int) (p : Option Addr) (n c : Nat), B.length = n ∧ v = .slice p n c ∧ n ≤ 9223372036854775807 ∧ Rd w p n (encs i1 B) :=
  open_vec i1 (by decide) i1_len ht hct (fun fuel cs x h => by
    obtain ⟨n, e0, _⟩ := DataW.trod_int he h
    exact ⟨n, e0⟩) hval hd
end
end Go.Proofs.YtmfgbkmkcljciaaGreatDoor
/- How slices of bytes among a law's arguments are read; no condition. -/
namespace Go.Proofs.YtmfgbkmkcljciaaGreatDoor
open Go.RowKit Go.ChangeShapes Go.WideShapes
section
variable {H : Type} {enc : TypeId × Value → H} {P : Program} {w : World} {base : Nat} {spare : Nat → Bool} {held : Bool} {t te e e2 : TypeId}
def u1 (n : Int) : List Value := [.int .u8 n]
theorem u8_wf {n : Int} (h : (Lit.int .u8 n).wf = true) : 0 ≤ n ∧ n ≤ 255 := by
  simp [Lit.wf, IntKind.min, IntKind.max, IntKind.signed, IntKind.bits] at h; omega
theorem encs_subB {α : Type} {p : α → Prop} (f : α → List Value) (B : List {a : α // p a}) : encs (fun s : {a : α // p a} => f s.1) B = encs f (B.map Subtype.val) := by
  unfold encs
  rw [List.flatMap_map]
theorem open_bytes (ht : P.underlying t = some (.slice te)) (he : P.underlying te = some (.int .u8)) (hct : P.cellsOf te = 1)
    {r : Reach} {b0 : Nat} {v : Value} {d : DataW H} {ps : List MemPlace} (hval : Value.okWide P w r b0 t v) (hd : DataW.Trod enc P w base spare held t v d ps) :
    ∃ (B : List Int) (p : Option Addr) (n c : Nat), B.length = n ∧ v = .slice p n c ∧ n ≤ 9223372036854775807 ∧ Rd w p n (encs u1 B) ∧ ∀ s ∈ B, 0 ≤ s ∧ s ≤ 255 := by
  obtain ⟨B, p, n, c, hB, hv, hn, hr⟩ := open_vec (α := {a : Int // 0 ≤ a ∧ a ≤ 255}) (s := 1) (fun a => u1 a.1) (by decide) (fun a => rfl) ht hct (fun fuel cs x h => by
    obtain ⟨n, e0, _, wf⟩ := DataW.trod_int he h
    exact ⟨⟨n, u8_wf wf⟩, e0⟩) hval hd
  refine ⟨B.map Subtype.val, p, n, c, by simpa using hB, hv, hn, by rw [← encs_subB]; exact hr, fun s hs => ?_⟩
  obtain ⟨a, _, rfl⟩ := List.mem_map.1 hs
  exact a.2
end
end Go.Proofs.YtmfgbkmkcljciaaGreatDoor
/- Numbers picked out of given bytes: what range they have; no condition. -/
namespace Go.Proofs.YtmfgbkmkcljciaaGreatDoor
open Go.RowKit
set_option linter.unusedSimpArgs false
set_option linter.unusedVariables false
@[simp] theorem u1_len (n : Int) : (u1 n).length = 1 := rfl
theorem tU64 : OneT Tryz.prog 80 (.int .u64 0) := oneT_of Tryz.underlying80 rfl (by kernel_rfl) rfl
instance iXPick_1 : OneC Tryz.prog 80 (.int .u64 0) := ⟨tU64⟩
theorem tBy : OneT Tryz.prog 22 (.slice none 0 0) := oneT_of Tryz.underlying22 rfl (by kernel_rfl) rfl
instance iXPick_2 : OneC Tryz.prog 22 (.slice none 0 0) := ⟨tBy⟩
theorem tByS : SlcT Tryz.prog 22 5 1 1 [.int .u8 0] := slcT_of Tryz.underlying22 (.int .u8 0) (by kernel_rfl) rfl (by decide) rfl
instance iXPick_3 : SlcC Tryz.prog 22 5 1 1 [.int .u8 0] := ⟨tByS⟩
instance iXPick_4 : IntC Tryz.prog 5 .u8 := ⟨Tryz.underlying5⟩
theorem fld_src0 (b f : Nat) (w' : World) : (Instr.fieldAt 82 (.pointer (some ⟨b, f, none⟩)) 0).run Tryz.prog w' = .ok (.pointer (some ⟨b, f + 0, none⟩)) w' := by
  simp [Instr.fieldAt, run_underlying Tryz.underlying82, Instr.sureAddr]
  go_simp
theorem fld_src1 (b f : Nat) (w' : World) : (Instr.fieldAt 82 (.pointer (some ⟨b, f, none⟩)) 1).run Tryz.prog w' = .ok (.pointer (some ⟨b, f + 1, none⟩)) w' := by
  simp [Instr.fieldAt, run_underlying Tryz.underlying82, Instr.sureAddr]
  go_simp
instance iXPick_5 : FldC Tryz.prog 82 0 0 := ⟨fld_src0⟩
instance iXPick_6 : FldC Tryz.prog 82 1 1 := ⟨fld_src1⟩
theorem fld_src2 (b f : Nat) (w' : World) : (Instr.fieldAt 82 (.pointer (some ⟨b, f, none⟩)) 2).run Tryz.prog w' = .ok (.pointer (some ⟨b, f + 2, none⟩)) w' := by
  simp [Instr.fieldAt, run_underlying Tryz.underlying82, Instr.sureAddr]
  go_simp
instance iXPick_7 : FldC Tryz.prog 82 2 2 := ⟨fld_src2⟩
section
variable {P : Program} {ops : Array Oper} {rest : List Oper} {o : Oper} {a : Act} {w0 : World} {Q : Act → Prop} {M : List Nat} {L : List (Nat × List Value × TypeId)} {b k : Nat} {T : TypeId} {x : Operand} {z v : Value} {cs : List Value}
theorem iq_load1M {f : Nat} (hb : Cl w0 b f cs) (hM : b ∉ M) (hgd : o.guard = none) (ho : o.op = .load T x) (hx : a.eval x = .pointer (some ⟨b, f + k, none⟩)) [hT : OneC P T z] (hv : cs[k]? = some v)
    (h : wpQuiet P ops (fun w' => St M w0 w' L) Q rest (a.put o.dst v)) : wpQuiet P ops (fun w' => St M w0 w' L) Q (o :: rest) a := wpq_load1 hgd T x ho _ hx hT.out v (fun _ hw => (hb.keep hw.keep hM).cellv hv) h
end
def srcC (p : Option Addr) (m c : Nat) (k : Nat) (s : Int) : List Value := [.slice p m c, .int .i64 k, .int .u64 s]
end Go.Proofs.YtmfgbkmkcljciaaGreatDoor
/- The next number out of given bytes; no condition. -/
namespace Go.Proofs.YtmfgbkmkcljciaaGreatDoor
open Go.RowKit
set_option linter.unusedSimpArgs false
set_option linter.unusedVariables false
theorem and255 {x : Int} (h0 : 0 ≤ x) (h1 : x < 18446744073709551616) : 0 ≤ wrap64 (bits .and .u64 x 255) ∧ wrap64 (bits .and .u64 x 255) ≤ 255 := by
  have h := bits_mask .u64 64 (by decide) (fun n a b => IntWalk.u64_in n ⟨a, by omega⟩) 8 (by decide) x h0 h1
  have h' : bits .and .u64 x 255 = x % 256 := h
  rw [h', show wrap64 (x % 256) = x % 256 from IntWalk.wrap64_in _ (by omega)]
  omega
theorem u64_rng (x : Int) : 0 ≤ IntKind.u64.wrap x ∧ IntKind.u64.wrap x < 18446744073709551616 := by unfold IntKind.wrap; simp [IntKind.signed, IntKind.bits]; omega
set_option maxHeartbeats 1000000 in
set_option maxRecDepth 100000 in
theorem next_c (B : List Int) (m : Nat) (hB : B.length = m) (hm : m ≤ 4096) (h8 : ∀ x ∈ B, 0 ≤ x ∧ x ≤ 255) (p : Option Addr) (c g k : Nat) (s : Int) (T : TypeId) (hk : k ≤ 10000) (hs0 : 0 ≤ s) (hs1 : s < 18446744073709551616) (w : World) (hr : Rd w p m (encs u1 B)) (hg : Blk w g (srcC p m c k s) T) (hne : 0 < m → ∀ b f, p = some ⟨b, f, none⟩ → b ≠ g) :
    Calls Tryz.prog 83 #[.pointer (some ⟨g, 0, none⟩)] w fun e w' => ∃ v s' : Int, e = .returned (.int .i64 v) ∧ (0 ≤ v ∧ v ≤ 255) ∧ (0 ≤ s' ∧ s' < 18446744073709551616) ∧ Keep [g] w w' ∧ Blk w' g (srcC p m c (k + 1) s') T := by
  have st := St.start1 hg
  unfold srcC at st ⊢
  have HB := hid hB
  have N0 : Hid (([.slice p m c, .int .i64 k, .int .u64 s] : List Value)[0]? = some (.slice p m c)) := hid rfl
  have N1 : Hid (([.slice p m c, .int .i64 k, .int .u64 s] : List Value)[1]? = some (.int .i64 k)) := hid rfl
  have N2 : Hid (([.slice p m c, .int .i64 k, .int .u64 s] : List Value)[2]? = some (.int .u64 s)) := hid rfl
  by_cases hlt : k < m
  · have hd : decide ((k : Int) < (m : Int)) = true := by simpa using hlt
    obtain ⟨b, f, hp, hcl⟩ := hr (by omega)
    have HP := hid hp
    have hM : b ∉ [g] := by simpa using hne (by omega) b f hp
    have hkB : k < B.length := by rw [hB]; exact hlt
    have hb := hcl.seg u1_len hkB
    have hx := h8 _ (List.getElem_mem hkB)
    obtain ⟨x, hxe⟩ : ∃ x, B[k] = x := ⟨_, rfl⟩
    rw [hxe] at hb hx
    have N3 : Hid ((encs u1 B)[k]? = some (.int .u8 x)) := hid (by have := encs_get u1_len B k hkB 0 (by omega); rw [Nat.mul_one, Nat.add_zero, hxe] at this; exact this)
    obtain ⟨hx0, hx1⟩ := hx
    clear hxe hp hkB hg
    go_enter Tryz.func83, Tryz.ntmps83
    go_wp2_with (first | ((with_reducible refine gate_lst ?_); (first | ((with_reducible refine gate_load rfl ?_); (first | (refine' ia_load1 st rfl rfl rfl ?_ ?_; rotate_left 1; (focus (first | exact N0.out | exact N1.out | exact N2.out | exact N3.out | exact N4.out | exact N5.out | exact G2.out | exact G3.out | exact G4.out | exact G0.out | exact G1.out | (refine frv_get _ _ ?_; (first | omega | (simp; done) | (simp; omega) | (simp [*]; omega))) | exact rfl))) | (refine' ia_load1Z (hb.keep st.keep (by simp)) rfl rfl rfl ?_ ?_; rotate_left 1; (focus exact rfl)) | (refine' ia_load1Z (hb'.keep st.keep (by simp)) rfl rfl rfl ?_ ?_; rotate_left 1; (focus exact rfl)) | (refine' ia_load1C (hb.keep st.keep (by simp)) rfl rfl rfl ?_ ?_; rotate_left 1; (focus (first | exact N0.out | exact N1.out | exact N2.out | exact N3.out | exact N4.out | exact N5.out | exact G2.out | exact G3.out | exact G4.out | exact G0.out | exact G1.out | (refine frv_get _ _ ?_; (first | omega | (simp; done) | (simp; omega) | (simp [*]; omega))) | exact rfl))) | (refine' ia_load1C (hb'.keep st.keep (by simp)) rfl rfl rfl ?_ ?_; rotate_left 1; (focus (first | exact N0.out | exact N1.out | exact N2.out | exact N3.out | exact N4.out | exact N5.out | exact G2.out | exact G3.out | exact G4.out | exact G0.out | exact G1.out | (refine frv_get _ _ ?_; (first | omega | (simp; done) | (simp; omega) | (simp [*]; omega))) | exact rfl))) | (refine' ia_load1B (hb1.keep st.keep (by simp)) rfl rfl rfl ?_ ?_; rotate_left 1; (focus (first | exact N0.out | exact N1.out | exact N2.out | exact N3.out | exact N4.out | exact N5.out | exact G2.out | exact G3.out | exact G4.out | exact G0.out | exact G1.out | (refine frv_get _ _ ?_; (first | omega | (simp; done) | (simp; omega) | (simp [*]; omega))) | exact rfl))) | (refine' ia_load1B (hb2.keep st.keep (by simp)) rfl rfl rfl ?_ ?_; rotate_left 1; (focus (first | exact N0.out | exact N1.out | exact N2.out | exact N3.out | exact N4.out | exact N5.out | exact G2.out | exact G3.out | exact G4.out | exact G0.out | exact G1.out | (refine frv_get _ _ ?_; (first | omega | (simp; done) | (simp; omega) | (simp [*]; omega))) | exact rfl))) | (refine ia_loadAll st rfl rfl rfl ?_ ?_; (focus (first | rfl | (simp; done) | (simp; assumption) | (simp; omega) | (simp [*]; done)))) | (refine ia_loadC (hb.keep st.keep (by simp)) rfl rfl rfl ?_ ?_; (focus (first | rfl | (simp; done) | (simp; assumption) | (simp; omega) | (simp [*]; done)))) | (refine ia_loadC (hb'.keep st.keep (by simp)) rfl rfl rfl ?_ ?_; (focus (first | rfl | (simp; done) | (simp; assumption) | (simp; omega) | (simp [*]; done)))) | (refine ia_loadC (Cl.of (hb1.keep st.keep (by simp))) rfl rfl rfl ?_ ?_; (focus (first | rfl | (simp; done) | (simp; assumption) | (simp; omega) | (simp [*]; done)))) | (refine ia_loadC (Cl.of (hb2.keep st.keep (by simp))) rfl rfl rfl ?_ ?_; (focus (first | rfl | (simp; done) | (simp; assumption) | (simp; omega) | (simp [*]; done)))))) | ((with_reducible refine gate_store rfl ?_); (first | (refine ia_store1 st rfl rfl rfl rfl rfl rfl ?_ ?_; (focus (first | omega | (simp; done) | (simp; omega) | (simp [*]; omega))); clear st; intro _ st; (try simp only [Act.put, Act.eval, Array.getD_eq_getD_getElem?, List.getElem?_toArray, List.getElem?_cons_succ, List.getElem?_cons_zero, Option.getD_some, List.setIfInBounds_toArray, List.getElem_toArray, List.getElem_cons_succ, List.getElem_cons_zero, List.set_cons_zero, List.set_cons_succ] at st)) | (refine ia_storeAll st rfl rfl rfl rfl ?_ ?_ ?_ ?_; (focus (first | rfl | (simp; done) | (simp; assumption) | (simp; omega) | (simp [*]; done))); (focus (first | exact frv_one _ | exact fv_one _ | exact p8_one _ | exact k3_one _ | exact i1_one _ | (simp [Value.oneCell']; done))); (focus (first | rfl | (simp; done) | (simp; assumption) | (simp; omega) | (simp [*]; done))); clear st; intro _ st; (try simp only [List.set_cons_zero, List.set_cons_succ] at st)) | (refine ia_storeSeg st rfl rfl rfl rfl ?_ ?_ ?_ ?_; (focus (first | rfl | (simp; done) | (simp; assumption) | (simp; omega) | (simp [*]; done))); (focus (first | exact frv_one _ | exact fv_one _ | exact p8_one _ | exact k3_one _ | exact i1_one _ | (simp [Value.oneCell']; done))); (focus (first | omega | (simp; done) | (simp; omega) | (simp [*]; omega))); clear st; intro _ st; (try simp only [List.set_cons_zero, List.set_cons_succ] at st)))) | ((with_reducible refine gate_addr rfl ?_); (first | (refine' ia_slcP HP.out rfl rfl rfl rfl ?_ ?_ ?_) | (refine' ia_slcP HP2.out rfl rfl rfl rfl ?_ ?_ ?_)); rotate_left 1; (focus (first | exact (rfl : (0 : Int) = ((0 : Nat) : Int)) | exact (rfl : (1 : Int) = ((1 : Nat) : Int)) | exact rfl | exact HE1.out | exact HE2.out)); (focus (first | omega | (simp; done) | (simp; omega) | (simp [*]; omega)))))) | ((with_reducible refine qgate_nil ?_); refine wpQuiet_nil ?_; (try intro _ st)) | ((with_reducible refine qgate_any ?_); (first | ((with_reducible refine qgate_load rfl ?_); (refine' iq_load1M hcl hM rfl rfl rfl ?_ ?_; rotate_left 1; (focus exact N3.out))) | ((first | (with_reducible refine qg_assign rfl ?_) | (with_reducible refine qg_move rfl ?_) | (with_reducible refine qg_nil rfl ?_)); refine qa_val (fun _ _ => rfl) rfl ?_) | ((with_reducible refine qgate_load rfl ?_); (first | (refine' iq_load1 rfl rfl rfl ?_ ?_; rotate_left 1; (focus (first | exact N0.out | exact N1.out | exact N2.out | exact N3.out | exact N4.out | exact N5.out | exact G2.out | exact G3.out | exact G4.out | exact G0.out | exact G1.out | (refine frv_get _ _ ?_; (first | omega | (simp; done) | (simp; omega) | (simp [*]; omega))) | exact rfl))) | (refine' iq_load1Z hb rfl rfl rfl ?_ ?_; rotate_left 1; (focus exact rfl)) | (refine' iq_load1Z hb' rfl rfl rfl ?_ ?_; rotate_left 1; (focus exact rfl)) | (refine' iq_load1C hb rfl rfl rfl ?_ ?_; rotate_left 1; (focus (first | exact N0.out | exact N1.out | exact N2.out | exact N3.out | exact N4.out | exact N5.out | exact G2.out | exact G3.out | exact G4.out | exact G0.out | exact G1.out | (refine frv_get _ _ ?_; (first | omega | (simp; done) | (simp; omega) | (simp [*]; omega))) | exact rfl))) | (refine' iq_load1C hb' rfl rfl rfl ?_ ?_; rotate_left 1; (focus (first | exact N0.out | exact N1.out | exact N2.out | exact N3.out | exact N4.out | exact N5.out | exact G2.out | exact G3.out | exact G4.out | exact G0.out | exact G1.out | (refine frv_get _ _ ?_; (first | omega | (simp; done) | (simp; omega) | (simp [*]; omega))) | exact rfl))))) | ((with_reducible refine qgate_addr rfl ?_); (first | (refine' iq_slc rfl rfl rfl rfl ?_ ?_ ?_) | (refine' iq_slcP HP.out rfl rfl rfl rfl ?_ ?_ ?_) | (refine' iq_slcP HP2.out rfl rfl rfl rfl ?_ ?_ ?_) | (refine' iq_arr rfl rfl rfl rfl ?_ ?_ ?_)); rotate_left 1; (focus (first | exact (rfl : (0 : Int) = ((0 : Nat) : Int)) | exact (rfl : (1 : Int) = ((1 : Nat) : Int)) | exact rfl | exact HE1.out | exact HE2.out)); (focus (first | omega | (simp; done) | (simp; omega) | (simp [*]; omega)))) | ((with_reducible refine qgate_field rfl ?_); refine iq_field rfl rfl rfl ?_) | ((with_reducible refine qgate_conv rfl ?_); refine' iq_conv rfl rfl rfl ?_ ?_; rotate_left 1; (focus (first | (refine IntWalk.i64_in _ ?_; omega) | (refine i8_wrap ?_ ?_ <;> omega) | exact rfl))) | ((with_reducible refine qgate_bin rfl ?_); refine' qa_bin ?_ rfl rfl rfl rfl ?_; rotate_left 1; (focus (first | exact run_add64 (by omega) (by omega) | exact run_sub64 (by omega) (by omega) | (intro w'; go_simp; exact rfl)))) | ((with_reducible refine qgate_call rfl ?_); refine iq_len rfl rfl rfl ?_)); all_goals (try (simp only [Nat.zero_add, Nat.add_zero, Nat.mul_one, Nat.zero_mul, Act.put, Act.eval, Array.getD_eq_getD_getElem?, List.getElem?_toArray, List.getElem?_cons_succ, List.getElem?_cons_zero, Option.getD_some, List.setIfInBounds_toArray, List.set_cons_succ, List.set_cons_zero, List.getElem_toArray, List.getElem_cons_succ, List.getElem_cons_zero]))) | ((with_reducible refine rgate (id := 2) ?_); refine wp_region_quiet_st (id := 2) st (by kernel_rfl) (by kernel_rfl) ?_; clear st) | ((with_reducible refine rgate (id := 3) ?_); refine wp_region_quiet_st (id := 3) st (by kernel_rfl) (by kernel_rfl) ?_; clear st) | ((with_reducible refine rgate (id := 6) ?_); refine wp_region_quiet_st (id := 6) st (by kernel_rfl) (by kernel_rfl) ?_; clear st))
    go_ret
    exact ⟨x, _, rfl, ⟨hx0, hx1⟩, u64_rng _, st.keep, by simpa using st.get .here⟩
  · have hd : decide ((k : Int) < (m : Int)) = false := by simpa using hlt
    have hd2 : decide ((k : Int) + 1 ≤ (m : Int)) = false := by simp; omega
    clear hg
    go_enter Tryz.func83, Tryz.ntmps83
    go_wp2_with (first | ((with_reducible refine gate_lst ?_); (first | ((with_reducible refine gate_load rfl ?_); (first | (refine' ia_load1 st rfl rfl rfl ?_ ?_; rotate_left 1; (focus (first | exact N0.out | exact N1.out | exact N2.out | exact N3.out | exact N4.out | exact N5.out | exact G2.out | exact G3.out | exact G4.out | exact G0.out | exact G1.out | (refine frv_get _ _ ?_; (first | omega | (simp; done) | (simp; omega) | (simp [*]; omega))) | exact rfl))) | (refine' ia_load1Z (hb.keep st.keep (by simp)) rfl rfl rfl ?_ ?_; rotate_left 1; (focus exact rfl)) | (refine' ia_load1Z (hb'.keep st.keep (by simp)) rfl rfl rfl ?_ ?_; rotate_left 1; (focus exact rfl)) | (refine' ia_load1C (hb.keep st.keep (by simp)) rfl rfl rfl ?_ ?_; rotate_left 1; (focus (first | exact N0.out | exact N1.out | exact N2.out | exact N3.out | exact N4.out | exact N5.out | exact G2.out | exact G3.out | exact G4.out | exact G0.out | exact G1.out | (refine frv_get _ _ ?_; (first | omega | (simp; done) | (simp; omega) | (simp [*]; omega))) | exact rfl))) | (refine' ia_load1C (hb'.keep st.keep (by simp)) rfl rfl rfl ?_ ?_; rotate_left 1; (focus (first | exact N0.out | exact N1.out | exact N2.out | exact N3.out | exact N4.out | exact N5.out | exact G2.out | exact G3.out | exact G4.out | exact G0.out | exact G1.out | (refine frv_get _ _ ?_; (first | omega | (simp; done) | (simp; omega) | (simp [*]; omega))) | exact rfl))) | (refine' ia_load1B (hb1.keep st.keep (by simp)) rfl rfl rfl ?_ ?_; rotate_left 1; (focus (first | exact N0.out | exact N1.out | exact N2.out | exact N3.out | exact N4.out | exact N5.out | exact G2.out | exact G3.out | exact G4.out | exact G0.out | exact G1.out | (refine frv_get _ _ ?_; (first | omega | (simp; done) | (simp; omega) | (simp [*]; omega))) | exact rfl))) | (refine' ia_load1B (hb2.keep st.keep (by simp)) rfl rfl rfl ?_ ?_; rotate_left 1; (focus (first | exact N0.out | exact N1.out | exact N2.out | exact N3.out | exact N4.out | exact N5.out | exact G2.out | exact G3.out | exact G4.out | exact G0.out | exact G1.out | (refine frv_get _ _ ?_; (first | omega | (simp; done) | (simp; omega) | (simp [*]; omega))) | exact rfl))) | (refine ia_loadAll st rfl rfl rfl ?_ ?_; (focus (first | rfl | (simp; done) | (simp; assumption) | (simp; omega) | (simp [*]; done)))) | (refine ia_loadC (hb.keep st.keep (by simp)) rfl rfl rfl ?_ ?_; (focus (first | rfl | (simp; done) | (simp; assumption) | (simp; omega) | (simp [*]; done)))) | (refine ia_loadC (hb'.keep st.keep (by simp)) rfl rfl rfl ?_ ?_; (focus (first | rfl | (simp; done) | (simp; assumption) | (simp; omega) | (simp [*]; done)))) | (refine ia_loadC (Cl.of (hb1.keep st.keep (by simp))) rfl rfl rfl ?_ ?_; (focus (first | rfl | (simp; done) | (simp; assumption) | (simp; omega) | (simp [*]; done)))) | (refine ia_loadC (Cl.of (hb2.keep st.keep (by simp))) rfl rfl rfl ?_ ?_; (focus (first | rfl | (simp; done) | (simp; assumption) | (simp; omega) | (simp [*]; done)))))) | ((with_reducible refine gate_store rfl ?_); (first | (refine ia_store1 st rfl rfl rfl rfl rfl rfl ?_ ?_; (focus (first | omega | (simp; done) | (simp; omega) | (simp [*]; omega))); clear st; intro _ st; (try simp only [Act.put, Act.eval, Array.getD_eq_getD_getElem?, List.getElem?_toArray, List.getElem?_cons_succ, List.getElem?_cons_zero, Option.getD_some, List.setIfInBounds_toArray, List.getElem_toArray, List.getElem_cons_succ, List.getElem_cons_zero, List.set_cons_zero, List.set_cons_succ] at st)) | (refine ia_storeAll st rfl rfl rfl rfl ?_ ?_ ?_ ?_; (focus (first | rfl | (simp; done) | (simp; assumption) | (simp; omega) | (simp [*]; done))); (focus (first | exact frv_one _ | exact fv_one _ | exact p8_one _ | exact k3_one _ | exact i1_one _ | (simp [Value.oneCell']; done))); (focus (first | rfl | (simp; done) | (simp; assumption) | (simp; omega) | (simp [*]; done))); clear st; intro _ st; (try simp only [List.set_cons_zero, List.set_cons_succ] at st)) | (refine ia_storeSeg st rfl rfl rfl rfl ?_ ?_ ?_ ?_; (focus (first | rfl | (simp; done) | (simp; assumption) | (simp; omega) | (simp [*]; done))); (focus (first | exact frv_one _ | exact fv_one _ | exact p8_one _ | exact k3_one _ | exact i1_one _ | (simp [Value.oneCell']; done))); (focus (first | omega | (simp; done) | (simp; omega) | (simp [*]; omega))); clear st; intro _ st; (try simp only [List.set_cons_zero, List.set_cons_succ] at st)))) | ((with_reducible refine gate_addr rfl ?_); (first | (refine' ia_slcP HP.out rfl rfl rfl rfl ?_ ?_ ?_) | (refine' ia_slcP HP2.out rfl rfl rfl rfl ?_ ?_ ?_)); rotate_left 1; (focus (first | exact (rfl : (0 : Int) = ((0 : Nat) : Int)) | exact (rfl : (1 : Int) = ((1 : Nat) : Int)) | exact rfl | exact HE1.out | exact HE2.out)); (focus (first | omega | (simp; done) | (simp; omega) | (simp [*]; omega)))))) | ((with_reducible refine qgate_nil ?_); refine wpQuiet_nil ?_; (try intro _ st)) | ((with_reducible refine qgate_any ?_); (first | ((first | (with_reducible refine qg_assign rfl ?_) | (with_reducible refine qg_move rfl ?_) | (with_reducible refine qg_nil rfl ?_)); refine qa_val (fun _ _ => rfl) rfl ?_) | ((with_reducible refine qgate_load rfl ?_); (first | (refine' iq_load1 rfl rfl rfl ?_ ?_; rotate_left 1; (focus (first | exact N0.out | exact N1.out | exact N2.out | exact N3.out | exact N4.out | exact N5.out | exact G2.out | exact G3.out | exact G4.out | exact G0.out | exact G1.out | (refine frv_get _ _ ?_; (first | omega | (simp; done) | (simp; omega) | (simp [*]; omega))) | exact rfl))) | (refine' iq_load1Z hb rfl rfl rfl ?_ ?_; rotate_left 1; (focus exact rfl)) | (refine' iq_load1Z hb' rfl rfl rfl ?_ ?_; rotate_left 1; (focus exact rfl)) | (refine' iq_load1C hb rfl rfl rfl ?_ ?_; rotate_left 1; (focus (first | exact N0.out | exact N1.out | exact N2.out | exact N3.out | exact N4.out | exact N5.out | exact G2.out | exact G3.out | exact G4.out | exact G0.out | exact G1.out | (refine frv_get _ _ ?_; (first | omega | (simp; done) | (simp; omega) | (simp [*]; omega))) | exact rfl))) | (refine' iq_load1C hb' rfl rfl rfl ?_ ?_; rotate_left 1; (focus (first | exact N0.out | exact N1.out | exact N2.out | exact N3.out | exact N4.out | exact N5.out | exact G2.out | exact G3.out | exact G4.out | exact G0.out | exact G1.out | (refine frv_get _ _ ?_; (first | omega | (simp; done) | (simp; omega) | (simp [*]; omega))) | exact rfl))))) | ((with_reducible refine qgate_addr rfl ?_); (first | (refine' iq_slc rfl rfl rfl rfl ?_ ?_ ?_) | (refine' iq_slcP HP.out rfl rfl rfl rfl ?_ ?_ ?_) | (refine' iq_slcP HP2.out rfl rfl rfl rfl ?_ ?_ ?_) | (refine' iq_arr rfl rfl rfl rfl ?_ ?_ ?_)); rotate_left 1; (focus (first | exact (rfl : (0 : Int) = ((0 : Nat) : Int)) | exact (rfl : (1 : Int) = ((1 : Nat) : Int)) | exact rfl | exact HE1.out | exact HE2.out)); (focus (first | omega | (simp; done) | (simp; omega) | (simp [*]; omega)))) | ((with_reducible refine qgate_field rfl ?_); refine iq_field rfl rfl rfl ?_) | ((with_reducible refine qgate_conv rfl ?_); refine' iq_conv rfl rfl rfl ?_ ?_; rotate_left 1; (focus (first | (refine IntWalk.i64_in _ ?_; omega) | (refine i8_wrap ?_ ?_ <;> omega) | exact rfl))) | ((with_reducible refine qgate_bin rfl ?_); refine' qa_bin ?_ rfl rfl rfl rfl ?_; rotate_left 1; (focus (first | exact run_add64 (by omega) (by omega) | exact run_sub64 (by omega) (by omega) | (intro w'; go_simp; exact rfl)))) | ((with_reducible refine qgate_call rfl ?_); refine iq_len rfl rfl rfl ?_)); all_goals (try (simp only [Nat.zero_add, Nat.add_zero, Nat.mul_one, Nat.zero_mul, Act.put, Act.eval, Array.getD_eq_getD_getElem?, List.getElem?_toArray, List.getElem?_cons_succ, List.getElem?_cons_zero, Option.getD_some, List.setIfInBounds_toArray, List.set_cons_succ, List.set_cons_zero, List.getElem_toArray, List.getElem_cons_succ, List.getElem_cons_zero]))) | ((with_reducible refine rgate (id := 2) ?_); refine wp_region_quiet_st (id := 2) st (by kernel_rfl) (by kernel_rfl) ?_; clear st) | ((with_reducible refine rgate (id := 3) ?_); refine wp_region_quiet_st (id := 3) st (by kernel_rfl) (by kernel_rfl) ?_; clear st) | ((with_reducible refine rgate (id := 6) ?_); refine wp_region_quiet_st (id := 6) st (by kernel_rfl) (by kernel_rfl) ?_; clear st))
    obtain ⟨r0, r1⟩ := and255 (x := IntKind.u64.wrap (IntKind.u64.wrap (IntKind.u64.wrap (s * 6364136223846793005)) + 1442695040888963407) / 1099511627776) (by have := u64_rng (IntKind.u64.wrap (IntKind.u64.wrap (s * 6364136223846793005)) + 1442695040888963407); omega) (by have := u64_rng (IntKind.u64.wrap (IntKind.u64.wrap (s * 6364136223846793005)) + 1442695040888963407); omega)
    go_ret
    exact ⟨_, _, rfl, ⟨r0, r1⟩, u64_rng _, st.keep, by simpa using st.get .here⟩
end Go.Proofs.YtmfgbkmkcljciaaGreatDoor
/- A number picked out of given bytes lies below its bound; no condition. -/
namespace Go.Proofs.YtmfgbkmkcljciaaGreatDoor
open Go.RowKit
set_option linter.unusedSimpArgs false
set_option linter.unusedVariables false
theorem rem_b {x n : Int} (h0 : 0 ≤ x) (hn : 0 < n) : 0 ≤ x % n ∧ x % n < n := ⟨Int.emod_nonneg _ (by omega), Int.emod_lt_of_pos _ hn⟩
theorem Rd.keepM {w w1 : World} {p : Option Addr} {m g : Nat} {cs : List Value} (h : Rd w p m cs) (hk : Keep [g] w w1) (hne : 0 < m → ∀ b f, p = some ⟨b, f, none⟩ → b ≠ g) : Rd w1 p m cs := fun hn => by
  obtain ⟨b, f, hp, hc⟩ := h hn
  exact ⟨b, f, hp, hc.keep hk (by simpa using hne hn b f hp)⟩
set_option maxRecDepth 100000 in
theorem pick_c (B : List Int) (m : Nat) (hB : B.length = m) (hm : m ≤ 4096) (h8 : ∀ x ∈ B, 0 ≤ x ∧ x ≤ 255) (p : Option Addr) (c g k : Nat) (s : Int) (T : TypeId) (n : Int) (hn : 1 < n) (hn2 : n ≤ 65536) (hk : k ≤ 9998) (hs0 : 0 ≤ s) (hs1 : s < 18446744073709551616) (w : World) (hr : Rd w p m (encs u1 B)) (hg : Blk w g (srcC p m c k s) T) (hne : 0 < m → ∀ b f, p = some ⟨b, f, none⟩ → b ≠ g) :
    Calls Tryz.prog 62 #[.pointer (some ⟨g, 0, none⟩), .int .i64 n] w fun e w' => ∃ (v s' : Int) (k' : Nat), e = .returned (.int .i64 v) ∧ (0 ≤ v ∧ v < n) ∧ (0 ≤ s' ∧ s' < 18446744073709551616) ∧ k' ≤ k + 2 ∧ Keep [g] w w' ∧ Blk w' g (srcC p m c k' s') T := by
  have st := St.start1 hg
  have hd : decide (n ≤ 1) = false := by simp; omega
  have HN := hid (fun (w' : World) (hk : Keep [g] w w') (hb : Blk w' g (srcC p m c k s) T) => next_c B m hB hm h8 p c g k s T (by omega) hs0 hs1 w' (hr.keepM hk hne) hb hne)
  have HN2 := hid (fun (w' : World) (s1 : Int) (hk : Keep [g] w w') (hb : Blk w' g (srcC p m c (k + 1) s1) T) (h1 : 0 ≤ s1) (h2 : s1 < 18446744073709551616) => next_c B m hB hm h8 p c g (k + 1) s1 T (by omega) h1 h2 w' (hr.keepM hk hne) hb hne)
  by_cases h2 : 200 < n
  · have hd2 : decide (200 < n) = true := by simpa using h2
    go_enter Tryz.func62, Tryz.ntmps62
    go_wp2_with (first | (go_at_call 83; (first | (refine (HN.out _ st.keep (st.get .here)).mono ?_; rintro _ _ ⟨v, s1, rfl, ⟨hv0, hv1⟩, ⟨hs2, hs3⟩, hk, hb1⟩) | (refine (HN2.out _ _ st.keep (st.get .here) hs2 hs3).mono ?_; rintro _ _ ⟨v2, s2, rfl, ⟨hv2, hv3⟩, ⟨hs4, hs5⟩, hk, hb1⟩)); replace st := st.wrote .here hk hb1; clear hk hb1))
    obtain ⟨r0, r1⟩ := rem_b (x := v * 256 + v2) (n := n) (by omega) (by omega)
    go_ret
    exact ⟨_, s2, k + 1 + 1, rfl, ⟨r0, r1⟩, ⟨hs4, hs5⟩, by omega, st.keep, st.get .here⟩
  · have hd2 : decide (200 < n) = false := by simpa using h2
    go_enter Tryz.func62, Tryz.ntmps62
    go_wp2_with (first | (go_at_call 83; (refine (HN.out _ st.keep (st.get .here)).mono ?_; rintro _ _ ⟨v, s1, rfl, ⟨hv0, hv1⟩, ⟨hs2, hs3⟩, hk, hb1⟩); replace st := st.wrote .here hk hb1; clear hk hb1))
    obtain ⟨r0, r1⟩ := rem_b (x := v) (n := n) (by omega) (by omega)
    go_ret
    exact ⟨_, s1, k + 1, rfl, ⟨r0, r1⟩, ⟨hs2, hs3⟩, by omega, st.keep, st.get .here⟩
theorem l00From_c (p : Option Addr) (m c : Nat) (w : World) :
    Calls Tryz.prog 32 #[.slice p m c] w fun e w' => ∃ g, e = .returned (.pointer (some ⟨g, 0, none⟩)) ∧ w.heap.size ≤ g ∧ Blk w' g (srcC p m c 0 0) 82 ∧ Keep [] w w' := by
  have st := St.start w
  go_enter Tryz.func32, Tryz.ntmps32
  go_wp2_with (first | ((with_reducible refine gate_lst ?_); (first | ((with_reducible refine gate_box rfl ?_); (first | (refine ia_box (sl := 5) st rfl rfl rfl rfl rfl ?_; clear st; intro B5 _ st))))))
  go_ret
  exact ⟨_, rfl, (by have := st.ge _ (List.Mem.head _); simpa using this), st.get .here, st.keep⟩
end Go.Proofs.YtmfgbkmkcljciaaGreatDoor
/- Lists of numbers compared where they are equal; bytes that are too many; a number out of bytes; no condition. -/
namespace Go.Proofs.YtmfgbkmkcljciaaGreatDoor
open Go.RowKit
set_option linter.unusedSimpArgs false
set_option linter.unusedVariables false
set_option maxRecDepth 100000
theorem l00Same_c (B : List Int) (n : Nat) (hn : B.length = n) (hn4 : n ≤ 4000000) (p p' : Option Addr) (c c' : Nat) (w : World) (hr : Rd w p n (encs i1 B)) (hr' : Rd w p' n (encs i1 B)) :
    Calls Tryz.prog 49 #[.slice p n c, .slice p' n c'] w fun e w' => e = .returned (.bool true) ∧ Keep [] w w' := by
  have st := St.start w
  have hnn : (((n : Nat) : Int) != ((n : Nat) : Int)) = false := by simp
  replace hn := hid hn
  go_enter Tryz.func49, Tryz.ntmps49
  go_wp2_with (first | ((with_reducible refine gate_lst ?_); (first | ((with_reducible refine gate_load rfl ?_); (first | (refine' ia_load1 st rfl rfl rfl ?_ ?_; rotate_left 1; (focus (first | exact N0.out | exact N1.out | exact N2.out | exact N3.out | exact N4.out | exact N5.out | exact G2.out | exact G3.out | exact G4.out | exact G0.out | exact G1.out | (refine frv_get _ _ ?_; (first | omega | (simp; done) | (simp; omega) | (simp [*]; omega))) | exact rfl))) | (refine' ia_load1Z (hb.keep st.keep (by simp)) rfl rfl rfl ?_ ?_; rotate_left 1; (focus exact rfl)) | (refine' ia_load1Z (hb'.keep st.keep (by simp)) rfl rfl rfl ?_ ?_; rotate_left 1; (focus exact rfl)) | (refine' ia_load1C (hb.keep st.keep (by simp)) rfl rfl rfl ?_ ?_; rotate_left 1; (focus (first | exact N0.out | exact N1.out | exact N2.out | exact N3.out | exact N4.out | exact N5.out | exact G2.out | exact G3.out | exact G4.out | exact G0.out | exact G1.out | (refine frv_get _ _ ?_; (first | omega | (simp; done) | (simp; omega) | (simp [*]; omega))) | exact rfl))) | (refine' ia_load1C (hb'.keep st.keep (by simp)) rfl rfl rfl ?_ ?_; rotate_left 1; (focus (first | exact N0.out | exact N1.out | exact N2.out | exact N3.out | exact N4.out | exact N5.out | exact G2.out | exact G3.out | exact G4.out | exact G0.out | exact G1.out | (refine frv_get _ _ ?_; (first | omega | (simp; done) | (simp; omega) | (simp [*]; omega))) | exact rfl))) | (refine' ia_load1B (hb1.keep st.keep (by simp)) rfl rfl rfl ?_ ?_; rotate_left 1; (focus (first | exact N0.out | exact N1.out | exact N2.out | exact N3.out | exact N4.out | exact N5.out | exact G2.out | exact G3.out | exact G4.out | exact G0.out | exact G1.out | (refine frv_get _ _ ?_; (first | omega | (simp; done) | (simp; omega) | (simp [*]; omega))) | exact rfl))) | (refine' ia_load1B (hb2.keep st.keep (by simp)) rfl rfl rfl ?_ ?_; rotate_left 1; (focus (first | exact N0.out | exact N1.out | exact N2.out | exact N3.out | exact N4.out | exact N5.out | exact G2.out | exact G3.out | exact G4.out | exact G0.out | exact G1.out | (refine frv_get _ _ ?_; (first | omega | (simp; done) | (simp; omega) | (simp [*]; omega))) | exact rfl))))) | ((with_reducible refine gate_addr rfl ?_); (first | (refine' ia_slcP HP.out rfl rfl rfl rfl ?_ ?_ ?_) | (refine' ia_slcP HP2.out rfl rfl rfl rfl ?_ ?_ ?_)); rotate_left 1; (focus (first | exact (rfl : (0 : Int) = ((0 : Nat) : Int)) | exact (rfl : (1 : Int) = ((1 : Nat) : Int)) | exact rfl | exact HE1.out | exact HE2.out)); (focus (first | omega | (simp; done) | (simp; omega) | (simp [*]; omega)))))) | ((with_reducible refine qgate_nil ?_); refine wpQuiet_nil ?_; (try intro _ st)) | ((with_reducible refine qgate_any ?_); (first | ((first | (with_reducible refine qg_move rfl ?_)); refine qa_val (fun _ _ => rfl) rfl ?_) | ((with_reducible refine qgate_load rfl ?_); (first | (refine' iq_load1 rfl rfl rfl ?_ ?_; rotate_left 1; (focus (first | exact N0.out | exact N1.out | exact N2.out | exact N3.out | exact N4.out | exact N5.out | exact G2.out | exact G3.out | exact G4.out | exact G0.out | exact G1.out | (refine frv_get _ _ ?_; (first | omega | (simp; done) | (simp; omega) | (simp [*]; omega))) | exact rfl))) | (refine' iq_load1Z hb rfl rfl rfl ?_ ?_; rotate_left 1; (focus exact rfl)) | (refine' iq_load1Z hb' rfl rfl rfl ?_ ?_; rotate_left 1; (focus exact rfl)) | (refine' iq_load1C hb rfl rfl rfl ?_ ?_; rotate_left 1; (focus (first | exact N0.out | exact N1.out | exact N2.out | exact N3.out | exact N4.out | exact N5.out | exact G2.out | exact G3.out | exact G4.out | exact G0.out | exact G1.out | (refine frv_get _ _ ?_; (first | omega | (simp; done) | (simp; omega) | (simp [*]; omega))) | exact rfl))) | (refine' iq_load1C hb' rfl rfl rfl ?_ ?_; rotate_left 1; (focus (first | exact N0.out | exact N1.out | exact N2.out | exact N3.out | exact N4.out | exact N5.out | exact G2.out | exact G3.out | exact G4.out | exact G0.out | exact G1.out | (refine frv_get _ _ ?_; (first | omega | (simp; done) | (simp; omega) | (simp [*]; omega))) | exact rfl))))) | ((with_reducible refine qgate_addr rfl ?_); (first | (refine' iq_slc rfl rfl rfl rfl ?_ ?_ ?_) | (refine' iq_slcP HP.out rfl rfl rfl rfl ?_ ?_ ?_) | (refine' iq_slcP HP2.out rfl rfl rfl rfl ?_ ?_ ?_) | (refine' iq_arr rfl rfl rfl rfl ?_ ?_ ?_)); rotate_left 1; (focus (first | exact (rfl : (0 : Int) = ((0 : Nat) : Int)) | exact (rfl : (1 : Int) = ((1 : Nat) : Int)) | exact rfl | exact HE1.out | exact HE2.out)); (focus (first | omega | (simp; done) | (simp; omega) | (simp [*]; omega)))) | ((with_reducible refine qgate_bin rfl ?_); refine' qa_bin ?_ rfl rfl rfl rfl ?_; rotate_left 1; (focus (first | exact run_add64 (by omega) (by omega) | exact run_sub64 (by omega) (by omega) | (intro w'; go_simp; exact rfl))))); all_goals (try (simp only [Nat.zero_add, Nat.add_zero, Nat.mul_one, Nat.zero_mul, Act.put, Act.eval, Array.getD_eq_getD_getElem?, List.getElem?_toArray, List.getElem?_cons_succ, List.getElem?_cons_zero, Option.getD_some, List.setIfInBounds_toArray, List.set_cons_succ, List.set_cons_zero, List.getElem_toArray, List.getElem_cons_succ, List.getElem_cons_zero]))) | ((with_reducible refine rgate (id := 6) ?_); refine wp_region_quiet_st (id := 6) st (by kernel_rfl) (by kernel_rfl) ?_; clear st))
  go_loopw [5] (fun i wr => ∃ k : Nat, k ≤ n ∧ i = .int .i64 k ∧ St [] w wr []) (fun i _ => n - (intOf i).toNat)
  case atStart => exact ⟨0, by omega, rfl, st⟩
  case round =>
    clear st
    obtain ⟨k, hk, rfl, st⟩ := hrel
    by_cases hlt : k < n
    · have hd : decide ((k : Int) < (n : Int)) = true := by simpa using hlt
      obtain ⟨b, f, hp, hcl⟩ := hr (by omega)
      obtain ⟨b', f', hp', hcl'⟩ := hr' (by omega)
      have HP := hid hp
      have HP2 := hid hp'
      have hkB : k < B.length := by rw [hn.out]; exact hlt
      have hb := hcl.seg i1_len hkB
      have hb' := hcl'.seg i1_len hkB
      obtain ⟨x, hx⟩ : ∃ x, B[k] = x := ⟨_, rfl⟩
      have hxx : (x != x) = false := by simp
      rw [hx, Nat.mul_one] at hb hb'
      clear hx hp hcl hp' hcl' hkB
      go_wp2_with (first | ((with_reducible refine gate_lst ?_); (first | ((with_reducible refine gate_load rfl ?_); (first | (refine' ia_load1 st rfl rfl rfl ?_ ?_; rotate_left 1; (focus (first | exact N0.out | exact N1.out | exact N2.out | exact N3.out | exact N4.out | exact N5.out | exact G2.out | exact G3.out | exact G4.out | exact G0.out | exact G1.out | (refine frv_get _ _ ?_; (first | omega | (simp; done) | (simp; omega) | (simp [*]; omega))) | exact rfl))) | (refine' ia_load1Z (hb.keep st.keep (by simp)) rfl rfl rfl ?_ ?_; rotate_left 1; (focus exact rfl)) | (refine' ia_load1Z (hb'.keep st.keep (by simp)) rfl rfl rfl ?_ ?_; rotate_left 1; (focus exact rfl)) | (refine' ia_load1C (hb.keep st.keep (by simp)) rfl rfl rfl ?_ ?_; rotate_left 1; (focus (first | exact N0.out | exact N1.out | exact N2.out | exact N3.out | exact N4.out | exact N5.out | exact G2.out | exact G3.out | exact G4.out | exact G0.out | exact G1.out | (refine frv_get _ _ ?_; (first | omega | (simp; done) | (simp; omega) | (simp [*]; omega))) | exact rfl))) | (refine' ia_load1C (hb'.keep st.keep (by simp)) rfl rfl rfl ?_ ?_; rotate_left 1; (focus (first | exact N0.out | exact N1.out | exact N2.out | exact N3.out | exact N4.out | exact N5.out | exact G2.out | exact G3.out | exact G4.out | exact G0.out | exact G1.out | (refine frv_get _ _ ?_; (first | omega | (simp; done) | (simp; omega) | (simp [*]; omega))) | exact rfl))) | (refine' ia_load1B (hb1.keep st.keep (by simp)) rfl rfl rfl ?_ ?_; rotate_left 1; (focus (first | exact N0.out | exact N1.out | exact N2.out | exact N3.out | exact N4.out | exact N5.out | exact G2.out | exact G3.out | exact G4.out | exact G0.out | exact G1.out | (refine frv_get _ _ ?_; (first | omega | (simp; done) | (simp; omega) | (simp [*]; omega))) | exact rfl))) | (refine' ia_load1B (hb2.keep st.keep (by simp)) rfl rfl rfl ?_ ?_; rotate_left 1; (focus (first | exact N0.out | exact N1.out | exact N2.out | exact N3.out | exact N4.out | exact N5.out | exact G2.out | exact G3.out | exact G4.out | exact G0.out | exact G1.out | (refine frv_get _ _ ?_; (first | omega | (simp; done) | (simp; omega) | (simp [*]; omega))) | exact rfl))))) | ((with_reducible refine gate_addr rfl ?_); (first | (refine' ia_slcP HP.out rfl rfl rfl rfl ?_ ?_ ?_) | (refine' ia_slcP HP2.out rfl rfl rfl rfl ?_ ?_ ?_)); rotate_left 1; (focus (first | exact (rfl : (0 : Int) = ((0 : Nat) : Int)) | exact (rfl : (1 : Int) = ((1 : Nat) : Int)) | exact rfl | exact HE1.out | exact HE2.out)); (focus (first | omega | (simp; done) | (simp; omega) | (simp [*]; omega)))))) | ((with_reducible refine qgate_nil ?_); refine wpQuiet_nil ?_; (try intro _ st)) | ((with_reducible refine qgate_any ?_); (first | ((with_reducible refine qgate_dst (N := 25) rfl ?_); ((with_reducible refine qgate_bin rfl ?_); refine wpq_bin rfl _ _ _ _ _ rfl _ _ _ _ rfl rfl (.bool false) (fun w' => by go_simp) ?_)) | ((first | (with_reducible refine qg_move rfl ?_)); refine qa_val (fun _ _ => rfl) rfl ?_) | ((with_reducible refine qgate_load rfl ?_); (first | (refine' iq_load1 rfl rfl rfl ?_ ?_; rotate_left 1; (focus (first | exact N0.out | exact N1.out | exact N2.out | exact N3.out | exact N4.out | exact N5.out | exact G2.out | exact G3.out | exact G4.out | exact G0.out | exact G1.out | (refine frv_get _ _ ?_; (first | omega | (simp; done) | (simp; omega) | (simp [*]; omega))) | exact rfl))) | (refine' iq_load1Z hb rfl rfl rfl ?_ ?_; rotate_left 1; (focus exact rfl)) | (refine' iq_load1Z hb' rfl rfl rfl ?_ ?_; rotate_left 1; (focus exact rfl)) | (refine' iq_load1C hb rfl rfl rfl ?_ ?_; rotate_left 1; (focus (first | exact N0.out | exact N1.out | exact N2.out | exact N3.out | exact N4.out | exact N5.out | exact G2.out | exact G3.out | exact G4.out | exact G0.out | exact G1.out | (refine frv_get _ _ ?_; (first | omega | (simp; done) | (simp; omega) | (simp [*]; omega))) | exact rfl))) | (refine' iq_load1C hb' rfl rfl rfl ?_ ?_; rotate_left 1; (focus (first | exact N0.out | exact N1.out | exact N2.out | exact N3.out | exact N4.out | exact N5.out | exact G2.out | exact G3.out | exact G4.out | exact G0.out | exact G1.out | (refine frv_get _ _ ?_; (first | omega | (simp; done) | (simp; omega) | (simp [*]; omega))) | exact rfl))))) | ((with_reducible refine qgate_addr rfl ?_); (first | (refine' iq_slc rfl rfl rfl rfl ?_ ?_ ?_) | (refine' iq_slcP HP.out rfl rfl rfl rfl ?_ ?_ ?_) | (refine' iq_slcP HP2.out rfl rfl rfl rfl ?_ ?_ ?_) | (refine' iq_arr rfl rfl rfl rfl ?_ ?_ ?_)); rotate_left 1; (focus (first | exact (rfl : (0 : Int) = ((0 : Nat) : Int)) | exact (rfl : (1 : Int) = ((1 : Nat) : Int)) | exact rfl | exact HE1.out | exact HE2.out)); (focus (first | omega | (simp; done) | (simp; omega) | (simp [*]; omega)))) | ((with_reducible refine qgate_bin rfl ?_); refine' qa_bin ?_ rfl rfl rfl rfl ?_; rotate_left 1; (focus (first | exact run_add64 (by omega) (by omega) | exact run_sub64 (by omega) (by omega) | (intro w'; go_simp; exact rfl))))); all_goals (try (simp only [Nat.zero_add, Nat.add_zero, Nat.mul_one, Nat.zero_mul, Act.put, Act.eval, Array.getD_eq_getD_getElem?, List.getElem?_toArray, List.getElem?_cons_succ, List.getElem?_cons_zero, Option.getD_some, List.setIfInBounds_toArray, List.set_cons_succ, List.set_cons_zero, List.getElem_toArray, List.getElem_cons_succ, List.getElem_cons_zero]))) | ((with_reducible refine rgate (id := 6) ?_); refine wp_region_quiet_st (id := 6) st (by kernel_rfl) (by kernel_rfl) ?_; clear st))
      go_roundw
      case rel => exact ⟨k + 1, by omega, by go_num, st⟩
      case measure => simp [intOf]; omega
    · obtain rfl : k = n := by omega
      go_wp2_with (first | ((with_reducible refine gate_lst ?_); (first | ((with_reducible refine gate_load rfl ?_); (first | (refine' ia_load1 st rfl rfl rfl ?_ ?_; rotate_left 1; (focus (first | exact N0.out | exact N1.out | exact N2.out | exact N3.out | exact N4.out | exact N5.out | exact G2.out | exact G3.out | exact G4.out | exact G0.out | exact G1.out | (refine frv_get _ _ ?_; (first | omega | (simp; done) | (simp; omega) | (simp [*]; omega))) | exact rfl))) | (refine' ia_load1Z (hb.keep st.keep (by simp)) rfl rfl rfl ?_ ?_; rotate_left 1; (focus exact rfl)) | (refine' ia_load1Z (hb'.keep st.keep (by simp)) rfl rfl rfl ?_ ?_; rotate_left 1; (focus exact rfl)) | (refine' ia_load1C (hb.keep st.keep (by simp)) rfl rfl rfl ?_ ?_; rotate_left 1; (focus (first | exact N0.out | exact N1.out | exact N2.out | exact N3.out | exact N4.out | exact N5.out | exact G2.out | exact G3.out | exact G4.out | exact G0.out | exact G1.out | (refine frv_get _ _ ?_; (first | omega | (simp; done) | (simp; omega) | (simp [*]; omega))) | exact rfl))) | (refine' ia_load1C (hb'.keep st.keep (by simp)) rfl rfl rfl ?_ ?_; rotate_left 1; (focus (first | exact N0.out | exact N1.out | exact N2.out | exact N3.out | exact N4.out | exact N5.out | exact G2.out | exact G3.out | exact G4.out | exact G0.out | exact G1.out | (refine frv_get _ _ ?_; (first | omega | (simp; done) | (simp; omega) | (simp [*]; omega))) | exact rfl))) | (refine' ia_load1B (hb1.keep st.keep (by simp)) rfl rfl rfl ?_ ?_; rotate_left 1; (focus (first | exact N0.out | exact N1.out | exact N2.out | exact N3.out | exact N4.out | exact N5.out | exact G2.out | exact G3.out | exact G4.out | exact G0.out | exact G1.out | (refine frv_get _ _ ?_; (first | omega | (simp; done) | (simp; omega) | (simp [*]; omega))) | exact rfl))) | (refine' ia_load1B (hb2.keep st.keep (by simp)) rfl rfl rfl ?_ ?_; rotate_left 1; (focus (first | exact N0.out | exact N1.out | exact N2.out | exact N3.out | exact N4.out | exact N5.out | exact G2.out | exact G3.out | exact G4.out | exact G0.out | exact G1.out | (refine frv_get _ _ ?_; (first | omega | (simp; done) | (simp; omega) | (simp [*]; omega))) | exact rfl))))) | ((with_reducible refine gate_addr rfl ?_); (first | (refine' ia_slcP HP.out rfl rfl rfl rfl ?_ ?_ ?_) | (refine' ia_slcP HP2.out rfl rfl rfl rfl ?_ ?_ ?_)); rotate_left 1; (focus (first | exact (rfl : (0 : Int) = ((0 : Nat) : Int)) | exact (rfl : (1 : Int) = ((1 : Nat) : Int)) | exact rfl | exact HE1.out | exact HE2.out)); (focus (first | omega | (simp; done) | (simp; omega) | (simp [*]; omega)))))) | ((with_reducible refine qgate_nil ?_); refine wpQuiet_nil ?_; (try intro _ st)) | ((with_reducible refine qgate_any ?_); (first | ((first | (with_reducible refine qg_move rfl ?_)); refine qa_val (fun _ _ => rfl) rfl ?_) | ((with_reducible refine qgate_load rfl ?_); (first | (refine' iq_load1 rfl rfl rfl ?_ ?_; rotate_left 1; (focus (first | exact N0.out | exact N1.out | exact N2.out | exact N3.out | exact N4.out | exact N5.out | exact G2.out | exact G3.out | exact G4.out | exact G0.out | exact G1.out | (refine frv_get _ _ ?_; (first | omega | (simp; done) | (simp; omega) | (simp [*]; omega))) | exact rfl))) | (refine' iq_load1Z hb rfl rfl rfl ?_ ?_; rotate_left 1; (focus exact rfl)) | (refine' iq_load1Z hb' rfl rfl rfl ?_ ?_; rotate_left 1; (focus exact rfl)) | (refine' iq_load1C hb rfl rfl rfl ?_ ?_; rotate_left 1; (focus (first | exact N0.out | exact N1.out | exact N2.out | exact N3.out | exact N4.out | exact N5.out | exact G2.out | exact G3.out | exact G4.out | exact G0.out | exact G1.out | (refine frv_get _ _ ?_; (first | omega | (simp; done) | (simp; omega) | (simp [*]; omega))) | exact rfl))) | (refine' iq_load1C hb' rfl rfl rfl ?_ ?_; rotate_left 1; (focus (first | exact N0.out | exact N1.out | exact N2.out | exact N3.out | exact N4.out | exact N5.out | exact G2.out | exact G3.out | exact G4.out | exact G0.out | exact G1.out | (refine frv_get _ _ ?_; (first | omega | (simp; done) | (simp; omega) | (simp [*]; omega))) | exact rfl))))) | ((with_reducible refine qgate_addr rfl ?_); (first | (refine' iq_slc rfl rfl rfl rfl ?_ ?_ ?_) | (refine' iq_slcP HP.out rfl rfl rfl rfl ?_ ?_ ?_) | (refine' iq_slcP HP2.out rfl rfl rfl rfl ?_ ?_ ?_) | (refine' iq_arr rfl rfl rfl rfl ?_ ?_ ?_)); rotate_left 1; (focus (first | exact (rfl : (0 : Int) = ((0 : Nat) : Int)) | exact (rfl : (1 : Int) = ((1 : Nat) : Int)) | exact rfl | exact HE1.out | exact HE2.out)); (focus (first | omega | (simp; done) | (simp; omega) | (simp [*]; omega)))) | ((with_reducible refine qgate_bin rfl ?_); refine' qa_bin ?_ rfl rfl rfl rfl ?_; rotate_left 1; (focus (first | exact run_add64 (by omega) (by omega) | exact run_sub64 (by omega) (by omega) | (intro w'; go_simp; exact rfl))))); all_goals (try (simp only [Nat.zero_add, Nat.add_zero, Nat.mul_one, Nat.zero_mul, Act.put, Act.eval, Array.getD_eq_getD_getElem?, List.getElem?_toArray, List.getElem?_cons_succ, List.getElem?_cons_zero, Option.getD_some, List.setIfInBounds_toArray, List.set_cons_succ, List.set_cons_zero, List.getElem_toArray, List.getElem_cons_succ, List.getElem_cons_zero]))) | ((with_reducible refine rgate (id := 6) ?_); refine wp_region_quiet_st (id := 6) st (by kernel_rfl) (by kernel_rfl) ?_; clear st))
      go_ret
      exact ⟨rfl, st.keep⟩
theorem A2Same_c (B : List Int) (n : Nat) (hn : B.length = n) (hn4 : n ≤ 4000000) (p p' : Option Addr) (c c' : Nat) (w : World) (hr : Rd w p n (encs i1 B)) (hr' : Rd w p' n (encs i1 B)) :
    Calls Tryz.prog 17 #[.slice p n c, .slice p' n c'] w fun e w' => e = .returned (.bool true) ∧ Keep [] w w' := by
  have st := St.start w
  have HS := hid (fun w' (hk : Keep [] w w') => l00Same_c B n hn hn4 p p' c c' w' (hr.keep hk) (hr'.keep hk))
  go_enter Tryz.func17, Tryz.ntmps17
  go_wp2_with (first | (go_at_call 49; refine (HS.out _ st.keep).mono ?_; rintro _ _ ⟨rfl, hk⟩; replace st := st.call hk; clear hk))
  go_ret
  exact ⟨rfl, st.keep⟩
theorem a2Long_c (n m : Nat) (p p' : Option Addr) (c c' : Nat) (w : World) :
    Calls Tryz.prog 4 #[.slice p n c, .slice p' m c'] w fun e w' => e = .returned (.bool (decide (3000 < n) || decide (3000 < m))) ∧ Keep [] w w' := by
  have st := St.start w
  by_cases h1 : 3000 < n
  · have d1 : decide ((3000 : Int) < (n : Int)) = true := by simp; omega
    rw [show decide (3000 < n) = true by simpa using h1, Bool.true_or]
    go_enter Tryz.func4, Tryz.ntmps4
    go_wp2_with (first | ((with_reducible refine gate_lst ?_); (first | ((with_reducible refine' wpl_ung ?_ ?_ ?_); rotate_left 1; (focus exact rfl); (focus exact rfl)))))
    go_ret
    exact ⟨rfl, st.keep⟩
  · have d1 : decide ((3000 : Int) < (n : Int)) = false := by simp; omega
    rw [show decide (3000 < n) = false by simpa using h1, Bool.false_or]
    by_cases h2 : 3000 < m
    · have d2 : decide ((3000 : Int) < (m : Int)) = true := by simp; omega
      rw [show decide (3000 < m) = true by simpa using h2]
      go_enter Tryz.func4, Tryz.ntmps4
      go_wp2_with (first | ((with_reducible refine gate_lst ?_); (first | ((with_reducible refine' wpl_ung ?_ ?_ ?_); rotate_left 1; (focus exact rfl); (focus exact rfl)))))
      go_ret
      exact ⟨rfl, st.keep⟩
    · have d2 : decide ((3000 : Int) < (m : Int)) = false := by simp; omega
      rw [show decide (3000 < m) = false by simpa using h2]
      go_enter Tryz.func4, Tryz.ntmps4
      go_wp2_with (first | ((with_reducible refine gate_lst ?_); (first | ((with_reducible refine' wpl_ung ?_ ?_ ?_); rotate_left 1; (focus exact rfl); (focus exact rfl)))))
      go_ret
      exact ⟨rfl, st.keep⟩
def At2 (n : Int) (w : World) (e : Ending) (w' : World) : Prop := ∃ v : Int, e = .returned (.int .i64 v) ∧ (0 ≤ v ∧ v < n) ∧ Keep [] w w'
theorem run_remX {P : Program} {T : TypeId} {n d r : Int} (hd : d ≠ 0) (h : n.tmod d = r) (h1 : -9223372036854775808 ≤ r) (h2 : r ≤ 9223372036854775807) (w : World) : (binOp .rem T (.int .i64 n) (.int .i64 d)).run P w = .ok (.int .i64 r) w := by
  subst h
  have e := IntWalk.i64_in _ ⟨h1, h2⟩
  go_simp
theorem a2At_c {p : Option Addr} {m c : Nat} {a : Nat} {n : Int} {w : World} (hm : m ≤ 4096) (ha : a ≤ 4096) (hn : 1 ≤ n) (hn2 : n ≤ 65536) (B : List Int) (hB : B.length = m) (h8 : ∀ x ∈ B, 0 ≤ x ∧ x ≤ 255) (hr : Rd w p m (encs u1 B)) :
    Calls Tryz.prog 24 #[.slice p m c, .int .i64 a, .int .i64 n] w (At2 n w) := by
  have st := St.start w
  by_cases hlt : m ≤ a
  · have hd : decide ((m : Int) ≤ (a : Int)) = true := by simp; omega
    go_enter Tryz.func24, Tryz.ntmps24
    go_wp2_with (first | ((with_reducible refine gate_lst ?_); (first | ((with_reducible refine' wpl_ung ?_ ?_ ?_); rotate_left 1; (focus exact rfl); (focus exact rfl)) | ((with_reducible refine gate_load rfl ?_); (first | (refine' ia_load1 st rfl rfl rfl ?_ ?_; rotate_left 1; (focus (first | exact N0.out | exact N1.out | exact N2.out | exact N3.out | exact N4.out | exact N5.out | exact G2.out | exact G3.out | exact G4.out | exact G0.out | exact G1.out | (refine frv_get _ _ ?_; (first | omega | (simp; done) | (simp; omega) | (simp [*]; omega))) | exact rfl))) | (refine' ia_load1Z (hb.keep st.keep (by simp)) rfl rfl rfl ?_ ?_; rotate_left 1; (focus exact rfl)) | (refine' ia_load1Z (hb'.keep st.keep (by simp)) rfl rfl rfl ?_ ?_; rotate_left 1; (focus exact rfl)) | (refine' ia_load1C (hb.keep st.keep (by simp)) rfl rfl rfl ?_ ?_; rotate_left 1; (focus (first | exact N0.out | exact N1.out | exact N2.out | exact N3.out | exact N4.out | exact N5.out | exact G2.out | exact G3.out | exact G4.out | exact G0.out | exact G1.out | (refine frv_get _ _ ?_; (first | omega | (simp; done) | (simp; omega) | (simp [*]; omega))) | exact rfl))) | (refine' ia_load1C (hb'.keep st.keep (by simp)) rfl rfl rfl ?_ ?_; rotate_left 1; (focus (first | exact N0.out | exact N1.out | exact N2.out | exact N3.out | exact N4.out | exact N5.out | exact G2.out | exact G3.out | exact G4.out | exact G0.out | exact G1.out | (refine frv_get _ _ ?_; (first | omega | (simp; done) | (simp; omega) | (simp [*]; omega))) | exact rfl))) | (refine' ia_load1B (hb1.keep st.keep (by simp)) rfl rfl rfl ?_ ?_; rotate_left 1; (focus (first | exact N0.out | exact N1.out | exact N2.out | exact N3.out | exact N4.out | exact N5.out | exact G2.out | exact G3.out | exact G4.out | exact G0.out | exact G1.out | (refine frv_get _ _ ?_; (first | omega | (simp; done) | (simp; omega) | (simp [*]; omega))) | exact rfl))) | (refine' ia_load1B (hb2.keep st.keep (by simp)) rfl rfl rfl ?_ ?_; rotate_left 1; (focus (first | exact N0.out | exact N1.out | exact N2.out | exact N3.out | exact N4.out | exact N5.out | exact G2.out | exact G3.out | exact G4.out | exact G0.out | exact G1.out | (refine frv_get _ _ ?_; (first | omega | (simp; done) | (simp; omega) | (simp [*]; omega))) | exact rfl))))) | ((with_reducible refine gate_addr rfl ?_); (first | (refine' ia_slcP HP.out rfl rfl rfl rfl ?_ ?_ ?_) | (refine' ia_slcP HP2.out rfl rfl rfl rfl ?_ ?_ ?_)); rotate_left 1; (focus (first | exact (rfl : (0 : Int) = ((0 : Nat) : Int)) | exact (rfl : (1 : Int) = ((1 : Nat) : Int)) | exact rfl | exact HE1.out | exact HE2.out)); (focus (first | omega | (simp; done) | (simp; omega) | (simp [*]; omega)))))))
    go_ret
    exact ⟨0, rfl, by omega, st.keep⟩
  · have hd : decide ((m : Int) ≤ (a : Int)) = false := by simp; omega
    have hd2 : decide (n < 1) = false := by simp; omega
    obtain ⟨b, f, hp, hcl⟩ := hr (by omega)
    have HP := hid hp
    have hkB : a < B.length := by rw [hB]; omega
    have hb := hcl.seg u1_len hkB
    have hx := h8 _ (List.getElem_mem hkB)
    obtain ⟨x, hxe⟩ : ∃ x, B[a] = x := ⟨_, rfl⟩
    rw [hxe] at hb hx
    obtain ⟨hx0, hx1⟩ := hx
    obtain ⟨r, hr⟩ : ∃ r, x % n = r := ⟨_, rfl⟩
    have hr0 : 0 ≤ r ∧ r < n := by rw [← hr]; exact rem_b hx0 (by omega)
    have HR : Hid (x.tmod n = r) := hid (by rw [Int.tmod_eq_emod_of_nonneg hx0]; exact hr)
    clear hxe hp hkB hcl hr
    go_enter Tryz.func24, Tryz.ntmps24
    go_wp2_with (first | ((with_reducible refine gate_dst (N := 19) rfl ?_); ((with_reducible refine gate_conv rfl ?_); refine wpl_conv rfl _ _ _ rfl _ _ _ x rfl rfl (by kernel_rfl) (IntWalk.i64_in _ (by omega)) ?_)) | ((with_reducible refine gate_dst (N := 21) rfl ?_); ((with_reducible refine gate_bin rfl ?_); refine wpl_bin rfl _ _ _ _ _ rfl _ _ _ _ rfl rfl (.int .i64 r) (fun w' => run_remX (by omega) HR.out (by omega) (by omega) w') ?_)) | ((with_reducible refine gate_lst ?_); (first | ((with_reducible refine' wpl_ung ?_ ?_ ?_); rotate_left 1; (focus exact rfl); (focus exact rfl)) | ((with_reducible refine gate_load rfl ?_); (first | (refine' ia_load1 st rfl rfl rfl ?_ ?_; rotate_left 1; (focus (first | exact N0.out | exact N1.out | exact N2.out | exact N3.out | exact N4.out | exact N5.out | exact G2.out | exact G3.out | exact G4.out | exact G0.out | exact G1.out | (refine frv_get _ _ ?_; (first | omega | (simp; done) | (simp; omega) | (simp [*]; omega))) | exact rfl))) | (refine' ia_load1Z (hb.keep st.keep (by simp)) rfl rfl rfl ?_ ?_; rotate_left 1; (focus exact rfl)) | (refine' ia_load1Z (hb'.keep st.keep (by simp)) rfl rfl rfl ?_ ?_; rotate_left 1; (focus exact rfl)) | (refine' ia_load1C (hb.keep st.keep (by simp)) rfl rfl rfl ?_ ?_; rotate_left 1; (focus (first | exact N0.out | exact N1.out | exact N2.out | exact N3.out | exact N4.out | exact N5.out | exact G2.out | exact G3.out | exact G4.out | exact G0.out | exact G1.out | (refine frv_get _ _ ?_; (first | omega | (simp; done) | (simp; omega) | (simp [*]; omega))) | exact rfl))) | (refine' ia_load1C (hb'.keep st.keep (by simp)) rfl rfl rfl ?_ ?_; rotate_left 1; (focus (first | exact N0.out | exact N1.out | exact N2.out | exact N3.out | exact N4.out | exact N5.out | exact G2.out | exact G3.out | exact G4.out | exact G0.out | exact G1.out | (refine frv_get _ _ ?_; (first | omega | (simp; done) | (simp; omega) | (simp [*]; omega))) | exact rfl))) | (refine' ia_load1B (hb1.keep st.keep (by simp)) rfl rfl rfl ?_ ?_; rotate_left 1; (focus (first | exact N0.out | exact N1.out | exact N2.out | exact N3.out | exact N4.out | exact N5.out | exact G2.out | exact G3.out | exact G4.out | exact G0.out | exact G1.out | (refine frv_get _ _ ?_; (first | omega | (simp; done) | (simp; omega) | (simp [*]; omega))) | exact rfl))) | (refine' ia_load1B (hb2.keep st.keep (by simp)) rfl rfl rfl ?_ ?_; rotate_left 1; (focus (first | exact N0.out | exact N1.out | exact N2.out | exact N3.out | exact N4.out | exact N5.out | exact G2.out | exact G3.out | exact G4.out | exact G0.out | exact G1.out | (refine frv_get _ _ ?_; (first | omega | (simp; done) | (simp; omega) | (simp [*]; omega))) | exact rfl))))) | ((with_reducible refine gate_addr rfl ?_); (first | (refine' ia_slcP HP.out rfl rfl rfl rfl ?_ ?_ ?_) | (refine' ia_slcP HP2.out rfl rfl rfl rfl ?_ ?_ ?_)); rotate_left 1; (focus (first | exact (rfl : (0 : Int) = ((0 : Nat) : Int)) | exact (rfl : (1 : Int) = ((1 : Nat) : Int)) | exact rfl | exact HE1.out | exact HE2.out)); (focus (first | omega | (simp; done) | (simp; omega) | (simp [*]; omega)))))))
    go_ret
    exact ⟨r, rfl, hr0, st.keep⟩
end Go.Proofs.YtmfgbkmkcljciaaGreatDoor
/- Drawn values, whichever they are; no condition. -/
namespace Go.Proofs.YtmfgbkmkcljciaaGreatDoor
open Go.RowKit
set_option linter.unusedSimpArgs false
set_option linter.unusedVariables false
set_option maxHeartbeats 1000000 in
theorem one_c (B : List Int) (m : Nat) (hB : B.length = m) (hm : m ≤ 4096) (h8 : ∀ x ∈ B, 0 ≤ x ∧ x ≤ 255) (p : Option Addr) (c g k : Nat) (s : Int) (T : TypeId) (n : Int) (hn : 1 < n) (hn2 : n ≤ 65536) (hk : k ≤ 9998) (hs0 : 0 ≤ s) (hs1 : s < 18446744073709551616) (w : World) (hr : Rd w p m (encs u1 B)) (hg : Blk w g (srcC p m c k s) T) (hne : 0 < m → ∀ b f, p = some ⟨b, f, none⟩ → b ≠ g) :
    Calls Tryz.prog 82 #[.pointer (some ⟨g, 0, none⟩), .int .i64 n] w fun e w' => ∃ (v : Bool) (s' : Int) (k' : Nat), e = .returned (.bool v) ∧ (0 ≤ s' ∧ s' < 18446744073709551616) ∧ k' ≤ k + 2 ∧ Keep [g] w w' ∧ Blk w' g (srcC p m c k' s') T := by
  have st := St.start1 hg
  have HP := hid (fun (w' : World) (hk2 : Keep [g] w w') (hb : Blk w' g (srcC p m c k s) T) => pick_c B m hB hm h8 p c g k s T n hn hn2 hk hs0 hs1 w' (hr.keepM hk2 hne) hb hne)
  go_enter Tryz.func82, Tryz.ntmps82
  go_wp2_with (first | (go_at_call 62; refine (HP.out _ st.keep (st.get (by repeat (first | exact At.here | apply At.there)))).mono ?_; rintro _ _ ⟨v, s', k', rfl, hv, hs, hk', hk, hb1⟩; replace st := st.wrote (by ((repeat (first | exact Upd.here | apply Upd.there)); done)) hk hb1; clear hk hb1))
  go_ret
  exact ⟨_, s', k', rfl, hs, hk', st.keep, st.get (by repeat (first | exact At.here | apply At.there))⟩
end Go.Proofs.YtmfgbkmkcljciaaGreatDoor
