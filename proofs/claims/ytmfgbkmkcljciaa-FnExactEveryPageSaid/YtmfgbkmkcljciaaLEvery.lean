/- The law EveryPage: what it answers; no condition. -/
import Derived.Test.YtmfgbkmkcljciaaEvery
namespace Go.Proofs.Ytmfgbkmkcljciaa
open Go.RowKit
set_option linter.unusedSimpArgs false
set_option linter.unusedVariables false
theorem EveryPage_len {B : List Fm} {n : Nat} (hB : B.length = n) (hn : n ≤ 1000000) (i j : Int) : (evR B i j).length ≤ 1000000 := by
  unfold evR
  split
  · rw [evL_length]
    unfold evN
    have := Nat.div_le_self (B.length - j.toNat + i.toNat - 1) i.toNat
    rename_i h
    unfold evC at h
    split at h
    · split at h
      · rename_i h2
        unfold evIn inB at h2
        simp only [Bool.and_eq_true, decide_eq_true_eq] at h2
        have h3 : (B.length - j.toNat + i.toNat - 1) / i.toNat ≤ B.length := by
          rw [Nat.div_le_iff_le_mul_add_pred (by omega)]
          have : B.length * 1 ≤ i.toNat * B.length := by rw [Nat.mul_comm]; exact Nat.mul_le_mul_right _ (by omega)
          omega
        omega
      · cases h
    · cases h
  · simp
set_option maxHeartbeats 8000000 in
set_option maxRecDepth 100000 in
theorem law_EveryPage (w : World) (B : List Fm) (n : Nat) (hB : B.length = n) (hn : n ≤ 9223372036854775807) (p : Option Addr) (c : Nat) (hr : Rd w p n (encs fv B)) (i j : Int) :
    Calls Try.prog 6 #[.slice p n c, .int .i64 i, .int .i64 j] w fun e w' => e = .returned (.bool true) ∧ Keep [] w w' := by
  have st := St.start w
  by_cases hbig : 1000000 < n
  · have hz : szN 1000000 n = -1 := by unfold szN; rw [if_pos (by omega)]
    go_enter Try.func6, Try.ntmps6
    go_wp2_with (first | (go_at_call 17; refine (szBook_v hz hn (by omega) _).mono ?_; rintro _ _ ⟨rfl, hk⟩; replace st := st.call hk; clear hk) | ((with_reducible refine gate_lst ?_); (first | ((with_reducible refine' wpl_ung ?_ ?_ ?_); rotate_left 1; (focus exact rfl); (focus exact rfl)))))
    go_ret
    exact ⟨rfl, st.keep⟩
  have hz : szN 1000000 n = 1000000 - n := by unfold szN; rw [if_neg (by omega)]
  have hn1 : n ≤ 1000000 := by omega
  obtain ⟨m, hR⟩ : ∃ m, (evR B i j).length = m := ⟨_, rfl⟩
  have hm4 : m ≤ 1000000 := by rw [← hR]; exact EveryPage_len hB hn1 i j
  have HS := hid (fun (w' : World) (p : Option Addr) (c : Nat) (hp : p = none → n = 0) (hc : n ≤ c) (hr : Rd w' p n (encs fv B)) => specEvery_c B n hB hn1 p c i j w' hr)
  have HI := hid (fun (w' : World) (p : Option Addr) (c : Nat) (hp : p = none → n = 0) (hc : n ≤ c) (hr : Rd w' p n (encs fv B)) => EveryPage_c B n hB hn1 p c i j w' hr)
  rw [hR] at HS HI
  replace hR := hid hR
  obtain ⟨K1, hK1⟩ : ∃ K1, 101 + n * 12 = K1 := ⟨_, rfl⟩
  obtain ⟨K2, hK2⟩ : ∃ K2, 101 + m * 12 = K2 := ⟨_, rfl⟩
  replace hK1 := hid hK1
  replace hK2 := hid hK2
  rcases Nat.eq_zero_or_pos n with h0 | hpos
  · subst h0
    go_enter Try.func6, Try.ntmps6
    go_wp2_with (first | (go_at_call 17; refine (szBook_v hz hn (by omega) _).mono ?_; rintro _ _ ⟨rfl, hk⟩; replace st := st.call hk; clear hk) | (go_at_call 19; (with_reducible refine (toBook_n B 0 hB hn1 _ _ false (.inl rfl) _ (hr.keep st.keep)).mono ?_); rintro _ _ ⟨g, rfl, hg, hbg, hk⟩; replace st := st.adopt hk hg hbg; clear hk hg hbg) | (go_at_call 19; (with_reducible refine (toBook_nil _ _ _).mono ?_); rintro _ _ ⟨rfl, hk⟩; replace st := st.call hk; clear hk) | (go_at_call 29; refine (HS.out _ _ _ (by first | exact (fun _ => trivial) | exact (fun _ => rfl) | (intro h; cases h)) (by omega) (by first | exact Rd.nil | exact Rd.bk (st.get (by repeat (first | exact At.here | apply At.there))))).mono ?_; rintro _ _ ⟨v, rfl, (⟨hF, _⟩ | ⟨g, cap, spare, rfl, hg, hbg, hcap, hcm⟩), hk⟩; (exact hF.elim); replace st := st.adopt hk hg hbg; clear hk hg hbg hcap hcm) | (go_at_call 30; refine (HI.out _ _ _ (by first | exact (fun _ => trivial) | exact (fun _ => rfl) | (intro h; cases h)) (by omega) (by first | exact Rd.nil | exact Rd.bk (st.get (by repeat (first | exact At.here | apply At.there))))).mono ?_; rintro _ _ ⟨v, rfl, (⟨_, hm0, rfl⟩ | ⟨g, cap, spare, rfl, hg, hbg, hcap, hcm⟩), hk⟩; all_goals (first | (replace st := st.adopt hk hg hbg; clear hk hg hbg hcap hcm) | (replace hm0 := hid hm0; replace st := st.call hk; clear hk))) | (go_at_call 21; refine (intactBook_v (st.get (by repeat (first | exact At.here | apply At.there))) (st.get (by repeat (first | exact At.here | apply At.there))) hB (by omega)).mono ?_; rintro _ _ ⟨rfl, hk⟩; replace st := st.call hk; clear hk) | (go_at_call 26; (first | (with_reducible refine (eqBook_z hm0.out _ _ _ _ _).mono ?_) | (refine (eqBook_v hR.out (by omega) (.of (st.get (by repeat (first | exact At.here | apply At.there)))) (.of (st.get (by repeat (first | exact At.here | apply At.there))))).mono ?_)); rintro _ _ ⟨rfl, hk⟩; replace st := st.call hk; clear hk) | (go_at_call 27; (with_reducible refine (markBook_z (k := 101) (k0 := 101) rfl _).mono ?_); rintro _ _ ⟨rfl, hk⟩; replace st := st.call hk; clear hk) | (go_at_call 27; (with_reducible refine (markBook_k (k := 101) (n := m) (k0 := 101) rfl hK2.out (by omega) (by omega) (st.get (by repeat (first | exact At.here | apply At.there))) (by rw [List.length_append, encs_fv_length, hR.out]; omega)).mono ?_); rintro _ _ ⟨rfl, hk, hb1⟩; replace st := st.wrote (by repeat (first | exact Upd.here | apply Upd.there)) hk hb1; clear hk hb1) | (go_at_call 28; (with_reducible refine (heldBook_z (k := 101) (k0 := 101) rfl _).mono ?_); rintro _ _ ⟨rfl, hk⟩; replace st := st.call hk; clear hk) | (go_at_call 28; (with_reducible refine (heldBook_k (k := 101) (n := m) (k0 := 101) rfl hK2.out (by omega) (by omega) (st.get (by repeat (first | exact At.here | apply At.there)))).mono ?_); rintro _ _ ⟨rfl, hk⟩; replace st := st.call hk; clear hk) | ((with_reducible refine gate_lst ?_); (first | ((with_reducible refine' wpl_ung ?_ ?_ ?_); rotate_left 1; (focus exact rfl); (focus exact rfl)))))
    all_goals
      go_ret
      exact ⟨rfl, st.keep⟩
  · go_enter Try.func6, Try.ntmps6
    go_wp2_with (first | (go_at_call 17; refine (szBook_v hz hn (by omega) _).mono ?_; rintro _ _ ⟨rfl, hk⟩; replace st := st.call hk; clear hk) | (go_at_call 19; (with_reducible refine (toBook_n B n hB hn1 _ _ false (.inl rfl) _ (hr.keep st.keep)).mono ?_); rintro _ _ ⟨g, rfl, hg, hbg, hk⟩; replace st := st.adopt hk hg hbg; clear hk hg hbg) | (go_at_call 19; (with_reducible refine (toBook_n B n hB hn1 _ _ true (.inr hpos) _ (hr.keep st.keep)).mono ?_); rintro _ _ ⟨g, rfl, hg, hbg, hk⟩; replace st := st.adopt hk hg hbg; clear hk hg hbg) | (go_at_call 29; refine (HS.out _ _ _ (by first | exact (fun _ => trivial) | exact (fun _ => rfl) | (intro h; cases h)) (by omega) (by first | exact Rd.nil | exact Rd.bk (st.get (by repeat (first | exact At.here | apply At.there))))).mono ?_; rintro _ _ ⟨v, rfl, (⟨hF, _⟩ | ⟨g, cap, spare, rfl, hg, hbg, hcap, hcm⟩), hk⟩; (exact hF.elim); replace st := st.adopt hk hg hbg; clear hk hg hbg hcap hcm) | (go_at_call 30; refine (HI.out _ _ _ (by first | exact (fun _ => trivial) | exact (fun _ => rfl) | (intro h; cases h)) (by omega) (by first | exact Rd.nil | exact Rd.bk (st.get (by repeat (first | exact At.here | apply At.there))))).mono ?_; rintro _ _ ⟨v, rfl, (⟨_, hm0, rfl⟩ | ⟨g, cap, spare, rfl, hg, hbg, hcap, hcm⟩), hk⟩; all_goals (first | (replace st := st.adopt hk hg hbg; clear hk hg hbg hcap hcm) | (replace hm0 := hid hm0; replace st := st.call hk; clear hk))) | (go_at_call 21; refine (intactBook_v (st.get (by repeat (first | exact At.here | apply At.there))) (st.get (by repeat (first | exact At.here | apply At.there))) hB (by omega)).mono ?_; rintro _ _ ⟨rfl, hk⟩; replace st := st.call hk; clear hk) | (go_at_call 26; (first | (with_reducible refine (eqBook_z hm0.out _ _ _ _ _).mono ?_) | (refine (eqBook_v hR.out (by omega) (.of (st.get (by repeat (first | exact At.here | apply At.there)))) (.of (st.get (by repeat (first | exact At.here | apply At.there))))).mono ?_)); rintro _ _ ⟨rfl, hk⟩; replace st := st.call hk; clear hk) | (go_at_call 27; (with_reducible refine (markBook_z (k := 101) (k0 := 101) rfl _).mono ?_); rintro _ _ ⟨rfl, hk⟩; replace st := st.call hk; clear hk) | (go_at_call 27; (with_reducible refine (markBook_k (k := 101) (n := n) (k0 := 101) rfl hK1.out (by omega) (by omega) (st.get (cs := encs fv (bkC B)) (by repeat (first | exact At.here | apply At.there))) (by rw [encs_fv_length, bkC_length, hB]; omega)).mono ?_); rintro _ _ ⟨rfl, hk, hb1⟩; replace st := st.wrote (by repeat (first | exact Upd.here | apply Upd.there)) hk hb1; clear hk hb1) | (go_at_call 27; (with_reducible refine (markBook_k (k := 101) (n := m) (k0 := 101) rfl hK2.out (by omega) (by omega) (st.get (by repeat (first | exact At.here | apply At.there))) (by rw [List.length_append, encs_fv_length, hR.out]; omega)).mono ?_); rintro _ _ ⟨rfl, hk, hb1⟩; replace st := st.wrote (by repeat (first | exact Upd.here | apply Upd.there)) hk hb1; clear hk hb1) | (go_at_call 28; (with_reducible refine (heldBook_z (k := 101) (k0 := 101) rfl _).mono ?_); rintro _ _ ⟨rfl, hk⟩; replace st := st.call hk; clear hk) | (go_at_call 28; (with_reducible refine (heldBook_k (k := 101) (n := m) (k0 := 101) rfl hK2.out (by omega) (by omega) (st.get (by repeat (first | exact At.here | apply At.there)))).mono ?_); rintro _ _ ⟨rfl, hk⟩; replace st := st.call hk; clear hk) | ((with_reducible refine gate_lst ?_); (first | ((with_reducible refine' wpl_ung ?_ ?_ ?_); rotate_left 1; (focus exact rfl); (focus exact rfl)))))
    all_goals
      go_ret
      exact ⟨rfl, st.keep⟩
theorem row_EveryPage (w : World) (B : List Fm) (n : Nat) (hB : B.length = n) (hn : n ≤ 9223372036854775807) (p : Option Addr) (c : Nat) (hr : Rd w p n (encs fv B)) (i : Int) (_hi : (Lit.int .i64 i).wf = true) (j : Int) (_hj : (Lit.int .i64 j).wf = true) :
    Calls Try.prog 6 #[.slice p n c, .int .i64 i, .int .i64 j] w fun e w' => e = .returned (.bool true) ∧ Keep [] w w' := law_EveryPage w B n hB hn p c hr i j
end Go.Proofs.Ytmfgbkmkcljciaa
