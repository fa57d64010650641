/- The law RepeatsIn: what it answers; no condition. -/
import Derived.Test.YtmfgbkmkcljciaaRep
import Derived.Test.YtmfgbkmkcljciaaI64b
namespace Go.Proofs.Ytmfgbkmkcljciaa
open Go.RowKit
set_option linter.unusedSimpArgs false
set_option linter.unusedVariables false
theorem RepeatsIn_len {B : List Fm} {n : Nat} (hB : B.length = n) (hn : n ≤ 1000000) : (repR B).length ≤ 1000000 := by
  unfold repR
  split
  · rw [repL_length]; omega
  · simp
set_option maxHeartbeats 8000000 in
set_option maxRecDepth 100000 in
theorem law_RepeatsIn (w : World) (B : List Fm) (n : Nat) (hB : B.length = n) (hn : n ≤ 9223372036854775807) (p : Option Addr) (c : Nat) (hr : Rd w p n (encs fv B))  :
    Calls Try.prog 10 #[.slice p n c] w fun e w' => e = .returned (.bool true) ∧ Keep [] w w' := by
  have st := St.start w
  by_cases hbig : 1000000 < n
  · have hz : szN 1000000 n = -1 := by unfold szN; rw [if_pos (by omega)]
    go_enter Try.func10, Try.ntmps10
    go_wp2_with (first | (go_at_call 17; refine (szBook_v hz hn (by omega) _).mono ?_; rintro _ _ ⟨rfl, hk⟩; replace st := st.call hk; clear hk) | ((with_reducible refine gate_lst ?_); (first | ((with_reducible refine' wpl_ung ?_ ?_ ?_); rotate_left 1; (focus exact rfl); (focus exact rfl)))))
    go_ret
    exact ⟨rfl, st.keep⟩
  have hz : szN 1000000 n = 1000000 - n := by unfold szN; rw [if_neg (by omega)]
  have hn1 : n ≤ 1000000 := by omega
  obtain ⟨m, hR⟩ : ∃ m, (repR B).length = m := ⟨_, rfl⟩
  have hm4 : m ≤ 1000000 := by rw [← hR]; exact RepeatsIn_len hB hn1 
  have HS := hid (fun (w' : World) (p : Option Addr) (c : Nat) (hp : p = none → n = 0) (hc : n ≤ c) (hr : Rd w' p n (encs fv B)) => specRepeats_c B n hB hn1 p c w' hr)
  have HI := hid (fun (w' : World) (p : Option Addr) (c : Nat) (hp : p = none → n = 0) (hc : n ≤ c) (hr : Rd w' p n (encs fv B)) => RepeatsIn_c B n hB hn1 p c w' hr)
  rw [hR] at HS HI
  replace hR := hid hR
  obtain ⟨K1, hK1⟩ : ∃ K1, 101 + n * 12 = K1 := ⟨_, rfl⟩
  obtain ⟨K2, hK2⟩ : ∃ K2, 101 + m * 1 = K2 := ⟨_, rfl⟩
  replace hK1 := hid hK1
  replace hK2 := hid hK2
  rcases Nat.eq_zero_or_pos n with h0 | hpos
  · subst h0
    go_enter Try.func10, Try.ntmps10
    go_wp2_with (first | (go_at_call 17; refine (szBook_v hz hn (by omega) _).mono ?_; rintro _ _ ⟨rfl, hk⟩; replace st := st.call hk; clear hk) | (go_at_call 19; (with_reducible refine (toBook_n B 0 hB hn1 _ _ false (.inl rfl) _ (hr.keep st.keep)).mono ?_); rintro _ _ ⟨g, rfl, hg, hbg, hk⟩; replace st := st.adopt hk hg hbg; clear hk hg hbg) | (go_at_call 19; (with_reducible refine (toBook_nil _ _ _).mono ?_); rintro _ _ ⟨rfl, hk⟩; replace st := st.call hk; clear hk) | (go_at_call 37; refine (HS.out _ _ _ (by first | exact (fun _ => trivial) | exact (fun _ => rfl) | (intro h; cases h)) (by omega) (by first | exact Rd.nil | exact Rd.bk (st.get (by repeat (first | exact At.here | apply At.there))))).mono ?_; rintro _ _ ⟨v, rfl, (⟨hF, _⟩ | ⟨g, cap, spare, rfl, hg, hbg, hcap, hcm⟩), hk⟩; (exact hF.elim); replace st := st.adopt hk hg hbg; clear hk hg hbg hcap hcm) | (go_at_call 38; refine (HI.out _ _ _ (by first | exact (fun _ => trivial) | exact (fun _ => rfl) | (intro h; cases h)) (by omega) (by first | exact Rd.nil | exact Rd.bk (st.get (by repeat (first | exact At.here | apply At.there))))).mono ?_; rintro _ _ ⟨v, rfl, (⟨_, hm0, rfl⟩ | ⟨g, cap, spare, rfl, hg, hbg, hcap, hcm⟩), hk⟩; all_goals (first | (replace st := st.adopt hk hg hbg; clear hk hg hbg hcap hcm) | (replace hm0 := hid hm0; replace st := st.call hk; clear hk))) | (go_at_call 21; refine (intactBook_v (st.get (by repeat (first | exact At.here | apply At.there))) (st.get (by repeat (first | exact At.here | apply At.there))) hB (by omega)).mono ?_; rintro _ _ ⟨rfl, hk⟩; replace st := st.call hk; clear hk) | (go_at_call 39; (first | (with_reducible refine (eqInt64S_z hm0.out _ _ _ _ _).mono ?_) | (refine (eqInt64S_v hR.out (by omega) (.of (st.get (by repeat (first | exact At.here | apply At.there)))) (.of (st.get (by repeat (first | exact At.here | apply At.there))))).mono ?_)); rintro _ _ ⟨rfl, hk⟩; replace st := st.call hk; clear hk) | (go_at_call 40; (with_reducible refine (markInt64S_z (k := 101) (k0 := 101) rfl _).mono ?_); rintro _ _ ⟨rfl, hk⟩; replace st := st.call hk; clear hk) | (go_at_call 27; (with_reducible refine (markBook_k (k := 101) (n := 0) (k0 := 101) rfl hK1.out (by omega) (by omega) (st.get (cs := encs fv (bkC B)) (by repeat (first | exact At.here | apply At.there))) (by rw [encs_fv_length, bkC_length, hB]; omega)).mono ?_); rintro _ _ ⟨rfl, hk, hb1⟩; replace st := st.wrote (by repeat (first | exact Upd.here | apply Upd.there)) hk hb1; clear hk hb1) | (go_at_call 40; (with_reducible refine (markInt64S_k (k := 101) (n := m) (k0 := 101) rfl hK2.out (by omega) (by omega) (st.get (by repeat (first | exact At.here | apply At.there))) (by rw [List.length_append, encs_i1_length, hR.out]; omega)).mono ?_); rintro _ _ ⟨rfl, hk, hb1⟩; replace st := st.wrote (by repeat (first | exact Upd.here | apply Upd.there)) hk hb1; clear hk hb1) | (go_at_call 41; (with_reducible refine (heldInt64S_z (k := 101) (k0 := 101) rfl _).mono ?_); rintro _ _ ⟨rfl, hk⟩; replace st := st.call hk; clear hk) | (go_at_call 41; (with_reducible refine (heldInt64S_k (k := 101) (n := m) (k0 := 101) rfl hK2.out (by omega) (by omega) (st.get (by repeat (first | exact At.here | apply At.there)))).mono ?_); rintro _ _ ⟨rfl, hk⟩; replace st := st.call hk; clear hk) | ((with_reducible refine gate_lst ?_); (first | ((with_reducible refine' wpl_ung ?_ ?_ ?_); rotate_left 1; (focus exact rfl); (focus exact rfl)))))
    all_goals
      go_ret
      exact ⟨rfl, st.keep⟩
  · go_enter Try.func10, Try.ntmps10
    go_wp2_with (first | (go_at_call 17; refine (szBook_v hz hn (by omega) _).mono ?_; rintro _ _ ⟨rfl, hk⟩; replace st := st.call hk; clear hk) | (go_at_call 19; (with_reducible refine (toBook_n B n hB hn1 _ _ false (.inl rfl) _ (hr.keep st.keep)).mono ?_); rintro _ _ ⟨g, rfl, hg, hbg, hk⟩; replace st := st.adopt hk hg hbg; clear hk hg hbg) | (go_at_call 19; (with_reducible refine (toBook_n B n hB hn1 _ _ true (.inr hpos) _ (hr.keep st.keep)).mono ?_); rintro _ _ ⟨g, rfl, hg, hbg, hk⟩; replace st := st.adopt hk hg hbg; clear hk hg hbg) | (go_at_call 37; refine (HS.out _ _ _ (by first | exact (fun _ => trivial) | exact (fun _ => rfl) | (intro h; cases h)) (by omega) (by first | exact Rd.nil | exact Rd.bk (st.get (by repeat (first | exact At.here | apply At.there))))).mono ?_; rintro _ _ ⟨v, rfl, (⟨hF, _⟩ | ⟨g, cap, spare, rfl, hg, hbg, hcap, hcm⟩), hk⟩; (exact hF.elim); replace st := st.adopt hk hg hbg; clear hk hg hbg hcap hcm) | (go_at_call 38; refine (HI.out _ _ _ (by first | exact (fun _ => trivial) | exact (fun _ => rfl) | (intro h; cases h)) (by omega) (by first | exact Rd.nil | exact Rd.bk (st.get (by repeat (first | exact At.here | apply At.there))))).mono ?_; rintro _ _ ⟨v, rfl, (⟨_, hm0, rfl⟩ | ⟨g, cap, spare, rfl, hg, hbg, hcap, hcm⟩), hk⟩; all_goals (first | (replace st := st.adopt hk hg hbg; clear hk hg hbg hcap hcm) | (replace hm0 := hid hm0; replace st := st.call hk; clear hk))) | (go_at_call 21; refine (intactBook_v (st.get (by repeat (first | exact At.here | apply At.there))) (st.get (by repeat (first | exact At.here | apply At.there))) hB (by omega)).mono ?_; rintro _ _ ⟨rfl, hk⟩; replace st := st.call hk; clear hk) | (go_at_call 39; (first | (with_reducible refine (eqInt64S_z hm0.out _ _ _ _ _).mono ?_) | (refine (eqInt64S_v hR.out (by omega) (.of (st.get (by repeat (first | exact At.here | apply At.there)))) (.of (st.get (by repeat (first | exact At.here | apply At.there))))).mono ?_)); rintro _ _ ⟨rfl, hk⟩; replace st := st.call hk; clear hk) | (go_at_call 40; (with_reducible refine (markInt64S_z (k := 101) (k0 := 101) rfl _).mono ?_); rintro _ _ ⟨rfl, hk⟩; replace st := st.call hk; clear hk) | (go_at_call 27; (with_reducible refine (markBook_k (k := 101) (n := n) (k0 := 101) rfl hK1.out (by omega) (by omega) (st.get (cs := encs fv (bkC B)) (by repeat (first | exact At.here | apply At.there))) (by rw [encs_fv_length, bkC_length, hB]; omega)).mono ?_); rintro _ _ ⟨rfl, hk, hb1⟩; replace st := st.wrote (by repeat (first | exact Upd.here | apply Upd.there)) hk hb1; clear hk hb1) | (go_at_call 40; (with_reducible refine (markInt64S_k (k := 101) (n := m) (k0 := 101) rfl hK2.out (by omega) (by omega) (st.get (by repeat (first | exact At.here | apply At.there))) (by rw [List.length_append, encs_i1_length, hR.out]; omega)).mono ?_); rintro _ _ ⟨rfl, hk, hb1⟩; replace st := st.wrote (by repeat (first | exact Upd.here | apply Upd.there)) hk hb1; clear hk hb1) | (go_at_call 41; (with_reducible refine (heldInt64S_z (k := 101) (k0 := 101) rfl _).mono ?_); rintro _ _ ⟨rfl, hk⟩; replace st := st.call hk; clear hk) | (go_at_call 41; (with_reducible refine (heldInt64S_k (k := 101) (n := m) (k0 := 101) rfl hK2.out (by omega) (by omega) (st.get (by repeat (first | exact At.here | apply At.there)))).mono ?_); rintro _ _ ⟨rfl, hk⟩; replace st := st.call hk; clear hk) | ((with_reducible refine gate_lst ?_); (first | ((with_reducible refine' wpl_ung ?_ ?_ ?_); rotate_left 1; (focus exact rfl); (focus exact rfl)))))
    all_goals
      go_ret
      exact ⟨rfl, st.keep⟩
end Go.Proofs.Ytmfgbkmkcljciaa
