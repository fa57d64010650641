/- The law BackBook: the program, and what the law answers; no condition. -/
import Derived.Test.YtmfgbkmkcljciaaRev
namespace Go.Proofs.Ytmfgbkmkcljciaa
open Go.RowKit
set_option linter.unusedSimpArgs false
set_option linter.unusedVariables false
set_option maxHeartbeats 1000000 in
set_option maxRecDepth 100000 in
theorem BackBook_c (B : List Fm) (n : Nat) (hB : B.length = n) (hn : n ≤ 1000000) (p : Option Addr) (hp : p = none → n = 0) (c : Nat) (w : World) (hr : Rd w p n (encs fv B)) :
    Calls Try.prog 32 #[.slice p n c] w (BookCode (backR B) (backR B).length (bkCode B) True w) := by
  have st := St.start w
  unfold backR bkCode
  rcases Bool.eq_false_or_eq_true (bkB B) with h | h
  · have HV := hid (fun w' hk => ValidBook_v h n hB (by omega) p c w' (hr.keep (w1 := w') hk))
    have HCl := hid (fun w' hk => Clone_c B n hB (by omega) p hp c w' (hr.keep (w1 := w') hk))
    rw [if_pos h, if_pos h, List.length_reverse, hB]
    replace hB := hid hB
    clear h hp
    go_enter Try.func32, Try.ntmps32
    go_wp2_with (first | (go_at_call 23; refine (HV.out _ st.keep).mono ?_; rintro _ _ ⟨rfl, hk⟩; replace st := st.call hk; clear hk) | (go_at_call 62; refine (HCl.out _ st.keep).mono ?_; rintro _ _ ⟨v, rfl, (⟨_, hn0, rfl⟩ | ⟨g, cap, spare, rfl, hg, hbg, hcap, hcm⟩), hk⟩; all_goals (first | (replace st := st.adopt hk hg hbg; have HC := hid hcap; have HM := hid hcm; clear hk hg hbg hcap hcm) | (replace hn0 := hid hn0; replace st := st.call hk; clear hk))) | (go_at_call 66; (with_reducible refine (Reverse_z _ _ _).mono ?_); rintro _ _ ⟨rfl, hk⟩; replace st := st.call hk; clear hk) | (go_at_call 66; (with_reducible refine (Reverse_c B n hB.out hn _ _ _ _ _ (st.get (by repeat (first | exact At.here | apply At.there)))).mono ?_); rintro _ _ ⟨rfl, hk, hb1⟩; replace st := st.wrote (by repeat (first | exact Upd.here | apply Upd.there)) hk hb1; clear hk hb1))
    · go_ret2
      exact ⟨_, rfl, Or.inl ⟨trivial, hn0.out, rfl⟩, st.keep⟩
    · go_ret2
      exact ⟨_, rfl, Or.inr ⟨g, cap, spare, rfl, out_of st .here, st.get .here, by have := HC.out; rw [List.length_append, encs_fv_length] at this ⊢; rw [List.length_reverse]; exact this, HM.out⟩, st.keep⟩
  · have HV := hid (fun w' hk => ValidBook_v h n hB (by omega) p c w' (hr.keep (w1 := w') hk))
    rw [if_neg (by rw [h]; decide), if_neg (by rw [h]; decide)]
    clear hB h hp
    go_enter Try.func32, Try.ntmps32
    go_wp2_with (first | (go_at_call 23; refine (HV.out _ st.keep).mono ?_; rintro _ _ ⟨rfl, hk⟩; replace st := st.call hk; clear hk))
    go_ret2
    exact ⟨_, rfl, Or.inl ⟨trivial, rfl, rfl⟩, st.keep⟩
theorem BackBook_len {B : List Fm} {n : Nat} (hB : B.length = n) (hn : n ≤ 1000000) : (backR B).length ≤ 1000000 := by
  have := backR_len B; omega
set_option maxHeartbeats 8000000 in
set_option maxRecDepth 100000 in
theorem law_BackBook (w : World) (B : List Fm) (n : Nat) (hB : B.length = n) (hn : n ≤ 9223372036854775807) (p : Option Addr) (c : Nat) (hr : Rd w p n (encs fv B))  :
    Calls Try.prog 7 #[.slice p n c] w fun e w' => e = .returned (.bool true) ∧ Keep [] w w' := by
  have st := St.start w
  by_cases hbig : 1000000 < n
  · have hz : szN 1000000 n = -1 := by unfold szN; rw [if_pos (by omega)]
    go_enter Try.func7, Try.ntmps7
    go_wp2_with (first | (go_at_call 17; refine (szBook_v hz hn (by omega) _).mono ?_; rintro _ _ ⟨rfl, hk⟩; replace st := st.call hk; clear hk) | ((with_reducible refine gate_lst ?_); (first | ((with_reducible refine' wpl_ung ?_ ?_ ?_); rotate_left 1; (focus exact rfl); (focus exact rfl)))))
    go_ret
    exact ⟨rfl, st.keep⟩
  have hz : szN 1000000 n = 1000000 - n := by unfold szN; rw [if_neg (by omega)]
  have hn1 : n ≤ 1000000 := by omega
  obtain ⟨m, hR⟩ : ∃ m, (backR B).length = m := ⟨_, rfl⟩
  have hm4 : m ≤ 1000000 := by rw [← hR]; exact BackBook_len hB hn1 
  have HS := hid (fun (w' : World) (p : Option Addr) (c : Nat) (hp : p = none → n = 0) (hc : n ≤ c) (hr : Rd w' p n (encs fv B)) => specBackBook_c B n hB hn1 p c w' hr)
  have HI := hid (fun (w' : World) (p : Option Addr) (c : Nat) (hp : p = none → n = 0) (hc : n ≤ c) (hr : Rd w' p n (encs fv B)) => BackBook_c B n hB hn1 p hp c w' hr)
  rw [hR] at HS HI
  replace hR := hid hR
  obtain ⟨K1, hK1⟩ : ∃ K1, 101 + n * 12 = K1 := ⟨_, rfl⟩
  obtain ⟨K2, hK2⟩ : ∃ K2, 101 + m * 12 = K2 := ⟨_, rfl⟩
  replace hK1 := hid hK1
  replace hK2 := hid hK2
  rcases Nat.eq_zero_or_pos n with h0 | hpos
  · subst h0
    go_enter Try.func7, Try.ntmps7
    go_wp2_with (first | (go_at_call 17; refine (szBook_v hz hn (by omega) _).mono ?_; rintro _ _ ⟨rfl, hk⟩; replace st := st.call hk; clear hk) | (go_at_call 19; (with_reducible refine (toBook_n B 0 hB hn1 _ _ false (.inl rfl) _ (hr.keep st.keep)).mono ?_); rintro _ _ ⟨g, rfl, hg, hbg, hk⟩; replace st := st.adopt hk hg hbg; clear hk hg hbg) | (go_at_call 19; (with_reducible refine (toBook_nil _ _ _).mono ?_); rintro _ _ ⟨rfl, hk⟩; replace st := st.call hk; clear hk) | (go_at_call 31; refine (HS.out _ _ _ (by first | exact (fun _ => trivial) | exact (fun _ => rfl) | (intro h; cases h)) (by omega) (by first | exact Rd.nil | exact Rd.bk (st.get (by repeat (first | exact At.here | apply At.there))))).mono ?_; rintro _ _ ⟨v, rfl, (⟨hF, _⟩ | ⟨g, cap, spare, rfl, hg, hbg, hcap, hcm⟩), hk⟩; (exact hF.elim); replace st := st.adopt hk hg hbg; clear hk hg hbg hcap hcm) | (go_at_call 32; refine (HI.out _ _ _ (by first | exact (fun _ => trivial) | exact (fun _ => rfl) | (intro h; cases h)) (by omega) (by first | exact Rd.nil | exact Rd.bk (st.get (by repeat (first | exact At.here | apply At.there))))).mono ?_; rintro _ _ ⟨v, rfl, (⟨_, hm0, rfl⟩ | ⟨g, cap, spare, rfl, hg, hbg, hcap, hcm⟩), hk⟩; all_goals (first | (replace st := st.adopt hk hg hbg; clear hk hg hbg hcap hcm) | (replace hm0 := hid hm0; replace st := st.call hk; clear hk))) | (go_at_call 21; refine (intactBook_v (st.get (by repeat (first | exact At.here | apply At.there))) (st.get (by repeat (first | exact At.here | apply At.there))) hB (by omega)).mono ?_; rintro _ _ ⟨rfl, hk⟩; replace st := st.call hk; clear hk) | (go_at_call 26; (first | (with_reducible refine (eqBook_z hm0.out _ _ _ _ _).mono ?_) | (refine (eqBook_v hR.out (by omega) (.of (st.get (by repeat (first | exact At.here | apply At.there)))) (.of (st.get (by repeat (first | exact At.here | apply At.there))))).mono ?_)); rintro _ _ ⟨rfl, hk⟩; replace st := st.call hk; clear hk) | (go_at_call 27; (with_reducible refine (markBook_z (k := 101) (k0 := 101) rfl _).mono ?_); rintro _ _ ⟨rfl, hk⟩; replace st := st.call hk; clear hk) | (go_at_call 27; (with_reducible refine (markBook_k (k := 101) (n := m) (k0 := 101) rfl hK2.out (by omega) (by omega) (st.get (by repeat (first | exact At.here | apply At.there))) (by rw [List.length_append, encs_fv_length, hR.out]; omega)).mono ?_); rintro _ _ ⟨rfl, hk, hb1⟩; replace st := st.wrote (by repeat (first | exact Upd.here | apply Upd.there)) hk hb1; clear hk hb1) | (go_at_call 28; (with_reducible refine (heldBook_z (k := 101) (k0 := 101) rfl _).mono ?_); rintro _ _ ⟨rfl, hk⟩; replace st := st.call hk; clear hk) | (go_at_call 28; (with_reducible refine (heldBook_k (k := 101) (n := m) (k0 := 101) rfl hK2.out (by omega) (by omega) (st.get (by repeat (first | exact At.here | apply At.there)))).mono ?_); rintro _ _ ⟨rfl, hk⟩; replace st := st.call hk; clear hk) | ((with_reducible refine gate_lst ?_); (first | ((with_reducible refine' wpl_ung ?_ ?_ ?_); rotate_left 1; (focus exact rfl); (focus exact rfl)))))
    all_goals
      go_ret
      exact ⟨rfl, st.keep⟩
  · go_enter Try.func7, Try.ntmps7
    go_wp2_with (first | (go_at_call 17; refine (szBook_v hz hn (by omega) _).mono ?_; rintro _ _ ⟨rfl, hk⟩; replace st := st.call hk; clear hk) | (go_at_call 19; (with_reducible refine (toBook_n B n hB hn1 _ _ false (.inl rfl) _ (hr.keep st.keep)).mono ?_); rintro _ _ ⟨g, rfl, hg, hbg, hk⟩; replace st := st.adopt hk hg hbg; clear hk hg hbg) | (go_at_call 19; (with_reducible refine (toBook_n B n hB hn1 _ _ true (.inr hpos) _ (hr.keep st.keep)).mono ?_); rintro _ _ ⟨g, rfl, hg, hbg, hk⟩; replace st := st.adopt hk hg hbg; clear hk hg hbg) | (go_at_call 31; refine (HS.out _ _ _ (by first | exact (fun _ => trivial) | exact (fun _ => rfl) | (intro h; cases h)) (by omega) (by first | exact Rd.nil | exact Rd.bk (st.get (by repeat (first | exact At.here | apply At.there))))).mono ?_; rintro _ _ ⟨v, rfl, (⟨hF, _⟩ | ⟨g, cap, spare, rfl, hg, hbg, hcap, hcm⟩), hk⟩; (exact hF.elim); replace st := st.adopt hk hg hbg; clear hk hg hbg hcap hcm) | (go_at_call 32; refine (HI.out _ _ _ (by first | exact (fun _ => trivial) | exact (fun _ => rfl) | (intro h; cases h)) (by omega) (by first | exact Rd.nil | exact Rd.bk (st.get (by repeat (first | exact At.here | apply At.there))))).mono ?_; rintro _ _ ⟨v, rfl, (⟨_, hm0, rfl⟩ | ⟨g, cap, spare, rfl, hg, hbg, hcap, hcm⟩), hk⟩; all_goals (first | (replace st := st.adopt hk hg hbg; clear hk hg hbg hcap hcm) | (replace hm0 := hid hm0; replace st := st.call hk; clear hk))) | (go_at_call 21; refine (intactBook_v (st.get (by repeat (first | exact At.here | apply At.there))) (st.get (by repeat (first | exact At.here | apply At.there))) hB (by omega)).mono ?_; rintro _ _ ⟨rfl, hk⟩; replace st := st.call hk; clear hk) | (go_at_call 26; (first | (with_reducible refine (eqBook_z hm0.out _ _ _ _ _).mono ?_) | (refine (eqBook_v hR.out (by omega) (.of (st.get (by repeat (first | exact At.here | apply At.there)))) (.of (st.get (by repeat (first | exact At.here | apply At.there))))).mono ?_)); rintro _ _ ⟨rfl, hk⟩; replace st := st.call hk; clear hk) | (go_at_call 27; (with_reducible refine (markBook_z (k := 101) (k0 := 101) rfl _).mono ?_); rintro _ _ ⟨rfl, hk⟩; replace st := st.call hk; clear hk) | (go_at_call 27; (with_reducible refine (markBook_k (k := 101) (n := n) (k0 := 101) rfl hK1.out (by omega) (by omega) (st.get (cs := encs fv (bkC B)) (by repeat (first | exact At.here | apply At.there))) (by rw [encs_fv_length, bkC_length, hB]; omega)).mono ?_); rintro _ _ ⟨rfl, hk, hb1⟩; replace st := st.wrote (by repeat (first | exact Upd.here | apply Upd.there)) hk hb1; clear hk hb1) | (go_at_call 27; (with_reducible refine (markBook_k (k := 101) (n := m) (k0 := 101) rfl hK2.out (by omega) (by omega) (st.get (by repeat (first | exact At.here | apply At.there))) (by rw [List.length_append, encs_fv_length, hR.out]; omega)).mono ?_); rintro _ _ ⟨rfl, hk, hb1⟩; replace st := st.wrote (by repeat (first | exact Upd.here | apply Upd.there)) hk hb1; clear hk hb1) | (go_at_call 28; (with_reducible refine (heldBook_z (k := 101) (k0 := 101) rfl _).mono ?_); rintro _ _ ⟨rfl, hk⟩; replace st := st.call hk; clear hk) | (go_at_call 28; (with_reducible refine (heldBook_k (k := 101) (n := m) (k0 := 101) rfl hK2.out (by omega) (by omega) (st.get (by repeat (first | exact At.here | apply At.there)))).mono ?_); rintro _ _ ⟨rfl, hk⟩; replace st := st.call hk; clear hk) | ((with_reducible refine gate_lst ?_); (first | ((with_reducible refine' wpl_ung ?_ ?_ ?_); rotate_left 1; (focus exact rfl); (focus exact rfl)))))
    all_goals
      go_ret
      exact ⟨rfl, st.keep⟩
end Go.Proofs.Ytmfgbkmkcljciaa
