/- The law JumpsOf: what it answers; no condition. -/
import Derived.Test.YtmfgbkmkcljciaaJmp
import Derived.Test.YtmfgbkmkcljciaaI64b
namespace Go.Proofs.Ytmfgbkmkcljciaa
open Go.RowKit
set_option linter.unusedSimpArgs false
set_option linter.unusedVariables false
def IntsCode (R : List Int) (n : Nat) (code : Int) (nilOk : Prop) (w : World) (e : Ending) (w' : World) : Prop := ∃ v, e = .returned (.tuple #[v, .int .i64 code]) ∧ SlOut 2 1 n (encs i1 R) nilOk w v w' ∧ Keep [] w w'
def okC (B : List Fm) : Int := if bkB B = true then 0 else 1
def jmpR (B : List Fm) : List Int := if bkB B = true then jmpL B else []
theorem specJumpsOf_c (B : List Fm) (n : Nat) (hB : B.length = n) (hn : n ≤ 1000000) (p : Option Addr) (c : Nat) (w : World) (hr : Rd w p n (encs fv B)) :
    Calls Try.prog 48 #[.slice p n c] w (IntsCode (jmpR B) (jmpR B).length (okC B) False w) := by
  have st := St.start w
  unfold jmpR okC
  rcases Bool.eq_false_or_eq_true (bkB B) with h | h
  · have HV := hid (fun w' hk => l02Ok_v h n hB (by omega) p c w' (hr.keep (w1 := w') hk))
    have HJ := hid (fun w' hk => l02Jumps_c B n hB hn p c w' (hr.keep (w1 := w') hk))
    rw [if_pos h, if_pos h, jmpL_length, hB]
    go_enter Try.func48, Try.ntmps48
    go_wp2_with (first | (go_at_call 58; refine (HV.out _ st.keep).mono ?_; rintro _ _ ⟨rfl, hk⟩; replace st := st.call hk; clear hk) | (go_at_call 72; refine (HJ.out _ st.keep).mono ?_; rintro _ _ ⟨v, rfl, ⟨g, cap, spare, rfl, hg, hbg, hcap, hcm⟩, hk⟩; replace st := st.adopt hk hg hbg; clear hk hg hbg))
    go_ret2
    exact ⟨_, rfl, Or.inr ⟨g, cap, spare, rfl, out_of st .here, st.get .here, hcap, hcm⟩, st.keep⟩
  · have HV := hid (fun w' hk => l02Ok_v h n hB (by omega) p c w' (hr.keep (w1 := w') hk))
    rw [if_neg (by rw [h]; decide), if_neg (by rw [h]; decide)]
    go_enter Try.func48, Try.ntmps48
    go_wp2_with (first | (go_at_call 58; refine (HV.out _ st.keep).mono ?_; rintro _ _ ⟨rfl, hk⟩; replace st := st.call hk; clear hk) | ((with_reducible refine gate_bsl rfl ?_); refine ia_bsl0 (sl := 7) st rfl rfl rfl ?_; clear st; intro B7 _ st))
    go_ret2
    exact ⟨_, rfl, Or.inr (gives0 st .here), st.keep⟩
theorem JumpsOf_c (B : List Fm) (n : Nat) (hB : B.length = n) (hn : n ≤ 1000000) (p : Option Addr) (c : Nat) (w : World) (hr : Rd w p n (encs fv B)) :
    Calls Try.prog 49 #[.slice p n c] w (IntsCode (jmpR B) (jmpR B).length (okC B) True w) := by
  have st := St.start w
  unfold jmpR okC
  rcases Bool.eq_false_or_eq_true (bkB B) with h | h
  · have HV := hid (fun w' hk => ValidBook_v h n hB (by omega) p c w' (hr.keep (w1 := w') hk))
    have HJ := hid (fun w' hk => jumps_c B n hB (bkB_ok h) hn p c w' (hr.keep (w1 := w') hk))
    rw [if_pos h, if_pos h, jmpL_length, hB]
    go_enter Try.func49, Try.ntmps49
    go_wp2_with (first | (go_at_call 23; refine (HV.out _ st.keep).mono ?_; rintro _ _ ⟨rfl, hk⟩; replace st := st.call hk; clear hk) | (go_at_call 76; refine (HJ.out _ st.keep).mono ?_; rintro _ _ ⟨v, rfl, ⟨g, cap, spare, rfl, hg, hbg, hcap, hcm⟩, hk⟩; replace st := st.adopt hk hg hbg; clear hk hg hbg))
    go_ret2
    exact ⟨_, rfl, Or.inr ⟨g, cap, spare, rfl, out_of st .here, st.get .here, hcap, hcm⟩, st.keep⟩
  · have HV := hid (fun w' hk => ValidBook_v h n hB (by omega) p c w' (hr.keep (w1 := w') hk))
    rw [if_neg (by rw [h]; decide), if_neg (by rw [h]; decide)]
    go_enter Try.func49, Try.ntmps49
    go_wp2_with (first | (go_at_call 23; refine (HV.out _ st.keep).mono ?_; rintro _ _ ⟨rfl, hk⟩; replace st := st.call hk; clear hk))
    go_ret2
    exact ⟨_, rfl, Or.inl ⟨trivial, rfl, rfl⟩, st.keep⟩
theorem JumpsOf_len {B : List Fm} {n : Nat} (hB : B.length = n) (hn : n ≤ 1000000) : (jmpR B).length ≤ 1000000 := by
  unfold jmpR
  split
  · rw [jmpL_length]; omega
  · simp
set_option maxHeartbeats 8000000 in
set_option maxRecDepth 100000 in
theorem law_JumpsOf (w : World) (B : List Fm) (n : Nat) (hB : B.length = n) (hn : n ≤ 9223372036854775807) (p : Option Addr) (c : Nat) (hr : Rd w p n (encs fv B))  :
    Calls Try.prog 14 #[.slice p n c] w fun e w' => e = .returned (.bool true) ∧ Keep [] w w' := by
  have st := St.start w
  by_cases hbig : 1000000 < n
  · have hz : szN 1000000 n = -1 := by unfold szN; rw [if_pos (by omega)]
    go_enter Try.func14, Try.ntmps14
    go_wp2_with (first | (go_at_call 17; refine (szBook_v hz hn (by omega) _).mono ?_; rintro _ _ ⟨rfl, hk⟩; replace st := st.call hk; clear hk) | ((with_reducible refine gate_lst ?_); (first | ((with_reducible refine' wpl_ung ?_ ?_ ?_); rotate_left 1; (focus exact rfl); (focus exact rfl)))))
    go_ret
    exact ⟨rfl, st.keep⟩
  have hz : szN 1000000 n = 1000000 - n := by unfold szN; rw [if_neg (by omega)]
  have hn1 : n ≤ 1000000 := by omega
  obtain ⟨m, hR⟩ : ∃ m, (jmpR B).length = m := ⟨_, rfl⟩
  have hm4 : m ≤ 1000000 := by rw [← hR]; exact JumpsOf_len hB hn1 
  have HS := hid (fun (w' : World) (p : Option Addr) (c : Nat) (hp : p = none → n = 0) (hc : n ≤ c) (hr : Rd w' p n (encs fv B)) => specJumpsOf_c B n hB hn1 p c w' hr)
  have HI := hid (fun (w' : World) (p : Option Addr) (c : Nat) (hp : p = none → n = 0) (hc : n ≤ c) (hr : Rd w' p n (encs fv B)) => JumpsOf_c B n hB hn1 p c w' hr)
  rw [hR] at HS HI
  replace hR := hid hR
  obtain ⟨K1, hK1⟩ : ∃ K1, 101 + n * 12 = K1 := ⟨_, rfl⟩
  obtain ⟨K2, hK2⟩ : ∃ K2, 101 + m * 1 = K2 := ⟨_, rfl⟩
  replace hK1 := hid hK1
  replace hK2 := hid hK2
  rcases Nat.eq_zero_or_pos n with h0 | hpos
  · subst h0
    go_enter Try.func14, Try.ntmps14
    go_wp2_with (first | (go_at_call 17; refine (szBook_v hz hn (by omega) _).mono ?_; rintro _ _ ⟨rfl, hk⟩; replace st := st.call hk; clear hk) | (go_at_call 19; (with_reducible refine (toBook_n B 0 hB hn1 _ _ false (.inl rfl) _ (hr.keep st.keep)).mono ?_); rintro _ _ ⟨g, rfl, hg, hbg, hk⟩; replace st := st.adopt hk hg hbg; clear hk hg hbg) | (go_at_call 19; (with_reducible refine (toBook_nil _ _ _).mono ?_); rintro _ _ ⟨rfl, hk⟩; replace st := st.call hk; clear hk) | (go_at_call 48; refine (HS.out _ _ _ (by first | exact (fun _ => trivial) | exact (fun _ => rfl) | (intro h; cases h)) (by omega) (by first | exact Rd.nil | exact Rd.bk (st.get (by repeat (first | exact At.here | apply At.there))))).mono ?_; rintro _ _ ⟨v, rfl, (⟨hF, _⟩ | ⟨g, cap, spare, rfl, hg, hbg, hcap, hcm⟩), hk⟩; (exact hF.elim); replace st := st.adopt hk hg hbg; clear hk hg hbg hcap hcm) | (go_at_call 49; refine (HI.out _ _ _ (by first | exact (fun _ => trivial) | exact (fun _ => rfl) | (intro h; cases h)) (by omega) (by first | exact Rd.nil | exact Rd.bk (st.get (by repeat (first | exact At.here | apply At.there))))).mono ?_; rintro _ _ ⟨v, rfl, (⟨_, hm0, rfl⟩ | ⟨g, cap, spare, rfl, hg, hbg, hcap, hcm⟩), hk⟩; all_goals (first | (replace st := st.adopt hk hg hbg; clear hk hg hbg hcap hcm) | (replace hm0 := hid hm0; replace st := st.call hk; clear hk))) | (go_at_call 21; refine (intactBook_v (st.get (by repeat (first | exact At.here | apply At.there))) (st.get (by repeat (first | exact At.here | apply At.there))) hB (by omega)).mono ?_; rintro _ _ ⟨rfl, hk⟩; replace st := st.call hk; clear hk) | (go_at_call 39; (first | (with_reducible refine (eqInt64S_z hm0.out _ _ _ _ _).mono ?_) | (refine (eqInt64S_v hR.out (by omega) (.of (st.get (by repeat (first | exact At.here | apply At.there)))) (.of (st.get (by repeat (first | exact At.here | apply At.there))))).mono ?_)); rintro _ _ ⟨rfl, hk⟩; replace st := st.call hk; clear hk) | (go_at_call 40; (with_reducible refine (markInt64S_z (k := 101) (k0 := 101) rfl _).mono ?_); rintro _ _ ⟨rfl, hk⟩; replace st := st.call hk; clear hk) | (go_at_call 27; (with_reducible refine (markBook_k (k := 101) (n := 0) (k0 := 101) rfl hK1.out (by omega) (by omega) (st.get (cs := encs fv (bkC B)) (by repeat (first | exact At.here | apply At.there))) (by rw [encs_fv_length, bkC_length, hB]; omega)).mono ?_); rintro _ _ ⟨rfl, hk, hb1⟩; replace st := st.wrote (by repeat (first | exact Upd.here | apply Upd.there)) hk hb1; clear hk hb1) | (go_at_call 40; (with_reducible refine (markInt64S_k (k := 101) (n := m) (k0 := 101) rfl hK2.out (by omega) (by omega) (st.get (by repeat (first | exact At.here | apply At.there))) (by rw [List.length_append, encs_i1_length, hR.out]; omega)).mono ?_); rintro _ _ ⟨rfl, hk, hb1⟩; replace st := st.wrote (by repeat (first | exact Upd.here | apply Upd.there)) hk hb1; clear hk hb1) | (go_at_call 41; (with_reducible refine (heldInt64S_z (k := 101) (k0 := 101) rfl _).mono ?_); rintro _ _ ⟨rfl, hk⟩; replace st := st.call hk; clear hk) | (go_at_call 41; (with_reducible refine (heldInt64S_k (k := 101) (n := m) (k0 := 101) rfl hK2.out (by omega) (by omega) (st.get (by repeat (first | exact At.here | apply At.there)))).mono ?_); rintro _ _ ⟨rfl, hk⟩; replace st := st.call hk; clear hk) | ((with_reducible refine gate_lst ?_); (first | ((with_reducible refine' wpl_ung ?_ ?_ ?_); rotate_left 1; (focus exact rfl); (focus exact rfl)))))
    all_goals
      go_ret
      exact ⟨rfl, st.keep⟩
  · go_enter Try.func14, Try.ntmps14
    go_wp2_with (first | (go_at_call 17; refine (szBook_v hz hn (by omega) _).mono ?_; rintro _ _ ⟨rfl, hk⟩; replace st := st.call hk; clear hk) | (go_at_call 19; (with_reducible refine (toBook_n B n hB hn1 _ _ false (.inl rfl) _ (hr.keep st.keep)).mono ?_); rintro _ _ ⟨g, rfl, hg, hbg, hk⟩; replace st := st.adopt hk hg hbg; clear hk hg hbg) | (go_at_call 19; (with_reducible refine (toBook_n B n hB hn1 _ _ true (.inr hpos) _ (hr.keep st.keep)).mono ?_); rintro _ _ ⟨g, rfl, hg, hbg, hk⟩; replace st := st.adopt hk hg hbg; clear hk hg hbg) | (go_at_call 48; refine (HS.out _ _ _ (by first | exact (fun _ => trivial) | exact (fun _ => rfl) | (intro h; cases h)) (by omega) (by first | exact Rd.nil | exact Rd.bk (st.get (by repeat (first | exact At.here | apply At.there))))).mono ?_; rintro _ _ ⟨v, rfl, (⟨hF, _⟩ | ⟨g, cap, spare, rfl, hg, hbg, hcap, hcm⟩), hk⟩; (exact hF.elim); replace st := st.adopt hk hg hbg; clear hk hg hbg hcap hcm) | (go_at_call 49; refine (HI.out _ _ _ (by first | exact (fun _ => trivial) | exact (fun _ => rfl) | (intro h; cases h)) (by omega) (by first | exact Rd.nil | exact Rd.bk (st.get (by repeat (first | exact At.here | apply At.there))))).mono ?_; rintro _ _ ⟨v, rfl, (⟨_, hm0, rfl⟩ | ⟨g, cap, spare, rfl, hg, hbg, hcap, hcm⟩), hk⟩; all_goals (first | (replace st := st.adopt hk hg hbg; clear hk hg hbg hcap hcm) | (replace hm0 := hid hm0; replace st := st.call hk; clear hk))) | (go_at_call 21; refine (intactBook_v (st.get (by repeat (first | exact At.here | apply At.there))) (st.get (by repeat (first | exact At.here | apply At.there))) hB (by omega)).mono ?_; rintro _ _ ⟨rfl, hk⟩; replace st := st.call hk; clear hk) | (go_at_call 39; (first | (with_reducible refine (eqInt64S_z hm0.out _ _ _ _ _).mono ?_) | (refine (eqInt64S_v hR.out (by omega) (.of (st.get (by repeat (first | exact At.here | apply At.there)))) (.of (st.get (by repeat (first | exact At.here | apply At.there))))).mono ?_)); rintro _ _ ⟨rfl, hk⟩; replace st := st.call hk; clear hk) | (go_at_call 40; (with_reducible refine (markInt64S_z (k := 101) (k0 := 101) rfl _).mono ?_); rintro _ _ ⟨rfl, hk⟩; replace st := st.call hk; clear hk) | (go_at_call 27; (with_reducible refine (markBook_k (k := 101) (n := n) (k0 := 101) rfl hK1.out (by omega) (by omega) (st.get (cs := encs fv (bkC B)) (by repeat (first | exact At.here | apply At.there))) (by rw [encs_fv_length, bkC_length, hB]; omega)).mono ?_); rintro _ _ ⟨rfl, hk, hb1⟩; replace st := st.wrote (by repeat (first | exact Upd.here | apply Upd.there)) hk hb1; clear hk hb1) | (go_at_call 40; (with_reducible refine (markInt64S_k (k := 101) (n := m) (k0 := 101) rfl hK2.out (by omega) (by omega) (st.get (by repeat (first | exact At.here | apply At.there))) (by rw [List.length_append, encs_i1_length, hR.out]; omega)).mono ?_); rintro _ _ ⟨rfl, hk, hb1⟩; replace st := st.wrote (by repeat (first | exact Upd.here | apply Upd.there)) hk hb1; clear hk hb1) | (go_at_call 41; (with_reducible refine (heldInt64S_z (k := 101) (k0 := 101) rfl _).mono ?_); rintro _ _ ⟨rfl, hk⟩; replace st := st.call hk; clear hk) | (go_at_call 41; (with_reducible refine (heldInt64S_k (k := 101) (n := m) (k0 := 101) rfl hK2.out (by omega) (by omega) (st.get (by repeat (first | exact At.here | apply At.there)))).mono ?_); rintro _ _ ⟨rfl, hk⟩; replace st := st.call hk; clear hk) | ((with_reducible refine gate_lst ?_); (first | ((with_reducible refine' wpl_ung ?_ ?_ ?_); rotate_left 1; (focus exact rfl); (focus exact rfl)))))
    all_goals
      go_ret
      exact ⟨rfl, st.keep⟩
end Go.Proofs.Ytmfgbkmkcljciaa
