/- Parts of books: the reference and the program; no condition. -/
import Derived.Test.YtmfgbkmkcljciaaRes
import Derived.Test.YtmfgbkmkcljciaaB8
namespace Go.Proofs.Ytmfgbkmkcljciaa
open Go.RowKit
set_option linter.unusedSimpArgs false
set_option linter.unusedVariables false

theorem gate_slice {P : Program} {ops : Array Oper} {rest : List Oper} {o : Oper} {a : Act} {w : World} {Q : Exit → Act → World → Prop} {T : TypeId} {x : Operand} {l h m : Option Operand} (_ho : o.op = .slice T x l h m) (hh : wpList P ops Q (o :: rest) a w) : wpList P ops Q (o :: rest) a w := hh
def cutIn (n : Nat) (from_ to : Int) : Bool := inB from_ 0 n && inB to from_ n
def cutBC (B : List Fm) (from_ to : Int) : Int := if bkB B = true then (if cutIn B.length from_ to = true then 0 else 2) else 1
def cutBR (B : List Fm) (from_ to : Int) : List Fm := if cutBC B from_ to = 0 then (B.drop from_.toNat).take (to.toNat - from_.toNat) else []
theorem l02Ok_v {B : List Fm} {v : Bool} (h : bkB B = v) (n : Nat) (hB : B.length = n) (hn : n ≤ 4000000) (p : Option Addr) (c : Nat) (w : World) (hr : Rd w p n (encs fv B)) :
    Calls Try.prog 58 #[.slice p n c] w fun e w' => e = .returned (.bool v) ∧ Keep [] w w' := by
  subst h; exact l02Ok_c B n hB hn p c w hr
theorem ValidBook_v {B : List Fm} {v : Bool} (h : bkB B = v) (n : Nat) (hB : B.length = n) (hn : n ≤ 4000000) (p : Option Addr) (c : Nat) (w : World) (hr : Rd w p n (encs fv B)) :
    Calls Try.prog 23 #[.slice p n c] w fun e w' => e = .returned (.bool v) ∧ Keep [] w w' := by
  subst h; exact ValidBook_c B n hB hn p c w hr
theorem gives0 {w w1 : World} {L : List (Nat × List Value × TypeId)} {B : Nat} {E : TypeId} {sz : Nat} (st : St [] w w1 L) (h : At B [] E L) : Gives E sz 0 [] w (.slice (some ⟨B, 0, none⟩) 0 0) w1 :=
  ⟨B, 0, [], rfl, out_of st h, st.get h, by simp, Nat.zero_le _⟩
set_option maxHeartbeats 1000000 in
set_option maxRecDepth 100000 in
theorem specCutBook_c (B : List Fm) (n : Nat) (hB : B.length = n) (hn : n ≤ 1000000) (p : Option Addr) (hp : p = none → n = 0) (c : Nat) (hc : n ≤ c) (i j : Int) (w : World) (hr : Rd w p n (encs fv B)) :
    Calls Try.prog 24 #[.slice p n c, .int .i64 i, .int .i64 j] w (BookCode (cutBR B i j) (cutBR B i j).length (cutBC B i j) False w) := by
  have st := St.start w
  rcases Bool.eq_false_or_eq_true (bkB B) with h | h
  · have HV := hid (fun w' hk => l02Ok_v h n hB (by omega) p c w' (hr.keep (w1 := w') hk))
    rcases Bool.eq_false_or_eq_true (cutIn n i j) with h2 | h2
    · have hc0 : cutBC B i j = 0 := by unfold cutBC; rw [if_pos h, hB, if_pos h2]
      unfold cutBR
      rw [hc0, if_pos rfl]
      unfold cutIn at h2
      rw [Bool.and_eq_true] at h2
      obtain ⟨q1, q2⟩ := h2
      have r1 := q1
      have r2 := q2
      unfold inB at r1 r2
      rw [decide_eq_true_eq] at r1 r2
      obtain ⟨f, rfl⟩ : ∃ f : Nat, i = f := ⟨i.toNat, by omega⟩
      obtain ⟨t, rfl⟩ : ∃ t : Nat, j = t := ⟨j.toNat, by omega⟩
      have hft : f ≤ t := by omega
      have htn : t ≤ n := by omega
      simp only [Int.toNat_natCast]
      have hl : ((B.drop f).take (t - f)).length = t - f := by rw [List.length_take, List.length_drop]; omega
      rw [hl]
      have HL := hid hl
      replace hB := hid hB
      have HP0 := hid hp
      clear hl hp hc0 h r1 r2
      go_enter Try.func24, Try.ntmps24
      go_wp2_with (first | (go_at_call 58; refine (HV.out _ st.keep).mono ?_; rintro _ _ ⟨rfl, hk⟩; replace st := st.call hk; clear hk) | (go_at_call 60; (with_reducible refine (l00In_v q1 _).mono ?_); rintro _ _ ⟨rfl, hk⟩; replace st := st.call hk; clear hk) | (go_at_call 60; (with_reducible refine (l00In_v q2 _).mono ?_); rintro _ _ ⟨rfl, hk⟩; replace st := st.call hk; clear hk) | ((with_reducible refine gate_bsl rfl ?_); refine ia_bsl0 (sl := 26) st rfl rfl rfl ?_; clear st; intro B26 _ st) | ((with_reducible refine gate_slice rfl ?_); refine ia_cut (B := B) fv_len rfl rfl rfl rfl rfl hB.out hft htn hc (hr.keep st.keep) ?_; intro p2 hp2 hr2; have HP2 := hid hp2; clear hp2) | ((with_reducible refine gate_app rfl ?_); refine ia_appendR0 (news := encs fv ((B.drop f).take (t - f))) st rfl rfl rfl rfl hr2 (fun h => by have := HP0.out (HP2.out.1 h); omega) (by rw [encs_fv_length, HL.out]) (encs_one fv_one _) (by unfold maxLen; omega) (by omega) ?_; clear st; intro g2 cap2 spare2 _ st hcap2 hcm2; (try simp only [List.set_cons_zero, List.set_cons_succ] at st)) | ((with_reducible refine gate_lst ?_); (first | ((with_reducible refine' wpl_ung ?_ ?_ ?_); rotate_left 1; (focus exact rfl); (focus exact rfl)))))
      go_ret2
      exact ⟨_, rfl, Or.inr ⟨g2, cap2, spare2, rfl, out_of st .here, st.get .here, hcap2, hcm2⟩, st.keep⟩
    · have hc2 : cutBC B i j = 2 := by unfold cutBC; rw [if_pos h, hB, if_neg (by rw [h2]; decide)]
      unfold cutBR
      rw [hc2, if_neg (by decide)]
      unfold cutIn at h2
      clear hc2 h hB hp
      rcases Bool.eq_false_or_eq_true (inB i 0 n) with q1 | q1
      · have q2 : inB j i n = false := by rw [q1, Bool.true_and] at h2; exact h2
        clear h2
        go_enter Try.func24, Try.ntmps24
        go_wp2_with (first | (go_at_call 58; refine (HV.out _ st.keep).mono ?_; rintro _ _ ⟨rfl, hk⟩; replace st := st.call hk; clear hk) | (go_at_call 60; (with_reducible refine (l00In_v q1 _).mono ?_); rintro _ _ ⟨rfl, hk⟩; replace st := st.call hk; clear hk) | (go_at_call 60; (with_reducible refine (l00In_v q2 _).mono ?_); rintro _ _ ⟨rfl, hk⟩; replace st := st.call hk; clear hk) | ((with_reducible refine gate_bsl rfl ?_); refine ia_bsl0 (sl := 25) st rfl rfl rfl ?_; clear st; intro B25 _ st) | ((with_reducible refine gate_lst ?_); (first | ((with_reducible refine' wpl_ung ?_ ?_ ?_); rotate_left 1; (focus exact rfl); (focus exact rfl)))))
        go_ret2
        exact ⟨_, rfl, Or.inr (gives0 st .here), st.keep⟩
      · clear h2
        go_enter Try.func24, Try.ntmps24
        go_wp2_with (first | (go_at_call 58; refine (HV.out _ st.keep).mono ?_; rintro _ _ ⟨rfl, hk⟩; replace st := st.call hk; clear hk) | (go_at_call 60; (with_reducible refine (l00In_v q1 _).mono ?_); rintro _ _ ⟨rfl, hk⟩; replace st := st.call hk; clear hk) | ((with_reducible refine gate_bsl rfl ?_); refine ia_bsl0 (sl := 25) st rfl rfl rfl ?_; clear st; intro B25 _ st) | ((with_reducible refine gate_lst ?_); (first | ((with_reducible refine' wpl_ung ?_ ?_ ?_); rotate_left 1; (focus exact rfl); (focus exact rfl)))))
        go_ret2
        exact ⟨_, rfl, Or.inr (gives0 st .here), st.keep⟩
  · have HV := hid (fun w' hk => l02Ok_v h n hB (by omega) p c w' (hr.keep (w1 := w') hk))
    have hc1 : cutBC B i j = 1 := by unfold cutBC; rw [if_neg (by rw [h]; decide)]
    unfold cutBR
    rw [hc1, if_neg (by decide)]
    clear hc1 h hB hp
    go_enter Try.func24, Try.ntmps24
    go_wp2_with (first | (go_at_call 58; refine (HV.out _ st.keep).mono ?_; rintro _ _ ⟨rfl, hk⟩; replace st := st.call hk; clear hk) | ((with_reducible refine gate_bsl rfl ?_); refine ia_bsl0 (sl := 11) st rfl rfl rfl ?_; clear st; intro B11 _ st) | ((with_reducible refine gate_lst ?_); (first | ((with_reducible refine' wpl_ung ?_ ?_ ?_); rotate_left 1; (focus exact rfl); (focus exact rfl)))))
    go_ret2
    exact ⟨_, rfl, Or.inr (gives0 st .here), st.keep⟩
set_option maxHeartbeats 1000000 in
set_option maxRecDepth 100000 in
theorem CutBook_c (B : List Fm) (n : Nat) (hB : B.length = n) (hn : n ≤ 1000000) (p : Option Addr) (hp : p = none → n = 0) (c : Nat) (hc : n ≤ c) (i j : Int) (w : World) (hr : Rd w p n (encs fv B)) :
    Calls Try.prog 25 #[.slice p n c, .int .i64 i, .int .i64 j] w (BookCode (cutBR B i j) (cutBR B i j).length (cutBC B i j) True w) := by
  have st := St.start w
  rcases Bool.eq_false_or_eq_true (bkB B) with h | h
  · have HV := hid (fun w' hk => ValidBook_v h n hB (by omega) p c w' (hr.keep (w1 := w') hk))
    rcases Bool.eq_false_or_eq_true (cutIn n i j) with h2 | h2
    · have hc0 : cutBC B i j = 0 := by unfold cutBC; rw [if_pos h, hB, if_pos h2]
      unfold cutBR
      rw [hc0, if_pos rfl]
      unfold cutIn at h2
      rw [Bool.and_eq_true] at h2
      obtain ⟨q1, q2⟩ := h2
      have r1 := q1
      have r2 := q2
      unfold inB at r1 r2
      rw [decide_eq_true_eq] at r1 r2
      obtain ⟨f, rfl⟩ : ∃ f : Nat, i = f := ⟨i.toNat, by omega⟩
      obtain ⟨t, rfl⟩ : ∃ t : Nat, j = t := ⟨j.toNat, by omega⟩
      have hft : f ≤ t := by omega
      have htn : t ≤ n := by omega
      simp only [Int.toNat_natCast]
      have hl : ((B.drop f).take (t - f)).length = t - f := by rw [List.length_take, List.length_drop]; omega
      rw [hl]
      have HL := hid hl
      replace hB := hid hB
      have HP0 := hid hp
      clear hl hp hc0 h r1 r2
      go_enter Try.func25, Try.ntmps25
      go_wp2_with (first | (go_at_call 23; refine (HV.out _ st.keep).mono ?_; rintro _ _ ⟨rfl, hk⟩; replace st := st.call hk; clear hk) | (go_at_call 61; (with_reducible refine (inRange_v q1 _).mono ?_); rintro _ _ ⟨rfl, hk⟩; replace st := st.call hk; clear hk) | (go_at_call 61; (with_reducible refine (inRange_v q2 _).mono ?_); rintro _ _ ⟨rfl, hk⟩; replace st := st.call hk; clear hk) | ((with_reducible refine gate_slice rfl ?_); refine ia_cut (B := B) fv_len rfl rfl rfl rfl rfl hB.out hft htn hc (hr.keep st.keep) ?_; intro p2 hp2 hr2; have HP2 := hid hp2; clear hp2) | (go_at_call 62; refine (Clone_c ((B.drop f).take (t - f)) (t - f) HL.out (by omega) _ (fun h => by have := HP0.out (HP2.out.1 h); omega) _ _ hr2).mono ?_; rintro _ _ ⟨v, rfl, hv, hk⟩; have HVV := hid (hv.since st.keep (fun _ => trivial)); clear hv; replace st := st.call hk; clear hk) | ((with_reducible refine gate_lst ?_); (first | ((with_reducible refine' wpl_ung ?_ ?_ ?_); rotate_left 1; (focus exact rfl); (focus exact rfl)))))
      go_ret2
      exact ⟨_, rfl, HVV.out, st.keep⟩
    · have hc2 : cutBC B i j = 2 := by unfold cutBC; rw [if_pos h, hB, if_neg (by rw [h2]; decide)]
      unfold cutBR
      rw [hc2, if_neg (by decide)]
      unfold cutIn at h2
      clear hc2 h hB hp
      rcases Bool.eq_false_or_eq_true (inB i 0 n) with q1 | q1
      · have q2 : inB j i n = false := by rw [q1, Bool.true_and] at h2; exact h2
        clear h2
        go_enter Try.func25, Try.ntmps25
        go_wp2_with (first | (go_at_call 23; refine (HV.out _ st.keep).mono ?_; rintro _ _ ⟨rfl, hk⟩; replace st := st.call hk; clear hk) | (go_at_call 61; (with_reducible refine (inRange_v q1 _).mono ?_); rintro _ _ ⟨rfl, hk⟩; replace st := st.call hk; clear hk) | (go_at_call 61; (with_reducible refine (inRange_v q2 _).mono ?_); rintro _ _ ⟨rfl, hk⟩; replace st := st.call hk; clear hk) | ((with_reducible refine gate_lst ?_); (first | ((with_reducible refine' wpl_ung ?_ ?_ ?_); rotate_left 1; (focus exact rfl); (focus exact rfl)))))
        go_ret2
        exact ⟨_, rfl, Or.inl ⟨trivial, rfl, rfl⟩, st.keep⟩
      · clear h2
        go_enter Try.func25, Try.ntmps25
        go_wp2_with (first | (go_at_call 23; refine (HV.out _ st.keep).mono ?_; rintro _ _ ⟨rfl, hk⟩; replace st := st.call hk; clear hk) | (go_at_call 61; (with_reducible refine (inRange_v q1 _).mono ?_); rintro _ _ ⟨rfl, hk⟩; replace st := st.call hk; clear hk) | ((with_reducible refine gate_lst ?_); (first | ((with_reducible refine' wpl_ung ?_ ?_ ?_); rotate_left 1; (focus exact rfl); (focus exact rfl)))))
        go_ret2
        exact ⟨_, rfl, Or.inl ⟨trivial, rfl, rfl⟩, st.keep⟩
  · have HV := hid (fun w' hk => ValidBook_v h n hB (by omega) p c w' (hr.keep (w1 := w') hk))
    have hc1 : cutBC B i j = 1 := by unfold cutBC; rw [if_neg (by rw [h]; decide)]
    unfold cutBR
    rw [hc1, if_neg (by decide)]
    clear hc1 h hB hp
    go_enter Try.func25, Try.ntmps25
    go_wp2_with (first | (go_at_call 23; refine (HV.out _ st.keep).mono ?_; rintro _ _ ⟨rfl, hk⟩; replace st := st.call hk; clear hk) | ((with_reducible refine gate_lst ?_); (first | ((with_reducible refine' wpl_ung ?_ ?_ ?_); rotate_left 1; (focus exact rfl); (focus exact rfl)))))
    go_ret2
    exact ⟨_, rfl, Or.inl ⟨trivial, rfl, rfl⟩, st.keep⟩
end Go.Proofs.Ytmfgbkmkcljciaa
