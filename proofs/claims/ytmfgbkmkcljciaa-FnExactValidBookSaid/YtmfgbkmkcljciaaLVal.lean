/- The laws SameBook and ValidBook: what they answer; no condition. -/
import Derived.Test.YtmfgbkmkcljciaaVal2
namespace Go.Proofs.Ytmfgbkmkcljciaa
open Go.RowKit
set_option linter.unusedSimpArgs false
set_option linter.unusedVariables false
set_option maxHeartbeats 1000000 in
set_option maxRecDepth 100000 in
theorem law_ValidBook (w : World) (B : List Fm) (n : Nat) (hB : B.length = n) (hn : n ≤ 9223372036854775807) (p : Option Addr) (c : Nat) (hr : Rd w p n (encs fv B)) :
    Calls Try.prog 4 #[.slice p n c] w fun e w' => e = .returned (.bool true) ∧ Keep [] w w' := by
  have st := St.start w
  by_cases hbig : 1000000 < n
  · have hz : szN 1000000 n = -1 := by unfold szN; rw [if_pos (by omega)]
    go_enter Try.func4, Try.ntmps4
    go_wp2_with (first | (go_at_call 17; refine (szBook_v hz hn (by omega) _).mono ?_; rintro _ _ ⟨rfl, hk⟩; replace st := st.call hk; clear hk))
    go_ret
    exact ⟨rfl, st.keep⟩
  · have hz : szN 1000000 n = 1000000 - n := by unfold szN; rw [if_neg (by omega)]
    have hn1 : n ≤ 1000000 := by omega
    rcases Nat.eq_zero_or_pos n with h0 | hpos
    · subst h0
      go_enter Try.func4, Try.ntmps4
      go_wp2_with (first | (go_at_call 17; refine (szBook_v hz hn (by omega) _).mono ?_; rintro _ _ ⟨rfl, hk⟩; replace st := st.call hk; clear hk) | (go_at_call 19; (with_reducible refine (toBook_n B 0 hB hn1 _ _ false (.inl rfl) _ (hr.keep st.keep)).mono ?_); rintro _ _ ⟨g, rfl, hg, hbg, hk⟩; replace st := st.adopt hk hg hbg; clear hk hg hbg) | (go_at_call 19; (with_reducible refine (toBook_nil _ _ _).mono ?_); rintro _ _ ⟨rfl, hk⟩; replace st := st.call hk; clear hk) | (go_at_call 22; refine (specValidBook_c B 0 hB (by omega) _ _ _ .nil).mono ?_; rintro _ _ ⟨rfl, hk⟩; replace st := st.call hk; clear hk) | (go_at_call 23; refine (ValidBook_c B 0 hB (by omega) _ _ _ .nil).mono ?_; rintro _ _ ⟨rfl, hk⟩; replace st := st.call hk; clear hk) | (go_at_call 21; refine (intactBook_c B 0 _ hB rfl hn1 _ _ _ _ _ (st.get (by repeat (first | exact At.here | apply At.there))) (st.get (by repeat (first | exact At.here | apply At.there)))).mono ?_; rintro _ _ ⟨rfl, hk⟩; replace st := st.call hk; clear hk))
      go_ret
      exact ⟨rfl, st.keep⟩
    · go_enter Try.func4, Try.ntmps4
      go_wp2_with (first | (go_at_call 17; refine (szBook_v hz hn (by omega) _).mono ?_; rintro _ _ ⟨rfl, hk⟩; replace st := st.call hk; clear hk) | (go_at_call 19; (with_reducible refine (toBook_n B n hB hn1 _ _ false (.inl rfl) _ (hr.keep st.keep)).mono ?_); rintro _ _ ⟨g, rfl, hg, hbg, hk⟩; replace st := st.adopt hk hg hbg; clear hk hg hbg) | (go_at_call 19; (with_reducible refine (toBook_n B n hB hn1 _ _ true (.inr hpos) _ (hr.keep st.keep)).mono ?_); rintro _ _ ⟨g, rfl, hg, hbg, hk⟩; replace st := st.adopt hk hg hbg; clear hk hg hbg) | (go_at_call 22; refine (specValidBook_c B n hB (by omega) _ _ _ (.bk (st.get (by repeat (first | exact At.here | apply At.there))))).mono ?_; rintro _ _ ⟨rfl, hk⟩; replace st := st.call hk; clear hk) | (go_at_call 23; refine (ValidBook_c B n hB (by omega) _ _ _ (.bk (st.get (by repeat (first | exact At.here | apply At.there))))).mono ?_; rintro _ _ ⟨rfl, hk⟩; replace st := st.call hk; clear hk) | (go_at_call 21; refine (intactBook_c B n _ hB rfl hn1 _ _ _ _ _ (st.get (by repeat (first | exact At.here | apply At.there))) (st.get (by repeat (first | exact At.here | apply At.there)))).mono ?_; rintro _ _ ⟨rfl, hk⟩; replace st := st.call hk; clear hk))
      go_ret
      exact ⟨rfl, st.keep⟩
theorem specSameBook_c (A B : List Fm) (n m : Nat) (hA : A.length = n) (hB : B.length = m) (hn : n ≤ 4000000) (hm : m ≤ 4000000) (p p' : Option Addr) (c c' : Nat) (w : World) (hr : Rd w p n (encs fv A)) (hr' : Rd w p' m (encs fv B)) :
    Calls Try.prog 18 #[.slice p n c, .slice p' m c'] w fun e w' => e = .returned (.bool (decide (A = B))) ∧ Keep [] w w' := by
  have st := St.start w
  go_enter Try.func18, Try.ntmps18
  go_wp2_with (first | (go_at_call 54; refine (l02Same_c A B n m hA hB hn hm _ _ _ _ _ (hr.keep st.keep) (hr'.keep st.keep)).mono ?_; rintro _ _ ⟨rfl, hk⟩; replace st := st.call hk; clear hk))
  go_ret
  exact ⟨rfl, st.keep⟩
theorem SameBook_c (A B : List Fm) (n m : Nat) (hA : A.length = n) (hB : B.length = m) (hn : n ≤ 4000000) (hm : m ≤ 4000000) (p p' : Option Addr) (c c' : Nat) (w : World) (hr : Rd w p n (encs fv A)) (hr' : Rd w p' m (encs fv B)) :
    Calls Try.prog 20 #[.slice p n c, .slice p' m c'] w fun e w' => e = .returned (.bool (decide (A = B))) ∧ Keep [] w w' := by
  have st := St.start w
  go_enter Try.func20, Try.ntmps20
  go_wp2_with (first | (go_at_call 57; refine (slicesEqual_c A B n m hA hB hn hm _ _ _ _ _ (hr.keep st.keep) (hr'.keep st.keep)).mono ?_; rintro _ _ ⟨rfl, hk⟩; replace st := st.call hk; clear hk))
  go_ret
  exact ⟨rfl, st.keep⟩
set_option maxHeartbeats 4000000 in
set_option maxRecDepth 100000 in
theorem law_SameBook (w : World) (A : List Fm) (n : Nat) (hA : A.length = n) (hn : n ≤ 9223372036854775807) (p : Option Addr) (c : Nat) (hr : Rd w p n (encs fv A)) (B : List Fm) (m : Nat) (hB : B.length = m) (hm : m ≤ 9223372036854775807) (p' : Option Addr) (c' : Nat) (hr' : Rd w p' m (encs fv B)) :
    Calls Try.prog 3 #[.slice p n c, .slice p' m c'] w fun e w' => e = .returned (.bool true) ∧ Keep [] w w' := by
  have st := St.start w
  by_cases hbig : 1000000 < n
  · have hz : szN 1000000 n = -1 := by unfold szN; rw [if_pos (by omega)]
    go_enter Try.func3, Try.ntmps3
    go_wp2_with (first | (go_at_call 17; refine (szBook_v hz hn (by omega) _).mono ?_; rintro _ _ ⟨rfl, hk⟩; replace st := st.call hk; clear hk))
    go_ret
    exact ⟨rfl, st.keep⟩
  obtain ⟨l1, hl1⟩ : ∃ l1 : Nat, l1 = 1000000 - n := ⟨_, rfl⟩
  have hz : szN 1000000 n = (l1 : Int) := by unfold szN; rw [if_neg (by omega)]; omega
  have hn1 : n ≤ 1000000 := by omega
  have hl2 : l1 ≤ 1000000 := by omega
  by_cases hbig2 : l1 < m
  · have hz2 : szN (l1 : Int) m = -1 := by unfold szN; rw [if_pos (by omega)]
    clear hl1
    go_enter Try.func3, Try.ntmps3
    go_wp2_with (first | (go_at_call 17; (with_reducible refine (szBook_v hz hn (by omega) _).mono ?_); rintro _ _ ⟨rfl, hk⟩; replace st := st.call hk; clear hk) | (go_at_call 17; refine (szBook_v hz2 hm (by omega) _).mono ?_; rintro _ _ ⟨rfl, hk⟩; replace st := st.call hk; clear hk))
    go_ret
    exact ⟨rfl, st.keep⟩
  have hz2 : szN (l1 : Int) m = ((l1 - m : Nat) : Int) := by unfold szN; rw [if_neg (by omega)]; omega
  have hm1 : m ≤ 1000000 := by omega
  clear hl1
  rcases Nat.eq_zero_or_pos n with h0 | hpos
  · subst h0
    rcases Nat.eq_zero_or_pos m with h0' | hpos'
    · subst h0'
      go_enter Try.func3, Try.ntmps3
      go_wp2_with (first | (go_at_call 17; (with_reducible refine (szBook_v hz hn (by omega) _).mono ?_); rintro _ _ ⟨rfl, hk⟩; replace st := st.call hk; clear hk) | (go_at_call 17; refine (szBook_v hz2 hm (by omega) _).mono ?_; rintro _ _ ⟨rfl, hk⟩; replace st := st.call hk; clear hk) | (go_at_call 19; (with_reducible refine (toBook_n A 0 hA hn1 _ _ false (.inl rfl) _ (hr.keep st.keep)).mono ?_); rintro _ _ ⟨g, rfl, hg, hbg, hk⟩; replace st := st.adopt hk hg hbg; clear hk hg hbg) | (go_at_call 19; (with_reducible refine (toBook_nil _ _ _).mono ?_); rintro _ _ ⟨rfl, hk⟩; replace st := st.call hk; clear hk) | (go_at_call 19; (with_reducible refine (toBook_n B 0 hB hm1 _ _ false (.inl rfl) _ (hr'.keep st.keep)).mono ?_); rintro _ _ ⟨g, rfl, hg, hbg, hk⟩; replace st := st.adopt hk hg hbg; clear hk hg hbg) | (go_at_call 19; (with_reducible refine (toBook_nil _ _ _).mono ?_); rintro _ _ ⟨rfl, hk⟩; replace st := st.call hk; clear hk) | (go_at_call 18; refine (specSameBook_c A B 0 0 hA hB (by omega) (by omega) _ _ _ _ _ .nil .nil).mono ?_; rintro _ _ ⟨rfl, hk⟩; replace st := st.call hk; clear hk) | (go_at_call 20; refine (SameBook_c A B 0 0 hA hB (by omega) (by omega) _ _ _ _ _ .nil .nil).mono ?_; rintro _ _ ⟨rfl, hk⟩; replace st := st.call hk; clear hk) | (go_at_call 21; refine (intactBook_v (st.get (by repeat (first | exact At.here | apply At.there))) (st.get (by repeat (first | exact At.here | apply At.there))) (by first | exact hA | exact hB) (by omega)).mono ?_; rintro _ _ ⟨rfl, hk⟩; replace st := st.call hk; clear hk))
      go_ret
      exact ⟨rfl, st.keep⟩
    · go_enter Try.func3, Try.ntmps3
      go_wp2_with (first | (go_at_call 17; (with_reducible refine (szBook_v hz hn (by omega) _).mono ?_); rintro _ _ ⟨rfl, hk⟩; replace st := st.call hk; clear hk) | (go_at_call 17; refine (szBook_v hz2 hm (by omega) _).mono ?_; rintro _ _ ⟨rfl, hk⟩; replace st := st.call hk; clear hk) | (go_at_call 19; (with_reducible refine (toBook_n A 0 hA hn1 _ _ false (.inl rfl) _ (hr.keep st.keep)).mono ?_); rintro _ _ ⟨g, rfl, hg, hbg, hk⟩; replace st := st.adopt hk hg hbg; clear hk hg hbg) | (go_at_call 19; (with_reducible refine (toBook_nil _ _ _).mono ?_); rintro _ _ ⟨rfl, hk⟩; replace st := st.call hk; clear hk) | (go_at_call 19; (with_reducible refine (toBook_n B m hB hm1 _ _ false (.inl rfl) _ (hr'.keep st.keep)).mono ?_); rintro _ _ ⟨g, rfl, hg, hbg, hk⟩; replace st := st.adopt hk hg hbg; clear hk hg hbg) | (go_at_call 19; (with_reducible refine (toBook_n B m hB hm1 _ _ true (.inr hpos') _ (hr'.keep st.keep)).mono ?_); rintro _ _ ⟨g, rfl, hg, hbg, hk⟩; replace st := st.adopt hk hg hbg; clear hk hg hbg) | (go_at_call 18; refine (specSameBook_c A B 0 m hA hB (by omega) (by omega) _ _ _ _ _ .nil (.bk (st.get (by repeat (first | exact At.here | apply At.there))))).mono ?_; rintro _ _ ⟨rfl, hk⟩; replace st := st.call hk; clear hk) | (go_at_call 20; refine (SameBook_c A B 0 m hA hB (by omega) (by omega) _ _ _ _ _ .nil (.bk (st.get (by repeat (first | exact At.here | apply At.there))))).mono ?_; rintro _ _ ⟨rfl, hk⟩; replace st := st.call hk; clear hk) | (go_at_call 21; refine (intactBook_v (st.get (by repeat (first | exact At.here | apply At.there))) (st.get (by repeat (first | exact At.here | apply At.there))) (by first | exact hA | exact hB) (by omega)).mono ?_; rintro _ _ ⟨rfl, hk⟩; replace st := st.call hk; clear hk))
      go_ret
      exact ⟨rfl, st.keep⟩
  · rcases Nat.eq_zero_or_pos m with h0' | hpos'
    · subst h0'
      go_enter Try.func3, Try.ntmps3
      go_wp2_with (first | (go_at_call 17; (with_reducible refine (szBook_v hz hn (by omega) _).mono ?_); rintro _ _ ⟨rfl, hk⟩; replace st := st.call hk; clear hk) | (go_at_call 17; refine (szBook_v hz2 hm (by omega) _).mono ?_; rintro _ _ ⟨rfl, hk⟩; replace st := st.call hk; clear hk) | (go_at_call 19; (with_reducible refine (toBook_n A n hA hn1 _ _ false (.inl rfl) _ (hr.keep st.keep)).mono ?_); rintro _ _ ⟨g, rfl, hg, hbg, hk⟩; replace st := st.adopt hk hg hbg; clear hk hg hbg) | (go_at_call 19; (with_reducible refine (toBook_n A n hA hn1 _ _ true (.inr hpos) _ (hr.keep st.keep)).mono ?_); rintro _ _ ⟨g, rfl, hg, hbg, hk⟩; replace st := st.adopt hk hg hbg; clear hk hg hbg) | (go_at_call 19; (with_reducible refine (toBook_n B 0 hB hm1 _ _ false (.inl rfl) _ (hr'.keep st.keep)).mono ?_); rintro _ _ ⟨g, rfl, hg, hbg, hk⟩; replace st := st.adopt hk hg hbg; clear hk hg hbg) | (go_at_call 19; (with_reducible refine (toBook_nil _ _ _).mono ?_); rintro _ _ ⟨rfl, hk⟩; replace st := st.call hk; clear hk) | (go_at_call 18; refine (specSameBook_c A B n 0 hA hB (by omega) (by omega) _ _ _ _ _ (.bk (st.get (by repeat (first | exact At.here | apply At.there)))) .nil).mono ?_; rintro _ _ ⟨rfl, hk⟩; replace st := st.call hk; clear hk) | (go_at_call 20; refine (SameBook_c A B n 0 hA hB (by omega) (by omega) _ _ _ _ _ (.bk (st.get (by repeat (first | exact At.here | apply At.there)))) .nil).mono ?_; rintro _ _ ⟨rfl, hk⟩; replace st := st.call hk; clear hk) | (go_at_call 21; refine (intactBook_v (st.get (by repeat (first | exact At.here | apply At.there))) (st.get (by repeat (first | exact At.here | apply At.there))) (by first | exact hA | exact hB) (by omega)).mono ?_; rintro _ _ ⟨rfl, hk⟩; replace st := st.call hk; clear hk))
      go_ret
      exact ⟨rfl, st.keep⟩
    · go_enter Try.func3, Try.ntmps3
      go_wp2_with (first | (go_at_call 17; (with_reducible refine (szBook_v hz hn (by omega) _).mono ?_); rintro _ _ ⟨rfl, hk⟩; replace st := st.call hk; clear hk) | (go_at_call 17; refine (szBook_v hz2 hm (by omega) _).mono ?_; rintro _ _ ⟨rfl, hk⟩; replace st := st.call hk; clear hk) | (go_at_call 19; (with_reducible refine (toBook_n A n hA hn1 _ _ false (.inl rfl) _ (hr.keep st.keep)).mono ?_); rintro _ _ ⟨g, rfl, hg, hbg, hk⟩; replace st := st.adopt hk hg hbg; clear hk hg hbg) | (go_at_call 19; (with_reducible refine (toBook_n A n hA hn1 _ _ true (.inr hpos) _ (hr.keep st.keep)).mono ?_); rintro _ _ ⟨g, rfl, hg, hbg, hk⟩; replace st := st.adopt hk hg hbg; clear hk hg hbg) | (go_at_call 19; (with_reducible refine (toBook_n B m hB hm1 _ _ false (.inl rfl) _ (hr'.keep st.keep)).mono ?_); rintro _ _ ⟨g, rfl, hg, hbg, hk⟩; replace st := st.adopt hk hg hbg; clear hk hg hbg) | (go_at_call 19; (with_reducible refine (toBook_n B m hB hm1 _ _ true (.inr hpos') _ (hr'.keep st.keep)).mono ?_); rintro _ _ ⟨g, rfl, hg, hbg, hk⟩; replace st := st.adopt hk hg hbg; clear hk hg hbg) | (go_at_call 18; refine (specSameBook_c A B n m hA hB (by omega) (by omega) _ _ _ _ _ (.bk (st.get (by repeat (first | exact At.here | apply At.there)))) (.bk (st.get (by repeat (first | exact At.here | apply At.there))))).mono ?_; rintro _ _ ⟨rfl, hk⟩; replace st := st.call hk; clear hk) | (go_at_call 20; refine (SameBook_c A B n m hA hB (by omega) (by omega) _ _ _ _ _ (.bk (st.get (by repeat (first | exact At.here | apply At.there)))) (.bk (st.get (by repeat (first | exact At.here | apply At.there))))).mono ?_; rintro _ _ ⟨rfl, hk⟩; replace st := st.call hk; clear hk) | (go_at_call 21; refine (intactBook_v (st.get (by repeat (first | exact At.here | apply At.there))) (st.get (by repeat (first | exact At.here | apply At.there))) (by first | exact hA | exact hB) (by omega)).mono ?_; rintro _ _ ⟨rfl, hk⟩; replace st := st.call hk; clear hk))
      go_ret
      exact ⟨rfl, st.keep⟩
end Go.Proofs.Ytmfgbkmkcljciaa
