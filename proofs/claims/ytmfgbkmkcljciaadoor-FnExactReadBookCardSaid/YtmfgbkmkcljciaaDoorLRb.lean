/- ReadBook: the law; no condition but the library's cell. -/
import Derived.Test.YtmfgbkmkcljciaaDoorRb2
namespace Go.Proofs.YtmfgbkmkcljciaaDoor
open Go.RowKit
set_option linter.unusedSimpArgs false
set_option linter.unusedVariables false
theorem ReadBook_len (l : List UInt8) : (rbL l).length ≤ 1000000 := by
  unfold rbL
  split
  · simp
  · split
    · rename_i h
      unfold sbO at h
      simp at h
      unfold sbL
      rw [List.length_map, List.length_range]
      omega
    · simp
set_option maxHeartbeats 16000000 in
set_option maxRecDepth 100000 in
theorem law_ReadBook (w : World) (l : List UInt8) (n0 : Nat) (hn0 : l.length = n0) (h60 : n0 ≤ 1000000) (hg0 : GlobM w) :
    Calls Tryd.prog 3 #[.string ⟨l.toArray⟩] w fun e w' => e = .returned (.bool true) ∧ Keep [] w w' := by
  have st := St.start w
  have hsz0 : (⟨l.toArray⟩ : ByteArray).size = n0 := by rw [← hn0]; rfl
  have hbig0 : decide ((1000000 : Int) < (n0 : Int)) = false := by simp; omega
  obtain ⟨q, hR⟩ : ∃ q, (rbL l).length = q := ⟨_, rfl⟩
  have hq4 : q ≤ 1000000 := by rw [← hR]; exact ReadBook_len  l
  have HS := hid (fun (w' : World)     (hk0 : Keep [] w w') => specReadBook_c l n0 hn0 h60 w')
  have HI := hid (fun (w' : World)     (hk0 : Keep [] w w') => ReadBook_c l n0 hn0 h60 w' (hg0.keep hk0))
  rw [hR] at HS HI
  replace hR := hid hR
  obtain ⟨KR, hKR⟩ : ∃ K, 101 + q * 12 = K := ⟨_, rfl⟩
  replace hKR := hid hKR
  go_enter Tryd.func3, Tryd.ntmps3
  go_wp2_with (first | (go_at_call 4; refine (HS.out _     st.keep).mono ?_; rintro _ _ ⟨v, rfl, (⟨hF, _⟩ | ⟨g, cap, spare, rfl, hg, hbg, hcap, hcm⟩), hk⟩; (exact hF.elim); replace st := st.adopt hk hg hbg; clear hk hg hbg hcap hcm) | (go_at_call 5; refine (HI.out _     st.keep).mono ?_; rintro _ _ ⟨v, rfl, (⟨_, hm0, rfl⟩ | ⟨g, cap, spare, rfl, hg, hbg, hcap, hcm⟩), hk⟩; all_goals (first | (replace st := st.adopt hk hg hbg; clear hk hg hbg hcap hcm) | (replace hm0 := hid hm0; replace st := st.call hk; clear hk))) | (go_at_call 6; (first | (with_reducible refine (eqBook_z hm0.out none _ _ _ _).mono ?_) | (refine (eqBook_v hR.out (by omega) (.of (st.get (by repeat (first | exact At.here | apply At.there)))) (.of (st.get (by repeat (first | exact At.here | apply At.there))))).mono ?_)); rintro _ _ ⟨rfl, hk⟩; replace st := st.call hk; clear hk) | (go_at_call 7; (with_reducible refine (markBook_z (p := none) (k := 101) (k0 := 101) rfl _).mono ?_); rintro _ _ ⟨rfl, hk⟩; replace st := st.call hk; clear hk) | (go_at_call 7; (with_reducible refine (markBook_k (k := 101) (n := q) (k0 := 101) rfl hKR.out (by omega) (by omega) (st.get (by repeat (first | exact At.here | apply At.there))) (by rw [List.length_append, encs_fv_length, hR.out]; omega)).mono ?_); rintro _ _ ⟨rfl, hk, hb1⟩; replace st := st.wrote (by repeat (first | exact Upd.here | apply Upd.there)) hk hb1; clear hk hb1) | (go_at_call 8; (with_reducible refine (heldBook_z (p := none) (k := 101) (k0 := 101) rfl _).mono ?_); rintro _ _ ⟨rfl, hk⟩; replace st := st.call hk; clear hk) | (go_at_call 8; (with_reducible refine (heldBook_k (k := 101) (n := q) (k0 := 101) rfl hKR.out (by omega) (by omega) (st.get (by repeat (first | exact At.here | apply At.there)))).mono ?_); rintro _ _ ⟨rfl, hk⟩; replace st := st.call hk; clear hk) | ((with_reducible refine gate_lst ?_); (first | ((with_reducible refine' wpl_ung ?_ ?_ ?_); rotate_left 1; (focus exact rfl); (focus exact rfl)))))
  all_goals
    go_ret
    exact ⟨rfl, st.keep⟩
theorem law_ReadBookAll (s : ByteArray) (hs : s.size ≤ maxLen) (w : World) (hg : GlobM w) :
    Calls Tryd.prog 3 #[.string s] w fun e w' => e = .returned (.bool true) ∧ Keep [] w w' := by
  obtain ⟨⟨l⟩⟩ := s
  rw [show ((⟨⟨l⟩⟩ : ByteArray)) = ⟨l.toArray⟩ from rfl] at hs ⊢
  obtain ⟨n, hn⟩ : ∃ n, l.length = n := ⟨_, rfl⟩
  have hsz : (⟨l.toArray⟩ : ByteArray).size = n := by rw [← hn]; rfl
  by_cases hbig : 1000000 < n
  · have st := St.start w
    have hs2 : n ≤ 9223372036854775807 := by rw [hsz] at hs; unfold maxLen at hs; omega
    have hd : decide ((1000000 : Int) < (n : Int)) = true := by simp; omega
    clear hn hs
    go_enter Tryd.func3, Tryd.ntmps3
    go_wp2_with (first | ((with_reducible refine gate_lst ?_); (first | ((with_reducible refine' wpl_ung ?_ ?_ ?_); rotate_left 1; (focus exact rfl); (focus exact rfl)))))
    go_ret
    exact ⟨rfl, st.keep⟩
  · exact law_ReadBook w l n hn (by omega) hg
end Go.Proofs.YtmfgbkmkcljciaaDoor
