/- Texts of this seat, one behind the other: Shown, Back, Fro, Play; no condition. -/
import Derived.Test.YtlljflmbnbjccaaGreatDoorM5
import Derived.Test.YtlljflmbnbjccaaGreatDoorM2
/- How long pages are shown: the reference and the program; no condition. -/
namespace Go.Proofs.YtlljflmbnbjccaaGreatDoor
open Go.RowKit
set_option linter.unusedSimpArgs false
set_option linter.unusedVariables false
def IntsCode' (R : List Int) (n : Nat) (code : Int) (nilOk : Prop) (w : World) (e : Ending) (w' : World) : Prop := ∃ v, e = .returned (.tuple #[v, .int .i64 code]) ∧ SlOut 2 1 n (encs i1 R) nilOk w v w' ∧ Keep [] w w'
def swR (B : List Fm) (S : List Sh) : List Int := if shtB B S = true then shownS B.length S else []
theorem encs_i1_set (l : List Int) (j : Nat) (y : Int) : (encs i1 l).set j (.int .i64 y) = encs i1 (l.set j y) := by
  induction l generalizing j with
  | nil => rfl
  | cons a l ih =>
    cases j with
    | zero => rfl
    | succ j =>
      show (Value.int .i64 a :: encs i1 l).set (j + 1) _ = Value.int .i64 a :: encs i1 (l.set j y)
      rw [List.set_cons_succ, ih]
theorem i1_atE {l : List Int} {k : Nat} {x : Int} (h : l[k]? = some x) : (encs i1 l)[k]? = some (.int .i64 x) := by
  obtain ⟨hk, e⟩ := List.getElem?_eq_some_iff.1 h
  have := encs_getA i1_len l [] k hk 0 (by omega)
  rw [Nat.mul_one, Nat.add_zero, e, List.append_nil] at this
  exact this
theorem shownS_length (n : Nat) (S : List Sh) : (shownS n S).length = n := by
  have : ∀ (S : List Sh) (l : List Int), (S.foldl (fun l s => addAt l s.1.toNat s.2) l).length = l.length := by
    intro S
    induction S with
    | nil => intro l; rfl
    | cons x S ih => intro l; rw [List.foldl_cons, ih, addAt_length]
  unfold shownS
  rw [this, List.length_replicate]
theorem make0 (n : Nat) : (List.replicate n [Value.int .i64 0]).flatten = encs i1 (List.replicate n 0) := (encs_replicate (e := i1) n 0).symm
theorem shown_bd {n : Nat} {S : List Sh} (h : allSh n S = true) (k : Nat) : ∀ x ∈ shownS n (S.take k), 0 ≤ x ∧ x ≤ 24 * S.length := by
  intro x hx
  rw [← shown_same (allSh_take h k)] at hx
  have h1 := shownT_range n _ x hx
  have h2 := tkS_len_take h k
  omega
theorem shownT_bd {n : Nat} {T : List Int} (k : Nat) : ∀ x ∈ shownT n (T.take k), 0 ≤ x ∧ x ≤ T.length := by
  intro x hx
  have h1 := shownT_range n _ x hx
  have h2 : (T.take k).length ≤ T.length := by rw [List.length_take]; omega
  omega
theorem fld_shot0 (b f : Nat) (w' : World) : (Instr.fieldAt 55 (.pointer (some ⟨b, f, none⟩)) 0).run Tryz.prog w' = .ok (.pointer (some ⟨b, f + 0, none⟩)) w' := by
  simp [Instr.fieldAt, run_underlying Tryz.underlying55, Instr.sureAddr]
  go_simp
theorem fld_shot1 (b f : Nat) (w' : World) : (Instr.fieldAt 55 (.pointer (some ⟨b, f, none⟩)) 1).run Tryz.prog w' = .ok (.pointer (some ⟨b, f + 1, none⟩)) w' := by
  simp [Instr.fieldAt, run_underlying Tryz.underlying55, Instr.sureAddr]
  go_simp
instance : FldC Tryz.prog 55 0 0 := ⟨fld_shot0⟩
instance : FldC Tryz.prog 55 1 1 := ⟨fld_shot1⟩
set_option maxHeartbeats 2000000 in
set_option maxRecDepth 100000 in
theorem ShownFor_c (B : List Fm) (n : Nat) (hB : B.length = n) (hn : n ≤ 1000000) (p : Option Addr) (c : Nat) (S : List Sh) (m : Nat) (hS : S.length = m) (hm : m ≤ 1000000) (h8 : R8 S) (p' : Option Addr) (c' : Nat) (w : World) (hr : Rd w p n (encs fv B)) (hr' : Rd w p' m (encs p8 S)) :
    Calls Tryz.prog 13 #[.slice p n c, .slice p' m c'] w (IntsCode' (swR B S) (swR B S).length (shC1 B S) (shC1 B S ≠ 0) w) := by
  have st := St.start w
  have HV := hid (fun w' (hk : Keep [] w w') => ValidSheet_c B n hB hn p c S m hS hm h8 p' c' w' (hr.keep hk) (hr'.keep hk))
  unfold swR shC1
  rcases Bool.eq_false_or_eq_true (shtB B S) with q | q
  · rw [q] at HV
    rw [if_pos q, if_pos q]
    obtain ⟨hsh, hm80, _⟩ := shtB_sh q
    rw [hS] at hm80
    have HT := hid (fun w' (hk : Keep [] w w') => ticks_c S m hS hm80 h8 B.length hsh p' c' w' (hr'.keep hk))
    rw [hB] at hsh ⊢
    have HLL := hid (shownS_length n S)
    rw [HLL.out]
    have HSM := hid (shown_same hsh)
    have HRG := hid (tkS_range hsh)
    have hTL := tkS_length hsh
    have HM0 := hid (make0 n)
    obtain ⟨T, hT⟩ : ∃ T, tkS S = T := ⟨_, rfl⟩
    obtain ⟨N, hN⟩ : ∃ N, T.length = N := ⟨_, rfl⟩
    rw [hT] at HT HSM HRG hTL
    rw [hN] at HT hTL
    have hN1 : N ≤ 1920 := by omega
    have HN := hid hN
    clear hsh h8 hS hB hr hr' hT hN hTL
    go_enter Tryz.func13, Tryz.ntmps13
    go_wp2_with (first | (go_at_call 15; refine (HV.out _ st.keep).mono ?_; rintro _ _ ⟨rfl, hk⟩; replace st := st.call hk; clear hk) | ((with_reducible refine gate_make rfl ?_); refine la_makeSlice tI64S (n := n) ?_ ?_ ?_ ?_ st rfl rfl rfl rfl ?_; (focus (first | exact HN3.out | exact rfl | omega)); (focus (first | exact HN3.out | exact rfl | omega)); (focus omega); (focus omega); clear st; intro B15 _ st) | (go_at_call 37; refine (HT.out _ st.keep).mono ?_; rintro _ _ ⟨v, rfl, ⟨g, cap, spare, rfl, hg, hbg, hcap, hcm⟩, hk⟩; replace st := st.adopt hk hg hbg; clear hk hg hbg) | ((with_reducible refine gate_lst ?_); (first | ((with_reducible refine gate_load rfl ?_); (first | (refine' ia_load1 st rfl rfl rfl ?_ ?_; rotate_left 1; (focus (first | exact N0.out | exact N1.out | exact N2.out | exact N3.out | exact N4.out | exact N5.out | exact G2.out | exact G3.out | exact G4.out | exact G0.out | exact G1.out | (refine frv_get _ _ ?_; (first | omega | (simp; done) | (simp; omega) | (simp [*]; omega))) | exact rfl))) | (refine' ia_load1Z (hb.keep st.keep (by simp)) rfl rfl rfl ?_ ?_; rotate_left 1; (focus exact rfl)) | (refine' ia_load1Z (hb'.keep st.keep (by simp)) rfl rfl rfl ?_ ?_; rotate_left 1; (focus exact rfl)) | (refine' ia_load1C (hb.keep st.keep (by simp)) rfl rfl rfl ?_ ?_; rotate_left 1; (focus (first | exact N0.out | exact N1.out | exact N2.out | exact N3.out | exact N4.out | exact N5.out | exact G2.out | exact G3.out | exact G4.out | exact G0.out | exact G1.out | (refine frv_get _ _ ?_; (first | omega | (simp; done) | (simp; omega) | (simp [*]; omega))) | exact rfl))) | (refine' ia_load1C (hb'.keep st.keep (by simp)) rfl rfl rfl ?_ ?_; rotate_left 1; (focus (first | exact N0.out | exact N1.out | exact N2.out | exact N3.out | exact N4.out | exact N5.out | exact G2.out | exact G3.out | exact G4.out | exact G0.out | exact G1.out | (refine frv_get _ _ ?_; (first | omega | (simp; done) | (simp; omega) | (simp [*]; omega))) | exact rfl))) | (refine' ia_load1B (hb1.keep st.keep (by simp)) rfl rfl rfl ?_ ?_; rotate_left 1; (focus (first | exact N0.out | exact N1.out | exact N2.out | exact N3.out | exact N4.out | exact N5.out | exact G2.out | exact G3.out | exact G4.out | exact G0.out | exact G1.out | (refine frv_get _ _ ?_; (first | omega | (simp; done) | (simp; omega) | (simp [*]; omega))) | exact rfl))) | (refine' ia_load1B (hb2.keep st.keep (by simp)) rfl rfl rfl ?_ ?_; rotate_left 1; (focus (first | exact N0.out | exact N1.out | exact N2.out | exact N3.out | exact N4.out | exact N5.out | exact G2.out | exact G3.out | exact G4.out | exact G0.out | exact G1.out | (refine frv_get _ _ ?_; (first | omega | (simp; done) | (simp; omega) | (simp [*]; omega))) | exact rfl))))) | ((with_reducible refine gate_store rfl ?_); (first | (refine ia_store1 st rfl rfl rfl rfl rfl rfl ?_ ?_; (focus (first | omega | (simp; done) | (simp; omega) | (simp [*]; omega))); clear st; intro _ st; (try simp only [Act.put, Act.eval, Array.getD_eq_getD_getElem?, List.getElem?_toArray, List.getElem?_cons_succ, List.getElem?_cons_zero, Option.getD_some, List.setIfInBounds_toArray, List.getElem_toArray, List.getElem_cons_succ, List.getElem_cons_zero, List.set_cons_zero, List.set_cons_succ] at st)))) | ((with_reducible refine gate_addr rfl ?_); (first | (refine' ia_slcP HP.out rfl rfl rfl rfl ?_ ?_ ?_) | (refine' ia_slcP HP2.out rfl rfl rfl rfl ?_ ?_ ?_)); rotate_left 1; (focus (first | exact (rfl : (0 : Int) = ((0 : Nat) : Int)) | exact (rfl : (1 : Int) = ((1 : Nat) : Int)) | exact rfl | exact HE1.out | exact HE2.out)); (focus (first | omega | (simp; done) | (simp; omega) | (simp [*]; omega)))))))
    rw [HM0.out] at st
    go_loopw [19] (fun i wr => ∃ k : Nat, k ≤ N ∧ i = .int .i64 k ∧ St [] w wr [(g, encs i1 T ++ spare, 2), (B15, encs i1 (shownT n (T.take k)), 2)]) (fun i _ => N - (intOf i).toNat)
    case atStart => exact ⟨0, by omega, rfl, st⟩
    case round =>
      clear st
      obtain ⟨k, hk, rfl, st⟩ := hrel
      by_cases hlt : k < N
      · have hd : decide ((k : Int) < (N : Int)) = true := by simpa using hlt
        have hkB : k < T.length := by rw [HN.out]; exact hlt
        have hgk : T[k]? = some T[k] := List.getElem?_eq_getElem hkB
        have HT2 := hid (shownT_take (n := n) hkB)
        have hx8 := HRG.out _ (List.getElem_mem hkB)
        obtain ⟨x, hx⟩ : ∃ x, T[k] = x := ⟨_, rfl⟩
        rw [hx] at hgk HT2 hx8
        obtain ⟨hx0, hx1⟩ := hx8
        obtain ⟨X, rfl⟩ : ∃ X : Nat, x = X := ⟨x.toNat, by omega⟩
        simp only [Int.toNat_natCast] at HT2
        have hXn : X < n := by omega
        have HLR := hid (shownT_length n (T.take k))
        have hB1 := shownT_bd (n := n) (T := T) k
        obtain ⟨R, hR⟩ : ∃ R, shownT n (T.take k) = R := ⟨_, rfl⟩
        rw [hR] at HT2 HLR hB1 st
        have hXR : X < R.length := by rw [HLR.out]; exact hXn
        have hg : R[X]? = some R[X] := List.getElem?_eq_getElem hXR
        have hy0 := hB1 _ (List.getElem_mem hXR)
        have hgd : R.getD X 0 = R[X] := getD_get2 hXR
        obtain ⟨y, hy⟩ : ∃ y, R[X] = y := ⟨_, rfl⟩
        rw [hy] at hg hy0 hgd
        have N0 := hid (i1_atE hg)
        have N1 : Hid ((encs i1 R)[0 + X * 1]? = some (.int .i64 y)) := hid (by rw [Nat.mul_one, Nat.zero_add]; exact N0.out)
        have N2 := hid (show (encs i1 T ++ spare)[k]? = some (.int .i64 (X : Nat)) by have := i1_atE hgk; obtain ⟨h1, h2⟩ := List.getElem?_eq_some_iff.1 this; rw [List.getElem?_append_left h1]; exact this)
        have N3 : Hid ((encs i1 T ++ spare)[0 + k * 1]? = some (.int .i64 (X : Nat))) := hid (by rw [Nat.mul_one, Nat.zero_add]; exact N2.out)
        obtain ⟨hy1, hy2⟩ := hy0
        rw [HN.out] at hy2
        have hm2 : y ≤ 1920 := by omega
        have HE := hid (show encs i1 (shownT n (T.take (k + 1))) = (encs i1 R).set X (.int .i64 (y + 1)) by rw [HT2.out, encs_i1_set]; unfold addAt; rw [hgd])
        have HL := hid (show (encs i1 R).length = n by rw [encs_i1_length, HLR.out])
        clear hR hXR hg hgd hy hB1 hy2 hgk hx hkB
        go_wp2_with (first | ((with_reducible refine gate_store rfl ?_); refine ia_store1 st rfl rfl rfl rfl rfl rfl ?_ ?_; (focus (first | (rw [HL.out]; omega) | (rw [List.length_set, HL.out]; omega) | (simp only [List.length_set]; rw [HL.out]; omega))); clear st; intro _ st; (try simp only [Act.put, Act.eval, Array.getD_eq_getD_getElem?, List.getElem?_toArray, List.getElem?_cons_succ, List.getElem?_cons_zero, Option.getD_some, List.setIfInBounds_toArray, List.getElem_toArray, List.getElem_cons_succ, List.getElem_cons_zero, List.set_cons_zero, List.set_cons_succ] at st)) | ((with_reducible refine gate_lst ?_); (first | ((with_reducible refine gate_load rfl ?_); (first | (refine' ia_load1 st rfl rfl rfl ?_ ?_; rotate_left 1; (focus (first | exact N0.out | exact N1.out | exact N2.out | exact N3.out | exact N4.out | exact N5.out | exact G2.out | exact G3.out | exact G4.out | exact G0.out | exact G1.out | (refine frv_get _ _ ?_; (first | omega | (simp; done) | (simp; omega) | (simp [*]; omega))) | exact rfl))) | (refine' ia_load1Z (hb.keep st.keep (by simp)) rfl rfl rfl ?_ ?_; rotate_left 1; (focus exact rfl)) | (refine' ia_load1Z (hb'.keep st.keep (by simp)) rfl rfl rfl ?_ ?_; rotate_left 1; (focus exact rfl)) | (refine' ia_load1C (hb.keep st.keep (by simp)) rfl rfl rfl ?_ ?_; rotate_left 1; (focus (first | exact N0.out | exact N1.out | exact N2.out | exact N3.out | exact N4.out | exact N5.out | exact G2.out | exact G3.out | exact G4.out | exact G0.out | exact G1.out | (refine frv_get _ _ ?_; (first | omega | (simp; done) | (simp; omega) | (simp [*]; omega))) | exact rfl))) | (refine' ia_load1C (hb'.keep st.keep (by simp)) rfl rfl rfl ?_ ?_; rotate_left 1; (focus (first | exact N0.out | exact N1.out | exact N2.out | exact N3.out | exact N4.out | exact N5.out | exact G2.out | exact G3.out | exact G4.out | exact G0.out | exact G1.out | (refine frv_get _ _ ?_; (first | omega | (simp; done) | (simp; omega) | (simp [*]; omega))) | exact rfl))) | (refine' ia_load1B (hb1.keep st.keep (by simp)) rfl rfl rfl ?_ ?_; rotate_left 1; (focus (first | exact N0.out | exact N1.out | exact N2.out | exact N3.out | exact N4.out | exact N5.out | exact G2.out | exact G3.out | exact G4.out | exact G0.out | exact G1.out | (refine frv_get _ _ ?_; (first | omega | (simp; done) | (simp; omega) | (simp [*]; omega))) | exact rfl))) | (refine' ia_load1B (hb2.keep st.keep (by simp)) rfl rfl rfl ?_ ?_; rotate_left 1; (focus (first | exact N0.out | exact N1.out | exact N2.out | exact N3.out | exact N4.out | exact N5.out | exact G2.out | exact G3.out | exact G4.out | exact G0.out | exact G1.out | (refine frv_get _ _ ?_; (first | omega | (simp; done) | (simp; omega) | (simp [*]; omega))) | exact rfl))))) | ((with_reducible refine gate_store rfl ?_); (first | (refine ia_store1 st rfl rfl rfl rfl rfl rfl ?_ ?_; (focus (first | omega | (simp; done) | (simp; omega) | (simp [*]; omega))); clear st; intro _ st; (try simp only [Act.put, Act.eval, Array.getD_eq_getD_getElem?, List.getElem?_toArray, List.getElem?_cons_succ, List.getElem?_cons_zero, Option.getD_some, List.setIfInBounds_toArray, List.getElem_toArray, List.getElem_cons_succ, List.getElem_cons_zero, List.set_cons_zero, List.set_cons_succ] at st)))) | ((with_reducible refine gate_addr rfl ?_); (first | (refine' ia_slcP HP.out rfl rfl rfl rfl ?_ ?_ ?_) | (refine' ia_slcP HP2.out rfl rfl rfl rfl ?_ ?_ ?_)); rotate_left 1; (focus (first | exact (rfl : (0 : Int) = ((0 : Nat) : Int)) | exact (rfl : (1 : Int) = ((1 : Nat) : Int)) | exact rfl | exact HE1.out | exact HE2.out)); (focus (first | omega | (simp; done) | (simp; omega) | (simp [*]; omega)))))))
        go_roundw
        case rel => exact ⟨k + 1, by omega, by go_num, by rw [HE.out]; exact st⟩
        case measure => first | (simp [intOf]; done) | (simp [intOf]; omega)
      · obtain rfl : k = N := by omega
        have hd : decide ((k : Int) < (k : Int)) = false := by simp
        have HZ : Hid (T.take k = T) := hid (List.take_of_length_le (by rw [HN.out]; exact Nat.le_refl _))
        rw [HZ.out, HSM.out] at st
        go_wp2_with (first | ((with_reducible refine gate_lst ?_); (first | ((with_reducible refine gate_load rfl ?_); (first | (refine' ia_load1 st rfl rfl rfl ?_ ?_; rotate_left 1; (focus (first | exact N0.out | exact N1.out | exact N2.out | exact N3.out | exact N4.out | exact N5.out | exact G2.out | exact G3.out | exact G4.out | exact G0.out | exact G1.out | (refine frv_get _ _ ?_; (first | omega | (simp; done) | (simp; omega) | (simp [*]; omega))) | exact rfl))) | (refine' ia_load1Z (hb.keep st.keep (by simp)) rfl rfl rfl ?_ ?_; rotate_left 1; (focus exact rfl)) | (refine' ia_load1Z (hb'.keep st.keep (by simp)) rfl rfl rfl ?_ ?_; rotate_left 1; (focus exact rfl)) | (refine' ia_load1C (hb.keep st.keep (by simp)) rfl rfl rfl ?_ ?_; rotate_left 1; (focus (first | exact N0.out | exact N1.out | exact N2.out | exact N3.out | exact N4.out | exact N5.out | exact G2.out | exact G3.out | exact G4.out | exact G0.out | exact G1.out | (refine frv_get _ _ ?_; (first | omega | (simp; done) | (simp; omega) | (simp [*]; omega))) | exact rfl))) | (refine' ia_load1C (hb'.keep st.keep (by simp)) rfl rfl rfl ?_ ?_; rotate_left 1; (focus (first | exact N0.out | exact N1.out | exact N2.out | exact N3.out | exact N4.out | exact N5.out | exact G2.out | exact G3.out | exact G4.out | exact G0.out | exact G1.out | (refine frv_get _ _ ?_; (first | omega | (simp; done) | (simp; omega) | (simp [*]; omega))) | exact rfl))) | (refine' ia_load1B (hb1.keep st.keep (by simp)) rfl rfl rfl ?_ ?_; rotate_left 1; (focus (first | exact N0.out | exact N1.out | exact N2.out | exact N3.out | exact N4.out | exact N5.out | exact G2.out | exact G3.out | exact G4.out | exact G0.out | exact G1.out | (refine frv_get _ _ ?_; (first | omega | (simp; done) | (simp; omega) | (simp [*]; omega))) | exact rfl))) | (refine' ia_load1B (hb2.keep st.keep (by simp)) rfl rfl rfl ?_ ?_; rotate_left 1; (focus (first | exact N0.out | exact N1.out | exact N2.out | exact N3.out | exact N4.out | exact N5.out | exact G2.out | exact G3.out | exact G4.out | exact G0.out | exact G1.out | (refine frv_get _ _ ?_; (first | omega | (simp; done) | (simp; omega) | (simp [*]; omega))) | exact rfl))))) | ((with_reducible refine gate_store rfl ?_); (first | (refine ia_store1 st rfl rfl rfl rfl rfl rfl ?_ ?_; (focus (first | omega | (simp; done) | (simp; omega) | (simp [*]; omega))); clear st; intro _ st; (try simp only [Act.put, Act.eval, Array.getD_eq_getD_getElem?, List.getElem?_toArray, List.getElem?_cons_succ, List.getElem?_cons_zero, Option.getD_some, List.setIfInBounds_toArray, List.getElem_toArray, List.getElem_cons_succ, List.getElem_cons_zero, List.set_cons_zero, List.set_cons_succ] at st)))) | ((with_reducible refine gate_addr rfl ?_); (first | (refine' ia_slcP HP.out rfl rfl rfl rfl ?_ ?_ ?_) | (refine' ia_slcP HP2.out rfl rfl rfl rfl ?_ ?_ ?_)); rotate_left 1; (focus (first | exact (rfl : (0 : Int) = ((0 : Nat) : Int)) | exact (rfl : (1 : Int) = ((1 : Nat) : Int)) | exact rfl | exact HE1.out | exact HE2.out)); (focus (first | omega | (simp; done) | (simp; omega) | (simp [*]; omega)))))))
        go_ret2
        rw [← List.append_nil (encs i1 (shownS n S))] at st
        exact ⟨_, rfl, Or.inr ⟨B15, n, [], rfl, out_of st (.there .here), st.get (.there .here), by rw [List.append_nil, encs_i1_length, HLL.out, Nat.mul_one], by unfold maxLen; omega⟩, st.keep⟩
  · rw [q] at HV
    rw [if_neg (by rw [q]; decide), if_neg (by rw [q]; decide)]
    go_enter Tryz.func13, Tryz.ntmps13
    go_wp2_with (first | (go_at_call 15; refine (HV.out _ st.keep).mono ?_; rintro _ _ ⟨rfl, hk⟩; replace st := st.call hk; clear hk) | ((with_reducible refine gate_lst ?_); (first | ((with_reducible refine gate_load rfl ?_); (first | (refine' ia_load1 st rfl rfl rfl ?_ ?_; rotate_left 1; (focus (first | exact N0.out | exact N1.out | exact N2.out | exact N3.out | exact N4.out | exact N5.out | exact G2.out | exact G3.out | exact G4.out | exact G0.out | exact G1.out | (refine frv_get _ _ ?_; (first | omega | (simp; done) | (simp; omega) | (simp [*]; omega))) | exact rfl))) | (refine' ia_load1Z (hb.keep st.keep (by simp)) rfl rfl rfl ?_ ?_; rotate_left 1; (focus exact rfl)) | (refine' ia_load1Z (hb'.keep st.keep (by simp)) rfl rfl rfl ?_ ?_; rotate_left 1; (focus exact rfl)) | (refine' ia_load1C (hb.keep st.keep (by simp)) rfl rfl rfl ?_ ?_; rotate_left 1; (focus (first | exact N0.out | exact N1.out | exact N2.out | exact N3.out | exact N4.out | exact N5.out | exact G2.out | exact G3.out | exact G4.out | exact G0.out | exact G1.out | (refine frv_get _ _ ?_; (first | omega | (simp; done) | (simp; omega) | (simp [*]; omega))) | exact rfl))) | (refine' ia_load1C (hb'.keep st.keep (by simp)) rfl rfl rfl ?_ ?_; rotate_left 1; (focus (first | exact N0.out | exact N1.out | exact N2.out | exact N3.out | exact N4.out | exact N5.out | exact G2.out | exact G3.out | exact G4.out | exact G0.out | exact G1.out | (refine frv_get _ _ ?_; (first | omega | (simp; done) | (simp; omega) | (simp [*]; omega))) | exact rfl))) | (refine' ia_load1B (hb1.keep st.keep (by simp)) rfl rfl rfl ?_ ?_; rotate_left 1; (focus (first | exact N0.out | exact N1.out | exact N2.out | exact N3.out | exact N4.out | exact N5.out | exact G2.out | exact G3.out | exact G4.out | exact G0.out | exact G1.out | (refine frv_get _ _ ?_; (first | omega | (simp; done) | (simp; omega) | (simp [*]; omega))) | exact rfl))) | (refine' ia_load1B (hb2.keep st.keep (by simp)) rfl rfl rfl ?_ ?_; rotate_left 1; (focus (first | exact N0.out | exact N1.out | exact N2.out | exact N3.out | exact N4.out | exact N5.out | exact G2.out | exact G3.out | exact G4.out | exact G0.out | exact G1.out | (refine frv_get _ _ ?_; (first | omega | (simp; done) | (simp; omega) | (simp [*]; omega))) | exact rfl))))) | ((with_reducible refine gate_store rfl ?_); (first | (refine ia_store1 st rfl rfl rfl rfl rfl rfl ?_ ?_; (focus (first | omega | (simp; done) | (simp; omega) | (simp [*]; omega))); clear st; intro _ st; (try simp only [Act.put, Act.eval, Array.getD_eq_getD_getElem?, List.getElem?_toArray, List.getElem?_cons_succ, List.getElem?_cons_zero, Option.getD_some, List.setIfInBounds_toArray, List.getElem_toArray, List.getElem_cons_succ, List.getElem_cons_zero, List.set_cons_zero, List.set_cons_succ] at st)))) | ((with_reducible refine gate_addr rfl ?_); (first | (refine' ia_slcP HP.out rfl rfl rfl rfl ?_ ?_ ?_) | (refine' ia_slcP HP2.out rfl rfl rfl rfl ?_ ?_ ?_)); rotate_left 1; (focus (first | exact (rfl : (0 : Int) = ((0 : Nat) : Int)) | exact (rfl : (1 : Int) = ((1 : Nat) : Int)) | exact rfl | exact HE1.out | exact HE2.out)); (focus (first | omega | (simp; done) | (simp; omega) | (simp [*]; omega)))))))
    go_ret2
    exact ⟨_, rfl, Or.inl ⟨by decide, rfl, rfl⟩, st.keep⟩
theorem ShownFor_len {B : List Fm} {n : Nat} (hB : B.length = n) (hn : n ≤ 1000000) {S : List Sh} {m : Nat} (hS : S.length = m) (hm : m ≤ 1000000) : (swR B S).length ≤ 1000000 := by
  unfold swR
  split
  · rw [shownS_length]; omega
  · simp
end Go.Proofs.YtlljflmbnbjccaaGreatDoor
/- Books backwards: the reference and the program; no condition. -/
namespace Go.Proofs.YtlljflmbnbjccaaGreatDoor
open Go.RowKit
set_option linter.unusedSimpArgs false
set_option linter.unusedVariables false

/-- The last k elements, the last one first. -/
def lastK {α : Type} (B : List α) (k : Nat) : List α := B.reverse.take k
theorem lastK_length {α : Type} (B : List α) {k : Nat} (hk : k ≤ B.length) : (lastK B k).length = k := by unfold lastK; rw [List.length_take, List.length_reverse]; omega
theorem lastK_step {α : Type} (B : List α) {k n : Nat} (hn : B.length = n) (hk : k < n) : lastK B k ++ [B[n - 1 - k]] = lastK B (k + 1) := by
  unfold lastK
  rw [List.take_succ_eq_append_getElem (by rw [List.length_reverse]; omega), List.getElem_reverse]
  simp [hn]
theorem lastK_all {α : Type} (B : List α) {n : Nat} (hn : B.length = n) : lastK B n = B.reverse := by unfold lastK; rw [List.take_of_length_le (by rw [List.length_reverse]; omega)]
def bkCode (B : List Fm) : Int := if bkB B = true then 0 else 1
def backR (B : List Fm) : List Fm := if bkB B = true then B.reverse else []
theorem backR_len (B : List Fm) : (backR B).length ≤ B.length := by unfold backR; split <;> simp
end Go.Proofs.YtlljflmbnbjccaaGreatDoor
/- Books to and fro, and every so many pages: the reference and the program; no condition. -/
namespace Go.Proofs.YtlljflmbnbjccaaGreatDoor
open Go.RowKit
set_option linter.unusedSimpArgs false
set_option linter.unusedVariables false

theorem limited_n (n c : Nat) (p : Option Addr) (hn : n ≤ 4000000) (w : World) : Calls Tryz.prog 43 #[.slice p n c] w fun e w' => e = .returned (if n ≤ 40 then .tuple #[.slice p n c, .int .i64 0] else .tuple #[.slice none 0 0, .int .i64 3]) ∧ Keep [] w w' := by
  have st := St.start w
  by_cases h : n ≤ 40
  · have hd : decide ((40 : Int) < (n : Int)) = false := by simp; omega
    rw [if_pos h]
    go_enter Tryz.func43, Tryz.ntmps43
    go_wp2_with fail
    go_ret2
    exact ⟨rfl, st.keep⟩
  · have hd : decide ((40 : Int) < (n : Int)) = true := by simp; omega
    rw [if_neg h]
    go_enter Tryz.func43, Tryz.ntmps43
    go_wp2_with fail
    go_ret2
    exact ⟨rfl, st.keep⟩
theorem limited_0 {n c : Nat} {p : Option Addr} (hn : n ≤ 4000000) (h : n ≤ 40) (w : World) : Calls Tryz.prog 43 #[.slice p n c] w fun e w' => e = .returned (.tuple #[.slice p n c, .int .i64 0]) ∧ Keep [] w w' := by
  have := limited_n n c p hn w
  rwa [if_pos h] at this
theorem limited_3 {n c : Nat} {p : Option Addr} (hn : n ≤ 4000000) (h : ¬ n ≤ 40) (w : World) : Calls Tryz.prog 43 #[.slice p n c] w fun e w' => e = .returned (.tuple #[.slice none 0 0, .int .i64 3]) ∧ Keep [] w w' := by
  have := limited_n n c p hn w
  rwa [if_neg h] at this
def froL (B : List Fm) (k : Nat) : List Fm := B ++ (B.reverse.drop 1).take k
theorem froL_length (B : List Fm) {n k : Nat} (hn : B.length = n) (hk : k ≤ n - 2) : (froL B k).length = n + k := by
  unfold froL; rw [List.length_append, List.length_take, List.length_drop, List.length_reverse]; omega
theorem froL_zero (B : List Fm) : froL B 0 = B := by simp [froL]
theorem froL_step (B : List Fm) {n k : Nat} (hn : B.length = n) (hk : k < n - 2) : froL B k ++ [B[n - 2 - k]] = froL B (k + 1) := by
  unfold froL
  rw [List.append_assoc]
  congr 1
  rw [List.take_succ_eq_append_getElem (by rw [List.length_drop, List.length_reverse]; omega), List.getElem_drop, List.getElem_reverse]
  congr 2
  congr 1
  omega
def froF (B : List Fm) : List Fm := froL B (B.length - 2)
def froC (B : List Fm) : Int := if bkB B = true then (if (froF B).length ≤ 40 then 0 else 3) else 1
def froR (B : List Fm) : List Fm := if froC B = 0 then froF B else []
theorem froR_len {B : List Fm} {n : Nat} (hB : B.length = n) (hn : n ≤ 1000000) : (froR B).length ≤ 4000000 := by
  unfold froR froF
  split
  · rw [froL_length B hB (by omega)]; omega
  · simp
end Go.Proofs.YtlljflmbnbjccaaGreatDoor
/- A sheet played: the reference and the program; no condition. -/
namespace Go.Proofs.YtlljflmbnbjccaaGreatDoor
open Go.RowKit
set_option linter.unusedSimpArgs false
set_option linter.unusedVariables false
def plK (B : List Fm) (T : List Int) (k : Nat) : List Fm := (T.take k).map fun x => B.getD x.toNat fz
theorem plK_length {B : List Fm} {T : List Int} {k : Nat} (h : k ≤ T.length) : (plK B T k).length = k := by unfold plK; rw [List.length_map, List.length_take]; omega
theorem plK_step {B : List Fm} {T : List Int} {k : Nat} (h : k < T.length) : plK B T (k + 1) = plK B T k ++ [B.getD T[k].toNat fz] := by
  unfold plK; rw [List.take_succ_eq_append_getElem h, List.map_append]; rfl
def plC (B : List Fm) (S : List Sh) : Int := if shtB B S = true then (if (tkS S).length ≤ 40 then 0 else 3) else 1
def plR (B : List Fm) (S : List Sh) : List Fm := if plC B S = 0 then plK B (tkS S) (tkS S).length else []
theorem plC1 {B : List Fm} {S : List Sh} (h : shtB B S = false) : plC B S = 1 := by unfold plC; rw [if_neg (by rw [h]; decide)]
theorem plC3 {B : List Fm} {S : List Sh} (h : shtB B S = true) (h2 : ¬ (tkS S).length ≤ 40) : plC B S = 3 := by unfold plC; rw [if_pos h, if_neg h2]
theorem plC0 {B : List Fm} {S : List Sh} (h : shtB B S = true) (h2 : (tkS S).length ≤ 40) : plC B S = 0 := by unfold plC; rw [if_pos h, if_pos h2]
theorem plR_n {B : List Fm} {S : List Sh} (h : plC B S ≠ 0) : plR B S = [] := by unfold plR; rw [if_neg h]
theorem plR_0 {B : List Fm} {S : List Sh} (h : plC B S = 0) : plR B S = plK B (tkS S) (tkS S).length := by unfold plR; rw [if_pos h]
theorem getD_get3 {α : Type} {B : List α} {k : Nat} {d : α} (hk : k < B.length) : B.getD k d = B[k] := by
  rw [List.getD_eq_getElem?_getD, List.getElem?_eq_getElem hk]; rfl
set_option maxHeartbeats 2000000 in
set_option maxRecDepth 100000 in
theorem specPlaySheet_c (B : List Fm) (n : Nat) (hB : B.length = n) (hn : n ≤ 1000000) (p : Option Addr) (c : Nat) (S : List Sh) (m : Nat) (hS : S.length = m) (hm : m ≤ 1000000) (h8 : R8 S) (p' : Option Addr) (c' : Nat) (w : World) (hr : Rd w p n (encs fv B)) (hr' : Rd w p' m (encs p8 S)) :
    Calls Tryz.prog 19 #[.slice p n c, .slice p' m c'] w (BookCode (plR B S) (plR B S).length (plC B S) False w) := by
  have st := St.start w
  have HV := hid (fun w' (hk : Keep [] w w') => l02Sheet_c B n hB hn p c S m hS hm h8 p' c' w' (hr.keep hk) (hr'.keep hk))
  rcases Bool.eq_false_or_eq_true (shtB B S) with q | q
  · rw [q] at HV
    obtain ⟨hsh, hm80, _⟩ := shtB_sh q
    rw [hS] at hm80
    have HT := hid (fun w' (hk : Keep [] w w') => l02Shown_c S m hS hm80 h8 B.length hsh p' c' w' (hr'.keep hk))
    rw [hB] at hsh
    have HRG := hid (tkS_range hsh)
    have hTL := tkS_length hsh
    by_cases h40 : (tkS S).length ≤ 40
    · have hc0 := plC0 q h40
      rw [plR_0 hc0, hc0, plK_length (Nat.le_refl _)]
      obtain ⟨T, hT⟩ : ∃ T, tkS S = T := ⟨_, rfl⟩
      obtain ⟨N, hN⟩ : ∃ N, T.length = N := ⟨_, rfl⟩
      rw [hT] at HT HRG hTL h40 ⊢
      rw [hN] at HT hTL h40 ⊢
      have HN := hid hN
      replace hB := hid hB
      clear hsh h8 hS hr' hT hN hTL hc0
      go_enter Tryz.func19, Tryz.ntmps19
      go_wp2_with (first | (go_at_call 38; refine (HV.out _ st.keep).mono ?_; rintro _ _ ⟨rfl, hk⟩; replace st := st.call hk; clear hk) | (go_at_call 39; refine (HT.out _ st.keep).mono ?_; rintro _ _ ⟨v, rfl, ⟨g, cap, spare, rfl, hg, hbg, hcap, hcm⟩, hk⟩; replace st := st.adopt hk hg hbg; clear hk hg hbg) | ((with_reducible refine gate_bsl rfl ?_); refine ia_bsl0 (sl := 20) st rfl rfl rfl ?_; clear st; intro B20 _ st) | ((with_reducible refine gate_lst ?_); (first | ((with_reducible refine gate_load rfl ?_); (first | (refine' ia_load1 st rfl rfl rfl ?_ ?_; rotate_left 1; (focus (first | exact N0.out | exact N1.out | exact N2.out | exact N3.out | exact N4.out | exact N5.out | exact G2.out | exact G3.out | exact G4.out | exact G0.out | exact G1.out | (refine frv_get _ _ ?_; (first | omega | (simp; done) | (simp; omega) | (simp [*]; omega))) | exact rfl))) | (refine' ia_load1Z (hb.keep st.keep (by simp)) rfl rfl rfl ?_ ?_; rotate_left 1; (focus exact rfl)) | (refine' ia_load1Z (hb'.keep st.keep (by simp)) rfl rfl rfl ?_ ?_; rotate_left 1; (focus exact rfl)) | (refine' ia_load1C (hb.keep st.keep (by simp)) rfl rfl rfl ?_ ?_; rotate_left 1; (focus (first | exact N0.out | exact N1.out | exact N2.out | exact N3.out | exact N4.out | exact N5.out | exact G2.out | exact G3.out | exact G4.out | exact G0.out | exact G1.out | (refine frv_get _ _ ?_; (first | omega | (simp; done) | (simp; omega) | (simp [*]; omega))) | exact rfl))) | (refine' ia_load1C (hb'.keep st.keep (by simp)) rfl rfl rfl ?_ ?_; rotate_left 1; (focus (first | exact N0.out | exact N1.out | exact N2.out | exact N3.out | exact N4.out | exact N5.out | exact G2.out | exact G3.out | exact G4.out | exact G0.out | exact G1.out | (refine frv_get _ _ ?_; (first | omega | (simp; done) | (simp; omega) | (simp [*]; omega))) | exact rfl))) | (refine' ia_load1B (hb1.keep st.keep (by simp)) rfl rfl rfl ?_ ?_; rotate_left 1; (focus (first | exact N0.out | exact N1.out | exact N2.out | exact N3.out | exact N4.out | exact N5.out | exact G2.out | exact G3.out | exact G4.out | exact G0.out | exact G1.out | (refine frv_get _ _ ?_; (first | omega | (simp; done) | (simp; omega) | (simp [*]; omega))) | exact rfl))) | (refine' ia_load1B (hb2.keep st.keep (by simp)) rfl rfl rfl ?_ ?_; rotate_left 1; (focus (first | exact N0.out | exact N1.out | exact N2.out | exact N3.out | exact N4.out | exact N5.out | exact G2.out | exact G3.out | exact G4.out | exact G0.out | exact G1.out | (refine frv_get _ _ ?_; (first | omega | (simp; done) | (simp; omega) | (simp [*]; omega))) | exact rfl))) | (refine ia_loadAll st rfl rfl rfl ?_ ?_; (focus (first | rfl | (simp; done) | (simp; assumption) | (simp; omega) | (simp [*]; done)))) | (refine ia_loadC (hb.keep st.keep (by simp)) rfl rfl rfl ?_ ?_; (focus (first | rfl | (simp; done) | (simp; assumption) | (simp; omega) | (simp [*]; done)))) | (refine ia_loadC (hb'.keep st.keep (by simp)) rfl rfl rfl ?_ ?_; (focus (first | rfl | (simp; done) | (simp; assumption) | (simp; omega) | (simp [*]; done)))) | (refine ia_loadC (Cl.of (hb1.keep st.keep (by simp))) rfl rfl rfl ?_ ?_; (focus (first | rfl | (simp; done) | (simp; assumption) | (simp; omega) | (simp [*]; done)))) | (refine ia_loadC (Cl.of (hb2.keep st.keep (by simp))) rfl rfl rfl ?_ ?_; (focus (first | rfl | (simp; done) | (simp; assumption) | (simp; omega) | (simp [*]; done)))))) | ((with_reducible refine gate_addr rfl ?_); (first | (refine' ia_slcP HP.out rfl rfl rfl rfl ?_ ?_ ?_) | (refine' ia_slcP HP2.out rfl rfl rfl rfl ?_ ?_ ?_)); rotate_left 1; (focus (first | exact (rfl : (0 : Int) = ((0 : Nat) : Int)) | exact (rfl : (1 : Int) = ((1 : Nat) : Int)) | exact rfl | exact HE1.out | exact HE2.out)); (focus (first | omega | (simp; done) | (simp; omega) | (simp [*]; omega)))))))
      go_loopw [7, 8] (fun v i wr => ∃ k : Nat, k ≤ N ∧ i = .int .i64 k ∧ Own 72 12 k (encs fv (plK B T k)) [] w wr [(g, encs i1 T ++ spare, 2)] v) (fun _ i _ => N - (intOf i).toNat)
      case atStart => exact ⟨0, by omega, rfl, B20, 0, [], rfl, st, rfl, Nat.zero_le _⟩
      case round =>
        clear st hcap hcm
        obtain ⟨k, hk, rfl, g4, cap4, spare4, rfl, st, hcap, hcm⟩ := hrel
        have HC := hid hcap
        clear hcap
        by_cases hlt : k < N
        · have hd : decide ((k : Int) < (N : Int)) = true := by simpa using hlt
          have hkB : k < T.length := by rw [HN.out]; exact hlt
          have hgk : T[k]? = some T[k] := List.getElem?_eq_getElem hkB
          have HST := hid (plK_step (B := B) hkB)
          have HL := hid (plK_length (B := B) (T := T) (k := k) (by omega))
          have hx8 := HRG.out _ (List.getElem_mem hkB)
          obtain ⟨x, hx⟩ : ∃ x, T[k] = x := ⟨_, rfl⟩
          rw [hx] at hgk HST hx8
          obtain ⟨hx0, hx1⟩ := hx8
          obtain ⟨X, rfl⟩ : ∃ X : Nat, x = X := ⟨x.toNat, by omega⟩
          simp only [Int.toNat_natCast] at HST
          have hXn : X < n := by omega
          have N2 := hid (show (encs i1 T ++ spare)[k]? = some (.int .i64 (X : Nat)) by have := i1_atE hgk; obtain ⟨h1, h2⟩ := List.getElem?_eq_some_iff.1 this; rw [List.getElem?_append_left h1]; exact this)
          have N3 : Hid ((encs i1 T ++ spare)[0 + k * 1]? = some (.int .i64 (X : Nat))) := hid (by rw [Nat.mul_one, Nat.zero_add]; exact N2.out)
          obtain ⟨b, f, hp, hcl⟩ := hr (by omega)
          have HP := hid hp
          have hXB : X < B.length := by rw [hB.out]; exact hXn
          have hb := hcl.seg fv_len hXB
          rw [getD_get3 hXB] at HST
          obtain ⟨y, hy⟩ : ∃ y, B[X] = y := ⟨_, rfl⟩
          rw [hy] at hb HST
          have HXL : Hid ((encs fv (plK B T k)).length = k * 12) := hid (by rw [encs_fv_length, HL.out])
          clear hp hcl hXB hy hkB hgk hx
          go_wp2_with (first | ((with_reducible refine gate_bsl rfl ?_); refine ia_bsl1 (sl := 35) st rfl rfl rfl rfl rfl ?_ (by decide) ?_; (focus (first | rfl | (simp; done) | (simp; assumption) | (simp; omega) | (simp [*]; done))); clear st; intro B35 _ st) | ((with_reducible refine gate_app rfl ?_); refine ia_appendR (news := (fv y)) (xs := (encs fv (plK B T k))) (spare := spare4) st rfl rfl rfl rfl HXL.out HC.out hcm (.fr (st.get (by repeat (first | exact At.here | apply At.there)))) (fun h => by cases h) (fv_len _) (fv_one _) (by unfold maxLen; omega) (by omega) ?_; clear st; intro g2 cap2 spare2 _ st hcap2 hcm2; (try simp only [List.set_cons_zero, List.set_cons_succ] at st)) | ((with_reducible refine gate_lst ?_); (first | ((with_reducible refine gate_load rfl ?_); (first | (refine' ia_load1 st rfl rfl rfl ?_ ?_; rotate_left 1; (focus (first | exact N0.out | exact N1.out | exact N2.out | exact N3.out | exact N4.out | exact N5.out | exact G2.out | exact G3.out | exact G4.out | exact G0.out | exact G1.out | (refine frv_get _ _ ?_; (first | omega | (simp; done) | (simp; omega) | (simp [*]; omega))) | exact rfl))) | (refine' ia_load1Z (hb.keep st.keep (by simp)) rfl rfl rfl ?_ ?_; rotate_left 1; (focus exact rfl)) | (refine' ia_load1Z (hb'.keep st.keep (by simp)) rfl rfl rfl ?_ ?_; rotate_left 1; (focus exact rfl)) | (refine' ia_load1C (hb.keep st.keep (by simp)) rfl rfl rfl ?_ ?_; rotate_left 1; (focus (first | exact N0.out | exact N1.out | exact N2.out | exact N3.out | exact N4.out | exact N5.out | exact G2.out | exact G3.out | exact G4.out | exact G0.out | exact G1.out | (refine frv_get _ _ ?_; (first | omega | (simp; done) | (simp; omega) | (simp [*]; omega))) | exact rfl))) | (refine' ia_load1C (hb'.keep st.keep (by simp)) rfl rfl rfl ?_ ?_; rotate_left 1; (focus (first | exact N0.out | exact N1.out | exact N2.out | exact N3.out | exact N4.out | exact N5.out | exact G2.out | exact G3.out | exact G4.out | exact G0.out | exact G1.out | (refine frv_get _ _ ?_; (first | omega | (simp; done) | (simp; omega) | (simp [*]; omega))) | exact rfl))) | (refine' ia_load1B (hb1.keep st.keep (by simp)) rfl rfl rfl ?_ ?_; rotate_left 1; (focus (first | exact N0.out | exact N1.out | exact N2.out | exact N3.out | exact N4.out | exact N5.out | exact G2.out | exact G3.out | exact G4.out | exact G0.out | exact G1.out | (refine frv_get _ _ ?_; (first | omega | (simp; done) | (simp; omega) | (simp [*]; omega))) | exact rfl))) | (refine' ia_load1B (hb2.keep st.keep (by simp)) rfl rfl rfl ?_ ?_; rotate_left 1; (focus (first | exact N0.out | exact N1.out | exact N2.out | exact N3.out | exact N4.out | exact N5.out | exact G2.out | exact G3.out | exact G4.out | exact G0.out | exact G1.out | (refine frv_get _ _ ?_; (first | omega | (simp; done) | (simp; omega) | (simp [*]; omega))) | exact rfl))) | (refine ia_loadAll st rfl rfl rfl ?_ ?_; (focus (first | rfl | (simp; done) | (simp; assumption) | (simp; omega) | (simp [*]; done)))) | (refine ia_loadC (hb.keep st.keep (by simp)) rfl rfl rfl ?_ ?_; (focus (first | rfl | (simp; done) | (simp; assumption) | (simp; omega) | (simp [*]; done)))) | (refine ia_loadC (hb'.keep st.keep (by simp)) rfl rfl rfl ?_ ?_; (focus (first | rfl | (simp; done) | (simp; assumption) | (simp; omega) | (simp [*]; done)))) | (refine ia_loadC (Cl.of (hb1.keep st.keep (by simp))) rfl rfl rfl ?_ ?_; (focus (first | rfl | (simp; done) | (simp; assumption) | (simp; omega) | (simp [*]; done)))) | (refine ia_loadC (Cl.of (hb2.keep st.keep (by simp))) rfl rfl rfl ?_ ?_; (focus (first | rfl | (simp; done) | (simp; assumption) | (simp; omega) | (simp [*]; done)))))) | ((with_reducible refine gate_addr rfl ?_); (first | (refine' ia_slcP HP.out rfl rfl rfl rfl ?_ ?_ ?_) | (refine' ia_slcP HP2.out rfl rfl rfl rfl ?_ ?_ ?_)); rotate_left 1; (focus (first | exact (rfl : (0 : Int) = ((0 : Nat) : Int)) | exact (rfl : (1 : Int) = ((1 : Nat) : Int)) | exact rfl | exact HE1.out | exact HE2.out)); (focus (first | omega | (simp; done) | (simp; omega) | (simp [*]; omega)))))))
          have e : encs fv (plK B T (k + 1)) = encs fv (plK B T k) ++ fv y := by rw [HST.out, encs_snoc2]
          go_roundw
          case rel => exact ⟨k + 1, by omega, by go_num, g2, cap2, spare2, rfl, by rw [e]; exact st.drop, by rw [e]; exact hcap2, hcm2⟩
          case measure => first | (simp [intOf]; done) | (simp [intOf]; omega)
        · obtain rfl : k = N := by omega
          have hd : decide ((k : Int) < (k : Int)) = false := by simp
          go_wp2_with (first | ((with_reducible refine gate_lst ?_); (first | ((with_reducible refine gate_load rfl ?_); (first | (refine' ia_load1 st rfl rfl rfl ?_ ?_; rotate_left 1; (focus (first | exact N0.out | exact N1.out | exact N2.out | exact N3.out | exact N4.out | exact N5.out | exact G2.out | exact G3.out | exact G4.out | exact G0.out | exact G1.out | (refine frv_get _ _ ?_; (first | omega | (simp; done) | (simp; omega) | (simp [*]; omega))) | exact rfl))) | (refine' ia_load1Z (hb.keep st.keep (by simp)) rfl rfl rfl ?_ ?_; rotate_left 1; (focus exact rfl)) | (refine' ia_load1Z (hb'.keep st.keep (by simp)) rfl rfl rfl ?_ ?_; rotate_left 1; (focus exact rfl)) | (refine' ia_load1C (hb.keep st.keep (by simp)) rfl rfl rfl ?_ ?_; rotate_left 1; (focus (first | exact N0.out | exact N1.out | exact N2.out | exact N3.out | exact N4.out | exact N5.out | exact G2.out | exact G3.out | exact G4.out | exact G0.out | exact G1.out | (refine frv_get _ _ ?_; (first | omega | (simp; done) | (simp; omega) | (simp [*]; omega))) | exact rfl))) | (refine' ia_load1C (hb'.keep st.keep (by simp)) rfl rfl rfl ?_ ?_; rotate_left 1; (focus (first | exact N0.out | exact N1.out | exact N2.out | exact N3.out | exact N4.out | exact N5.out | exact G2.out | exact G3.out | exact G4.out | exact G0.out | exact G1.out | (refine frv_get _ _ ?_; (first | omega | (simp; done) | (simp; omega) | (simp [*]; omega))) | exact rfl))) | (refine' ia_load1B (hb1.keep st.keep (by simp)) rfl rfl rfl ?_ ?_; rotate_left 1; (focus (first | exact N0.out | exact N1.out | exact N2.out | exact N3.out | exact N4.out | exact N5.out | exact G2.out | exact G3.out | exact G4.out | exact G0.out | exact G1.out | (refine frv_get _ _ ?_; (first | omega | (simp; done) | (simp; omega) | (simp [*]; omega))) | exact rfl))) | (refine' ia_load1B (hb2.keep st.keep (by simp)) rfl rfl rfl ?_ ?_; rotate_left 1; (focus (first | exact N0.out | exact N1.out | exact N2.out | exact N3.out | exact N4.out | exact N5.out | exact G2.out | exact G3.out | exact G4.out | exact G0.out | exact G1.out | (refine frv_get _ _ ?_; (first | omega | (simp; done) | (simp; omega) | (simp [*]; omega))) | exact rfl))) | (refine ia_loadAll st rfl rfl rfl ?_ ?_; (focus (first | rfl | (simp; done) | (simp; assumption) | (simp; omega) | (simp [*]; done)))) | (refine ia_loadC (hb.keep st.keep (by simp)) rfl rfl rfl ?_ ?_; (focus (first | rfl | (simp; done) | (simp; assumption) | (simp; omega) | (simp [*]; done)))) | (refine ia_loadC (hb'.keep st.keep (by simp)) rfl rfl rfl ?_ ?_; (focus (first | rfl | (simp; done) | (simp; assumption) | (simp; omega) | (simp [*]; done)))) | (refine ia_loadC (Cl.of (hb1.keep st.keep (by simp))) rfl rfl rfl ?_ ?_; (focus (first | rfl | (simp; done) | (simp; assumption) | (simp; omega) | (simp [*]; done)))) | (refine ia_loadC (Cl.of (hb2.keep st.keep (by simp))) rfl rfl rfl ?_ ?_; (focus (first | rfl | (simp; done) | (simp; assumption) | (simp; omega) | (simp [*]; done)))))) | ((with_reducible refine gate_addr rfl ?_); (first | (refine' ia_slcP HP.out rfl rfl rfl rfl ?_ ?_ ?_) | (refine' ia_slcP HP2.out rfl rfl rfl rfl ?_ ?_ ?_)); rotate_left 1; (focus (first | exact (rfl : (0 : Int) = ((0 : Nat) : Int)) | exact (rfl : (1 : Int) = ((1 : Nat) : Int)) | exact rfl | exact HE1.out | exact HE2.out)); (focus (first | omega | (simp; done) | (simp; omega) | (simp [*]; omega)))))))
          go_ret2
          exact ⟨_, rfl, Or.inr ⟨g4, cap4, spare4, rfl, out_of st .here, st.get .here, HC.out, hcm⟩, st.keep⟩
    · have hc3 := plC3 q h40
      rw [plR_n (by rw [hc3]; decide), hc3]
      obtain ⟨N, hN⟩ : ∃ N, (tkS S).length = N := ⟨_, rfl⟩
      rw [hN] at HT h40 hTL
      go_enter Tryz.func19, Tryz.ntmps19
      go_wp2_with (first | (go_at_call 38; refine (HV.out _ st.keep).mono ?_; rintro _ _ ⟨rfl, hk⟩; replace st := st.call hk; clear hk) | (go_at_call 39; refine (HT.out _ st.keep).mono ?_; rintro _ _ ⟨v, rfl, ⟨g, cap, spare, rfl, hg, hbg, hcap, hcm⟩, hk⟩; replace st := st.adopt hk hg hbg; clear hk hg hbg) | ((with_reducible refine gate_bsl rfl ?_); refine ia_bsl0 (sl := 19) st rfl rfl rfl ?_; clear st; intro B19 _ st) | ((with_reducible refine gate_lst ?_); (first | ((with_reducible refine gate_load rfl ?_); (first | (refine' ia_load1 st rfl rfl rfl ?_ ?_; rotate_left 1; (focus (first | exact N0.out | exact N1.out | exact N2.out | exact N3.out | exact N4.out | exact N5.out | exact G2.out | exact G3.out | exact G4.out | exact G0.out | exact G1.out | (refine frv_get _ _ ?_; (first | omega | (simp; done) | (simp; omega) | (simp [*]; omega))) | exact rfl))) | (refine' ia_load1Z (hb.keep st.keep (by simp)) rfl rfl rfl ?_ ?_; rotate_left 1; (focus exact rfl)) | (refine' ia_load1Z (hb'.keep st.keep (by simp)) rfl rfl rfl ?_ ?_; rotate_left 1; (focus exact rfl)) | (refine' ia_load1C (hb.keep st.keep (by simp)) rfl rfl rfl ?_ ?_; rotate_left 1; (focus (first | exact N0.out | exact N1.out | exact N2.out | exact N3.out | exact N4.out | exact N5.out | exact G2.out | exact G3.out | exact G4.out | exact G0.out | exact G1.out | (refine frv_get _ _ ?_; (first | omega | (simp; done) | (simp; omega) | (simp [*]; omega))) | exact rfl))) | (refine' ia_load1C (hb'.keep st.keep (by simp)) rfl rfl rfl ?_ ?_; rotate_left 1; (focus (first | exact N0.out | exact N1.out | exact N2.out | exact N3.out | exact N4.out | exact N5.out | exact G2.out | exact G3.out | exact G4.out | exact G0.out | exact G1.out | (refine frv_get _ _ ?_; (first | omega | (simp; done) | (simp; omega) | (simp [*]; omega))) | exact rfl))) | (refine' ia_load1B (hb1.keep st.keep (by simp)) rfl rfl rfl ?_ ?_; rotate_left 1; (focus (first | exact N0.out | exact N1.out | exact N2.out | exact N3.out | exact N4.out | exact N5.out | exact G2.out | exact G3.out | exact G4.out | exact G0.out | exact G1.out | (refine frv_get _ _ ?_; (first | omega | (simp; done) | (simp; omega) | (simp [*]; omega))) | exact rfl))) | (refine' ia_load1B (hb2.keep st.keep (by simp)) rfl rfl rfl ?_ ?_; rotate_left 1; (focus (first | exact N0.out | exact N1.out | exact N2.out | exact N3.out | exact N4.out | exact N5.out | exact G2.out | exact G3.out | exact G4.out | exact G0.out | exact G1.out | (refine frv_get _ _ ?_; (first | omega | (simp; done) | (simp; omega) | (simp [*]; omega))) | exact rfl))) | (refine ia_loadAll st rfl rfl rfl ?_ ?_; (focus (first | rfl | (simp; done) | (simp; assumption) | (simp; omega) | (simp [*]; done)))) | (refine ia_loadC (hb.keep st.keep (by simp)) rfl rfl rfl ?_ ?_; (focus (first | rfl | (simp; done) | (simp; assumption) | (simp; omega) | (simp [*]; done)))) | (refine ia_loadC (hb'.keep st.keep (by simp)) rfl rfl rfl ?_ ?_; (focus (first | rfl | (simp; done) | (simp; assumption) | (simp; omega) | (simp [*]; done)))) | (refine ia_loadC (Cl.of (hb1.keep st.keep (by simp))) rfl rfl rfl ?_ ?_; (focus (first | rfl | (simp; done) | (simp; assumption) | (simp; omega) | (simp [*]; done)))) | (refine ia_loadC (Cl.of (hb2.keep st.keep (by simp))) rfl rfl rfl ?_ ?_; (focus (first | rfl | (simp; done) | (simp; assumption) | (simp; omega) | (simp [*]; done)))))) | ((with_reducible refine gate_addr rfl ?_); (first | (refine' ia_slcP HP.out rfl rfl rfl rfl ?_ ?_ ?_) | (refine' ia_slcP HP2.out rfl rfl rfl rfl ?_ ?_ ?_)); rotate_left 1; (focus (first | exact (rfl : (0 : Int) = ((0 : Nat) : Int)) | exact (rfl : (1 : Int) = ((1 : Nat) : Int)) | exact rfl | exact HE1.out | exact HE2.out)); (focus (first | omega | (simp; done) | (simp; omega) | (simp [*]; omega)))))))
      go_ret2
      exact ⟨_, rfl, Or.inr (gives0 st .here), st.keep⟩
  · rw [q] at HV
    have hc1 := plC1 q
    rw [plR_n (by rw [hc1]; decide), hc1]
    go_enter Tryz.func19, Tryz.ntmps19
    go_wp2_with (first | (go_at_call 38; refine (HV.out _ st.keep).mono ?_; rintro _ _ ⟨rfl, hk⟩; replace st := st.call hk; clear hk) | ((with_reducible refine gate_bsl rfl ?_); refine ia_bsl0 (sl := 13) st rfl rfl rfl ?_; clear st; intro B13 _ st) | ((with_reducible refine gate_lst ?_); (first | ((with_reducible refine gate_load rfl ?_); (first | (refine' ia_load1 st rfl rfl rfl ?_ ?_; rotate_left 1; (focus (first | exact N0.out | exact N1.out | exact N2.out | exact N3.out | exact N4.out | exact N5.out | exact G2.out | exact G3.out | exact G4.out | exact G0.out | exact G1.out | (refine frv_get _ _ ?_; (first | omega | (simp; done) | (simp; omega) | (simp [*]; omega))) | exact rfl))) | (refine' ia_load1Z (hb.keep st.keep (by simp)) rfl rfl rfl ?_ ?_; rotate_left 1; (focus exact rfl)) | (refine' ia_load1Z (hb'.keep st.keep (by simp)) rfl rfl rfl ?_ ?_; rotate_left 1; (focus exact rfl)) | (refine' ia_load1C (hb.keep st.keep (by simp)) rfl rfl rfl ?_ ?_; rotate_left 1; (focus (first | exact N0.out | exact N1.out | exact N2.out | exact N3.out | exact N4.out | exact N5.out | exact G2.out | exact G3.out | exact G4.out | exact G0.out | exact G1.out | (refine frv_get _ _ ?_; (first | omega | (simp; done) | (simp; omega) | (simp [*]; omega))) | exact rfl))) | (refine' ia_load1C (hb'.keep st.keep (by simp)) rfl rfl rfl ?_ ?_; rotate_left 1; (focus (first | exact N0.out | exact N1.out | exact N2.out | exact N3.out | exact N4.out | exact N5.out | exact G2.out | exact G3.out | exact G4.out | exact G0.out | exact G1.out | (refine frv_get _ _ ?_; (first | omega | (simp; done) | (simp; omega) | (simp [*]; omega))) | exact rfl))) | (refine' ia_load1B (hb1.keep st.keep (by simp)) rfl rfl rfl ?_ ?_; rotate_left 1; (focus (first | exact N0.out | exact N1.out | exact N2.out | exact N3.out | exact N4.out | exact N5.out | exact G2.out | exact G3.out | exact G4.out | exact G0.out | exact G1.out | (refine frv_get _ _ ?_; (first | omega | (simp; done) | (simp; omega) | (simp [*]; omega))) | exact rfl))) | (refine' ia_load1B (hb2.keep st.keep (by simp)) rfl rfl rfl ?_ ?_; rotate_left 1; (focus (first | exact N0.out | exact N1.out | exact N2.out | exact N3.out | exact N4.out | exact N5.out | exact G2.out | exact G3.out | exact G4.out | exact G0.out | exact G1.out | (refine frv_get _ _ ?_; (first | omega | (simp; done) | (simp; omega) | (simp [*]; omega))) | exact rfl))) | (refine ia_loadAll st rfl rfl rfl ?_ ?_; (focus (first | rfl | (simp; done) | (simp; assumption) | (simp; omega) | (simp [*]; done)))) | (refine ia_loadC (hb.keep st.keep (by simp)) rfl rfl rfl ?_ ?_; (focus (first | rfl | (simp; done) | (simp; assumption) | (simp; omega) | (simp [*]; done)))) | (refine ia_loadC (hb'.keep st.keep (by simp)) rfl rfl rfl ?_ ?_; (focus (first | rfl | (simp; done) | (simp; assumption) | (simp; omega) | (simp [*]; done)))) | (refine ia_loadC (Cl.of (hb1.keep st.keep (by simp))) rfl rfl rfl ?_ ?_; (focus (first | rfl | (simp; done) | (simp; assumption) | (simp; omega) | (simp [*]; done)))) | (refine ia_loadC (Cl.of (hb2.keep st.keep (by simp))) rfl rfl rfl ?_ ?_; (focus (first | rfl | (simp; done) | (simp; assumption) | (simp; omega) | (simp [*]; done)))))) | ((with_reducible refine gate_addr rfl ?_); (first | (refine' ia_slcP HP.out rfl rfl rfl rfl ?_ ?_ ?_) | (refine' ia_slcP HP2.out rfl rfl rfl rfl ?_ ?_ ?_)); rotate_left 1; (focus (first | exact (rfl : (0 : Int) = ((0 : Nat) : Int)) | exact (rfl : (1 : Int) = ((1 : Nat) : Int)) | exact rfl | exact HE1.out | exact HE2.out)); (focus (first | omega | (simp; done) | (simp; omega) | (simp [*]; omega)))))))
    go_ret2
    exact ⟨_, rfl, Or.inr (gives0 st .here), st.keep⟩
set_option maxHeartbeats 2000000 in
set_option maxRecDepth 100000 in
theorem PlaySheet_c (B : List Fm) (n : Nat) (hB : B.length = n) (hn : n ≤ 1000000) (p : Option Addr) (c : Nat) (S : List Sh) (m : Nat) (hS : S.length = m) (hm : m ≤ 1000000) (h8 : R8 S) (p' : Option Addr) (c' : Nat) (w : World) (hr : Rd w p n (encs fv B)) (hr' : Rd w p' m (encs p8 S)) :
    Calls Tryz.prog 18 #[.slice p n c, .slice p' m c'] w (BookCode (plR B S) (plR B S).length (plC B S) (plC B S ≠ 0) w) := by
  have st := St.start w
  have HV := hid (fun w' (hk : Keep [] w w') => ValidSheet_c B n hB hn p c S m hS hm h8 p' c' w' (hr.keep hk) (hr'.keep hk))
  rcases Bool.eq_false_or_eq_true (shtB B S) with q | q
  · rw [q] at HV
    obtain ⟨hsh, hm80, _⟩ := shtB_sh q
    rw [hS] at hm80
    have HT := hid (fun w' (hk : Keep [] w w') => ticks_c S m hS hm80 h8 B.length hsh p' c' w' (hr'.keep hk))
    rw [hB] at hsh
    have HRG := hid (tkS_range hsh)
    have hTL := tkS_length hsh
    have HR := hid (show ∀ N, (tkS S).length = N → (N ≤ 40 → plC B S = 0 ∧ plR B S = plK B (tkS S) N) ∧ (¬ N ≤ 40 → plC B S = 3 ∧ plR B S = []) from fun N h => ⟨fun h4 => by
        have h0 := plC0 q (by rw [h]; exact h4)
        exact ⟨h0, by rw [plR_0 h0, h]⟩, fun h4 => by
        have h0 := plC3 q (by rw [h]; exact h4)
        exact ⟨h0, plR_n (by rw [h0]; decide)⟩⟩)
    obtain ⟨T, hT⟩ : ∃ T, tkS S = T := ⟨_, rfl⟩
    obtain ⟨N, hN⟩ : ∃ N, T.length = N := ⟨_, rfl⟩
    rw [hT] at HT HRG hTL HR
    rw [hN] at HT hTL
    have hR2 := HR.out N hN
    have HR3 := hid hR2
    have hN1 : N ≤ 1920 := by omega
    have HN := hid hN
    replace hB := hid hB
    clear hsh h8 hS hr' hT hN hTL hR2 HR
    go_enter Tryz.func18, Tryz.ntmps18
    go_wp2_with (first | (go_at_call 15; refine (HV.out _ st.keep).mono ?_; rintro _ _ ⟨rfl, hk⟩; replace st := st.call hk; clear hk) | (go_at_call 37; refine (HT.out _ st.keep).mono ?_; rintro _ _ ⟨v, rfl, ⟨g, cap, spare, rfl, hg, hbg, hcap, hcm⟩, hk⟩; replace st := st.adopt hk hg hbg; clear hk hg hbg) | ((with_reducible refine gate_bsl rfl ?_); refine ia_bsl0 (sl := 13) st rfl rfl rfl ?_; clear st; intro B13 _ st) | ((with_reducible refine gate_lst ?_); (first | ((with_reducible refine gate_load rfl ?_); (first | (refine' ia_load1 st rfl rfl rfl ?_ ?_; rotate_left 1; (focus (first | exact N0.out | exact N1.out | exact N2.out | exact N3.out | exact N4.out | exact N5.out | exact G2.out | exact G3.out | exact G4.out | exact G0.out | exact G1.out | (refine frv_get _ _ ?_; (first | omega | (simp; done) | (simp; omega) | (simp [*]; omega))) | exact rfl))) | (refine' ia_load1Z (hb.keep st.keep (by simp)) rfl rfl rfl ?_ ?_; rotate_left 1; (focus exact rfl)) | (refine' ia_load1Z (hb'.keep st.keep (by simp)) rfl rfl rfl ?_ ?_; rotate_left 1; (focus exact rfl)) | (refine' ia_load1C (hb.keep st.keep (by simp)) rfl rfl rfl ?_ ?_; rotate_left 1; (focus (first | exact N0.out | exact N1.out | exact N2.out | exact N3.out | exact N4.out | exact N5.out | exact G2.out | exact G3.out | exact G4.out | exact G0.out | exact G1.out | (refine frv_get _ _ ?_; (first | omega | (simp; done) | (simp; omega) | (simp [*]; omega))) | exact rfl))) | (refine' ia_load1C (hb'.keep st.keep (by simp)) rfl rfl rfl ?_ ?_; rotate_left 1; (focus (first | exact N0.out | exact N1.out | exact N2.out | exact N3.out | exact N4.out | exact N5.out | exact G2.out | exact G3.out | exact G4.out | exact G0.out | exact G1.out | (refine frv_get _ _ ?_; (first | omega | (simp; done) | (simp; omega) | (simp [*]; omega))) | exact rfl))) | (refine' ia_load1B (hb1.keep st.keep (by simp)) rfl rfl rfl ?_ ?_; rotate_left 1; (focus (first | exact N0.out | exact N1.out | exact N2.out | exact N3.out | exact N4.out | exact N5.out | exact G2.out | exact G3.out | exact G4.out | exact G0.out | exact G1.out | (refine frv_get _ _ ?_; (first | omega | (simp; done) | (simp; omega) | (simp [*]; omega))) | exact rfl))) | (refine' ia_load1B (hb2.keep st.keep (by simp)) rfl rfl rfl ?_ ?_; rotate_left 1; (focus (first | exact N0.out | exact N1.out | exact N2.out | exact N3.out | exact N4.out | exact N5.out | exact G2.out | exact G3.out | exact G4.out | exact G0.out | exact G1.out | (refine frv_get _ _ ?_; (first | omega | (simp; done) | (simp; omega) | (simp [*]; omega))) | exact rfl))) | (refine ia_loadAll st rfl rfl rfl ?_ ?_; (focus (first | rfl | (simp; done) | (simp; assumption) | (simp; omega) | (simp [*]; done)))) | (refine ia_loadC (hb.keep st.keep (by simp)) rfl rfl rfl ?_ ?_; (focus (first | rfl | (simp; done) | (simp; assumption) | (simp; omega) | (simp [*]; done)))) | (refine ia_loadC (hb'.keep st.keep (by simp)) rfl rfl rfl ?_ ?_; (focus (first | rfl | (simp; done) | (simp; assumption) | (simp; omega) | (simp [*]; done)))) | (refine ia_loadC (Cl.of (hb1.keep st.keep (by simp))) rfl rfl rfl ?_ ?_; (focus (first | rfl | (simp; done) | (simp; assumption) | (simp; omega) | (simp [*]; done)))) | (refine ia_loadC (Cl.of (hb2.keep st.keep (by simp))) rfl rfl rfl ?_ ?_; (focus (first | rfl | (simp; done) | (simp; assumption) | (simp; omega) | (simp [*]; done)))))) | ((with_reducible refine gate_addr rfl ?_); (first | (refine' ia_slcP HP.out rfl rfl rfl rfl ?_ ?_ ?_) | (refine' ia_slcP HP2.out rfl rfl rfl rfl ?_ ?_ ?_)); rotate_left 1; (focus (first | exact (rfl : (0 : Int) = ((0 : Nat) : Int)) | exact (rfl : (1 : Int) = ((1 : Nat) : Int)) | exact rfl | exact HE1.out | exact HE2.out)); (focus (first | omega | (simp; done) | (simp; omega) | (simp [*]; omega)))))))
    go_loopw [6, 17] (fun v i wr => ∃ k : Nat, k ≤ N ∧ i = .int .i64 k ∧ Own 72 12 k (encs fv (plK B T k)) [] w wr [(g, encs i1 T ++ spare, 2)] v) (fun _ i _ => N - (intOf i).toNat)
    case atStart => exact ⟨0, by omega, rfl, B13, 0, [], rfl, st.swap, rfl, Nat.zero_le _⟩
    case round =>
      clear st hcap hcm
      obtain ⟨k, hk, rfl, g4, cap4, spare4, rfl, st, hcap, hcm⟩ := hrel
      have HC := hid hcap
      clear hcap
      by_cases hlt : k < N
      · have hd : decide ((k : Int) < (N : Int)) = true := by simpa using hlt
        have hkB : k < T.length := by rw [HN.out]; exact hlt
        have hgk : T[k]? = some T[k] := List.getElem?_eq_getElem hkB
        have HST := hid (plK_step (B := B) hkB)
        have HL := hid (plK_length (B := B) (T := T) (k := k) (by omega))
        have hx8 := HRG.out _ (List.getElem_mem hkB)
        obtain ⟨x, hx⟩ : ∃ x, T[k] = x := ⟨_, rfl⟩
        rw [hx] at hgk HST hx8
        obtain ⟨hx0, hx1⟩ := hx8
        obtain ⟨X, rfl⟩ : ∃ X : Nat, x = X := ⟨x.toNat, by omega⟩
        simp only [Int.toNat_natCast] at HST
        have hXn : X < n := by omega
        have N2 := hid (show (encs i1 T ++ spare)[k]? = some (.int .i64 (X : Nat)) by have := i1_atE hgk; obtain ⟨h1, h2⟩ := List.getElem?_eq_some_iff.1 this; rw [List.getElem?_append_left h1]; exact this)
        have N3 : Hid ((encs i1 T ++ spare)[0 + k * 1]? = some (.int .i64 (X : Nat))) := hid (by rw [Nat.mul_one, Nat.zero_add]; exact N2.out)
        obtain ⟨b, f, hp, hcl⟩ := hr (by omega)
        have HP := hid hp
        have hXB : X < B.length := by rw [hB.out]; exact hXn
        have hb := hcl.seg fv_len hXB
        rw [getD_get3 hXB] at HST
        obtain ⟨y, hy⟩ : ∃ y, B[X] = y := ⟨_, rfl⟩
        rw [hy] at hb HST
        have HXL : Hid ((encs fv (plK B T k)).length = k * 12) := hid (by rw [encs_fv_length, HL.out])
        clear hp hcl hXB hy hkB hgk hx
        go_wp2_with (first | ((with_reducible refine gate_bsl rfl ?_); refine ia_bsl1 (sl := 26) st rfl rfl rfl rfl rfl ?_ (by decide) ?_; (focus (first | rfl | (simp; done) | (simp; assumption) | (simp; omega) | (simp [*]; done))); clear st; intro B26 _ st) | ((with_reducible refine gate_app rfl ?_); refine ia_appendR (news := (fv y)) (xs := (encs fv (plK B T k))) (spare := spare4) st rfl rfl rfl rfl HXL.out HC.out hcm (.fr (st.get (by repeat (first | exact At.here | apply At.there)))) (fun h => by cases h) (fv_len _) (fv_one _) (by unfold maxLen; omega) (by omega) ?_; clear st; intro g2 cap2 spare2 _ st hcap2 hcm2; (try simp only [List.set_cons_zero, List.set_cons_succ] at st)) | ((with_reducible refine gate_lst ?_); (first | ((with_reducible refine gate_load rfl ?_); (first | (refine' ia_load1 st rfl rfl rfl ?_ ?_; rotate_left 1; (focus (first | exact N0.out | exact N1.out | exact N2.out | exact N3.out | exact N4.out | exact N5.out | exact G2.out | exact G3.out | exact G4.out | exact G0.out | exact G1.out | (refine frv_get _ _ ?_; (first | omega | (simp; done) | (simp; omega) | (simp [*]; omega))) | exact rfl))) | (refine' ia_load1Z (hb.keep st.keep (by simp)) rfl rfl rfl ?_ ?_; rotate_left 1; (focus exact rfl)) | (refine' ia_load1Z (hb'.keep st.keep (by simp)) rfl rfl rfl ?_ ?_; rotate_left 1; (focus exact rfl)) | (refine' ia_load1C (hb.keep st.keep (by simp)) rfl rfl rfl ?_ ?_; rotate_left 1; (focus (first | exact N0.out | exact N1.out | exact N2.out | exact N3.out | exact N4.out | exact N5.out | exact G2.out | exact G3.out | exact G4.out | exact G0.out | exact G1.out | (refine frv_get _ _ ?_; (first | omega | (simp; done) | (simp; omega) | (simp [*]; omega))) | exact rfl))) | (refine' ia_load1C (hb'.keep st.keep (by simp)) rfl rfl rfl ?_ ?_; rotate_left 1; (focus (first | exact N0.out | exact N1.out | exact N2.out | exact N3.out | exact N4.out | exact N5.out | exact G2.out | exact G3.out | exact G4.out | exact G0.out | exact G1.out | (refine frv_get _ _ ?_; (first | omega | (simp; done) | (simp; omega) | (simp [*]; omega))) | exact rfl))) | (refine' ia_load1B (hb1.keep st.keep (by simp)) rfl rfl rfl ?_ ?_; rotate_left 1; (focus (first | exact N0.out | exact N1.out | exact N2.out | exact N3.out | exact N4.out | exact N5.out | exact G2.out | exact G3.out | exact G4.out | exact G0.out | exact G1.out | (refine frv_get _ _ ?_; (first | omega | (simp; done) | (simp; omega) | (simp [*]; omega))) | exact rfl))) | (refine' ia_load1B (hb2.keep st.keep (by simp)) rfl rfl rfl ?_ ?_; rotate_left 1; (focus (first | exact N0.out | exact N1.out | exact N2.out | exact N3.out | exact N4.out | exact N5.out | exact G2.out | exact G3.out | exact G4.out | exact G0.out | exact G1.out | (refine frv_get _ _ ?_; (first | omega | (simp; done) | (simp; omega) | (simp [*]; omega))) | exact rfl))) | (refine ia_loadAll st rfl rfl rfl ?_ ?_; (focus (first | rfl | (simp; done) | (simp; assumption) | (simp; omega) | (simp [*]; done)))) | (refine ia_loadC (hb.keep st.keep (by simp)) rfl rfl rfl ?_ ?_; (focus (first | rfl | (simp; done) | (simp; assumption) | (simp; omega) | (simp [*]; done)))) | (refine ia_loadC (hb'.keep st.keep (by simp)) rfl rfl rfl ?_ ?_; (focus (first | rfl | (simp; done) | (simp; assumption) | (simp; omega) | (simp [*]; done)))) | (refine ia_loadC (Cl.of (hb1.keep st.keep (by simp))) rfl rfl rfl ?_ ?_; (focus (first | rfl | (simp; done) | (simp; assumption) | (simp; omega) | (simp [*]; done)))) | (refine ia_loadC (Cl.of (hb2.keep st.keep (by simp))) rfl rfl rfl ?_ ?_; (focus (first | rfl | (simp; done) | (simp; assumption) | (simp; omega) | (simp [*]; done)))))) | ((with_reducible refine gate_addr rfl ?_); (first | (refine' ia_slcP HP.out rfl rfl rfl rfl ?_ ?_ ?_) | (refine' ia_slcP HP2.out rfl rfl rfl rfl ?_ ?_ ?_)); rotate_left 1; (focus (first | exact (rfl : (0 : Int) = ((0 : Nat) : Int)) | exact (rfl : (1 : Int) = ((1 : Nat) : Int)) | exact rfl | exact HE1.out | exact HE2.out)); (focus (first | omega | (simp; done) | (simp; omega) | (simp [*]; omega)))))))
        have e : encs fv (plK B T (k + 1)) = encs fv (plK B T k) ++ fv y := by rw [HST.out, encs_snoc2]
        go_roundw
        case rel => exact ⟨k + 1, by omega, by go_num, g2, cap2, spare2, rfl, by rw [e]; exact st.drop, by rw [e]; exact hcap2, hcm2⟩
        case measure => first | (simp [intOf]; done) | (simp [intOf]; omega)
      · obtain rfl : k = N := by omega
        have hd : decide ((k : Int) < (k : Int)) = false := by simp
        have HPL := hid (plK_length (B := B) (T := T) (k := k) (by rw [HN.out]; exact Nat.le_refl _))
        by_cases h40 : k ≤ 40
        · have hh := HR3.out.1 h40
          have HLM := hid (limited_0 (p := some ⟨g4, 0, none⟩) (n := k) (c := cap4) (by omega) h40)
          replace hh := hid hh
          go_wp2_with (first | (go_at_call 43; refine (HLM.out _).mono ?_; rintro _ _ ⟨rfl, hk⟩; replace st := st.call hk; clear hk) | ((with_reducible refine gate_lst ?_); (first | ((with_reducible refine gate_load rfl ?_); (first | (refine' ia_load1 st rfl rfl rfl ?_ ?_; rotate_left 1; (focus (first | exact N0.out | exact N1.out | exact N2.out | exact N3.out | exact N4.out | exact N5.out | exact G2.out | exact G3.out | exact G4.out | exact G0.out | exact G1.out | (refine frv_get _ _ ?_; (first | omega | (simp; done) | (simp; omega) | (simp [*]; omega))) | exact rfl))) | (refine' ia_load1Z (hb.keep st.keep (by simp)) rfl rfl rfl ?_ ?_; rotate_left 1; (focus exact rfl)) | (refine' ia_load1Z (hb'.keep st.keep (by simp)) rfl rfl rfl ?_ ?_; rotate_left 1; (focus exact rfl)) | (refine' ia_load1C (hb.keep st.keep (by simp)) rfl rfl rfl ?_ ?_; rotate_left 1; (focus (first | exact N0.out | exact N1.out | exact N2.out | exact N3.out | exact N4.out | exact N5.out | exact G2.out | exact G3.out | exact G4.out | exact G0.out | exact G1.out | (refine frv_get _ _ ?_; (first | omega | (simp; done) | (simp; omega) | (simp [*]; omega))) | exact rfl))) | (refine' ia_load1C (hb'.keep st.keep (by simp)) rfl rfl rfl ?_ ?_; rotate_left 1; (focus (first | exact N0.out | exact N1.out | exact N2.out | exact N3.out | exact N4.out | exact N5.out | exact G2.out | exact G3.out | exact G4.out | exact G0.out | exact G1.out | (refine frv_get _ _ ?_; (first | omega | (simp; done) | (simp; omega) | (simp [*]; omega))) | exact rfl))) | (refine' ia_load1B (hb1.keep st.keep (by simp)) rfl rfl rfl ?_ ?_; rotate_left 1; (focus (first | exact N0.out | exact N1.out | exact N2.out | exact N3.out | exact N4.out | exact N5.out | exact G2.out | exact G3.out | exact G4.out | exact G0.out | exact G1.out | (refine frv_get _ _ ?_; (first | omega | (simp; done) | (simp; omega) | (simp [*]; omega))) | exact rfl))) | (refine' ia_load1B (hb2.keep st.keep (by simp)) rfl rfl rfl ?_ ?_; rotate_left 1; (focus (first | exact N0.out | exact N1.out | exact N2.out | exact N3.out | exact N4.out | exact N5.out | exact G2.out | exact G3.out | exact G4.out | exact G0.out | exact G1.out | (refine frv_get _ _ ?_; (first | omega | (simp; done) | (simp; omega) | (simp [*]; omega))) | exact rfl))) | (refine ia_loadAll st rfl rfl rfl ?_ ?_; (focus (first | rfl | (simp; done) | (simp; assumption) | (simp; omega) | (simp [*]; done)))) | (refine ia_loadC (hb.keep st.keep (by simp)) rfl rfl rfl ?_ ?_; (focus (first | rfl | (simp; done) | (simp; assumption) | (simp; omega) | (simp [*]; done)))) | (refine ia_loadC (hb'.keep st.keep (by simp)) rfl rfl rfl ?_ ?_; (focus (first | rfl | (simp; done) | (simp; assumption) | (simp; omega) | (simp [*]; done)))) | (refine ia_loadC (Cl.of (hb1.keep st.keep (by simp))) rfl rfl rfl ?_ ?_; (focus (first | rfl | (simp; done) | (simp; assumption) | (simp; omega) | (simp [*]; done)))) | (refine ia_loadC (Cl.of (hb2.keep st.keep (by simp))) rfl rfl rfl ?_ ?_; (focus (first | rfl | (simp; done) | (simp; assumption) | (simp; omega) | (simp [*]; done)))))) | ((with_reducible refine gate_addr rfl ?_); (first | (refine' ia_slcP HP.out rfl rfl rfl rfl ?_ ?_ ?_) | (refine' ia_slcP HP2.out rfl rfl rfl rfl ?_ ?_ ?_)); rotate_left 1; (focus (first | exact (rfl : (0 : Int) = ((0 : Nat) : Int)) | exact (rfl : (1 : Int) = ((1 : Nat) : Int)) | exact rfl | exact HE1.out | exact HE2.out)); (focus (first | omega | (simp; done) | (simp; omega) | (simp [*]; omega)))))))
          go_ret2
          rw [hh.out.1, hh.out.2, HPL.out]
          exact ⟨_, rfl, Or.inr ⟨g4, cap4, spare4, rfl, out_of st .here, st.get .here, HC.out, hcm⟩, st.keep⟩
        · have hh := HR3.out.2 h40
          have HLM := hid (limited_3 (p := some ⟨g4, 0, none⟩) (n := k) (c := cap4) (by omega) h40)
          replace hh := hid hh
          go_wp2_with (first | (go_at_call 43; refine (HLM.out _).mono ?_; rintro _ _ ⟨rfl, hk⟩; replace st := st.call hk; clear hk) | ((with_reducible refine gate_lst ?_); (first | ((with_reducible refine gate_load rfl ?_); (first | (refine' ia_load1 st rfl rfl rfl ?_ ?_; rotate_left 1; (focus (first | exact N0.out | exact N1.out | exact N2.out | exact N3.out | exact N4.out | exact N5.out | exact G2.out | exact G3.out | exact G4.out | exact G0.out | exact G1.out | (refine frv_get _ _ ?_; (first | omega | (simp; done) | (simp; omega) | (simp [*]; omega))) | exact rfl))) | (refine' ia_load1Z (hb.keep st.keep (by simp)) rfl rfl rfl ?_ ?_; rotate_left 1; (focus exact rfl)) | (refine' ia_load1Z (hb'.keep st.keep (by simp)) rfl rfl rfl ?_ ?_; rotate_left 1; (focus exact rfl)) | (refine' ia_load1C (hb.keep st.keep (by simp)) rfl rfl rfl ?_ ?_; rotate_left 1; (focus (first | exact N0.out | exact N1.out | exact N2.out | exact N3.out | exact N4.out | exact N5.out | exact G2.out | exact G3.out | exact G4.out | exact G0.out | exact G1.out | (refine frv_get _ _ ?_; (first | omega | (simp; done) | (simp; omega) | (simp [*]; omega))) | exact rfl))) | (refine' ia_load1C (hb'.keep st.keep (by simp)) rfl rfl rfl ?_ ?_; rotate_left 1; (focus (first | exact N0.out | exact N1.out | exact N2.out | exact N3.out | exact N4.out | exact N5.out | exact G2.out | exact G3.out | exact G4.out | exact G0.out | exact G1.out | (refine frv_get _ _ ?_; (first | omega | (simp; done) | (simp; omega) | (simp [*]; omega))) | exact rfl))) | (refine' ia_load1B (hb1.keep st.keep (by simp)) rfl rfl rfl ?_ ?_; rotate_left 1; (focus (first | exact N0.out | exact N1.out | exact N2.out | exact N3.out | exact N4.out | exact N5.out | exact G2.out | exact G3.out | exact G4.out | exact G0.out | exact G1.out | (refine frv_get _ _ ?_; (first | omega | (simp; done) | (simp; omega) | (simp [*]; omega))) | exact rfl))) | (refine' ia_load1B (hb2.keep st.keep (by simp)) rfl rfl rfl ?_ ?_; rotate_left 1; (focus (first | exact N0.out | exact N1.out | exact N2.out | exact N3.out | exact N4.out | exact N5.out | exact G2.out | exact G3.out | exact G4.out | exact G0.out | exact G1.out | (refine frv_get _ _ ?_; (first | omega | (simp; done) | (simp; omega) | (simp [*]; omega))) | exact rfl))) | (refine ia_loadAll st rfl rfl rfl ?_ ?_; (focus (first | rfl | (simp; done) | (simp; assumption) | (simp; omega) | (simp [*]; done)))) | (refine ia_loadC (hb.keep st.keep (by simp)) rfl rfl rfl ?_ ?_; (focus (first | rfl | (simp; done) | (simp; assumption) | (simp; omega) | (simp [*]; done)))) | (refine ia_loadC (hb'.keep st.keep (by simp)) rfl rfl rfl ?_ ?_; (focus (first | rfl | (simp; done) | (simp; assumption) | (simp; omega) | (simp [*]; done)))) | (refine ia_loadC (Cl.of (hb1.keep st.keep (by simp))) rfl rfl rfl ?_ ?_; (focus (first | rfl | (simp; done) | (simp; assumption) | (simp; omega) | (simp [*]; done)))) | (refine ia_loadC (Cl.of (hb2.keep st.keep (by simp))) rfl rfl rfl ?_ ?_; (focus (first | rfl | (simp; done) | (simp; assumption) | (simp; omega) | (simp [*]; done)))))) | ((with_reducible refine gate_addr rfl ?_); (first | (refine' ia_slcP HP.out rfl rfl rfl rfl ?_ ?_ ?_) | (refine' ia_slcP HP2.out rfl rfl rfl rfl ?_ ?_ ?_)); rotate_left 1; (focus (first | exact (rfl : (0 : Int) = ((0 : Nat) : Int)) | exact (rfl : (1 : Int) = ((1 : Nat) : Int)) | exact rfl | exact HE1.out | exact HE2.out)); (focus (first | omega | (simp; done) | (simp; omega) | (simp [*]; omega)))))))
          go_ret2
          rw [hh.out.1, hh.out.2]
          exact ⟨_, rfl, Or.inl ⟨by decide, rfl, rfl⟩, st.keep⟩
  · rw [q] at HV
    have hc1 := plC1 q
    rw [plR_n (by rw [hc1]; decide), hc1]
    go_enter Tryz.func18, Tryz.ntmps18
    go_wp2_with (first | (go_at_call 15; refine (HV.out _ st.keep).mono ?_; rintro _ _ ⟨rfl, hk⟩; replace st := st.call hk; clear hk) | ((with_reducible refine gate_lst ?_); (first | ((with_reducible refine gate_load rfl ?_); (first | (refine' ia_load1 st rfl rfl rfl ?_ ?_; rotate_left 1; (focus (first | exact N0.out | exact N1.out | exact N2.out | exact N3.out | exact N4.out | exact N5.out | exact G2.out | exact G3.out | exact G4.out | exact G0.out | exact G1.out | (refine frv_get _ _ ?_; (first | omega | (simp; done) | (simp; omega) | (simp [*]; omega))) | exact rfl))) | (refine' ia_load1Z (hb.keep st.keep (by simp)) rfl rfl rfl ?_ ?_; rotate_left 1; (focus exact rfl)) | (refine' ia_load1Z (hb'.keep st.keep (by simp)) rfl rfl rfl ?_ ?_; rotate_left 1; (focus exact rfl)) | (refine' ia_load1C (hb.keep st.keep (by simp)) rfl rfl rfl ?_ ?_; rotate_left 1; (focus (first | exact N0.out | exact N1.out | exact N2.out | exact N3.out | exact N4.out | exact N5.out | exact G2.out | exact G3.out | exact G4.out | exact G0.out | exact G1.out | (refine frv_get _ _ ?_; (first | omega | (simp; done) | (simp; omega) | (simp [*]; omega))) | exact rfl))) | (refine' ia_load1C (hb'.keep st.keep (by simp)) rfl rfl rfl ?_ ?_; rotate_left 1; (focus (first | exact N0.out | exact N1.out | exact N2.out | exact N3.out | exact N4.out | exact N5.out | exact G2.out | exact G3.out | exact G4.out | exact G0.out | exact G1.out | (refine frv_get _ _ ?_; (first | omega | (simp; done) | (simp; omega) | (simp [*]; omega))) | exact rfl))) | (refine' ia_load1B (hb1.keep st.keep (by simp)) rfl rfl rfl ?_ ?_; rotate_left 1; (focus (first | exact N0.out | exact N1.out | exact N2.out | exact N3.out | exact N4.out | exact N5.out | exact G2.out | exact G3.out | exact G4.out | exact G0.out | exact G1.out | (refine frv_get _ _ ?_; (first | omega | (simp; done) | (simp; omega) | (simp [*]; omega))) | exact rfl))) | (refine' ia_load1B (hb2.keep st.keep (by simp)) rfl rfl rfl ?_ ?_; rotate_left 1; (focus (first | exact N0.out | exact N1.out | exact N2.out | exact N3.out | exact N4.out | exact N5.out | exact G2.out | exact G3.out | exact G4.out | exact G0.out | exact G1.out | (refine frv_get _ _ ?_; (first | omega | (simp; done) | (simp; omega) | (simp [*]; omega))) | exact rfl))) | (refine ia_loadAll st rfl rfl rfl ?_ ?_; (focus (first | rfl | (simp; done) | (simp; assumption) | (simp; omega) | (simp [*]; done)))) | (refine ia_loadC (hb.keep st.keep (by simp)) rfl rfl rfl ?_ ?_; (focus (first | rfl | (simp; done) | (simp; assumption) | (simp; omega) | (simp [*]; done)))) | (refine ia_loadC (hb'.keep st.keep (by simp)) rfl rfl rfl ?_ ?_; (focus (first | rfl | (simp; done) | (simp; assumption) | (simp; omega) | (simp [*]; done)))) | (refine ia_loadC (Cl.of (hb1.keep st.keep (by simp))) rfl rfl rfl ?_ ?_; (focus (first | rfl | (simp; done) | (simp; assumption) | (simp; omega) | (simp [*]; done)))) | (refine ia_loadC (Cl.of (hb2.keep st.keep (by simp))) rfl rfl rfl ?_ ?_; (focus (first | rfl | (simp; done) | (simp; assumption) | (simp; omega) | (simp [*]; done)))))) | ((with_reducible refine gate_addr rfl ?_); (first | (refine' ia_slcP HP.out rfl rfl rfl rfl ?_ ?_ ?_) | (refine' ia_slcP HP2.out rfl rfl rfl rfl ?_ ?_ ?_)); rotate_left 1; (focus (first | exact (rfl : (0 : Int) = ((0 : Nat) : Int)) | exact (rfl : (1 : Int) = ((1 : Nat) : Int)) | exact rfl | exact HE1.out | exact HE2.out)); (focus (first | omega | (simp; done) | (simp; omega) | (simp [*]; omega)))))))
    go_ret2
    exact ⟨_, rfl, Or.inl ⟨by decide, rfl, rfl⟩, st.keep⟩
theorem PlaySheet_len {B : List Fm} {n : Nat} (hB : B.length = n) (hn : n ≤ 1000000) {S : List Sh} {m : Nat} (hS : S.length = m) (hm : m ≤ 1000000) : (plR B S).length ≤ 1000000 := by
  unfold plR
  split
  · rename_i h
    rw [plK_length (Nat.le_refl _)]
    unfold plC at h
    split at h
    · split at h
      · omega
      · cases h
    · cases h
  · simp
end Go.Proofs.YtlljflmbnbjccaaGreatDoor
