/- The law MorphBook: the program, and what the law answers; no condition. -/
import Derived.Test.YtmndbmapepenjaaMorB
import Derived.Test.YtmndbmapepenjaaSched2
namespace Go.Proofs.Ytmndbmapepenjaa
open Go.RowKit
set_option linter.unusedSimpArgs false
set_option linter.unusedVariables false
set_option maxHeartbeats 2000000 in
set_option maxRecDepth 100000 in
theorem MorphBook_c (f g : Fm) (n : Int) (w : World) :
    Calls Try.prog 36 #[.agg (frv f.1).toArray, .agg (frv g.1).toArray, .int .i64 n] w (BookCode (mbR f g n) (mbR f g n).length (mbCode f g n) True w) := by
  obtain ⟨f, okf⟩ := f
  obtain ⟨f2, okg⟩ := g
  have hf := okf.len
  have hg := okg.len
  have st := St.start w
  simp only
  have HA := hid (areTwo_c f f2 hf hg)
  by_cases hcg : codeG f f2 = 0
  rotate_left 1
  · have hc : mbCode ⟨f, okf⟩ ⟨f2, okg⟩ n = 1 := by unfold mbCode; rw [if_neg hcg]
    rw [show mbR ⟨f, okf⟩ ⟨f2, okg⟩ n = [] by unfold mbR; rw [hc]; rfl, hc]
    rw [show decide (codeG f f2 = 0) = false by simpa using hcg] at HA
    clear hcg hc
    go_enter Try.func36, Try.ntmps36
    go_wp2_with (first | ((with_reducible refine gate_bsl rfl ?_); refine wpl_buildSlice2 rfl _ _ _ rfl _ _ rfl rfl _ _ rfl rfl tFrS (by rw [frv_length, hf]) (by rw [frv_length, hg]) (by decide) st ?_; clear st; intro _ _ st) | (go_at_call 68; refine (HA.out _ _ _ _ (st.get .here)).mono ?_; rintro _ _ ⟨rfl, hk⟩; replace st := st.call hk; clear hk) | ((with_reducible refine gate_lst ?_); (first | ((with_reducible refine gate_box rfl ?_); (first | (refine ia_box (sl := 3) st rfl rfl rfl rfl rfl ?_; clear st; intro B3 _ st) | (refine ia_box (sl := 4) st rfl rfl rfl rfl rfl ?_; clear st; intro B4 _ st))) | ((with_reducible refine gate_load rfl ?_); (first | (refine ia_loadAll st rfl rfl rfl ?_ ?_; (focus (first | rfl | (simp; done) | (simp; assumption) | (simp; omega) | (simp [*]; done)))) | (refine ia_loadC (hb.keep st.keep (by simp)) rfl rfl rfl ?_ ?_; (focus (first | rfl | (simp; done) | (simp; assumption) | (simp; omega) | (simp [*]; done)))) | (refine ia_loadC (hb'.keep st.keep (by simp)) rfl rfl rfl ?_ ?_; (focus (first | rfl | (simp; done) | (simp; assumption) | (simp; omega) | (simp [*]; done)))) | (refine ia_loadC (Cl.of (hb1.keep st.keep (by simp))) rfl rfl rfl ?_ ?_; (focus (first | rfl | (simp; done) | (simp; assumption) | (simp; omega) | (simp [*]; done)))) | (refine ia_loadC (Cl.of (hb2.keep st.keep (by simp))) rfl rfl rfl ?_ ?_; (focus (first | rfl | (simp; done) | (simp; assumption) | (simp; omega) | (simp [*]; done)))))))))
    go_ret2
    exact ⟨_, rfl, Or.inl ⟨trivial, rfl, rfl⟩, st.keep⟩
  rw [show decide (codeG f f2 = 0) = true by simpa using hcg] at HA
  rcases Bool.eq_false_or_eq_true (inB n 1 39) with h3 | h3
  rotate_left 1
  · have hc : mbCode ⟨f, okf⟩ ⟨f2, okg⟩ n = 2 := by unfold mbCode; rw [hcg, h3]; rfl
    rw [show mbR ⟨f, okf⟩ ⟨f2, okg⟩ n = [] by unfold mbR; rw [hc]; rfl, hc]
    have H3 := hid (inRange_w h3)
    clear hcg hc
    go_enter Try.func36, Try.ntmps36
    go_wp2_with (first | ((with_reducible refine gate_bsl rfl ?_); refine wpl_buildSlice2 rfl _ _ _ rfl _ _ rfl rfl _ _ rfl rfl tFrS (by rw [frv_length, hf]) (by rw [frv_length, hg]) (by decide) st ?_; clear st; intro _ _ st) | (go_at_call 68; refine (HA.out _ _ _ _ (st.get .here)).mono ?_; rintro _ _ ⟨rfl, hk⟩; replace st := st.call hk; clear hk) | (go_at_call 52; (first | (with_reducible refine (H3.out _).mono ?_)); rintro _ _ ⟨rfl, hk⟩; replace st := st.call hk; clear hk) | ((with_reducible refine gate_lst ?_); (first | ((with_reducible refine gate_box rfl ?_); (first | (refine ia_box (sl := 3) st rfl rfl rfl rfl rfl ?_; clear st; intro B3 _ st) | (refine ia_box (sl := 4) st rfl rfl rfl rfl rfl ?_; clear st; intro B4 _ st))) | ((with_reducible refine gate_load rfl ?_); (first | (refine ia_loadAll st rfl rfl rfl ?_ ?_; (focus (first | rfl | (simp; done) | (simp; assumption) | (simp; omega) | (simp [*]; done)))) | (refine ia_loadC (hb.keep st.keep (by simp)) rfl rfl rfl ?_ ?_; (focus (first | rfl | (simp; done) | (simp; assumption) | (simp; omega) | (simp [*]; done)))) | (refine ia_loadC (hb'.keep st.keep (by simp)) rfl rfl rfl ?_ ?_; (focus (first | rfl | (simp; done) | (simp; assumption) | (simp; omega) | (simp [*]; done)))) | (refine ia_loadC (Cl.of (hb1.keep st.keep (by simp))) rfl rfl rfl ?_ ?_; (focus (first | rfl | (simp; done) | (simp; assumption) | (simp; omega) | (simp [*]; done)))) | (refine ia_loadC (Cl.of (hb2.keep st.keep (by simp))) rfl rfl rfl ?_ ?_; (focus (first | rfl | (simp; done) | (simp; assumption) | (simp; omega) | (simp [*]; done)))))))))
    go_ret2
    exact ⟨_, rfl, Or.inl ⟨trivial, rfl, rfl⟩, st.keep⟩
  have hc : mbCode ⟨f, okf⟩ ⟨f2, okg⟩ n = 0 := by unfold mbCode; rw [hcg, h3]; rfl
  obtain ⟨q1, q2⟩ := inB_iff.1 h3
  obtain ⟨N, rfl⟩ : ∃ N : Nat, n = (N : Int) := ⟨n.toNat, by omega⟩
  rw [show mbR ⟨f, okf⟩ ⟨f2, okg⟩ (N : Int) = mbA ⟨f, okf⟩ ⟨f2, okg⟩ N (N + 1) by unfold mbR; rw [hc]; rfl, hc, mbA_length]
  have H3 := hid (inRange_w h3)
  have HM := hid (fun (k : Nat) (hk : k ≤ N) => morph_c f f2 okf okg (k : Int) (N : Int) (by omega) (by omega) q1 (by omega))
  have HE := hid (mbA_enc ⟨f, okf⟩ ⟨f2, okg⟩ N)
  have HLN := hid (fun k => by rw [encs_fv_length, mbA_length] : ∀ k, (encs fv (mbA ⟨f, okf⟩ ⟨f2, okg⟩ N k)).length = k * 12)
  have HL12 := hid (fun k => (morR_ok (g := f2) okf (k : Int) (N : Int)).len : ∀ k : Nat, (morR f f2 k N).length = 12)
  simp only at HE
  obtain ⟨A, hA⟩ : ∃ A, mbA ⟨f, okf⟩ ⟨f2, okg⟩ N = A := ⟨_, rfl⟩
  have hA0 : encs fv (A 0) = [] := by rw [← hA]; rfl
  rw [hA] at HE HLN ⊢
  obtain ⟨F, hF⟩ : ∃ F : Nat → List Nat, (fun (k : Nat) => morR f f2 k N) = F := ⟨_, rfl⟩
  replace HM : Hid (∀ (k : Nat), k ≤ N → ∀ w, Calls Try.prog 69 #[.agg (frv f).toArray, .agg (frv f2).toArray, .int .i64 k, .int .i64 N] w fun e w' => e = .returned (.agg (frv (F k)).toArray) ∧ Keep [] w w') := by rw [← hF]; exact HM
  replace HE : Hid (∀ k, encs fv (A (k + 1)) = encs fv (A k) ++ frv (F k)) := by rw [← hF]; exact HE
  replace HL12 : Hid (∀ k, (F k).length = 12) := by rw [← hF]; exact HL12
  clear hc h3 hcg hA hF
  go_enter Try.func36, Try.ntmps36
  go_wp2_with (first | ((with_reducible refine gate_bsl rfl ?_); refine ia_bsl0 (sl := 20) st rfl rfl rfl ?_; clear st; intro B20 _ st) | ((with_reducible refine gate_bsl rfl ?_); refine wpl_buildSlice2 rfl _ _ _ rfl _ _ rfl rfl _ _ rfl rfl tFrS (by rw [frv_length, hf]) (by rw [frv_length, hg]) (by decide) st ?_; clear st; intro _ _ st) | (go_at_call 68; refine (HA.out _ _ _ _ (st.get .here)).mono ?_; rintro _ _ ⟨rfl, hk⟩; replace st := st.call hk; clear hk) | (go_at_call 52; (first | (with_reducible refine (H3.out _).mono ?_)); rintro _ _ ⟨rfl, hk⟩; replace st := st.call hk; clear hk) | ((with_reducible refine gate_lst ?_); (first | ((with_reducible refine gate_box rfl ?_); (first | (refine ia_box (sl := 3) st rfl rfl rfl rfl rfl ?_; clear st; intro B3 _ st) | (refine ia_box (sl := 4) st rfl rfl rfl rfl rfl ?_; clear st; intro B4 _ st))) | ((with_reducible refine gate_load rfl ?_); (first | (refine ia_loadAll st rfl rfl rfl ?_ ?_; (focus (first | rfl | (simp; done) | (simp; assumption) | (simp; omega) | (simp [*]; done)))) | (refine ia_loadC (hb.keep st.keep (by simp)) rfl rfl rfl ?_ ?_; (focus (first | rfl | (simp; done) | (simp; assumption) | (simp; omega) | (simp [*]; done)))) | (refine ia_loadC (hb'.keep st.keep (by simp)) rfl rfl rfl ?_ ?_; (focus (first | rfl | (simp; done) | (simp; assumption) | (simp; omega) | (simp [*]; done)))) | (refine ia_loadC (Cl.of (hb1.keep st.keep (by simp))) rfl rfl rfl ?_ ?_; (focus (first | rfl | (simp; done) | (simp; assumption) | (simp; omega) | (simp [*]; done)))) | (refine ia_loadC (Cl.of (hb2.keep st.keep (by simp))) rfl rfl rfl ?_ ?_; (focus (first | rfl | (simp; done) | (simp; assumption) | (simp; omega) | (simp [*]; done)))))))))
  go_loopw [8, 9] (fun v i wr => ∃ (k g cap : Nat) (spare : List Value), k ≤ N + 1 ∧ i = .int .i64 k ∧ v = .slice (some ⟨g, 0, none⟩) k cap ∧ St [] w wr [(g, encs fv (A k) ++ spare, 44), (B4, frv f2, 44), (B3, frv f, 44)] ∧ (encs fv (A k) ++ spare).length = cap * 12 ∧ cap ≤ maxLen) (fun _ i _ => N + 1 - (intOf i).toNat)
  case atStart => exact ⟨0, B20, 0, [], by omega, rfl, rfl, by rw [hA0]; exact st.swap.drop, by rw [hA0]; rfl, Nat.zero_le _⟩
  case round =>
    clear st
    obtain ⟨k, g, cap, spare, hk, rfl, rfl, st, hcap, hcm⟩ := hrel
    have HC := hid hcap
    clear hcap
    by_cases hlt : k ≤ N
    · have hd : decide ((k : Int) ≤ (N : Int)) = true := by simpa using hlt
      have HK := hid (HM.out k hlt)
      have hfl := HL12.out k
      have HEk := hid (HE.out k)
      have HFL := hid hfl
      clear hfl
      go_wp2_with (first | (go_at_call 69; refine (HK.out _).mono ?_; rintro _ _ ⟨rfl, hk⟩; replace st := st.call hk; clear hk) | ((with_reducible refine gate_bsl rfl ?_); refine ia_bsl1 (sl := 32) st rfl rfl rfl rfl rfl ?_ (by decide) ?_; (focus (first | rfl | (simp; done) | (simp; assumption) | (simp; omega) | (simp [*]; done))); clear st; intro B32 _ st) | ((with_reducible refine gate_app rfl ?_); refine ia_appendR (news := (frv (F k))) (xs := (encs fv (A k))) (spare := spare) st rfl rfl rfl rfl (by rw [HLN.out]) HC.out hcm (.fr (st.get (by repeat (first | exact At.here | apply At.there)))) (fun h => by cases h) (by rw [frv_length]; exact HFL.out) (frv_one _) (by unfold maxLen; omega) (by omega) ?_; clear st; intro g2 cap2 spare2 _ st hcap2 hcm2; (try simp only [List.set_cons_zero, List.set_cons_succ] at st)) | ((with_reducible refine gate_lst ?_); (first | ((with_reducible refine gate_box rfl ?_); (first | (refine ia_box (sl := 3) st rfl rfl rfl rfl rfl ?_; clear st; intro B3 _ st) | (refine ia_box (sl := 4) st rfl rfl rfl rfl rfl ?_; clear st; intro B4 _ st))) | ((with_reducible refine gate_load rfl ?_); (first | (refine ia_loadAll st rfl rfl rfl ?_ ?_; (focus (first | rfl | (simp; done) | (simp; assumption) | (simp; omega) | (simp [*]; done)))) | (refine ia_loadC (hb.keep st.keep (by simp)) rfl rfl rfl ?_ ?_; (focus (first | rfl | (simp; done) | (simp; assumption) | (simp; omega) | (simp [*]; done)))) | (refine ia_loadC (hb'.keep st.keep (by simp)) rfl rfl rfl ?_ ?_; (focus (first | rfl | (simp; done) | (simp; assumption) | (simp; omega) | (simp [*]; done)))) | (refine ia_loadC (Cl.of (hb1.keep st.keep (by simp))) rfl rfl rfl ?_ ?_; (focus (first | rfl | (simp; done) | (simp; assumption) | (simp; omega) | (simp [*]; done)))) | (refine ia_loadC (Cl.of (hb2.keep st.keep (by simp))) rfl rfl rfl ?_ ?_; (focus (first | rfl | (simp; done) | (simp; assumption) | (simp; omega) | (simp [*]; done)))))))))
      go_roundw
      case rel => exact ⟨k + 1, g2, cap2, spare2, by omega, by go_num, rfl, by rw [HEk.out]; exact st.drop, by rw [HEk.out]; exact hcap2, hcm2⟩
      case measure => first | (simp [intOf]; done) | (simp [intOf]; omega)
    · obtain rfl : k = N + 1 := by omega
      have hd : decide (((N + 1 : Nat) : Int) ≤ (N : Int)) = false := by simp; omega
      go_wp2_with (first | ((with_reducible refine gate_lst ?_); (first | ((with_reducible refine gate_box rfl ?_); (first | (refine ia_box (sl := 3) st rfl rfl rfl rfl rfl ?_; clear st; intro B3 _ st) | (refine ia_box (sl := 4) st rfl rfl rfl rfl rfl ?_; clear st; intro B4 _ st))) | ((with_reducible refine gate_load rfl ?_); (first | (refine ia_loadAll st rfl rfl rfl ?_ ?_; (focus (first | rfl | (simp; done) | (simp; assumption) | (simp; omega) | (simp [*]; done)))) | (refine ia_loadC (hb.keep st.keep (by simp)) rfl rfl rfl ?_ ?_; (focus (first | rfl | (simp; done) | (simp; assumption) | (simp; omega) | (simp [*]; done)))) | (refine ia_loadC (hb'.keep st.keep (by simp)) rfl rfl rfl ?_ ?_; (focus (first | rfl | (simp; done) | (simp; assumption) | (simp; omega) | (simp [*]; done)))) | (refine ia_loadC (Cl.of (hb1.keep st.keep (by simp))) rfl rfl rfl ?_ ?_; (focus (first | rfl | (simp; done) | (simp; assumption) | (simp; omega) | (simp [*]; done)))) | (refine ia_loadC (Cl.of (hb2.keep st.keep (by simp))) rfl rfl rfl ?_ ?_; (focus (first | rfl | (simp; done) | (simp; assumption) | (simp; omega) | (simp [*]; done)))))))))
      go_ret2
      exact ⟨_, rfl, Or.inr ⟨g, cap, spare, rfl, out_of st .here, st.get .here, HC.out, hcm⟩, st.keep⟩


set_option maxHeartbeats 8000000 in
set_option maxRecDepth 100000 in
theorem law_MorphBook (f : List Nat) (okf : FrOk f) (g : List Nat) (okg : FrOk g) (n : Int) (_ : (Lit.int .i64 n).wf = true) (w : World) :
    Calls Try.prog 9 #[.agg (frv f).toArray, .agg (frv g).toArray, .int .i64 n] w fun e w' => e = .returned (.bool true) ∧ Keep [] w w' := by
  have hf := okf.len
  have hg0 := okg.len
  have HT1 := hid (toFrame_c f hf)
  have HT2 := hid (toFrame_c g hg0)
  have HS := hid (specMorphBook_c ⟨f, okf⟩ ⟨g, okg⟩ n)
  have HI := hid (MorphBook_c ⟨f, okf⟩ ⟨g, okg⟩ n)
  have hm4 : (mbR ⟨f, okf⟩ ⟨g, okg⟩ n).length ≤ 40 := mbR_len _ _ _
  simp only at HS HI
  obtain ⟨R, hr⟩ : ∃ r, mbR ⟨f, okf⟩ ⟨g, okg⟩ n = r := ⟨_, rfl⟩
  obtain ⟨c, hc⟩ : ∃ c, mbCode ⟨f, okf⟩ ⟨g, okg⟩ n = c := ⟨_, rfl⟩
  rw [hr, hc] at HS HI
  rw [hr] at hm4
  clear hr hc
  obtain ⟨m, hR⟩ : ∃ m, R.length = m := ⟨_, rfl⟩
  rw [hR] at HS HI hm4
  replace hR := hid hR
  obtain ⟨K2, hK2⟩ : ∃ K2, 101 + m * 12 = K2 := ⟨_, rfl⟩
  replace hK2 := hid hK2
  have st := St.start w
  go_enter Try.func9, Try.ntmps9
  go_wp2_with (first | (go_at_call 32; (first | (with_reducible refine (HT1.out _).mono ?_) | (with_reducible refine (HT2.out _).mono ?_)); rintro _ _ ⟨rfl, hk⟩; replace st := st.call hk; clear hk) | (go_at_call 35; refine (HS.out _).mono ?_; rintro _ _ ⟨v, rfl, (⟨hF, _⟩ | ⟨g, cap, spare, rfl, hg, hbg, hcap, hcm⟩), hk⟩; (exact hF.elim); replace st := st.adopt hk hg hbg; clear hk hg hbg hcap hcm) | (go_at_call 36; refine (HI.out _).mono ?_; rintro _ _ ⟨v, rfl, (⟨_, hm0, rfl⟩ | ⟨g, cap, spare, rfl, hg, hbg, hcap, hcm⟩), hk⟩; all_goals (first | (replace st := st.adopt hk hg hbg; clear hk hg hbg hcap hcm) | (replace hm0 := hid hm0; replace st := st.call hk; clear hk))) | (go_at_call 37; (first | (with_reducible refine (eqBook_z hm0.out _ _ _ _ _).mono ?_) | (refine (eqBook_v hR.out (by omega) (.of (st.get (by repeat (first | exact At.here | apply At.there)))) (.of (st.get (by repeat (first | exact At.here | apply At.there))))).mono ?_)); rintro _ _ ⟨rfl, hk⟩; replace st := st.call hk; clear hk) | (go_at_call 38; (with_reducible refine (markBook_z (k := 101) (k0 := 101) rfl _).mono ?_); rintro _ _ ⟨rfl, hk⟩; replace st := st.call hk; clear hk) | (go_at_call 38; (with_reducible refine (markBook_k (k := 101) (n := m) (k0 := 101) rfl hK2.out (by omega) (by omega) (st.get (by repeat (first | exact At.here | apply At.there))) (by rw [List.length_append, encs_fv_length, hR.out]; omega)).mono ?_); rintro _ _ ⟨rfl, hk, hb1⟩; replace st := st.wrote (by repeat (first | exact Upd.here | apply Upd.there)) hk hb1; clear hk hb1) | (go_at_call 39; (with_reducible refine (heldBook_z (k := 101) (k0 := 101) rfl _).mono ?_); rintro _ _ ⟨rfl, hk⟩; replace st := st.call hk; clear hk) | (go_at_call 39; (with_reducible refine (heldBook_k (k := 101) (n := m) (k0 := 101) rfl hK2.out (by omega) (by omega) (st.get (by repeat (first | exact At.here | apply At.there)))).mono ?_); rintro _ _ ⟨rfl, hk⟩; replace st := st.call hk; clear hk) | ((with_reducible refine gate_lst ?_); (first | ((with_reducible refine' wpl_ung ?_ ?_ ?_); rotate_left 1; (focus exact rfl); (focus exact rfl)) | ((with_reducible refine gate_box rfl ?_); (first | (refine ia_box (sl := 3) st rfl rfl rfl rfl rfl ?_; clear st; intro B3 _ st) | (refine ia_box (sl := 4) st rfl rfl rfl rfl rfl ?_; clear st; intro B4 _ st))) | ((with_reducible refine gate_load rfl ?_); (first | (refine ia_loadAll st rfl rfl rfl ?_ ?_; (focus (first | rfl | (simp; done) | (simp; assumption) | (simp; omega) | (simp [*]; done)))) | (refine ia_loadC (hb.keep st.keep (by simp)) rfl rfl rfl ?_ ?_; (focus (first | rfl | (simp; done) | (simp; assumption) | (simp; omega) | (simp [*]; done)))) | (refine ia_loadC (hb'.keep st.keep (by simp)) rfl rfl rfl ?_ ?_; (focus (first | rfl | (simp; done) | (simp; assumption) | (simp; omega) | (simp [*]; done)))) | (refine ia_loadC (Cl.of (hb1.keep st.keep (by simp))) rfl rfl rfl ?_ ?_; (focus (first | rfl | (simp; done) | (simp; assumption) | (simp; omega) | (simp [*]; done)))) | (refine ia_loadC (Cl.of (hb2.keep st.keep (by simp))) rfl rfl rfl ?_ ?_; (focus (first | rfl | (simp; done) | (simp; assumption) | (simp; omega) | (simp [*]; done)))))))) | ((with_reducible refine qgate_nil ?_); refine wpQuiet_nil ?_; (try intro _ st)) | ((with_reducible refine qgate_any ?_); (first | ((with_reducible refine qgate_call rfl ?_); refine' qa_call (F := 32) Try.func32 (by kernel_rfl) (by kernel_rfl) rfl rfl rfl rfl ?_ ?_ ?_; rotate_left 2; (focus (simp only [Act.eval, Act.put, List.map_toArray, List.map_cons, List.map_nil, Array.empty_append, Array.append_empty, Array.map_empty]; exact rfl)); (focus (intro w1 st; (first | exact qcall st (HT1.out _) | exact qcall st (HT2.out _))))) | ((first | (with_reducible refine qg_assign rfl ?_) | (with_reducible refine qg_extract rfl ?_) | (with_reducible refine qg_move rfl ?_)); refine qa_val (fun _ _ => rfl) rfl ?_) | ((with_reducible refine qgate_load rfl ?_); (first | (refine iq_loadAll rfl rfl rfl ?_ ?_; (focus (first | rfl | (simp; done) | (simp; assumption) | (simp; omega) | (simp [*]; done)))) | (refine iq_loadC hb rfl rfl rfl ?_ ?_; (focus (first | rfl | (simp; done) | (simp; assumption) | (simp; omega) | (simp [*]; done)))) | (refine iq_loadC hb' rfl rfl rfl ?_ ?_; (focus (first | rfl | (simp; done) | (simp; assumption) | (simp; omega) | (simp [*]; done))))))); all_goals (try (simp only [Nat.zero_add, Nat.add_zero, Nat.mul_one, Nat.zero_mul, Act.put, Act.eval, Array.getD_eq_getD_getElem?, List.getElem?_toArray, List.getElem?_cons_succ, List.getElem?_cons_zero, Option.getD_some, List.setIfInBounds_toArray, List.set_cons_succ, List.set_cons_zero, List.getElem_toArray, List.getElem_cons_succ, List.getElem_cons_zero]))) | ((with_reducible refine rgate (id := 1) ?_); refine wp_region_sched2_st (id := 1) st [0, 2, 4] [1, 3, 5, 6] [7, 8, 9, 10] [] _ (fun _ h => h) (by kernel_rfl) (by kernel_rfl) ?_; clear st; simp only [sel, List.filterMap_cons, List.filterMap_nil, List.getElem?_cons_succ, List.getElem?_cons_zero]) | (with_reducible refine loudK_go ?_) | (with_reducible refine loudK_nil ?_) | (with_reducible refine loud_go ?_) | ((with_reducible refine aftS_go ?_ ?_); (focus exact (by first | exact st.drop | exact st | exact st.drop.drop))) | (with_reducible refine loud_nil ?_) | ((with_reducible refine rgate (id := 2) ?_); refine wp_region_sched2_st (id := 2) st [0, 2, 4] [1, 3, 5, 6] [7, 8, 9, 10] [] _ (fun _ h => h) (by kernel_rfl) (by kernel_rfl) ?_; clear st; simp only [sel, List.filterMap_cons, List.filterMap_nil, List.getElem?_cons_succ, List.getElem?_cons_zero]) | ((with_reducible refine rgate (id := 13) ?_); refine wp_region_sched2_st (id := 13) st [0, 2, 4] [1, 3, 5, 6] [7, 8, 9, 10] [] _ (fun _ h => h) (by kernel_rfl) (by kernel_rfl) ?_; clear st; simp only [sel, List.filterMap_cons, List.filterMap_nil, List.getElem?_cons_succ, List.getElem?_cons_zero]))
  all_goals
    go_ret
    exact ⟨rfl, st.keep⟩
end Go.Proofs.Ytmndbmapepenjaa
