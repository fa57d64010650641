/- Books of frames between two ones: the reference and the program; no condition. -/
import Derived.Test.YtmndbmapepenjaaLMor
namespace Go.Proofs.Ytmndbmapepenjaa
open Go.RowKit
set_option linter.unusedSimpArgs false
set_option linter.unusedVariables false
theorem givesE {E : TypeId} {sz : Nat} {w0 w : World} {L : List (Nat × List Value × TypeId)} {g : Nat} (st : St [] w0 w L) (ha : At g [] E L) : Gives E sz 0 [] w0 (.slice (some ⟨g, 0, none⟩) 0 0) w :=
  ⟨g, 0, [], rfl, out_of st ha, st.get ha, by simp, Nat.zero_le _⟩
/-- The first k pages of n + 1. -/
def mbA (f g : Fm) (n k : Nat) : List Fm := (List.range k).map fun s => ⟨morR f.1 g.1 (s : Nat) (n : Nat), morR_ok f.2 _ _⟩
theorem mbA_succ (f g : Fm) (n k : Nat) : mbA f g n (k + 1) = mbA f g n k ++ [⟨morR f.1 g.1 (k : Nat) (n : Nat), morR_ok f.2 _ _⟩] := by
  unfold mbA; rw [List.range_succ, List.map_append]; rfl
theorem mbA_length (f g : Fm) (n k : Nat) : (mbA f g n k).length = k := by simp [mbA]
theorem mbA_enc (f g : Fm) (n k : Nat) : encs fv (mbA f g n (k + 1)) = encs fv (mbA f g n k) ++ frv (morR f.1 g.1 (k : Nat) (n : Nat)) := by
  rw [mbA_succ, encs_append]; simp [encs, fv]
def mbCode (f g : Fm) (n : Int) : Int := if codeG f.1 g.1 = 0 then (if inB n 1 39 = true then 0 else 2) else 1
def mbR (f g : Fm) (n : Int) : List Fm := if mbCode f g n = 0 then mbA f g n.toNat (n.toNat + 1) else []
theorem mbR_len (f g : Fm) (n : Int) : (mbR f g n).length ≤ 40 := by
  unfold mbR
  split
  · rename_i h
    rw [mbA_length]
    unfold mbCode at h
    split at h
    · split at h
      · rename_i _ h1
        have := inB_iff.1 h1
        omega
      · cases h
    · cases h
  · simp
set_option maxHeartbeats 2000000 in
set_option maxRecDepth 100000 in
theorem specMorphBook_c (f g : Fm) (n : Int) (w : World) :
    Calls Try.prog 35 #[.agg (frv f.1).toArray, .agg (frv g.1).toArray, .int .i64 n] w (BookCode (mbR f g n) (mbR f g n).length (mbCode f g n) False w) := by
  obtain ⟨f, okf⟩ := f
  obtain ⟨f2, okg⟩ := g
  have hf := okf.len
  have hg := okg.len
  have st := St.start w
  simp only
  rcases Bool.eq_false_or_eq_true (okB f) with h1 | h1
  rotate_left 1
  · have hc : mbCode ⟨f, okf⟩ ⟨f2, okg⟩ n = 1 := by unfold mbCode; rw [codeG_1 h1]; rfl
    rw [show mbR ⟨f, okf⟩ ⟨f2, okg⟩ n = [] by unfold mbR; rw [hc]; rfl, hc]
    have H1 := hid (fun b w' h => l01Ok_v h1 hf b 0 w' h)
    go_enter Try.func35, Try.ntmps35
    go_wp2_with (first | ((with_reducible refine gate_bsl rfl ?_); refine ia_bsl0 (sl := 16) st rfl rfl rfl ?_; clear st; intro B16 _ st) | (go_at_call 66; refine (H1.out _ _ (.of (st.get (by repeat (first | exact At.here | apply At.there))))).mono ?_; rintro _ _ ⟨rfl, hk⟩; replace st := st.call hk; clear hk) | ((with_reducible refine gate_lst ?_); (first | ((with_reducible refine' wpl_ung ?_ ?_ ?_); rotate_left 1; (focus exact rfl); (focus exact rfl)) | ((with_reducible refine gate_box rfl ?_); (first | (refine ia_box (sl := 3) st rfl rfl rfl rfl rfl ?_; clear st; intro B3 _ st) | (refine ia_box (sl := 4) st rfl rfl rfl rfl rfl ?_; clear st; intro B4 _ st))) | ((with_reducible refine gate_load rfl ?_); (first | (refine ia_loadAll st rfl rfl rfl ?_ ?_; (focus (first | rfl | (simp; done) | (simp; assumption) | (simp; omega) | (simp [*]; done)))) | (refine ia_loadC (hb.keep st.keep (by simp)) rfl rfl rfl ?_ ?_; (focus (first | rfl | (simp; done) | (simp; assumption) | (simp; omega) | (simp [*]; done)))) | (refine ia_loadC (hb'.keep st.keep (by simp)) rfl rfl rfl ?_ ?_; (focus (first | rfl | (simp; done) | (simp; assumption) | (simp; omega) | (simp [*]; done)))) | (refine ia_loadC (Cl.of (hb1.keep st.keep (by simp))) rfl rfl rfl ?_ ?_; (focus (first | rfl | (simp; done) | (simp; assumption) | (simp; omega) | (simp [*]; done)))) | (refine ia_loadC (Cl.of (hb2.keep st.keep (by simp))) rfl rfl rfl ?_ ?_; (focus (first | rfl | (simp; done) | (simp; assumption) | (simp; omega) | (simp [*]; done)))))))))
    go_ret2
    exact ⟨_, rfl, Or.inr (givesE st .here), st.keep⟩
  rcases Bool.eq_false_or_eq_true (okB f2) with h2 | h2
  rotate_left 1
  · have hc : mbCode ⟨f, okf⟩ ⟨f2, okg⟩ n = 1 := by unfold mbCode; rw [codeG_2 h2]; rfl
    rw [show mbR ⟨f, okf⟩ ⟨f2, okg⟩ n = [] by unfold mbR; rw [hc]; rfl, hc]
    have H1 := hid (fun b w' h => l01Ok_v h1 hf b 0 w' h)
    have H2 := hid (fun b w' h => l01Ok_v h2 hg b 0 w' h)
    go_enter Try.func35, Try.ntmps35
    go_wp2_with (first | ((with_reducible refine gate_bsl rfl ?_); refine ia_bsl0 (sl := 16) st rfl rfl rfl ?_; clear st; intro B16 _ st) | (go_at_call 66; (first | (with_reducible refine (H1.out _ _ (.of (st.get (by repeat (first | exact At.here | apply At.there))))).mono ?_) | (with_reducible refine (H2.out _ _ (.of (st.get (by repeat (first | exact At.here | apply At.there))))).mono ?_)); rintro _ _ ⟨rfl, hk⟩; replace st := st.call hk; clear hk) | ((with_reducible refine gate_lst ?_); (first | ((with_reducible refine' wpl_ung ?_ ?_ ?_); rotate_left 1; (focus exact rfl); (focus exact rfl)) | ((with_reducible refine gate_box rfl ?_); (first | (refine ia_box (sl := 3) st rfl rfl rfl rfl rfl ?_; clear st; intro B3 _ st) | (refine ia_box (sl := 4) st rfl rfl rfl rfl rfl ?_; clear st; intro B4 _ st))) | ((with_reducible refine gate_load rfl ?_); (first | (refine ia_loadAll st rfl rfl rfl ?_ ?_; (focus (first | rfl | (simp; done) | (simp; assumption) | (simp; omega) | (simp [*]; done)))) | (refine ia_loadC (hb.keep st.keep (by simp)) rfl rfl rfl ?_ ?_; (focus (first | rfl | (simp; done) | (simp; assumption) | (simp; omega) | (simp [*]; done)))) | (refine ia_loadC (hb'.keep st.keep (by simp)) rfl rfl rfl ?_ ?_; (focus (first | rfl | (simp; done) | (simp; assumption) | (simp; omega) | (simp [*]; done)))) | (refine ia_loadC (Cl.of (hb1.keep st.keep (by simp))) rfl rfl rfl ?_ ?_; (focus (first | rfl | (simp; done) | (simp; assumption) | (simp; omega) | (simp [*]; done)))) | (refine ia_loadC (Cl.of (hb2.keep st.keep (by simp))) rfl rfl rfl ?_ ?_; (focus (first | rfl | (simp; done) | (simp; assumption) | (simp; omega) | (simp [*]; done)))))))))
    go_ret2
    exact ⟨_, rfl, Or.inr (givesE st .here), st.keep⟩
  have H1 := hid (fun b w' h => l01Ok_v h1 hf b 0 w' h)
  have H2 := hid (fun b w' h => l01Ok_v h2 hg b 0 w' h)
  have hcg := codeG_0 h1 h2
  rcases Bool.eq_false_or_eq_true (inB n 1 39) with h3 | h3
  rotate_left 1
  · have hc : mbCode ⟨f, okf⟩ ⟨f2, okg⟩ n = 2 := by unfold mbCode; rw [hcg, h3]; rfl
    rw [show mbR ⟨f, okf⟩ ⟨f2, okg⟩ n = [] by unfold mbR; rw [hc]; rfl, hc]
    have H3 := hid (l00In_w h3)
    go_enter Try.func35, Try.ntmps35
    go_wp2_with (first | ((with_reducible refine gate_bsl rfl ?_); refine ia_bsl0 (sl := 20) st rfl rfl rfl ?_; clear st; intro B20 _ st) | (go_at_call 66; (first | (with_reducible refine (H1.out _ _ (.of (st.get (by repeat (first | exact At.here | apply At.there))))).mono ?_) | (with_reducible refine (H2.out _ _ (.of (st.get (by repeat (first | exact At.here | apply At.there))))).mono ?_)); rintro _ _ ⟨rfl, hk⟩; replace st := st.call hk; clear hk) | (go_at_call 62; (first | (with_reducible refine (H3.out _).mono ?_)); rintro _ _ ⟨rfl, hk⟩; replace st := st.call hk; clear hk) | ((with_reducible refine gate_lst ?_); (first | ((with_reducible refine' wpl_ung ?_ ?_ ?_); rotate_left 1; (focus exact rfl); (focus exact rfl)) | ((with_reducible refine gate_box rfl ?_); (first | (refine ia_box (sl := 3) st rfl rfl rfl rfl rfl ?_; clear st; intro B3 _ st) | (refine ia_box (sl := 4) st rfl rfl rfl rfl rfl ?_; clear st; intro B4 _ st))) | ((with_reducible refine gate_load rfl ?_); (first | (refine ia_loadAll st rfl rfl rfl ?_ ?_; (focus (first | rfl | (simp; done) | (simp; assumption) | (simp; omega) | (simp [*]; done)))) | (refine ia_loadC (hb.keep st.keep (by simp)) rfl rfl rfl ?_ ?_; (focus (first | rfl | (simp; done) | (simp; assumption) | (simp; omega) | (simp [*]; done)))) | (refine ia_loadC (hb'.keep st.keep (by simp)) rfl rfl rfl ?_ ?_; (focus (first | rfl | (simp; done) | (simp; assumption) | (simp; omega) | (simp [*]; done)))) | (refine ia_loadC (Cl.of (hb1.keep st.keep (by simp))) rfl rfl rfl ?_ ?_; (focus (first | rfl | (simp; done) | (simp; assumption) | (simp; omega) | (simp [*]; done)))) | (refine ia_loadC (Cl.of (hb2.keep st.keep (by simp))) rfl rfl rfl ?_ ?_; (focus (first | rfl | (simp; done) | (simp; assumption) | (simp; omega) | (simp [*]; done)))))))))
    go_ret2
    exact ⟨_, rfl, Or.inr (givesE st .here), st.keep⟩
  have hc : mbCode ⟨f, okf⟩ ⟨f2, okg⟩ n = 0 := by unfold mbCode; rw [hcg, h3]; rfl
  obtain ⟨q1, q2⟩ := inB_iff.1 h3
  obtain ⟨N, rfl⟩ : ∃ N : Nat, n = (N : Int) := ⟨n.toNat, by omega⟩
  rw [show mbR ⟨f, okf⟩ ⟨f2, okg⟩ (N : Int) = mbA ⟨f, okf⟩ ⟨f2, okg⟩ N (N + 1) by unfold mbR; rw [hc]; rfl, hc, mbA_length]
  have H3 := hid (l00In_w h3)
  have HM := hid (fun (k : Nat) (hk : k ≤ N) => l03Morph_c f f2 okf okg (k : Int) (N : Int) (by omega) (by omega) q1 (by omega))
  have HE := hid (mbA_enc ⟨f, okf⟩ ⟨f2, okg⟩ N)
  have HLN := hid (fun k => by rw [encs_fv_length, mbA_length] : ∀ k, (encs fv (mbA ⟨f, okf⟩ ⟨f2, okg⟩ N k)).length = k * 12)
  have HL12 := hid (fun k => (morR_ok (g := f2) okf (k : Int) (N : Int)).len : ∀ k : Nat, (morR f f2 k N).length = 12)
  simp only at HE
  obtain ⟨A, hA⟩ : ∃ A, mbA ⟨f, okf⟩ ⟨f2, okg⟩ N = A := ⟨_, rfl⟩
  have hA0 : encs fv (A 0) = [] := by rw [← hA]; rfl
  rw [hA] at HE HLN ⊢
  obtain ⟨F, hF⟩ : ∃ F : Nat → List Nat, (fun (k : Nat) => morR f f2 k N) = F := ⟨_, rfl⟩
  replace HM : Hid (∀ (k : Nat), k ≤ N → ∀ w, Calls Try.prog 67 #[.agg (frv f).toArray, .agg (frv f2).toArray, .int .i64 k, .int .i64 N] w fun e w' => e = .returned (.agg (frv (F k)).toArray) ∧ Keep [] w w') := by rw [← hF]; exact HM
  replace HE : Hid (∀ k, encs fv (A (k + 1)) = encs fv (A k) ++ frv (F k)) := by rw [← hF]; exact HE
  replace HL12 : Hid (∀ k, (F k).length = 12) := by rw [← hF]; exact HL12
  clear hc h3 hcg hA hF
  go_enter Try.func35, Try.ntmps35
  go_wp2_with (first | ((with_reducible refine gate_bsl rfl ?_); refine ia_bsl0 (sl := 21) st rfl rfl rfl ?_; clear st; intro B21 _ st) | (go_at_call 66; (first | (with_reducible refine (H1.out _ _ (.of (st.get (by repeat (first | exact At.here | apply At.there))))).mono ?_) | (with_reducible refine (H2.out _ _ (.of (st.get (by repeat (first | exact At.here | apply At.there))))).mono ?_)); rintro _ _ ⟨rfl, hk⟩; replace st := st.call hk; clear hk) | (go_at_call 62; (first | (with_reducible refine (H3.out _).mono ?_)); rintro _ _ ⟨rfl, hk⟩; replace st := st.call hk; clear hk) | ((with_reducible refine gate_lst ?_); (first | ((with_reducible refine' wpl_ung ?_ ?_ ?_); rotate_left 1; (focus exact rfl); (focus exact rfl)) | ((with_reducible refine gate_box rfl ?_); (first | (refine ia_box (sl := 3) st rfl rfl rfl rfl rfl ?_; clear st; intro B3 _ st) | (refine ia_box (sl := 4) st rfl rfl rfl rfl rfl ?_; clear st; intro B4 _ st))) | ((with_reducible refine gate_load rfl ?_); (first | (refine ia_loadAll st rfl rfl rfl ?_ ?_; (focus (first | rfl | (simp; done) | (simp; assumption) | (simp; omega) | (simp [*]; done)))) | (refine ia_loadC (hb.keep st.keep (by simp)) rfl rfl rfl ?_ ?_; (focus (first | rfl | (simp; done) | (simp; assumption) | (simp; omega) | (simp [*]; done)))) | (refine ia_loadC (hb'.keep st.keep (by simp)) rfl rfl rfl ?_ ?_; (focus (first | rfl | (simp; done) | (simp; assumption) | (simp; omega) | (simp [*]; done)))) | (refine ia_loadC (Cl.of (hb1.keep st.keep (by simp))) rfl rfl rfl ?_ ?_; (focus (first | rfl | (simp; done) | (simp; assumption) | (simp; omega) | (simp [*]; done)))) | (refine ia_loadC (Cl.of (hb2.keep st.keep (by simp))) rfl rfl rfl ?_ ?_; (focus (first | rfl | (simp; done) | (simp; assumption) | (simp; omega) | (simp [*]; done)))))))))
  go_loopw [8, 9] (fun v i wr => ∃ (k g cap : Nat) (spare : List Value), k ≤ N + 1 ∧ i = .int .i64 k ∧ v = .slice (some ⟨g, 0, none⟩) k cap ∧ St [] w wr [(g, encs fv (A k) ++ spare, 44), (B4, frv f2, 44), (B3, frv f, 44)] ∧ (encs fv (A k) ++ spare).length = cap * 12 ∧ cap ≤ maxLen) (fun _ i _ => N + 1 - (intOf i).toNat)
  case atStart => exact ⟨0, B21, 0, [], by omega, rfl, rfl, by rw [hA0]; exact st, by rw [hA0]; rfl, Nat.zero_le _⟩
  case round =>
    clear st
    obtain ⟨k, g, cap, spare, hk, rfl, rfl, st, hcap, hcm⟩ := hrel
    have HC := hid hcap
    clear hcap
    by_cases hlt : k ≤ N
    · have hd : decide ((k : Int) ≤ (N : Int)) = true := by simpa using hlt
      have HK := hid (HM.out k hlt)
      have hfl := HL12.out k
      have HEk := hid (HE.out k)
      have HFL := hid hfl
      clear hfl
      go_wp2_with (first | (go_at_call 67; refine (HK.out _).mono ?_; rintro _ _ ⟨rfl, hk⟩; replace st := st.call hk; clear hk) | ((with_reducible refine gate_bsl rfl ?_); refine ia_bsl1 (sl := 33) st rfl rfl rfl rfl rfl ?_ (by decide) ?_; (focus (first | rfl | (simp; done) | (simp; assumption) | (simp; omega) | (simp [*]; done))); clear st; intro B33 _ st) | ((with_reducible refine gate_app rfl ?_); refine ia_appendR (news := (frv (F k))) (xs := (encs fv (A k))) (spare := spare) st rfl rfl rfl rfl (by rw [HLN.out]) HC.out hcm (.fr (st.get (by repeat (first | exact At.here | apply At.there)))) (fun h => by cases h) (by rw [frv_length]; exact HFL.out) (frv_one _) (by unfold maxLen; omega) (by omega) ?_; clear st; intro g2 cap2 spare2 _ st hcap2 hcm2; (try simp only [List.set_cons_zero, List.set_cons_succ] at st)) | ((with_reducible refine gate_lst ?_); (first | ((with_reducible refine' wpl_ung ?_ ?_ ?_); rotate_left 1; (focus exact rfl); (focus exact rfl)) | ((with_reducible refine gate_box rfl ?_); (first | (refine ia_box (sl := 3) st rfl rfl rfl rfl rfl ?_; clear st; intro B3 _ st) | (refine ia_box (sl := 4) st rfl rfl rfl rfl rfl ?_; clear st; intro B4 _ st))) | ((with_reducible refine gate_load rfl ?_); (first | (refine ia_loadAll st rfl rfl rfl ?_ ?_; (focus (first | rfl | (simp; done) | (simp; assumption) | (simp; omega) | (simp [*]; done)))) | (refine ia_loadC (hb.keep st.keep (by simp)) rfl rfl rfl ?_ ?_; (focus (first | rfl | (simp; done) | (simp; assumption) | (simp; omega) | (simp [*]; done)))) | (refine ia_loadC (hb'.keep st.keep (by simp)) rfl rfl rfl ?_ ?_; (focus (first | rfl | (simp; done) | (simp; assumption) | (simp; omega) | (simp [*]; done)))) | (refine ia_loadC (Cl.of (hb1.keep st.keep (by simp))) rfl rfl rfl ?_ ?_; (focus (first | rfl | (simp; done) | (simp; assumption) | (simp; omega) | (simp [*]; done)))) | (refine ia_loadC (Cl.of (hb2.keep st.keep (by simp))) rfl rfl rfl ?_ ?_; (focus (first | rfl | (simp; done) | (simp; assumption) | (simp; omega) | (simp [*]; done)))))))))
      go_roundw
      case rel => exact ⟨k + 1, g2, cap2, spare2, by omega, by go_num, rfl, by rw [HEk.out]; exact st.drop, by rw [HEk.out]; exact hcap2, hcm2⟩
      case measure => first | (simp [intOf]; done) | (simp [intOf]; omega)
    · obtain rfl : k = N + 1 := by omega
      have hd : decide (((N + 1 : Nat) : Int) ≤ (N : Int)) = false := by simp; omega
      go_wp2_with (first | ((with_reducible refine gate_lst ?_); (first | ((with_reducible refine' wpl_ung ?_ ?_ ?_); rotate_left 1; (focus exact rfl); (focus exact rfl)) | ((with_reducible refine gate_box rfl ?_); (first | (refine ia_box (sl := 3) st rfl rfl rfl rfl rfl ?_; clear st; intro B3 _ st) | (refine ia_box (sl := 4) st rfl rfl rfl rfl rfl ?_; clear st; intro B4 _ st))) | ((with_reducible refine gate_load rfl ?_); (first | (refine ia_loadAll st rfl rfl rfl ?_ ?_; (focus (first | rfl | (simp; done) | (simp; assumption) | (simp; omega) | (simp [*]; done)))) | (refine ia_loadC (hb.keep st.keep (by simp)) rfl rfl rfl ?_ ?_; (focus (first | rfl | (simp; done) | (simp; assumption) | (simp; omega) | (simp [*]; done)))) | (refine ia_loadC (hb'.keep st.keep (by simp)) rfl rfl rfl ?_ ?_; (focus (first | rfl | (simp; done) | (simp; assumption) | (simp; omega) | (simp [*]; done)))) | (refine ia_loadC (Cl.of (hb1.keep st.keep (by simp))) rfl rfl rfl ?_ ?_; (focus (first | rfl | (simp; done) | (simp; assumption) | (simp; omega) | (simp [*]; done)))) | (refine ia_loadC (Cl.of (hb2.keep st.keep (by simp))) rfl rfl rfl ?_ ?_; (focus (first | rfl | (simp; done) | (simp; assumption) | (simp; omega) | (simp [*]; done)))))))))
      go_ret2
      exact ⟨_, rfl, Or.inr ⟨g, cap, spare, rfl, out_of st .here, st.get .here, HC.out, hcm⟩, st.keep⟩
end Go.Proofs.Ytmndbmapepenjaa
