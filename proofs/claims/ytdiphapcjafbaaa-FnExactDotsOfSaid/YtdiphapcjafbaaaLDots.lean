/- The law DotsOf: what it answers; no condition. -/
import Derived.Test.YtdiphapcjafbaaaDots
namespace Go.Proofs.Ytdiphapcjafbaaa
open Go.RowKit
set_option linter.unusedSimpArgs false
set_option linter.unusedVariables false
set_option maxRecDepth 100000 in
theorem law_DotsOf (f : List Nat) (ok : FrOk f) (w : World) :
    Calls Try.prog 18 #[.agg (frv f).toArray] w fun e w' => e = .returned (.bool true) ∧ Keep [] w w' := by
  have hf := ok.len
  have hdl := dots_length f
  have st := St.start w
  rcases Bool.eq_false_or_eq_true (okB f) with h | h
  · have hd : decide ((101 : Int) + 2 * ((dots f).length : Int) < 0) = false := by simp; omega
    go_enter Try.func18, Try.ntmps18
    go_wp2_with (first | ((with_reducible refine gate_box rfl ?_); refine wpl_box rfl _ _ rfl _ rfl _ rfl st ?_; clear st; intro _ _ st) | ((with_reducible refine gate_load rfl ?_); refine wpl_loadAll rfl _ _ rfl _ rfl tRaw.toAggT _ _ (st.get (by repeat (first | exact At.here | apply At.there))) (by rw [frv_length, hf]) ?_) | (go_at_call 24; refine (toFrame_c f hf _).mono ?_; rintro _ _ ⟨rfl, hk⟩; replace st := st.call hk; clear hk) | (go_at_call 58; refine (specDotsOf_c f ok h _).mono ?_; rintro _ _ ⟨v, rfl, ⟨g, cap, spare, rfl, hg, hbg, hcap, hcm⟩, hk⟩; replace st := st.adopt hk hg hbg; clear hk hg hbg hcap hcm) | (go_at_call 59; refine (DotsOf_c f ok h _).mono ?_; rintro _ _ ⟨v, rfl, ⟨g, cap, spare, rfl, hg, hbg, hcap, hcm⟩, hk⟩; replace st := st.adopt hk hg hbg; clear hk hg hbg hcap hcm))
    refine (eqDotS_c (dots f) hdl _ _ _ _ _ _ _ _ _ (st.get .here) (st.get (.there .here))).mono ?_
    rintro _ _ ⟨rfl, hk⟩
    replace st := st.call hk
    clear hk
    go_wp2_with (first | (refine wpl_unguard rfl ?_) | (go_at_call 61; refine (markDotS_c (dots f).length _ (by omega) _ (dtv (dots f) ++ spare) (by rw [List.length_append, dtv_length]; omega) _ _ (st.get .here)).mono ?_; rintro _ _ ⟨rfl, hk, hb1⟩; replace st := st.wrote (by repeat (first | exact Upd.here | apply Upd.there)) hk hb1; clear hk hb1) | (go_at_call 62; refine (heldDotS_c (dots f).length _ (by omega) _ (dtv (dots f) ++ spare) _ _ (st.get .here)).mono ?_; rintro _ _ ⟨rfl, hk⟩; replace st := st.call hk; clear hk) | ((with_reducible refine gate_load rfl ?_); refine wpl_loadAll rfl _ _ rfl _ rfl tRaw.toAggT _ _ (st.get (by repeat (first | exact At.here | apply At.there))) (by rw [frv_length, hf]) ?_) | (go_at_call 24; refine (toFrame_c f hf _).mono ?_; rintro _ _ ⟨rfl, hk⟩; replace st := st.call hk; clear hk) | (go_at_call 59; refine (DotsOf_c f ok h _).mono ?_; rintro _ _ ⟨v, rfl, ⟨g3, cap3, spare3, rfl, hg, hbg, hcap, hcm⟩, hk⟩; replace st := st.adopt hk hg hbg; clear hk hg hbg hcap hcm))
    refine (eqDotS_c (dots f) hdl _ _ _ _ _ _ _ _ _ (st.get .here) (st.get (.there (.there .here)))).mono ?_
    rintro _ _ ⟨rfl, hk⟩
    replace st := st.call hk
    clear hk
    go_wp2_with (first | (refine wpl_unguard rfl ?_) | (go_at_call 62; refine (heldDotS_c (dots f).length _ (by omega) _ (dtv (dots f) ++ spare) _ _ (st.get (.there .here))).mono ?_; rintro _ _ ⟨rfl, hk⟩; replace st := st.call hk; clear hk))
    go_ret
    exact ⟨rfl, st.keep⟩
  · go_enter Try.func18, Try.ntmps18
    go_wp2_with (first | (refine wpl_unguard rfl ?_) | ((with_reducible refine gate_box rfl ?_); refine wpl_box rfl _ _ rfl _ rfl _ rfl st ?_; clear st; intro _ _ st) | ((with_reducible refine gate_load rfl ?_); refine wpl_loadAll rfl _ _ rfl _ rfl tRaw.toAggT _ _ (st.get (by repeat (first | exact At.here | apply At.there))) (by rw [frv_length, hf]) ?_) | (go_at_call 24; refine (toFrame_c f hf _).mono ?_; rintro _ _ ⟨rfl, hk⟩; replace st := st.call hk; clear hk) | (go_at_call 58; refine (specDotsOf_0 f ok h _).mono ?_; rintro _ _ ⟨B2, rfl, hk⟩; replace st := st.call hk; clear hk) | (go_at_call 59; refine (DotsOf_0 f ok h _).mono ?_; rintro _ _ ⟨rfl, hk⟩; replace st := st.call hk; clear hk) | (go_at_call 60; refine (eqDotS_0 _ _ _ _ _).mono ?_; rintro _ _ ⟨rfl, hk⟩; replace st := st.call hk; clear hk) | (go_at_call 61; refine (markDotS_0 _ _ _).mono ?_; rintro _ _ ⟨rfl, hk⟩; replace st := st.call hk; clear hk) | (go_at_call 62; refine (heldDotS_0 _ _ _).mono ?_; rintro _ _ ⟨rfl, hk⟩; replace st := st.call hk; clear hk))
    go_ret
    exact ⟨rfl, st.keep⟩
end Go.Proofs.Ytdiphapcjafbaaa
