/- The laws on single frames that need no more than their tests: what each answers; no condition. -/
import Derived.Test.YtdiphapcjafbaaaB1
namespace Go.Proofs.Ytdiphapcjafbaaa
open Go.RowKit
set_option linter.unusedSimpArgs false
set_option linter.unusedVariables false

theorem law_ValidFrame (f : List Nat) (ok : FrOk f) (w : World) :
    Calls Try.prog 3 #[.agg (frv f).toArray] w fun e w' => e = .returned (.bool true) ∧ Keep [] w w' := by
  have hf := ok.len
  have st := St.start w
  go_enter Try.func3, Try.ntmps3
  go_wp2_with (first | ((with_reducible refine gate_box rfl ?_); refine wpl_box rfl _ _ rfl _ rfl _ rfl st ?_; clear st; intro _ _ st) | ((with_reducible refine gate_load rfl ?_); refine wpl_loadAll rfl _ _ rfl _ rfl tRaw.toAggT _ _ (st.get (by repeat (first | exact At.here | apply At.there))) (by simp [frv_length, *]) ?_) | (go_at_call 24; refine (toFrame_c f hf _).mono ?_; rintro _ _ ⟨rfl, hk⟩; replace st := st.call hk; clear hk) | (go_at_call 23; refine (specValidFrame_c f hf _).mono ?_; rintro _ _ ⟨rfl, hk⟩; replace st := st.call hk; clear hk) | (go_at_call 25; refine (ValidFrame_c f hf _).mono ?_; rintro _ _ ⟨rfl, hk⟩; replace st := st.call hk; clear hk))
  go_ret
  exact ⟨rfl, st.keep⟩
end Go.Proofs.Ytdiphapcjafbaaa
