/- FnExactBackTrack: for every input the program's answer is the reference's; no condition. -/
import Derived.Test.YtmndbmapepenjaaRows
import Derived.Test.YtmndbmapepenjaaLBtk
import Derived.Test.YtmndbmapepenjaaOpen
import Derived.Test.YtmndbmapepenjaaOpenV
import Derived.Test.YtmndbmapepenjaaOpenP
import Derived.Test.YtmndbmapepenjaaSeat
import Derived.WalkKit
import Derived.ProofKit
import Derived.OpenShut
import Derived.ShutString
import Derived.ChangeOld
import Derived.Below
import Derived.Carry
import Derived.SizedLaws
namespace Go.Proofs.Ytmndbmapepenjaa.fnExactBackTrack
open Go.ChangeShapes Go.WideShapes Go.ChangeAt Go.RowKit
open Go.ChangeMaps (open_string shut_string)
set_option linter.unusedVariables false
set_option linter.unusedSimpArgs false
theorem own : ownKnob Try.prog.godebug = none := by kernel_rfl
theorem cells8 : Try.prog.cellsOf 57 = 1 := by kernel_rfl
theorem cells16 : Try.prog.cellsOf 67 = 1 := by kernel_rfl
theorem cellsK : Try.prog.cellsOf 72 = 3 := by kernel_rfl
set_option maxRecDepth 100000 in
theorem lifted (os : Os) (started : os.Started) (H : Type) (enc : TypeId × Value → H) :
    ReturnsInHanded {} Try.checked os 6 .any (Rows.fnExactBackTrackSpec.pre6 enc Try.prog Try.f6 Rows.fnExactBackTrackRow.domain false) (Rows.fnExactBackTrackSpec.post enc Try.prog Try.f6 false true false false) := by
  refine returnsInHanded_of_change_sized (C := Try.checked) own started (by kernel_rfl) Try.func6
    (ChangeSpec.witness6 (enc := enc) (C := Try.checked) false ⟨#[], #[.slice none 0 0], []⟩ 8 (by kernel_rfl) (by kernel_rfl) (by kernel_rfl) (by kernel_rfl)) ?_
  intro W base args ds gs before hval0 hW hcnd hsz0 _
  have hsz : (DataW.weightsEach Try.prog (Try.f6.params.toList ++ Rows.fnExactBackTrackSpec.plain.varTypes Try.prog) (ds ++ gs)).all (· ≤ reachBytes) = true := hsz0
  have hval : ∀ (j : Nat) t v, Try.f6.params[j]? = some t → args[j]? = some v → Value.okWide Try.prog W .any base t v := hval0
  have hW' := hW
  obtain ⟨p, q, hA0, hV, rfl, hfz, hnd⟩ := hW
  have hA : DataW.TrodAll enc Try.prog W 0 (fun _ => true) true Try.f6.params.toList args.toList ds p := hA0
  rw [Try.params6] at hA hval hsz
  obtain ⟨v0, vs0, d0, ds0, p0, q0, hargs, rfl, rfl, h0, r0⟩ := trodAll_cons hA
  obtain ⟨rfl, rfl, rfl⟩ := trodAll_nil r0
  obtain rfl : args = #[v0] := by cases args; simp_all
  obtain ⟨rfl, rfl⟩ := trodVars_none hV
  have lt0 : ∀ x ∈ p0, x.block < W.heap.size := fun x hx => hW'.lt x (by simp [hx])
  have k0 := h0
  obtain ⟨B0, s0, n0, c0, hB0, rfl, hn0, hr0, hq0⟩ := open_keys Try.underlying22 Try.underlying72 ⟨rfl, rfl, rfl⟩ rfl ⟨rfl, rfl⟩ Try.underlying67 Try.underlying57 cells16 cells8 cellsK (hval 0 22 v0 rfl rfl) h0
  clear hA0 hval0 hsz0 hsz
  refine (law_BackTrack W B0 n0 hB0 hn0 s0 c0 hr0 hq0).mono fun e W' ⟨he, hkp⟩ => ?_
  subst he
  have bel := hkp.below
  exact ⟨_, rfl, _, _, _, [], _, [], hW', trodAll_mk1 (shut_bool Try.underlying4 _), (trodAll_cons_mk (Below.trod laidOut (by kernel_rfl) (of_decide_eq_true (by kernel_rfl)) k0 bel lt0) (trodAll_mk0)), rfl, bel.frame _, fun h => by cases h⟩
set_option maxRecDepth 100000 in
theorem closed : joinedFacts Try.checked.prog 6 Try.f6 Rows.fnExactBackTrackSpec Rows.fnExactBackTrackRow = true := by
  unfold joinedFacts
  repeat' (with_reducible refine and_t ?_ ?_)
  iterate 1 (focus (as_aux_lemma => kernel_rfl))
  focus exact laidOut
  focus exact mapsRowed_
  iterate 19 (focus (as_aux_lemma => kernel_rfl))
  iterate 3 (focus (as_aux_lemma => kernel_rfl))
  focus exact mayEnter_
  focus exact beq_t (show Rows.fnExactBackTrackRow.lifted = Try.prog.liftsFinal from liftsFinal_.symm)
  focus (show (Try.prog.make == some Rows.fnExactBackTrackRow.make) = true; rw [make_]; as_aux_lemma => kernel_rfl)
  all_goals as_aux_lemma => kernel_rfl
theorem over : Rows.fnExactBackTrackRow.holds Try.pinned (OpenSpec.ofChange Rows.fnExactBackTrackSpec) :=
  OpenClaim.holds_of_wide 6 Try.f6 rfl rfl rfl rfl rfl rfl rfl ⟨rfl, rfl, rfl, rfl, rfl⟩ rfl rfl rfl rfl rfl (by kernel_rfl) Try.func6 closed
    (of_decide_eq_true (by kernel_rfl)) (by unfold Func.isWrapper; first | (rw [if_pos (by decide +kernel)]; kernel_rfl) | (rw [if_neg (by decide +kernel)]; exact ⟨rfl, rfl⟩))
    (fun os started H enc _ => lifted os started H enc)
theorem proved : Rows.FnExactBackTrackSaid := over
#print axioms proved
end Go.Proofs.Ytmndbmapepenjaa.fnExactBackTrack
namespace Go.Proofs.Ytmndbmapepenjaa
/-- The row, under a short name, for the claim. -/
theorem fnExactBackTrack_holds : Rows.FnExactBackTrackSaid := fnExactBackTrack.proved
end Go.Proofs.Ytmndbmapepenjaa
