/- FnEases: for every input the program's answer is the reference's; no condition. -/
import Derived.Test.YtmndbmapepenjaaRows
import Derived.Test.YtmndbmapepenjaaLEas
import Derived.Test.YtmndbmapepenjaaOpen
import Derived.Test.YtmndbmapepenjaaOpenV
import Derived.Test.YtmndbmapepenjaaOpenB
import Derived.Test.YtmndbmapepenjaaSeat
import Derived.WalkKit
import Derived.ProofKit
import Derived.OpenShut
import Derived.ShutString
import Derived.ChangeOld
import Derived.Below
import Derived.Carry
import Derived.SizedLaws
namespace Go.Proofs.Ytmndbmapepenjaa.fnEases
open Go.ChangeShapes Go.WideShapes Go.ChangeAt Go.RowKit
open Go.ChangeMaps (open_string shut_string)
set_option linter.unusedVariables false
set_option linter.unusedSimpArgs false
theorem own : ownKnob Try.prog.godebug = none := by kernel_rfl
theorem cells8u : Try.prog.cellsOf 5 = 1 := by kernel_rfl
set_option maxRecDepth 100000 in
theorem lifted (os : Os) (started : os.Started) (H : Type) (enc : TypeId × Value → H) :
    ReturnsInHanded {} Try.checked os 7 .any (Rows.fnEasesSpec.pre6 enc Try.prog Try.f7 Rows.fnEasesRow.domain false) (Rows.fnEasesSpec.post enc Try.prog Try.f7 false true false false) := by
  refine returnsInHanded_of_change_sized (C := Try.checked) own started (by kernel_rfl) Try.func7
    (ChangeSpec.witness6 (enc := enc) (C := Try.checked) false ⟨#[], #[.slice none 0 0, .slice none 0 0], []⟩ 8 (by kernel_rfl) (by kernel_rfl) (by kernel_rfl) (by kernel_rfl)) ?_
  intro W base args ds gs before hval0 hW hcnd hsz0 _
  have hsz : (DataW.weightsEach Try.prog (Try.f7.params.toList ++ Rows.fnEasesSpec.plain.varTypes Try.prog) (ds ++ gs)).all (· ≤ reachBytes) = true := hsz0
  have hval : ∀ (j : Nat) t v, Try.f7.params[j]? = some t → args[j]? = some v → Value.okWide Try.prog W .any base t v := hval0
  have hW' := hW
  obtain ⟨p, q, hA0, hV, rfl, hfz, hnd⟩ := hW
  have hA : DataW.TrodAll enc Try.prog W 0 (fun _ => true) true Try.f7.params.toList args.toList ds p := hA0
  rw [Try.params7] at hA hval hsz
  obtain ⟨v0, vs0, d0, ds0, p0, q0, hargs, rfl, rfl, h0, r0⟩ := trodAll_cons hA
  obtain ⟨v1, vs1, d1, ds1, p1, q1, rfl, rfl, rfl, h1, r1⟩ := trodAll_cons r0
  obtain ⟨rfl, rfl, rfl⟩ := trodAll_nil r1
  obtain rfl : args = #[v0, v1] := by cases args; simp_all
  obtain ⟨rfl, rfl⟩ := trodVars_none hV
  have lt0 : ∀ x ∈ p0, x.block < W.heap.size := fun x hx => hW'.lt x (by simp [hx])
  have lt1 : ∀ x ∈ p1, x.block < W.heap.size := fun x hx => hW'.lt x (by simp [hx])
  have k0 := h0
  have k1 := h1
  obtain ⟨B0, s0, n0, c0, hB0, rfl, hn0, hr0, hq0⟩ := open_bytes Try.underlying36 Try.underlying5 cells8u (hval 0 36 v0 rfl rfl) h0
  obtain ⟨B1, s1, n1, c1, hB1, rfl, hn1, hr1, hq1⟩ := open_bytes Try.underlying36 Try.underlying5 cells8u (hval 1 36 v1 rfl rfl) h1
  clear hA0 hval0 hsz0 hsz
  refine (law_FnEases W B0 n0 hB0 hn0 s0 c0 hr0 hq0 B1 n1 hB1 hn1 s1 c1 hr1 hq1).mono fun e W' ⟨he, hkp⟩ => ?_
  subst he
  have bel := hkp.below
  exact ⟨_, rfl, _, _, _, [], _, [], hW', trodAll_mk1 (shut_bool Try.underlying4 _), (trodAll_cons_mk (Below.trod laidOut (by kernel_rfl) (of_decide_eq_true (by kernel_rfl)) k0 bel lt0) (trodAll_cons_mk (Below.trod laidOut (by kernel_rfl) (of_decide_eq_true (by kernel_rfl)) k1 bel lt1) (trodAll_mk0))), rfl, bel.frame _, fun h => by cases h⟩
set_option maxRecDepth 100000 in
theorem closed : joinedFacts Try.checked.prog 7 Try.f7 Rows.fnEasesSpec Rows.fnEasesRow = true := by
  unfold joinedFacts
  repeat' (with_reducible refine and_t ?_ ?_)
  iterate 1 (focus (as_aux_lemma => kernel_rfl))
  focus exact laidOut
  focus exact mapsRowed_
  iterate 19 (focus (as_aux_lemma => kernel_rfl))
  iterate 3 (focus (as_aux_lemma => kernel_rfl))
  focus exact mayEnter_
  focus exact beq_t (show Rows.fnEasesRow.lifted = Try.prog.liftsFinal from liftsFinal_.symm)
  focus (show (Try.prog.make == some Rows.fnEasesRow.make) = true; rw [make_]; as_aux_lemma => kernel_rfl)
  all_goals as_aux_lemma => kernel_rfl
theorem over : Rows.fnEasesRow.holds Try.pinned (OpenSpec.ofChange Rows.fnEasesSpec) :=
  OpenClaim.holds_of_wide 7 Try.f7 rfl rfl rfl rfl rfl rfl rfl ⟨rfl, rfl, rfl, rfl, rfl⟩ rfl rfl rfl rfl rfl (by kernel_rfl) Try.func7 closed
    (of_decide_eq_true (by kernel_rfl)) (by unfold Func.isWrapper; first | (rw [if_pos (by decide +kernel)]; kernel_rfl) | (rw [if_neg (by decide +kernel)]; exact ⟨rfl, rfl⟩))
    (fun os started H enc _ => lifted os started H enc)
theorem proved : Rows.FnEasesSaid := over
#print axioms proved
end Go.Proofs.Ytmndbmapepenjaa.fnEases
namespace Go.Proofs.Ytmndbmapepenjaa
/-- The row, under a short name, for the claim. -/
theorem fnEases_holds : Rows.FnEasesSaid := fnEases.proved
end Go.Proofs.Ytmndbmapepenjaa
