/- FnExactValidPart: for every input the program's answer is the reference's; no condition. -/
import Derived.Test.YtmndbmapepenjaaRows
import Derived.Test.YtmndbmapepenjaaLPart
import Derived.Test.YtmndbmapepenjaaOpen
import Derived.Test.YtmndbmapepenjaaOpenV
import Derived.Test.YtmndbmapepenjaaOpenPt
import Derived.Test.YtmndbmapepenjaaSeat
import Derived.WalkKit
import Derived.ProofKit
import Derived.OpenShut
import Derived.ShutString
import Derived.ChangeOld
import Derived.Below
import Derived.Carry
import Derived.SizedLaws
namespace Go.Proofs.Ytmndbmapepenjaa.fnExactValidPart
open Go.ChangeShapes Go.WideShapes Go.ChangeAt Go.RowKit
open Go.ChangeMaps (open_string shut_string)
set_option linter.unusedVariables false
set_option linter.unusedSimpArgs false
theorem own : ownKnob Try.prog.godebug = none := by kernel_rfl
theorem cellsE : Try.prog.cellsOf 42 = 1 := by kernel_rfl
theorem cellsF : Try.prog.cellsOf 43 = 12 := by kernel_rfl
theorem cells8 : Try.prog.cellsOf 57 = 1 := by kernel_rfl
theorem cellsP : Try.prog.cellsOf 59 = 14 := by kernel_rfl
theorem cellsS : Try.prog.cellsOf 22 = 1 := by kernel_rfl
theorem cells16 : Try.prog.cellsOf 67 = 1 := by kernel_rfl
theorem cellsK : Try.prog.cellsOf 72 = 3 := by kernel_rfl
set_option maxRecDepth 100000 in
theorem lifted (os : Os) (started : os.Started) (H : Type) (enc : TypeId × Value → H) :
    ReturnsInHanded {} Try.checked os 10 .any (Rows.fnExactValidPartSpec.pre6 enc Try.prog Try.f10 Rows.fnExactValidPartRow.domain false) (Rows.fnExactValidPartSpec.post enc Try.prog Try.f10 false true false false) := by
  refine returnsInHanded_of_change_sized (C := Try.checked) own started (by kernel_rfl) Try.func10
    (ChangeSpec.witness6 (enc := enc) (C := Try.checked) false ⟨#[], #[.agg #[.int .u16 0, .int .u16 0, .int .u16 0, .int .u16 0, .int .u16 0, .int .u16 0, .int .u16 0, .int .u16 0, .int .u16 0, .int .u16 0, .int .u16 0, .int .u16 0, .int .i8 0, .slice none 0 0]], []⟩ 8 (by kernel_rfl) (by kernel_rfl) (by kernel_rfl) (by kernel_rfl)) ?_
  intro W base args ds gs before hval0 hW hcnd hsz0 _
  have hsz : (DataW.weightsEach Try.prog (Try.f10.params.toList ++ Rows.fnExactValidPartSpec.plain.varTypes Try.prog) (ds ++ gs)).all (· ≤ reachBytes) = true := hsz0
  have hval : ∀ (j : Nat) t v, Try.f10.params[j]? = some t → args[j]? = some v → Value.okWide Try.prog W .any base t v := hval0
  have hW' := hW
  obtain ⟨p, q, hA0, hV, rfl, hfz, hnd⟩ := hW
  have hA : DataW.TrodAll enc Try.prog W 0 (fun _ => true) true Try.f10.params.toList args.toList ds p := hA0
  rw [Try.params10] at hA hval hsz
  obtain ⟨v0, vs0, d0, ds0, p0, q0, hargs, rfl, rfl, h0, r0⟩ := trodAll_cons hA
  obtain ⟨rfl, rfl, rfl⟩ := trodAll_nil r0
  obtain rfl : args = #[v0] := by cases args; simp_all
  obtain ⟨rfl, rfl⟩ := trodVars_none hV
  have lt0 : ∀ x ∈ p0, x.block < W.heap.size := fun x hx => hW'.lt x (by simp [hx])
  have k0 := h0
  obtain ⟨f0, x0, B0, s0, n0, c0, ok0, wf0, hB0, rfl, hn0, hr0, hq0⟩ := open_part Try.underlying59 ⟨rfl, rfl, rfl⟩ ⟨rfl, rfl, rfl⟩ Try.underlying43 Try.underlying42 cellsE cellsF cellsS Try.underlying22 Try.underlying72 ⟨rfl, rfl, rfl⟩ rfl ⟨rfl, rfl⟩ Try.underlying67 Try.underlying57 cells16 cells8 cellsK cellsP (hval 0 59 v0 rfl rfl) h0
  clear hA0 hval0 hsz0 hsz
  refine (law_ValidPart W f0 ok0 x0 wf0 B0 n0 hB0 hn0 s0 c0 hr0 hq0).mono fun e W' ⟨he, hkp⟩ => ?_
  subst he
  have bel := hkp.below
  exact ⟨_, rfl, _, _, _, [], _, [], hW', trodAll_mk1 (shut_bool Try.underlying4 _), (trodAll_cons_mk (Below.trod laidOut (by kernel_rfl) (of_decide_eq_true (by kernel_rfl)) k0 bel lt0) (trodAll_mk0)), rfl, bel.frame _, fun h => by cases h⟩
set_option maxRecDepth 100000 in
theorem closed : joinedFacts Try.checked.prog 10 Try.f10 Rows.fnExactValidPartSpec Rows.fnExactValidPartRow = true := by
  unfold joinedFacts
  repeat' (with_reducible refine and_t ?_ ?_)
  iterate 1 (focus (as_aux_lemma => kernel_rfl))
  focus exact laidOut
  focus exact mapsRowed_
  iterate 19 (focus (as_aux_lemma => kernel_rfl))
  iterate 3 (focus (as_aux_lemma => kernel_rfl))
  focus exact mayEnter_
  focus exact beq_t (show Rows.fnExactValidPartRow.lifted = Try.prog.liftsFinal from liftsFinal_.symm)
  focus (show (Try.prog.make == some Rows.fnExactValidPartRow.make) = true; rw [make_]; as_aux_lemma => kernel_rfl)
  all_goals as_aux_lemma => kernel_rfl
theorem over : Rows.fnExactValidPartRow.holds Try.pinned (OpenSpec.ofChange Rows.fnExactValidPartSpec) :=
  OpenClaim.holds_of_wide 10 Try.f10 rfl rfl rfl rfl rfl rfl rfl ⟨rfl, rfl, rfl, rfl, rfl⟩ rfl rfl rfl rfl rfl (by kernel_rfl) Try.func10 closed
    (of_decide_eq_true (by kernel_rfl)) (by unfold Func.isWrapper; first | (rw [if_pos (by decide +kernel)]; kernel_rfl) | (rw [if_neg (by decide +kernel)]; exact ⟨rfl, rfl⟩))
    (fun os started H enc _ => lifted os started H enc)
theorem proved : Rows.FnExactValidPartSaid := over
#print axioms proved
end Go.Proofs.Ytmndbmapepenjaa.fnExactValidPart
namespace Go.Proofs.Ytmndbmapepenjaa
/-- The row, under a short name, for the claim. -/
theorem fnExactValidPart_holds : Rows.FnExactValidPartSaid := fnExactValidPart.proved
end Go.Proofs.Ytmndbmapepenjaa
