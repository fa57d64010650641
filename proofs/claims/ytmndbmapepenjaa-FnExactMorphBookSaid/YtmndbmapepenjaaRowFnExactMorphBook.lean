/- FnExactMorphBook: for every input the program's answer is the reference's; no condition. -/
import Derived.Test.YtmndbmapepenjaaRows
import Derived.Test.YtmndbmapepenjaaLMorB
import Derived.Test.YtmndbmapepenjaaOpen
import Derived.Test.YtmndbmapepenjaaSeat
import Derived.WalkKit
import Derived.ProofKit
import Derived.OpenShut
import Derived.ShutString
import Derived.ChangeOld
import Derived.Below
import Derived.Carry
import Derived.SizedLaws
namespace Go.Proofs.Ytmndbmapepenjaa.fnExactMorphBook
open Go.ChangeShapes Go.WideShapes Go.ChangeAt Go.RowKit
open Go.ChangeMaps (open_string shut_string)
set_option linter.unusedVariables false
set_option linter.unusedSimpArgs false
theorem own : ownKnob Try.prog.godebug = none := by kernel_rfl
theorem cellsE : Try.prog.cellsOf 42 = 1 := by kernel_rfl
theorem cellsF : Try.prog.cellsOf 43 = 12 := by kernel_rfl
set_option maxRecDepth 100000 in
theorem lifted (os : Os) (started : os.Started) (H : Type) (enc : TypeId × Value → H) :
    ReturnsInHanded {} Try.checked os 9 .any (Rows.fnExactMorphBookSpec.pre6 enc Try.prog Try.f9 Rows.fnExactMorphBookRow.domain false) (Rows.fnExactMorphBookSpec.post enc Try.prog Try.f9 false true false false) := by
  refine returnsInHanded_of_change_sized (C := Try.checked) own started (by kernel_rfl) Try.func9
    (ChangeSpec.witness6 (enc := enc) (C := Try.checked) false ⟨#[], #[.agg #[.int .u16 0, .int .u16 0, .int .u16 0, .int .u16 0, .int .u16 0, .int .u16 0, .int .u16 0, .int .u16 0, .int .u16 0, .int .u16 0, .int .u16 0, .int .u16 0], .agg #[.int .u16 0, .int .u16 0, .int .u16 0, .int .u16 0, .int .u16 0, .int .u16 0, .int .u16 0, .int .u16 0, .int .u16 0, .int .u16 0, .int .u16 0, .int .u16 0], .int .i64 0], []⟩ 8 (by kernel_rfl) (by kernel_rfl) (by kernel_rfl) (by kernel_rfl)) ?_
  intro W base args ds gs before hval0 hW hcnd hsz0 _
  have hsz : (DataW.weightsEach Try.prog (Try.f9.params.toList ++ Rows.fnExactMorphBookSpec.plain.varTypes Try.prog) (ds ++ gs)).all (· ≤ reachBytes) = true := hsz0
  have hval : ∀ (j : Nat) t v, Try.f9.params[j]? = some t → args[j]? = some v → Value.okWide Try.prog W .any base t v := hval0
  have hW' := hW
  obtain ⟨p, q, hA0, hV, rfl, hfz, hnd⟩ := hW
  have hA : DataW.TrodAll enc Try.prog W 0 (fun _ => true) true Try.f9.params.toList args.toList ds p := hA0
  rw [Try.params9] at hA hval hsz
  obtain ⟨v0, vs0, d0, ds0, p0, q0, hargs, rfl, rfl, h0, r0⟩ := trodAll_cons hA
  obtain ⟨v1, vs1, d1, ds1, p1, q1, rfl, rfl, rfl, h1, r1⟩ := trodAll_cons r0
  obtain ⟨v2, vs2, d2, ds2, p2, q2, rfl, rfl, rfl, h2, r2⟩ := trodAll_cons r1
  obtain ⟨rfl, rfl, rfl⟩ := trodAll_nil r2
  obtain rfl : args = #[v0, v1, v2] := by cases args; simp_all
  obtain ⟨rfl, rfl⟩ := trodVars_none hV
  have lt0 : ∀ x ∈ p0, x.block < W.heap.size := fun x hx => hW'.lt x (by simp [hx])
  have lt1 : ∀ x ∈ p1, x.block < W.heap.size := fun x hx => hW'.lt x (by simp [hx])
  have lt2 : ∀ x ∈ p2, x.block < W.heap.size := fun x hx => hW'.lt x (by simp [hx])
  have k0 := h0
  have k1 := h1
  have k2 := h2
  obtain ⟨a0, ok0, rfl, ep0⟩ := open_frame Try.underlying43 Try.underlying42 cellsE cellsF (hval 0 43 v0 rfl rfl) h0
  obtain ⟨a1, ok1, rfl, ep1⟩ := open_frame Try.underlying43 Try.underlying42 cellsE cellsF (hval 1 43 v1 rfl rfl) h1
  obtain ⟨a2, rfl, rfl, rfl, w2⟩ := open_int Try.underlying2 (hval 2 2 v2 rfl rfl) h2
  clear hA0 hval0 hsz0 hsz
  refine (law_MorphBook a0 ok0 a1 ok1 a2 w2 W).mono fun e W' ⟨he, hkp⟩ => ?_
  subst he
  have bel := hkp.below
  exact ⟨_, rfl, _, _, _, [], _, [], hW', trodAll_mk1 (shut_bool Try.underlying4 _), (trodAll_cons_mk (Below.trod laidOut (by kernel_rfl) (of_decide_eq_true (by kernel_rfl)) k0 bel lt0) (trodAll_cons_mk (Below.trod laidOut (by kernel_rfl) (of_decide_eq_true (by kernel_rfl)) k1 bel lt1) (trodAll_cons_mk (Below.trod laidOut (by kernel_rfl) (of_decide_eq_true (by kernel_rfl)) k2 bel lt2) (trodAll_mk0)))), rfl, bel.frame _, fun h => by cases h⟩
set_option maxRecDepth 100000 in
theorem closed : joinedFacts Try.checked.prog 9 Try.f9 Rows.fnExactMorphBookSpec Rows.fnExactMorphBookRow = true := by
  unfold joinedFacts
  repeat' (with_reducible refine and_t ?_ ?_)
  iterate 1 (focus (as_aux_lemma => kernel_rfl))
  focus exact laidOut
  focus exact mapsRowed_
  iterate 19 (focus (as_aux_lemma => kernel_rfl))
  iterate 3 (focus (as_aux_lemma => kernel_rfl))
  focus exact mayEnter_
  focus exact beq_t (show Rows.fnExactMorphBookRow.lifted = Try.prog.liftsFinal from liftsFinal_.symm)
  focus (show (Try.prog.make == some Rows.fnExactMorphBookRow.make) = true; rw [make_]; as_aux_lemma => kernel_rfl)
  all_goals as_aux_lemma => kernel_rfl
theorem over : Rows.fnExactMorphBookRow.holds Try.pinned (OpenSpec.ofChange Rows.fnExactMorphBookSpec) :=
  OpenClaim.holds_of_wide 9 Try.f9 rfl rfl rfl rfl rfl rfl rfl ⟨rfl, rfl, rfl, rfl, rfl⟩ rfl rfl rfl rfl rfl (by kernel_rfl) Try.func9 closed
    (of_decide_eq_true (by kernel_rfl)) (by unfold Func.isWrapper; first | (rw [if_pos (by decide +kernel)]; kernel_rfl) | (rw [if_neg (by decide +kernel)]; exact ⟨rfl, rfl⟩))
    (fun os started H enc _ => lifted os started H enc)
theorem proved : Rows.FnExactMorphBookSaid := over
#print axioms proved
end Go.Proofs.Ytmndbmapepenjaa.fnExactMorphBook
namespace Go.Proofs.Ytmndbmapepenjaa
/-- The row, under a short name, for the claim. -/
theorem fnExactMorphBook_holds : Rows.FnExactMorphBookSaid := fnExactMorphBook.proved
end Go.Proofs.Ytmndbmapepenjaa
