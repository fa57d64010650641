/- The law ReadFrame: the reference, the program, and what the law answers; no condition. -/
import Derived.Test.YtmfgbkmkcljciaaDoorRd
namespace Go.Proofs.YtmfgbkmkcljciaaDoor
open Go.RowKit
set_option linter.unusedSimpArgs false
set_option linter.unusedVariables false
def rsC (l : List UInt8) : Int := if rsB l = true then 0 else 5
theorem rsF_len (l : List UInt8) : (rsF l).length = 12 := by
  unfold rsF
  split
  · exact mk_length _
  · rfl
theorem get_mid {xs ys : List Value} {z : List UInt8} {n : Nat} (h : xs.length = n * 1) : (xs ++ sv z ++ ys)[n]? = some (.string ⟨z.toArray⟩) := by
  rw [List.append_assoc, List.getElem?_append_right (by omega), h, show n - n * 1 = 0 by omega]; rfl

section
variable {P : Program} {ops : Array Oper} {rest : List Oper} {o : Oper} {a : Act} {w : World} {Q : Exit → Act → World → Prop}
/-- A slice cut at a length: its own head. -/
theorem ia_cutTo {T E : TypeId} {s y n c : Nat} {z : List Value} {x ih : Operand} {p : Option Addr} {k : IntKind} {h : Nat} (hgd : o.guard = none) (ho : o.op = .slice T x none (some ih) none) (hx : a.eval x = .slice p n c) (hih : a.eval ih = .int k h) [hT : SlcC P T E s y z] (hhc : h ≤ c)
    (hk : wpList P ops Q rest (a.put o.dst (.slice p h c)) w) : wpList P ops Q (o :: rest) a w := by
  have he : P.elem T = E := by unfold Program.elem; rw [hT.out.u]
  have hu : P.underlying T = some (.slice (P.elem T)) := by rw [he]; exact hT.out.u
  have hr := run_slice_h (P := P) w T p n c hu k h (by omega) (by omega)
  rw [he, hT.out.sizeOf w] at hr
  simp only [Result.andThen_ok, Int.toNat_natCast, sliced_zero P] at hr
  exact wpl_val hgd _ (by
    unfold execOp
    simp only [ho, hx, hih, Sem.run_bind, Sem.run_pure, Result.andThen_ok, Option.map_some, Option.map_none, run_sliceAt_slice w T _ _ _ _ hu, hr]) hk
end
end Go.Proofs.YtmfgbkmkcljciaaDoor
