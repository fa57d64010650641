/- Keys compared by ==; no condition. -/
import Derived.Test.YtmndbmapepenjaaEqF
import Derived.Test.YtmndbmapepenjaaEncs
namespace Go.Proofs.Ytmndbmapepenjaa
open Go.RowKit
set_option linter.unusedSimpArgs false
set_option linter.unusedVariables false
set_option maxRecDepth 100000
abbrev Ky : Type := Int × Int × Int
theorem undK : Try.prog.underlying 69 = some (.struct (Try.prog.fieldsOf 69)) := by
  have h := Try.underlying69
  unfold Program.fieldsOf
  rw [h]
theorem noGuardK : Try.prog.eqGuardType Try.prog.depth 69 = false := by kernel_rfl
theorem run_eqInK {w : World} (x y : Ky) : (Op.equalIn 10000 69 (.agg (k3 x).toArray) (.agg (k3 y).toArray)).run Try.prog w = .ok (decide (x = y)) w := by
  obtain ⟨x0, x1, x2⟩ := x
  obtain ⟨y0, y1, y2⟩ := y
  rw [run_equalIn_struct w 9999 69 _ _ undK (by kernel_rfl)]
  have h := Try.underlying69
  unfold Program.fieldsOf
  rw [h]
  have e0 := fun a b => run_equalIn_int (P := Try.prog) w 9998 67 .i16 .i16 a b Try.underlying67
  have e1 := fun a b => run_equalIn_int (P := Try.prog) w 9998 57 .i8 .i8 a b Try.underlying57
  have i0 := tI16.isAgg w
  have i1 := tI8.isAgg w
  have q1 : ("Tick" ≠ "_") = True := by decide
  have q2 : ("X" ≠ "_") = True := by decide
  have q3 : ("Y" ≠ "_") = True := by decide
  simp only [Op.eqFields, Sem.run_bind, Sem.run_ite, Go.part, k3, i0, i1, q1, q2, q3, if_true, Result.andThen_ok, Bool.false_eq_true, if_false, List.getElem?_toArray, List.getElem?_cons_zero, List.getElem?_cons_succ, Sem.run_pure, e0, e1]
  by_cases h0 : x0 = y0 <;> by_cases h1 : x1 = y1 <;> by_cases h2 : x2 = y2 <;> simp [h0, h1, h2]
theorem run_eqK {w : World} (x y : Ky) : (binOp .eql 69 (.agg (k3 x).toArray) (.agg (k3 y).toArray)).run Try.prog w = .ok (.bool (decide (x = y))) w := by
  rw [run_eql_struct, run_eqInK]; rfl
theorem run_neK {w : World} (x y : Ky) : (binOp .neq 69 (.agg (k3 x).toArray) (.agg (k3 y).toArray)).run Try.prog w = .ok (.bool (!decide (x = y))) w := by
  rw [run_neq_struct, run_eqInK]; rfl
section
variable {ops : Array Oper} {rest : List Oper} {o : Oper} {a : Act} {w : World}
theorem exec_eqK {b : BinOp} (hb : b = .eql ∨ b = .neq) {x y : Operand} {U : TypeId} {X Y : Ky} (ho : o.op = .binOp b 69 x y U) (hx : a.eval x = .agg (k3 X).toArray) (hy : a.eval y = .agg (k3 Y).toArray) :
    (execOp a.eval o).run Try.prog w = .ok (.value (.bool (if b = .eql then decide (X = Y) else !decide (X = Y)))) w := by
  unfold execOp
  rcases hb with rfl | rfl
  · simp only [ho, hx, hy, Sem.run_bind, run_eqGuard_agg _ _ _ _ _ _ _ noGuardK, run_eqK, Result.andThen_ok, Sem.run_pure, if_true]
  · simp only [ho, hx, hy, Sem.run_bind, run_eqGuard_agg _ _ _ _ _ _ _ noGuardK, run_neK, Result.andThen_ok, Sem.run_pure, reduceCtorEq, if_false]
end
section
variable {ops : Array Oper} {rest : List Oper} {o : Oper} {a : Act} {w : World} {Q : Exit → Act → World → Prop}
theorem la_eqK {x y : Operand} {U : TypeId} {X Y : Ky} (hgd : o.guard = none) (ho : o.op = .binOp .eql 69 x y U) (hx : a.eval x = .agg (k3 X).toArray) (hy : a.eval y = .agg (k3 Y).toArray)
    (h1 : X = Y → wpList Try.prog ops Q rest (a.put o.dst (.bool true)) w) (h0 : X ≠ Y → wpList Try.prog ops Q rest (a.put o.dst (.bool false)) w) : wpList Try.prog ops Q (o :: rest) a w := by
  have hr := exec_eqK (w := w) (Or.inl rfl) ho hx hy
  by_cases e : X = Y
  · exact wpl_val hgd (.bool true) (by rw [hr]; simp [e]) (h1 e)
  · exact wpl_val hgd (.bool false) (by rw [hr]; simp [e]) (h0 e)
theorem la_neK {x y : Operand} {U : TypeId} {X Y : Ky} (hgd : o.guard = none) (ho : o.op = .binOp .neq 69 x y U) (hx : a.eval x = .agg (k3 X).toArray) (hy : a.eval y = .agg (k3 Y).toArray)
    (h1 : X = Y → wpList Try.prog ops Q rest (a.put o.dst (.bool false)) w) (h0 : X ≠ Y → wpList Try.prog ops Q rest (a.put o.dst (.bool true)) w) : wpList Try.prog ops Q (o :: rest) a w := by
  have hr := exec_eqK (w := w) (Or.inr rfl) ho hx hy
  by_cases e : X = Y
  · exact wpl_val hgd (.bool false) (by rw [hr]; simp [e]) (h1 e)
  · exact wpl_val hgd (.bool true) (by rw [hr]; simp [e]) (h0 e)
end
section
variable {ops : Array Oper} {rest : List Oper} {o : Oper} {a : Act} {Q : Act → Prop} {C : World → Prop}
theorem qa_eqK {x y : Operand} {U : TypeId} {X Y : Ky} (hgd : o.guard = none) (ho : o.op = .binOp .eql 69 x y U) (hx : a.eval x = .agg (k3 X).toArray) (hy : a.eval y = .agg (k3 Y).toArray)
    (h1 : X = Y → wpQuiet Try.prog ops C Q rest (a.put o.dst (.bool true))) (h0 : X ≠ Y → wpQuiet Try.prog ops C Q rest (a.put o.dst (.bool false))) : wpQuiet Try.prog ops C Q (o :: rest) a := by
  by_cases e : X = Y
  · exact wpq_val hgd (.bool true) (fun w' _ => by rw [exec_eqK (w := w') (Or.inl rfl) ho hx hy]; simp [e]) (h1 e)
  · exact wpq_val hgd (.bool false) (fun w' _ => by rw [exec_eqK (w := w') (Or.inl rfl) ho hx hy]; simp [e]) (h0 e)
theorem qa_neK {x y : Operand} {U : TypeId} {X Y : Ky} (hgd : o.guard = none) (ho : o.op = .binOp .neq 69 x y U) (hx : a.eval x = .agg (k3 X).toArray) (hy : a.eval y = .agg (k3 Y).toArray)
    (h1 : X = Y → wpQuiet Try.prog ops C Q rest (a.put o.dst (.bool false))) (h0 : X ≠ Y → wpQuiet Try.prog ops C Q rest (a.put o.dst (.bool true))) : wpQuiet Try.prog ops C Q (o :: rest) a := by
  by_cases e : X = Y
  · exact wpq_val hgd (.bool false) (fun w' _ => by rw [exec_eqK (w := w') (Or.inr rfl) ho hx hy]; simp [e]) (h1 e)
  · exact wpq_val hgd (.bool true) (fun w' _ => by rw [exec_eqK (w := w') (Or.inr rfl) ho hx hy]; simp [e]) (h0 e)
end
end Go.Proofs.Ytmndbmapepenjaa
