/- Frames compared by ==; no condition. -/
import Derived.Test.YtmfgbkmkcljciaaDoorTy2
import Derived.Laws.StructEq
namespace Go.Proofs.YtmfgbkmkcljciaaDoor
open Go.RowKit
set_option linter.unusedSimpArgs false
set_option linter.unusedVariables false

def eqCells (d : Nat) (E : TypeId) (n : Nat) (xs ys : Array Value) : List Nat → Sem Bool
  | [] => pure true
  | i :: l => do
    let a ← Go.part E xs (i * n)
    let b ← Go.part E ys (i * n)
    let r ← Op.equalIn d E a b
    if (!r) = true then pure false else eqCells d E n xs ys l
section
variable {P : Program} (w : World)
theorem run_equalIn_arr (d : Nat) {T E : TypeId} {n m : Nat} (xs ys : Array Value) (ht : P.underlying T = some (.array m E)) (hs : ∀ w, (sizeOf E).run P w = .ok n w) :
    (Op.equalIn (d + 1) T (.agg xs) (.agg ys)).run P w = (eqCells d E n xs ys (List.range' 0 m)).run P w := by
  simp only [Op.equalIn, Sem.run_bind, run_underlying ht, Result.andThen_ok, hs]
  rw [Std.Legacy.Range.forIn_eq_forIn_range']
  simp only [Std.Legacy.Range.size, Nat.sub_zero, Nat.add_sub_cancel, Nat.div_one]
  generalize List.range' 0 m = l
  induction l generalizing w with
  | nil => simp [eqCells]
  | cons f fs ih =>
    simp only [List.forIn_cons, eqCells, Sem.run_bind, Sem.run_ite]
    generalize (Go.part E xs (f * n)).run P w = r1
    cases r1 with
    | ok a w1 =>
      simp only [Result.andThen_ok]
      generalize (Go.part E ys (f * n)).run P w1 = r2
      cases r2 with
      | ok b w2 =>
        simp only [Result.andThen_ok]
        generalize (Op.equalIn d E a b).run P w2 = r3
        cases r3 with
        | ok r w3 =>
          cases r
          · simp only [Result.andThen_ok, Bool.not_false, if_true, Sem.run_pure]
          · simp only [Result.andThen_ok, Bool.not_true, Bool.false_eq_true, if_false, Sem.run_pure]
            exact ih w3
        | halt x w3 => simp [Result.andThen]
      | halt x w2 => simp [Result.andThen]
    | halt x w1 => simp [Result.andThen]
theorem run_eqCells_u16 (d : Nat) {E : TypeId} (hE : OneT P E (.int .u16 0)) (hu : P.underlying E = some (.int .u16)) (f g : List Nat) (hl : f.length = g.length) : ∀ (m k : Nat), k + m = f.length →
    (eqCells (d + 1) E 1 (frv f).toArray (frv g).toArray (List.range' k m)).run P w = .ok (decide (f.drop k = g.drop k)) w
  | 0, k, hk => by
    rw [List.drop_of_length_le (by omega), List.drop_of_length_le (by omega)]
    simp [eqCells]
  | m + 1, k, hk => by
    have h1 : k < f.length := by omega
    have h2 : k < g.length := by omega
    have e1 : (frv f).toArray[k * 1]? = some (.int .u16 (f[k] : Nat)) := by rw [Nat.mul_one]; simp [frv, h1]
    have e2 : (frv g).toArray[k * 1]? = some (.int .u16 (g[k] : Nat)) := by rw [Nat.mul_one]; simp [frv, h2]
    rw [List.range'_succ]
    simp only [eqCells, Sem.run_bind, Go.part, hE.isAgg w, Result.andThen_ok, Bool.false_eq_true, if_false, e1, e2, Sem.run_pure, run_equalIn_int w d E .u16 .u16 _ _ hu, Sem.run_ite]
    have hd : decide (f.drop k = g.drop k) = (decide (f[k] = g[k]) && decide (f.drop (k + 1) = g.drop (k + 1))) := by
      rw [List.drop_eq_getElem_cons h1, List.drop_eq_getElem_cons h2, Bool.eq_iff_iff]
      simp only [decide_eq_true_eq, Bool.and_eq_true, List.cons.injEq]
    rw [hd]
    by_cases e : f[k] = g[k]
    · rw [run_eqCells_u16 d hE hu f g hl m (k + 1) (by omega)]
      simp [e]
    · have e' : ((f[k] : Int) == (g[k] : Int)) = false := by rw [beq_eq_false_iff_ne]; omega
      simp [e, e']
end
theorem run_eqF {w : World} (x y : Fm) : (binOp .eql 33 (.agg (fv x).toArray) (.agg (fv y).toArray)).run Tryd.prog w = .ok (.bool (decide (x = y))) w := by
  rw [run_eql_struct, run_equalIn_arr w 9999 _ _ tFr.a tFr.e.sizeOf, fv, fv, run_eqCells_u16 w 9998 tU16 Tryd.underlying31 x.1 y.1 (by rw [x.2.len, y.2.len]) 12 0 (by rw [x.2.len])]
  simp [Subtype.ext_iff]
theorem run_neF {w : World} (x y : Fm) : (binOp .neq 33 (.agg (fv x).toArray) (.agg (fv y).toArray)).run Tryd.prog w = .ok (.bool (!decide (x = y))) w := by
  rw [run_neq_struct, run_equalIn_arr w 9999 _ _ tFr.a tFr.e.sizeOf, fv, fv, run_eqCells_u16 w 9998 tU16 Tryd.underlying31 x.1 y.1 (by rw [x.2.len, y.2.len]) 12 0 (by rw [x.2.len])]
  simp [Subtype.ext_iff]
theorem noGuardF : Tryd.prog.eqGuardType Tryd.prog.depth 33 = false := by kernel_rfl
section
variable {ops : Array Oper} {rest : List Oper} {o : Oper} {a : Act} {w : World}
theorem exec_eqF {b : BinOp} (hb : b = .eql ∨ b = .neq) {x y : Operand} {U : TypeId} {X Y : Fm} (ho : o.op = .binOp b 33 x y U) (hx : a.eval x = .agg (fv X).toArray) (hy : a.eval y = .agg (fv Y).toArray) :
    (execOp a.eval o).run Tryd.prog w = .ok (.value (.bool (if b = .eql then decide (X = Y) else !decide (X = Y)))) w := by
  unfold execOp
  rcases hb with rfl | rfl
  · simp only [ho, hx, hy, Sem.run_bind, run_eqGuard_agg _ _ _ _ _ _ _ noGuardF, run_eqF, Result.andThen_ok, Sem.run_pure, if_true]
  · simp only [ho, hx, hy, Sem.run_bind, run_eqGuard_agg _ _ _ _ _ _ _ noGuardF, run_neF, Result.andThen_ok, Sem.run_pure, reduceCtorEq, if_false]
end
section
variable {ops : Array Oper} {rest : List Oper} {o : Oper} {a : Act} {w : World} {Q : Exit → Act → World → Prop}
theorem gate_eq {P : Program} {T U : TypeId} {x y : Operand} (_ho : o.op = .binOp .eql T x y U) (h : wpList P ops Q (o :: rest) a w) : wpList P ops Q (o :: rest) a w := h
theorem gate_ne {P : Program} {T U : TypeId} {x y : Operand} (_ho : o.op = .binOp .neq T x y U) (h : wpList P ops Q (o :: rest) a w) : wpList P ops Q (o :: rest) a w := h
theorem la_eqF {x y : Operand} {U : TypeId} {X Y : Fm} (hgd : o.guard = none) (ho : o.op = .binOp .eql 33 x y U) (hx : a.eval x = .agg (fv X).toArray) (hy : a.eval y = .agg (fv Y).toArray)
    (h1 : X = Y → wpList Tryd.prog ops Q rest (a.put o.dst (.bool true)) w) (h0 : X ≠ Y → wpList Tryd.prog ops Q rest (a.put o.dst (.bool false)) w) : wpList Tryd.prog ops Q (o :: rest) a w := by
  have hr := exec_eqF (w := w) (Or.inl rfl) ho hx hy
  by_cases e : X = Y
  · exact wpl_val hgd (.bool true) (by rw [hr]; simp [e]) (h1 e)
  · exact wpl_val hgd (.bool false) (by rw [hr]; simp [e]) (h0 e)
theorem la_neF {x y : Operand} {U : TypeId} {X Y : Fm} (hgd : o.guard = none) (ho : o.op = .binOp .neq 33 x y U) (hx : a.eval x = .agg (fv X).toArray) (hy : a.eval y = .agg (fv Y).toArray)
    (h1 : X = Y → wpList Tryd.prog ops Q rest (a.put o.dst (.bool false)) w) (h0 : X ≠ Y → wpList Tryd.prog ops Q rest (a.put o.dst (.bool true)) w) : wpList Tryd.prog ops Q (o :: rest) a w := by
  have hr := exec_eqF (w := w) (Or.inr rfl) ho hx hy
  by_cases e : X = Y
  · exact wpl_val hgd (.bool false) (by rw [hr]; simp [e]) (h1 e)
  · exact wpl_val hgd (.bool true) (by rw [hr]; simp [e]) (h0 e)
end
section
variable {ops : Array Oper} {rest : List Oper} {o : Oper} {a : Act} {Q : Act → Prop} {C : World → Prop}
theorem qgate_eq {P : Program} {T U : TypeId} {x y : Operand} (_ho : o.op = .binOp .eql T x y U) (h : wpQuiet P ops C Q (o :: rest) a) : wpQuiet P ops C Q (o :: rest) a := h
theorem qgate_ne {P : Program} {T U : TypeId} {x y : Operand} (_ho : o.op = .binOp .neq T x y U) (h : wpQuiet P ops C Q (o :: rest) a) : wpQuiet P ops C Q (o :: rest) a := h
theorem qa_eqF {x y : Operand} {U : TypeId} {X Y : Fm} (hgd : o.guard = none) (ho : o.op = .binOp .eql 33 x y U) (hx : a.eval x = .agg (fv X).toArray) (hy : a.eval y = .agg (fv Y).toArray)
    (h1 : X = Y → wpQuiet Tryd.prog ops C Q rest (a.put o.dst (.bool true))) (h0 : X ≠ Y → wpQuiet Tryd.prog ops C Q rest (a.put o.dst (.bool false))) : wpQuiet Tryd.prog ops C Q (o :: rest) a := by
  by_cases e : X = Y
  · exact wpq_val hgd (.bool true) (fun w' _ => by rw [exec_eqF (w := w') (Or.inl rfl) ho hx hy]; simp [e]) (h1 e)
  · exact wpq_val hgd (.bool false) (fun w' _ => by rw [exec_eqF (w := w') (Or.inl rfl) ho hx hy]; simp [e]) (h0 e)
theorem qa_neF {x y : Operand} {U : TypeId} {X Y : Fm} (hgd : o.guard = none) (ho : o.op = .binOp .neq 33 x y U) (hx : a.eval x = .agg (fv X).toArray) (hy : a.eval y = .agg (fv Y).toArray)
    (h1 : X = Y → wpQuiet Tryd.prog ops C Q rest (a.put o.dst (.bool false))) (h0 : X ≠ Y → wpQuiet Tryd.prog ops C Q rest (a.put o.dst (.bool true))) : wpQuiet Tryd.prog ops C Q (o :: rest) a := by
  by_cases e : X = Y
  · exact wpq_val hgd (.bool false) (fun w' _ => by rw [exec_eqF (w := w') (Or.inr rfl) ho hx hy]; simp [e]) (h1 e)
  · exact wpq_val hgd (.bool true) (fun w' _ => by rw [exec_eqF (w := w') (Or.inr rfl) ho hx hy]; simp [e]) (h0 e)
end
end Go.Proofs.YtmfgbkmkcljciaaDoor
