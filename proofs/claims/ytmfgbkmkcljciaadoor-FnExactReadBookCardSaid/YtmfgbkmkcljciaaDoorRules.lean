/- More rules for operations in one order: numbers, conversions, fields, parts of a block; no condition. -/
import Derived.Test.YtmfgbkmkcljciaaDoorSlice
import Derived.Test.YtmfgbkmkcljciaaDoorTail
namespace Go.Proofs.YtmfgbkmkcljciaaDoor
open Go.RowKit
set_option linter.unusedSimpArgs false
section
variable {P : Program} {ops : Array Oper} {rest : List Oper} {o : Oper} {a : Act} {w w0 : World} {Q : Exit → Act → World → Prop} {M : List Nat} {L L' : List (Nat × List Value × TypeId)}
theorem wpl_val (hgd : o.guard = none) (v : Value) (hrun : (execOp a.eval o).run P w = .ok (.value v) w) (h : wpList P ops Q rest (a.put o.dst v) w) : wpList P ops Q (o :: rest) a w := by
  refine wpList_plain hgd fun K hK => ?_
  unfold Oper.wp
  rw [hrun]
  exact hK _ _ h
theorem wpl_bin (hgd : o.guard = none) (op : BinOp) (T : TypeId) (x y : Operand) (U : TypeId) (ho : o.op = .binOp op T x y U) (k k' : IntKind) (n m : Int) (hx : a.eval x = .int k n) (hy : a.eval y = .int k' m) (v : Value)
    (hb : ∀ w', (binOp op T (.int k n) (.int k' m)).run P w' = .ok v w') (h : wpList P ops Q rest (a.put o.dst v) w) : wpList P ops Q (o :: rest) a w :=
  wpl_val hgd v (by unfold execOp; simp only [ho, hx, hy, eqGuard_at_int, Sem.run_bind, Sem.run_pure, Result.andThen_ok, hb]) h
theorem wpl_conv (hgd : o.guard = none) (S D : TypeId) (x : Operand) (ho : o.op = .convert S D x) (k k' : IntKind) (n m : Int) (hx : a.eval x = .int k n) (hs : (P.underlying S).isSome = true) (hd : P.underlying D = some (.int k')) (hm : k'.wrap n = m)
    (h : wpList P ops Q rest (a.put o.dst (.int k' m)) w) : wpList P ops Q (o :: rest) a w := by
  have hk : P.intKind D = k' := by unfold Program.intKind; rw [hd]
  refine wpl_val hgd _ ?_ h
  have := run_convert_int (P := P) w S D k n hs (by rw [hk]; exact hd)
  rw [hk, hm] at this
  unfold execOp
  simp only [ho, hx, Sem.run_bind, Sem.run_pure, Result.andThen_ok, this]
theorem wpl_field (hgd : o.guard = none) (T : TypeId) (x : Operand) (i : Nat) (ho : o.op = .fieldAddr T x i) (b f : Nat) (hx : a.eval x = .pointer (some ⟨b, f, none⟩)) (k : Nat)
    (hf : ∀ (b f : Nat) (w' : World), (Instr.fieldAt T (.pointer (some ⟨b, f, none⟩)) i).run P w' = .ok (.pointer (some ⟨b, f + k, none⟩)) w')
    (h : wpList P ops Q rest (a.put o.dst (.pointer (some ⟨b, f + k, none⟩))) w) : wpList P ops Q (o :: rest) a w :=
  wpl_val hgd _ (by
    unfold execOp
    simp only [ho, hx, Sem.run_bind, Sem.run_pure, Result.andThen_ok, hf]) h
/-- What lies from a place on, of whosever block. -/
theorem wpl_loadC (hgd : o.guard = none) (T : TypeId) (x : Operand) (ho : o.op = .load T x) (p : Addr) (hx : a.eval x = .pointer (some p))
    {n : Nat} {z : List Value} (hT : AggT P T n z) (cs : List Value) (hl : cs.length = n) (hb : ∀ j v, cs[j]? = some v → w.cell? (p.add j) = some v)
    (h : wpList P ops Q rest (a.put o.dst (.agg cs.toArray)) w) : wpList P ops Q (o :: rest) a w :=
  wpl_val hgd _ (by
    have hr := run_loadVar_seg hT w p cs hl hb
    unfold execOp
    simp only [ho, hx, Instr.loadAt, Instr.sureAddr, Sem.run_bind, Sem.run_pure, Result.andThen_ok, hr]) h
theorem gate_ptr {F : FuncId} {b o : Nat} {R : Ending → World → Prop} (h : Calls P F #[.pointer (some ⟨b, o, none⟩)] w R) : Calls P F #[.pointer (some ⟨b, o, none⟩)] w R := h
theorem gate_bin {b : BinOp} {T U : TypeId} {x y : Operand} (_ho : o.op = .binOp b T x y U) (h : wpList P ops Q (o :: rest) a w) : wpList P ops Q (o :: rest) a w := h
theorem gate_conv {S D : TypeId} {x : Operand} (_ho : o.op = .convert S D x) (h : wpList P ops Q (o :: rest) a w) : wpList P ops Q (o :: rest) a w := h
theorem gate_field {T : TypeId} {x : Operand} {i : Nat} (_ho : o.op = .fieldAddr T x i) (h : wpList P ops Q (o :: rest) a w) : wpList P ops Q (o :: rest) a w := h
end
end Go.Proofs.YtmfgbkmkcljciaaDoor
