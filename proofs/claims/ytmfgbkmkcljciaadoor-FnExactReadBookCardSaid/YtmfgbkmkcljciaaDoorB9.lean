/- Dots counted; no condition. -/
import Derived.Test.YtmfgbkmkcljciaaDoorB7
import Derived.Test.YtmfgbkmkcljciaaDoorB6
import Derived.Lib.Tables
namespace Go.Proofs.YtmfgbkmkcljciaaDoor
open Go.RowKit
set_option linter.unusedSimpArgs false
set_option linter.unusedVariables false

/-- The dots of a row. -/
def pc (r : Nat) : Nat := ((List.range 12).filter fun x => r.testBit x).length
def c8 (r : Nat) : Nat := ((List.range 8).filter fun x => r.testBit x).length
theorem pop_c8 : ((List.range 256).all fun r => decide (Lib.pop8 ((r : Nat) : Int) = (c8 r : Int))) = true := by decide +kernel
theorem c8_c4 : ((List.range 16).all fun r => decide (c8 r = ((List.range 4).filter fun x => r.testBit x).length)) = true := by decide +kernel
theorem pop_pc {r : Nat} (hr : r < 4096) : Lib.pop8 ((r / 256 : Nat) : Int) + Lib.pop8 ((r % 256 : Nat) : Int) = (pc r : Int) := by
  have h1 := List.all_eq_true.1 pop_c8 (r / 256) (List.mem_range.2 (by omega))
  have h2 := List.all_eq_true.1 pop_c8 (r % 256) (List.mem_range.2 (by omega))
  have h3 := List.all_eq_true.1 c8_c4 (r / 256) (List.mem_range.2 (by omega))
  simp only [decide_eq_true_eq] at h1 h2 h3
  rw [h1, h2, h3]
  have e1 : c8 (r % 256) = c8 r := by
    unfold c8
    congr 1
    apply List.filter_congr
    intro x hx
    have hx : x < 8 := List.mem_range.1 hx
    have := Nat.testBit_mod_two_pow r 8 x
    rw [show (2 : Nat) ^ 8 = 256 from rfl] at this
    rw [this]; simp [hx]
  have e2 : ((List.range 4).filter fun x => (r / 256).testBit x).length = ((List.range 4).filter fun x => r.testBit (8 + x)).length := by
    congr 1
    apply List.filter_congr
    intro x hx
    have : (r / 2 ^ 8).testBit x = r.testBit (x + 8) := Nat.testBit_div_two_pow _ _
    rw [show (2 : Nat) ^ 8 = 256 from rfl] at this
    rw [this, Nat.add_comm]
  rw [e1, e2]
  unfold pc c8
  rw [show (12 : Nat) = 8 + 4 from rfl, List.range_add, List.filter_append, List.length_append, List.filter_map, List.length_map]
  simp only [Function.comp_def]
  omega
theorem pc_le (r : Nat) : pc r ≤ 12 := by
  unfold pc
  exact Nat.le_trans (List.length_filter_le _ _) (by simp)
def cntTo (f : List Nat) : Nat → Nat
  | 0 => 0
  | y + 1 => cntTo f y + pc (ro f y)
theorem cntTo_le (f : List Nat) (y : Nat) : cntTo f y ≤ 12 * y := by
  induction y with
  | zero => simp [cntTo]
  | succ y ih => have := pc_le (ro f y); simp only [cntTo]; omega
theorem dotsTo_row (f : List Nat) {y : Nat} (hy : y < 12) : (dotsTo f (12 * (y + 1))).length = (dotsTo f (12 * y)).length + pc (ro f y) := by
  unfold dotsTo pc
  rw [show 12 * (y + 1) = 12 * y + 12 by omega, List.range_add, List.filter_append, List.map_append, List.length_append, List.length_map, List.length_map, List.filter_map, List.length_map]
  congr 2
  apply List.filter_congr
  intro x hx
  have hx : x < 12 := List.mem_range.1 hx
  simp only [Function.comp]
  rw [show (12 * y + x) % 12 = x by omega, show (12 * y + x) / 12 = y by omega, hasD_in f hx hy]
theorem dots_cnt (f : List Nat) : ∀ y, y ≤ 12 → (dotsTo f (12 * y)).length = cntTo f y
  | 0, _ => rfl
  | y + 1, h => by rw [dotsTo_row f (by omega), dots_cnt f y (by omega)]; rfl
theorem dots_cnt12 (f : List Nat) : (dots f).length = cntTo f 12 := dots_cnt f 12 (Nat.le_refl _)

section
variable {P : Program} {ops : Array Oper} {rest : List Oper} {o : Oper} {a : Act} {Q : Act → Prop} {C : World → Prop}
theorem wpq_pop (hgd : o.guard = none) (T : TypeId) (x ix : Operand) (ho : o.op = .index T x ix) (hx : a.eval x = .string Lib.pop8tab) (k : IntKind) (i : Int) (hi : a.eval ix = .int k i) (hu : P.underlying T = some .string) (h0 : 0 ≤ i) (h1 : i ≤ 255)
    (h : wpQuiet P ops C Q rest (a.put o.dst (.int .u8 (Lib.pop8 i)))) : wpQuiet P ops C Q (o :: rest) a :=
  wpq_val hgd _ (fun w' _ => by
    unfold execOp
    simp only [ho, hx, hi, Sem.run_bind, Sem.run_pure, Result.andThen_ok, Lib.run_index_pop8tab w' T k i hu h0 h1]) h
theorem qgate_index {T : TypeId} {x i : Operand} (_ho : o.op = .index T x i) (h : wpQuiet P ops C Q (o :: rest) a) : wpQuiet P ops C Q (o :: rest) a := h
theorem qgate_assign {x : Operand} (_ho : o.op = .assign x) (h : wpQuiet P ops C Q (o :: rest) a) : wpQuiet P ops C Q (o :: rest) a := h
theorem wpq_assign (hgd : o.guard = none) (x : Operand) (ho : o.op = .assign x) (v : Value) (hv : a.eval x = v) (h : wpQuiet P ops C Q rest (a.put o.dst v)) : wpQuiet P ops C Q (o :: rest) a :=
  wpq_val hgd v (fun w' _ => by unfold execOp; simp only [ho, hv]; rfl) h
theorem wpq_extract (hgd : o.guard = none) (x : Operand) (k : Nat) (ho : o.op = .extract x k) (v : Value) (hv : ∀ w, (execOp a.eval o).run P w = .ok (.value v) w) (h : wpQuiet P ops C Q rest (a.put o.dst v)) : wpQuiet P ops C Q (o :: rest) a :=
  wpq_val hgd v (fun w' _ => hv w') h
theorem run_shr8 {T : TypeId} {r : Nat} (hr : r < 65536) (w : World) : (binOp .shr T (.int .u16 r) (.int .u64 8)).run P w = .ok (.int .u16 ((r / 256 : Nat) : Int)) w := by
  go_simp
theorem pop8_le : ((List.range 256).all fun r => decide (0 ≤ Lib.pop8 ((r : Nat) : Int) ∧ Lib.pop8 ((r : Nat) : Int) ≤ 8)) = true := by decide +kernel
theorem run_addu8 {T : TypeId} {a b : Nat} (ha : a < 256) (hb : b < 256) (w : World) : (binOp .add T (.int .u8 (Lib.pop8 a)) (.int .u8 (Lib.pop8 b))).run P w = .ok (.int .u8 (Lib.pop8 a + Lib.pop8 b)) w := by
  have h1 := List.all_eq_true.1 pop8_le a (List.mem_range.2 ha)
  have h2 := List.all_eq_true.1 pop8_le b (List.mem_range.2 hb)
  simp only [decide_eq_true_eq] at h1 h2
  have e : IntKind.u8.wrap (Lib.pop8 a + Lib.pop8 b) = Lib.pop8 a + Lib.pop8 b := by
    simp [IntKind.wrap, IntKind.bits, IntKind.signed]; omega
  go_simp
end
/-- How many dots f has, if it is valid. -/
def cntR (f : List Nat) : Int := if okB f = true then ((dots f).length : Int) else 0
end Go.Proofs.YtmfgbkmkcljciaaDoor
