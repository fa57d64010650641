/- Row by row: inverted, met, joined, cut out, flipped; no condition. -/
import Derived.Test.YtmfgbkmkcljciaaDoorB2
import Derived.Test.YtmfgbkmkcljciaaDoorRules
namespace Go.Proofs.YtmfgbkmkcljciaaDoor
open Go.RowKit
set_option linter.unusedSimpArgs false
set_option linter.unusedVariables false

theorem run_sub4095 {P : Program} {T : TypeId} {a : Nat} (ha : a < 4096) (w : World) : (binOp .sub T (.int .u16 4095) (.int .u16 a)).run P w = .ok (.int .u16 ((4095 - a : Nat) : Int)) w := by
  have e : IntKind.u16.wrap (4095 - (a : Int)) = ((4095 - a : Nat) : Int) := by rw [u16_wrap (by omega) (by omega)]; omega
  go_simp
theorem part_get (h : Nat → Nat) (base : List Nat) (y k : Nat) (hk : k < 12) (hy : y ≤ k) : (frv (part h base y))[k]? = some (.int .u16 (ro base k : Nat)) := by
  rw [frv_get _ _ (by rw [part_length]; exact hk), ro_part _ _ _ _ hk, if_neg (by omega)]
/-- A closure that tells a row of two. -/
def Rows2 (fv : Value) (g : Nat → Nat → Nat) : Prop :=
  ∃ (F : FuncId) (fn : Func), fv = .func (.func F) #[] #[] ∧ Tryd.prog.funcs[F]? = some fn ∧ (fn.name == "runtime.NumGoroutine") = false ∧ fn.body.isNone = false ∧
    ∀ (a b : Nat) (w : World), a < 65536 → b < 65536 → Calls Tryd.prog F #[.int .u16 a, .int .u16 b] w fun e w' => e = .returned (.int .u16 (g a b : Nat)) ∧ Keep [] w w'
def mixR (k : Nat → Nat → Nat) (f g : List Nat) : List Nat := rowsOf fun y => k (ro f y) (ro g y)
def mixOp (k : Nat → Nat → Nat) (f g : List Nat) (w : World) (e : Ending) (w' : World) : Prop := e = .returned (.agg (frv (mixR k f g)).toArray) ∧ Keep [] w w'
theorem mixR_length (k : Nat → Nat → Nat) (f g : List Nat) : (mixR k f g).length = 12 := rowsOf_length _
/-! ### Invert -/
/-- The code of a question about one frame. -/
def codeF (f : List Nat) : Int := if okB f = true then 0 else 1
theorem codeF_0 {f : List Nat} (h : okB f = true) : codeF f = 0 := by simp [codeF, h]
theorem codeF_1 {f : List Nat} (h : okB f = false) : codeF f = 1 := by simp [codeF, h]
def invR (f : List Nat) : List Nat := if okB f = true then rowsOf (fun y => 4095 - ro f y) else zf
theorem invR_ok {f : List Nat} (ok : FrOk f) : FrOk (invR f) := by
  unfold invR
  split
  · exact rowsOf_ok fun y _ => by omega
  · exact zf_ok
end Go.Proofs.YtmfgbkmkcljciaaDoor
