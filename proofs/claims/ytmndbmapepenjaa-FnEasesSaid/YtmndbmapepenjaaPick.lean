/- Numbers picked out of given bytes: what range they have; no condition. -/
import Derived.Test.YtmndbmapepenjaaBtw2
import Derived.Test.YtmndbmapepenjaaOpenB
namespace Go.Proofs.Ytmndbmapepenjaa
open Go.RowKit
set_option linter.unusedSimpArgs false
set_option linter.unusedVariables false
@[simp] theorem u1_len (n : Int) : (u1 n).length = 1 := rfl
theorem tU64 : OneT Try.prog 94 (.int .u64 0) := oneT_of Try.underlying94 rfl (by kernel_rfl) rfl
instance : OneC Try.prog 94 (.int .u64 0) := ⟨tU64⟩
theorem tBy : OneT Try.prog 36 (.slice none 0 0) := oneT_of Try.underlying36 rfl (by kernel_rfl) rfl
instance : OneC Try.prog 36 (.slice none 0 0) := ⟨tBy⟩
theorem tByS : SlcT Try.prog 36 5 1 1 [.int .u8 0] := slcT_of Try.underlying36 (.int .u8 0) (by kernel_rfl) rfl (by decide) rfl
instance : SlcC Try.prog 36 5 1 1 [.int .u8 0] := ⟨tByS⟩
instance : IntC Try.prog 5 .u8 := ⟨Try.underlying5⟩
theorem fld_src0 (b f : Nat) (w' : World) : (Instr.fieldAt 96 (.pointer (some ⟨b, f, none⟩)) 0).run Try.prog w' = .ok (.pointer (some ⟨b, f + 0, none⟩)) w' := by
  simp [Instr.fieldAt, run_underlying Try.underlying96, Instr.sureAddr]
  go_simp
theorem fld_src1 (b f : Nat) (w' : World) : (Instr.fieldAt 96 (.pointer (some ⟨b, f, none⟩)) 1).run Try.prog w' = .ok (.pointer (some ⟨b, f + 1, none⟩)) w' := by
  simp [Instr.fieldAt, run_underlying Try.underlying96, Instr.sureAddr]
  go_simp
instance : FldC Try.prog 96 0 0 := ⟨fld_src0⟩
instance : FldC Try.prog 96 1 1 := ⟨fld_src1⟩
theorem fld_src2 (b f : Nat) (w' : World) : (Instr.fieldAt 96 (.pointer (some ⟨b, f, none⟩)) 2).run Try.prog w' = .ok (.pointer (some ⟨b, f + 2, none⟩)) w' := by
  simp [Instr.fieldAt, run_underlying Try.underlying96, Instr.sureAddr]
  go_simp
instance : FldC Try.prog 96 2 2 := ⟨fld_src2⟩
section
variable {P : Program} {ops : Array Oper} {rest : List Oper} {o : Oper} {a : Act} {w0 : World} {Q : Act → Prop} {M : List Nat} {L : List (Nat × List Value × TypeId)} {b k : Nat} {T : TypeId} {x : Operand} {z v : Value} {cs : List Value}
theorem iq_load1M {f : Nat} (hb : Cl w0 b f cs) (hM : b ∉ M) (hgd : o.guard = none) (ho : o.op = .load T x) (hx : a.eval x = .pointer (some ⟨b, f + k, none⟩)) [hT : OneC P T z] (hv : cs[k]? = some v)
    (h : wpQuiet P ops (fun w' => St M w0 w' L) Q rest (a.put o.dst v)) : wpQuiet P ops (fun w' => St M w0 w' L) Q (o :: rest) a := wpq_load1 hgd T x ho _ hx hT.out v (fun _ hw => (hb.keep hw.keep hM).cellv hv) h
end
def srcC (p : Option Addr) (m c : Nat) (k : Nat) (s : Int) : List Value := [.slice p m c, .int .i64 k, .int .u64 s]
end Go.Proofs.Ytmndbmapepenjaa
