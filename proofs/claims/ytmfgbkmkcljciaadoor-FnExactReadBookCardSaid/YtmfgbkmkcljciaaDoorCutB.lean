/- Parts of books: the reference and the program; no condition. -/
import Derived.Test.YtmfgbkmkcljciaaDoorRes
import Derived.Test.YtmfgbkmkcljciaaDoorB8
namespace Go.Proofs.YtmfgbkmkcljciaaDoor
open Go.RowKit
set_option linter.unusedSimpArgs false
set_option linter.unusedVariables false

theorem gate_slice {P : Program} {ops : Array Oper} {rest : List Oper} {o : Oper} {a : Act} {w : World} {Q : Exit → Act → World → Prop} {T : TypeId} {x : Operand} {l h m : Option Operand} (_ho : o.op = .slice T x l h m) (hh : wpList P ops Q (o :: rest) a w) : wpList P ops Q (o :: rest) a w := hh
def cutIn (n : Nat) (from_ to : Int) : Bool := inB from_ 0 n && inB to from_ n
def cutBC (B : List Fm) (from_ to : Int) : Int := if bkB B = true then (if cutIn B.length from_ to = true then 0 else 2) else 1
def cutBR (B : List Fm) (from_ to : Int) : List Fm := if cutBC B from_ to = 0 then (B.drop from_.toNat).take (to.toNat - from_.toNat) else []
theorem ValidBook_v {B : List Fm} {v : Bool} (h : bkB B = v) (n : Nat) (hB : B.length = n) (hn : n ≤ 4000000) (p : Option Addr) (c : Nat) (w : World) (hr : Rd w p n (encs fv B)) :
    Calls Tryd.prog 22 #[.slice p n c] w fun e w' => e = .returned (.bool v) ∧ Keep [] w w' := by
  subst h; exact ValidBook_c B n hB hn p c w hr
theorem gives0 {w w1 : World} {L : List (Nat × List Value × TypeId)} {B : Nat} {E : TypeId} {sz : Nat} (st : St [] w w1 L) (h : At B [] E L) : Gives E sz 0 [] w (.slice (some ⟨B, 0, none⟩) 0 0) w1 :=
  ⟨B, 0, [], rfl, out_of st h, st.get h, by simp, Nat.zero_le _⟩
end Go.Proofs.YtmfgbkmkcljciaaDoor
