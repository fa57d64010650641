/- A region that draws its order, where all orders meet in one frame of slots; no condition. -/
import Derived.Test.YtmfgbkmkcljciaaDoorOrd
namespace Go.Proofs.YtmfgbkmkcljciaaDoor
open Go.RowKit
set_option linter.unusedSimpArgs false
def Meet0 (f : Act) (L' : List (Nat × List Value × TypeId)) (M : List Nat) (w0 : World) : Exit → Act → World → Prop
  | .normal, a', w' => a' = f ∧ St M w0 w' L'
  | _, _, _ => False
section
variable {P : Program} {Q : Exit → Act → World → Prop} {a : Act} {w : World}
theorem wp_region_meet0 {id : Nat} {w0 : World} {M : List Nat} {L : List (Nat × List Value × TypeId)} {l : List Oper} (st : St M w0 w L) (n : Nat) (hn : l.length = n) (hm : P.follows .mixedOrders = true) (f : Act) (L' : List (Nat × List Value × TypeId))
    (h : ∀ w', St M w0 w' L → wpAny P .any l.toArray (Meet0 f L' M w0) n (Array.replicate n false) a w')
    (hQ : ∀ w', St M w0 w' L' → Q .normal f w') : (Code.region id l.toArray true).wp P Q a w := by
  subst hn
  refine wp_region_any hm ?_
  refine wpAny_mono ?_ _ _ _ _ (by have := h _ (st.call (Keep.drew w)); simpa using this)
  intro e a' w' hp
  cases e <;> first | (obtain ⟨rfl, st'⟩ := hp; exact hQ w' st') | exact hp.elim
theorem slcAddr0_run {o : Oper} (T : TypeId) (x ix : Operand) (ho : o.op = .indexAddr T x ix) (b m c : Nat) (hx : a.eval x = .slice (some ⟨b, 0, none⟩) m c) (k : IntKind) (i : Int) (hi : a.eval ix = .int k i)
    {E : TypeId} {y : Nat} {z : List Value} (hT : SlcT P T E 1 y z) (j : Nat) (hj : i = j) (h1 : j < m) : ∀ w : World, (execOp a.eval o).run P w = .ok (.value (.pointer (some ⟨b, 0 + j, none⟩))) w := by
  subst hj
  intro w
  have hsz := hT.sizeOf w
  have h1' : (j : Int) < m := by omega
  have h0 : (0 : Int) ≤ j := by omega
  unfold execOp
  simp only [ho, hx, hi, Instr.indexAt, asIntOf, Sem.run_bind, Sem.run_pure, Result.andThen_ok, run_underlying hT.u w, h0, h1', and_self, if_true, hsz, Addr.add_lit, Int.toNat_natCast, Nat.mul_one]
end
end Go.Proofs.YtmfgbkmkcljciaaDoor
