/- A region that draws its order, each order walked with worlds that are variables: one operation at a time by the rules of one order; no condition. -/
import Derived.Test.YtmfgbkmkcljciaaDoorRules
import Derived.RegionTactic
namespace Go.Proofs.YtmfgbkmkcljciaaDoor
open Go.RowKit
set_option linter.unusedSimpArgs false

/-- Behind one operation. -/
def AftQ (P : Program) (md : Region.Mode) (ops : Array Oper) (Q : Exit → Act → World → Prop) (fuel : Nat) (listed : Array Bool) : Exit → Act → World → Prop
  | .normal, a, w => wpAny P md ops Q fuel listed a w
  | e, a, w => Q e a w
section
variable {P : Program} {ops : Array Oper} {md : Region.Mode} {Q : Exit → Act → World → Prop} {o : Oper} {a : Act} {w : World} {fuel i : Nat} {listed : Array Bool} {rs : List Nat}
theorem upon_aft {next : Act → World → Prop} {r : Result Next} (h : o.upon P a next (AftQ P md ops Q fuel listed) r) : o.upon P a next Q r := by
  cases r with
  | ok v w' =>
    cases v with
    | enter f args => exact Calls.mono (h := h) (fun e w'' he => by cases e <;> exact he)
    | _ => exact h
  | halt e w' =>
    cases e <;> exact h
theorem wpOp_one (ho : ops[i]? = some o) (hg : o.guard = none) (h : wpList P ops (AftQ P md ops Q fuel (listed.setIfInBounds i true)) [o] a w) : wpOp P ops Q i (wpAny P md ops Q fuel (listed.setIfInBounds i true)) a w := by
  unfold wpOp
  rw [ho]
  have hw : ∀ ys, Region.wanted o ys = true := fun ys => by simp [Region.wanted, hg]
  simp only [wpList, hw, if_true] at h ⊢
  rcases h with h | ⟨h1, h2⟩
  · exact Or.inl (upon_aft h)
  · exact Or.inr ⟨h1, h2⟩
theorem AllReady.one (ho : ops[i]? = some o) (hg : o.guard = none) (h : wpList P ops (AftQ P md ops Q fuel (listed.setIfInBounds i true)) [o] a w)
    (hs : AllReady P md ops Q fuel listed a w rs) : AllReady P md ops Q fuel listed a w (i :: rs) := fun j hj => by
  rcases List.mem_cons.1 hj with rfl | hj
  · exact wpOp_one ho hg h
  · exact hs j hj
theorem drop_get {l rest : List Oper} (ho : l.drop i = o :: rest) : l.toArray[i]? = some o := by
  have h := List.getElem?_drop (xs := l) (i := i) (j := 0)
  rw [ho] at h
  simpa using h.symm
theorem AllReady.one' {l rest : List Oper} (ho : l.drop i = o :: rest) (hg : o.guard = none) (h : wpList P l.toArray (AftQ P md l.toArray Q fuel (listed.setIfInBounds i true)) [o] a w)
    (hs : AllReady P md l.toArray Q fuel listed a w rs) : AllReady P md l.toArray Q fuel listed a w (i :: rs) := AllReady.one (drop_get ho) hg h hs
theorem wpList_aft (h : wpAny P md ops Q fuel listed a w) : wpList P ops (AftQ P md ops Q fuel listed) [] a w := h
theorem LetsOut.mono {Q Q' : Exit → Act → World → Prop} (hQ : ∀ e a w, Q e a w → Q' e a w) (h : LetsOut Q) : LetsOut Q' := by
  obtain ⟨a, w, h⟩ := h
  exact ⟨a, w, hQ _ _ _ h⟩
theorem upon_mono2 {Q Q' : Exit → Act → World → Prop} (hQ : ∀ e a w, Q e a w → Q' e a w) {K K' : Act → World → Prop} (hK : ∀ a w, K a w → K' a w) {r : Result Next} (h : o.upon P a K Q r) : o.upon P a K' Q' r := by
  cases r with
  | ok v w' =>
    cases v with
    | enter f args =>
      refine Calls.mono (h := h) (fun e w'' he => ?_)
      cases e with
      | returned v => exact hK _ _ he
      | panicked c => exact hQ _ _ _ he
      | outgrown => exact LetsOut.mono hQ he
    | row r args => exact Rows.mono (h := h) (fun v w'' he => hK _ _ he)
    | value v => exact hK _ _ h
    | skip => exact hK _ _ h
    | defer d => exact hK _ _ h
    | _ => exact h
  | halt e w' =>
    cases e with
    | panic v => exact hQ _ _ _ h
    | _ => exact h
theorem wpAny_mono {Q Q' : Exit → Act → World → Prop} (hQ : ∀ e a w, Q e a w → Q' e a w) : ∀ (fuel : Nat) (listed : Array Bool) (a : Act) (w : World), wpAny P md ops Q fuel listed a w → wpAny P md ops Q' fuel listed a w
  | 0, _, _, _, h => ⟨h.1, hQ _ _ _ h.2⟩
  | fuel + 1, listed, a, w, h => by
    refine ⟨fun h0 => hQ _ _ _ (h.1 h0), fun i hi => ?_⟩
    have h1 := h.2 i hi
    unfold wpOp at h1 ⊢
    cases ho : ops[i]? with
    | none => rw [ho] at h1; exact wpAny_mono hQ fuel _ a w h1
    | some o =>
      rw [ho] at h1
      simp only at h1 ⊢
      by_cases hw : Region.wanted o (yielded ops a.tmps) = true
      · rw [if_pos hw] at h1 ⊢
        rcases h1 with h1 | ⟨h2, h3⟩
        · exact Or.inl (upon_mono2 hQ (fun a w h => wpAny_mono hQ fuel _ a w h) h1)
        · exact Or.inr ⟨h2, LetsOut.mono hQ h3⟩
      · rw [if_neg hw] at h1 ⊢
        exact wpAny_mono hQ fuel _ _ w h1
theorem take_pure {v : Value} {oi : Oper} (hi : ops[i]? = some oi) (hs : Region.noSelect ops = true) (hf : Region.free md ops listed i = true) (hr : (Region.ready md ops listed).contains i = true)
    (hQ : ∀ c a w, Q (.panic c) (a.put oi.dst v) w → Q (.panic c) a w) (hg : oi.guard = none) (hy : ∀ w, (execOp a.eval oi).run P w = .ok (.value v) w)
    (h : wpAny P md ops Q fuel (listed.setIfInBounds i true) (a.put oi.dst v) w) : wpAny P md ops Q (fuel + 1) listed a w :=
  wpAny_take hi hs hf hr hQ (Or.inl ⟨by simp [Region.wanted, hg], hy⟩) h
theorem take_pure' {l rest : List Oper} {v : Value} {oi : Oper} (hi : l.drop i = oi :: rest) (hs : Region.noSelect l.toArray = true) (hf : Region.free md l.toArray listed i = true) (hr : (Region.ready md l.toArray listed).contains i = true)
    (hQ : ∀ c a w, Q (.panic c) (a.put oi.dst v) w → Q (.panic c) a w) (hg : oi.guard = none) (hy : ∀ w, (execOp a.eval oi).run P w = .ok (.value v) w)
    (h : wpAny P md l.toArray Q fuel (listed.setIfInBounds i true) (a.put oi.dst v) w) : wpAny P md l.toArray Q (fuel + 1) listed a w := take_pure (drop_get hi) hs hf hr hQ hg hy h
theorem gate_nil (h : AllReady P md ops Q fuel listed a w []) : AllReady P md ops Q fuel listed a w [] := h
theorem gate_cons (h : AllReady P md ops Q fuel listed a w (i :: rs)) : AllReady P md ops Q fuel listed a w (i :: rs) := h
theorem gate_any (h : wpAny P md ops Q fuel listed a w) : wpAny P md ops Q fuel listed a w := h
theorem gate_move {x : Operand} {rest : List Oper} (_ho : o.op = .move x) (h : wpList P ops Q (o :: rest) a w) : wpList P ops Q (o :: rest) a w := h
theorem gate_assign {x : Operand} {rest : List Oper} (_ho : o.op = .assign x) (h : wpList P ops Q (o :: rest) a w) : wpList P ops Q (o :: rest) a w := h
theorem gate_extract {x : Operand} {k : Nat} {rest : List Oper} (_ho : o.op = .extract x k) (h : wpList P ops Q (o :: rest) a w) : wpList P ops Q (o :: rest) a w := h
theorem gate_rdy {fuel : Nat} (i : Nat) (_hr : (Region.ready md ops listed).contains i = true) (h : wpAny P md ops Q fuel listed a w) : wpAny P md ops Q fuel listed a w := h
/-- Where all orders meet. -/
def Meet (f : Nat → Act) (Lf : Nat → List (Nat × List Value × TypeId)) (M : List Nat) (w0 : World) : Exit → Act → World → Prop
  | .normal, a', w' => ∃ B, a' = f B ∧ St M w0 w' (Lf B)
  | _, _, _ => False
theorem wp_region_meet {id : Nat} {w0 : World} {M : List Nat} {L : List (Nat × List Value × TypeId)} {l : List Oper} (st : St M w0 w L) (n : Nat) (hn : l.length = n) (hm : P.follows .mixedOrders = true) (f : Nat → Act) (Lf : Nat → List (Nat × List Value × TypeId))
    (h : ∀ w', St M w0 w' L → wpAny P .any l.toArray (Meet f Lf M w0) n (Array.replicate n false) a w')
    (hQ : ∀ B w', St M w0 w' (Lf B) → Q .normal (f B) w') : (Code.region id l.toArray true).wp P Q a w := by
  subst hn
  refine wp_region_any hm ?_
  refine wpAny_mono ?_ _ _ _ _ (by have := h _ (st.call (Keep.drew w)); simpa using this)
  intro e a' w' hp
  cases e <;> first | (obtain ⟨B, rfl, st'⟩ := hp; exact hQ B w' st') | exact hp.elim
end
end Go.Proofs.YtmfgbkmkcljciaaDoor
