/- A region that draws its order: what only reads is taken first, the rest walked in every order; worlds are variables; no condition. -/
import Derived.Test.YtmfgbkmkcljciaaDoorOrd0
import Derived.OrdersHeld
namespace Go.Proofs.YtmfgbkmkcljciaaDoor
open Go.RowKit
set_option linter.unusedSimpArgs false
def AftH (P : Program) (md : Region.Mode) (ops : Array Oper) (Q : Exit → Act → World → Prop) (S : World → Prop) (fuel : Nat) (listed : Array Bool) : Exit → Act → World → Prop
  | .normal, a, w => S w ∧ wpAnyH P md ops Q S fuel listed a w
  | e, a, w => Q e a w
section
variable {P : Program} {ops : Array Oper} {md : Region.Mode} {Q : Exit → Act → World → Prop} {S : World → Prop} {o : Oper} {a : Act} {w : World} {fuel i : Nat} {listed : Array Bool} {rs : List Nat} {l : List Oper}
theorem upon_aftH {next : Act → World → Prop} {r : Result Next} (h : o.upon P a next (AftH P md ops Q S fuel listed) r) : o.upon P a next Q r := by
  cases r with
  | ok v w' =>
    cases v with
    | enter f args => exact Calls.mono (h := h) (fun e w'' he => by cases e <;> exact he)
    | _ => exact h
  | halt e w' =>
    cases e <;> exact h
/-- All that may come up. -/
def AllH (P : Program) (md : Region.Mode) (ops : Array Oper) (Q : Exit → Act → World → Prop) (S : World → Prop) (fuel : Nat) (listed : Array Bool) (a : Act) (w : World) (rs : List Nat) : Prop :=
  ∀ i ∈ rs, wpOp P ops Q i (fun a' w' => S w' ∧ wpAnyH P md ops Q S fuel (listed.setIfInBounds i true) a' w') a w
theorem AllH.nil : AllH P md ops Q S fuel listed a w [] := fun _ h => by cases h
theorem AllH.one {rest : List Oper} (ho : l.drop i = o :: rest) (hg : o.guard = none) (h : wpList P l.toArray (AftH P md l.toArray Q S fuel (listed.setIfInBounds i true)) [o] a w)
    (hs : AllH P md l.toArray Q S fuel listed a w rs) : AllH P md l.toArray Q S fuel listed a w (i :: rs) := fun j hj => by
  rcases List.mem_cons.1 hj with rfl | hj
  · unfold wpOp
    rw [drop_get ho]
    have hw : ∀ ys, Region.wanted o ys = true := fun ys => by simp [Region.wanted, hg]
    simp only [wpList, hw, if_true] at h ⊢
    rcases h with h | ⟨h1, h2⟩
    · exact Or.inl (upon_aftH h)
    · exact Or.inr ⟨h1, h2⟩
  · exact hs j hj
theorem anyH_ready (hr : Region.ready md ops listed = rs) (hne : rs ≠ []) (h : AllH P md ops Q S fuel listed a w rs) : wpAnyH P md ops Q S (fuel + 1) listed a w := wpAnyH_all hr hne h
theorem wpList_aftH (hS : S w) (h : wpAnyH P md ops Q S fuel listed a w) : wpList P ops (AftH P md ops Q S fuel listed) [] a w := ⟨hS, h⟩
theorem takeH {rest : List Oper} {v : Value} {oi : Oper} (hi : l.drop i = oi :: rest) (hs : Region.noSelect l.toArray = true) (hf : Region.free md l.toArray listed i = true) (hr : (Region.ready md l.toArray listed).contains i = true)
    (hQ : ∀ c a w, Q (.panic c) (a.put oi.dst v) w → Q (.panic c) a w) (hg : oi.guard = none) (hy : ∀ w, S w → (execOp a.eval oi).run P w = .ok (.value v) w) (hS : S w)
    (h : wpAnyH P md l.toArray Q S fuel (listed.setIfInBounds i true) (a.put oi.dst v) w) : wpAnyH P md l.toArray Q S (fuel + 1) listed a w :=
  wpAnyH_take (drop_get hi) hs hf hr hQ (Or.inl ⟨by simp [Region.wanted, hg], hy⟩) hS h
/-- Where all orders meet: two new blocks. -/
def Meet2 (f : Nat → Nat → Act) (Lf : Nat → Nat → List (Nat × List Value × TypeId)) (M : List Nat) (w0 : World) : Exit → Act → World → Prop
  | .normal, a', w' => ∃ B B', a' = f B B' ∧ St M w0 w' (Lf B B')
  | _, _, _ => False
variable {id : Nat} {w0 : World} {M : List Nat} {L : List (Nat × List Value × TypeId)}
theorem wp_region_meetH (st : St M w0 w L) (n : Nat) (hn : l.length = n) (hm : P.follows .mixedOrders = true) (f : Nat → Act) (Lf : Nat → List (Nat × List Value × TypeId))
    (h : ∀ w', St M w0 w' L → wpAnyH P .any l.toArray (Meet f Lf M w0) (fun w' => St M w0 w' L) n (Array.replicate n false) a w')
    (hQ : ∀ B w', St M w0 w' (Lf B) → Q .normal (f B) w') : (Code.region id l.toArray true).wp P Q a w :=
  wp_region_meet st n hn hm f Lf (fun w' st' => wpAny_of_held _ _ _ _ (h w' st')) hQ
theorem wp_region_meetH2 (st : St M w0 w L) (n : Nat) (hn : l.length = n) (hm : P.follows .mixedOrders = true) (f : Nat → Nat → Act) (Lf : Nat → Nat → List (Nat × List Value × TypeId))
    (h : ∀ w', St M w0 w' L → wpAnyH P .any l.toArray (Meet2 f Lf M w0) (fun w' => St M w0 w' L) n (Array.replicate n false) a w')
    (hQ : ∀ B B' w', St M w0 w' (Lf B B') → Q .normal (f B B') w') : (Code.region id l.toArray true).wp P Q a w := by
  subst hn
  refine wp_region_any hm ?_
  refine wpAny_mono ?_ _ _ _ _ (by have := wpAny_of_held _ _ _ _ (h _ (st.call (Keep.drew w))); simpa using this)
  intro e a' w' hp
  cases e <;> first | (obtain ⟨B, B', rfl, st'⟩ := hp; exact hQ B B' w' st') | exact hp.elim
theorem St.swap {x y : Nat × List Value × TypeId} (st : St M w0 w (x :: y :: L)) : St M w0 w (y :: x :: L) :=
  ⟨st.keep, fun p hp => st.has p (by simp only [List.mem_cons] at hp ⊢; rcases hp with h | h | h <;> simp [h]), fun p hp => st.ge p (by simp only [List.mem_cons] at hp ⊢; rcases hp with h | h | h <;> simp [h]), by
    have := st.nd
    simp only [List.map_cons, List.nodup_cons, List.mem_cons, not_or] at this ⊢
    exact ⟨⟨fun e => this.1.1 e.symm, this.2.1⟩, this.1.2, this.2.2⟩⟩
theorem load1_run {T : TypeId} {x : Operand} (ho : o.op = .load T x) (p : Addr) (hx : a.eval x = .pointer (some p)) {z : Value} (hT : OneT P T z) (v : Value) (hv : w.cell? p = some v) : (execOp a.eval o).run P w = .ok (.value v) w := by
  have hr := run_loadVar_one hT w p v hv
  unfold execOp
  simp only [ho, hx, Instr.loadAt, Instr.sureAddr, Sem.run_bind, Sem.run_pure, Result.andThen_ok, hr]
theorem loadAll_run {T : TypeId} {x : Operand} (ho : o.op = .load T x) (b : Nat) (hx : a.eval x = .pointer (some ⟨b, 0, none⟩)) {n : Nat} {z : List Value} (hT : AggT P T n z) (cs : List Value) (U : TypeId) (hb : Blk w b cs U) (hl : cs.length = n) : (execOp a.eval o).run P w = .ok (.value (.agg cs.toArray)) w := by
  have hr := run_loadVar_seg hT w ⟨b, 0, none⟩ cs hl (fun j v hj => by rw [Addr.add_lit, hb.cell, Nat.zero_add, hj])
  unfold execOp
  simp only [ho, hx, Instr.loadAt, Instr.sureAddr, Sem.run_bind, Sem.run_pure, Result.andThen_ok, hr]
theorem field_run {T : TypeId} {x : Operand} {i : Nat} (ho : o.op = .fieldAddr T x i) (b f : Nat) (hx : a.eval x = .pointer (some ⟨b, f, none⟩)) (k : Nat)
    (hf : ∀ (b f : Nat) (w' : World), (Instr.fieldAt T (.pointer (some ⟨b, f, none⟩)) i).run P w' = .ok (.pointer (some ⟨b, f + k, none⟩)) w') : (execOp a.eval o).run P w = .ok (.value (.pointer (some ⟨b, f + k, none⟩))) w := by
  unfold execOp
  simp only [ho, hx, Sem.run_bind, Sem.run_pure, Result.andThen_ok, hf]
theorem conv_run {Sr D : TypeId} {x : Operand} (ho : o.op = .convert Sr D x) (k k' : IntKind) (n m : Int) (hx : a.eval x = .int k n) (hs : (P.underlying Sr).isSome = true) (hd : P.underlying D = some (.int k')) (hm : k'.wrap n = m) : (execOp a.eval o).run P w = .ok (.value (.int k' m)) w := by
  have hk : P.intKind D = k' := by unfold Program.intKind; rw [hd]
  have := run_convert_int (P := P) w Sr D k n hs (by rw [hk]; exact hd)
  rw [hk, hm] at this
  unfold execOp
  simp only [ho, hx, Sem.run_bind, Sem.run_pure, Result.andThen_ok, this]
theorem bin_run {op : BinOp} {T U : TypeId} {x y : Operand} (ho : o.op = .binOp op T x y U) (k k' : IntKind) (n m : Int) (hx : a.eval x = .int k n) (hy : a.eval y = .int k' m) (v : Value) (hb : (binOp op T (.int k n) (.int k' m)).run P w = .ok v w) : (execOp a.eval o).run P w = .ok (.value v) w := by
  unfold execOp
  simp only [ho, hx, hy, eqGuard_at_int, Sem.run_bind, Sem.run_pure, Result.andThen_ok, hb]
end
end Go.Proofs.YtmfgbkmkcljciaaDoor
