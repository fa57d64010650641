/- A region that draws its order: what only reads is taken first, wherever it stands; what is left comes in one order; no condition. -/
import Derived.Test.YtmfgbkmkcljciaaDoorOrdH
import Derived.Test.YtmfgbkmkcljciaaDoorTail
namespace Go.Proofs.YtmfgbkmkcljciaaDoor
open Go.RowKit
set_option linter.unusedSimpArgs false
set_option linter.unusedVariables false

/-- Operations that yield a value and no more. -/
def valB (o : Oper) : Bool :=
  match o.op with
  | .move _ | .assign _ | .binOp _ _ _ _ _ | .unOp _ _ _ | .convert _ _ _ | .load _ _ | .indexAddr _ _ _ | .index _ _ _ | .fieldAddr _ _ _ | .field _ _ _ | .slice _ _ _ _ _ | .extract _ _ | .build _ _ => true
  | .call c => match c.callee with
    | .builtin .len | .builtin .cap | .builtin .min | .builtin .max => true
    | _ => false
  | _ => false
theorem value_only {P : Program} {s : Sem Value} {w w' : World} {n : Next} (h : (do pure (Next.value (← s)) : Sem Next).run P w = .ok n w') : ∃ v, n = .value v := by
  simp only [Sem.run_bind, Sem.run_pure] at h
  cases hr : s.run P w with
  | ok v w1 => rw [hr] at h; simp only [Result.andThen_ok] at h; injection h with h1 _; exact ⟨v, h1.symm⟩
  | halt x w1 => rw [hr] at h; simp [Result.andThen] at h
theorem valB_only {P : Program} {o : Oper} {a : Act} {w w' : World} {n : Next} (hb : valB o = true) (h : (execOp a.eval o).run P w = .ok n w') : ∃ v, n = .value v := by
  unfold execOp at h
  unfold valB at hb
  split at hb <;> first | (cases hb; done) | skip
  case _ x e => simp only [e, Sem.run_pure] at h; injection h with h1 _; exact ⟨_, h1.symm⟩
  case _ x e => simp only [e, Sem.run_pure] at h; injection h with h1 _; exact ⟨_, h1.symm⟩
  all_goals first
    | (rename_i e; rw [e] at h; exact value_only h)
    | (rename_i c e
       rw [e] at h
       simp only [resolve] at h
       split at hb <;> first | (cases hb; done) | skip
       all_goals
         rename_i e2
         rw [e2] at h
         simp only [Sem.run_bind, Sem.run_pure, Result.andThen_ok, invoke, builtin] at h
         exact value_only (by simpa only [Sem.run_bind, Sem.run_pure] using h))
section
variable {P : Program} {ops : Array Oper} {Q : Exit → Act → World → Prop} {S : World → Prop}
/-- Those at some places. -/
def sel (l : List Oper) (is : List Nat) : List Oper := is.filterMap fun i => l[i]?
def takeB (ops : Array Oper) : List Nat → Array Bool → Bool
  | [], _ => true
  | i :: r, listed => (Region.ready .any ops listed).contains i && Region.free .any ops listed i && (match ops[i]? with | some o => valB o | none => false) && takeB ops r (listed.setIfInBounds i true)
def setAll : List Nat → Array Bool → Array Bool
  | [], listed => listed
  | i :: r, listed => setAll r (listed.setIfInBounds i true)
def loudB (ops : Array Oper) : List Nat → Array Bool → Bool
  | [], listed => (Region.ready .any ops listed).isEmpty
  | i :: r, listed => decide (Region.ready .any ops listed = [i]) && (match ops[i]? with | some o => o.guard.isNone | none => false) && loudB ops r (listed.setIfInBounds i true)
def schedB (ops : Array Oper) (tk ld : List Nat) : Bool :=
  Region.noSelect ops && takeB ops tk (Array.replicate ops.size false) && loudB ops ld (setAll tk (Array.replicate ops.size false)) && decide (tk.length + ld.length = ops.size)
/-- Behind one loud operation. -/
def AftS (S : World → Prop) (K : Act → World → Prop) : Exit → Act → World → Prop
  | .normal, a, w => S w ∧ K a w
  | _, _, _ => False
def wpLoud (P : Program) (ops : Array Oper) (S : World → Prop) (Q : Exit → Act → World → Prop) : List Oper → Act → World → Prop
  | [], a, w => Q .normal a w
  | o :: r, a, w => wpList P ops (AftS S (wpLoud P ops S Q r)) [o] a w
def NormQ (Q : Exit → Act → World → Prop) : Exit → Act → World → Prop
  | .normal, a, w => Q .normal a w
  | _, _, _ => False
theorem upon_aftS {o : Oper} {a : Act} {K : Act → World → Prop} {Q' : Exit → Act → World → Prop} {r : Result Next} (h : o.upon P a (fun a w => S w ∧ K a w) (AftS S K) r) : o.upon P a (fun a w => S w ∧ K a w) Q' r := by
  cases r with
  | ok v w' =>
    cases v with
    | enter f args =>
      refine Calls.mono (h := h) (fun e w'' he => ?_)
      cases e with
      | returned v => exact he
      | panicked c => exact he.elim
      | outgrown => obtain ⟨_, _, he⟩ := he; exact he.elim
    | _ => exact h
  | halt e w' =>
    cases e with
    | panic v => exact h.elim
    | _ => exact h
theorem wpAnyH_loud : ∀ (ld : List Nat) (l : List Oper) (listed : Array Bool) (a : Act) (w : World), l.toArray = ops → loudB ops ld listed = true → wpLoud P ops S Q (sel l ld) a w → wpAnyH P .any ops (NormQ Q) S ld.length listed a w
  | [], l, listed, a, w, hl, hB, h => ⟨by simpa [loudB] using hB, h⟩
  | i :: r, l, listed, a, w, hl, hB, h => by
    simp only [loudB, Bool.and_eq_true, decide_eq_true_eq] at hB
    obtain ⟨⟨hr, hg⟩, hB'⟩ := hB
    cases ho : ops[i]? with
    | none => rw [ho] at hg; cases hg
    | some o =>
      rw [ho] at hg
      have hlo : l[i]? = some o := by rw [← hl] at ho; simpa using ho
      have hsel : sel l (i :: r) = o :: sel l r := by simp [sel, hlo]
      rw [hsel] at h
      refine ⟨fun h0 => (by rw [hr] at h0; cases h0), fun j hj => ?_⟩
      rw [hr] at hj
      obtain rfl : j = i := by simpa using hj
      have hg' : o.guard = none := by have hg2 : o.guard.isNone = true := hg; simpa using hg2
      have hw : ∀ ys, Region.wanted o ys = true := fun ys => by simp [Region.wanted, hg']
      have h1 : o.wp P a w (fun a w => S w ∧ wpLoud P ops S Q (sel l r) a w) (AftS S (wpLoud P ops S Q (sel l r))) ∨ (o.asks P a w ∧ LetsOut (AftS S (wpLoud P ops S Q (sel l r)))) := by
        have := h
        unfold wpLoud wpList at this
        rw [if_pos (hw _)] at this
        exact this
      unfold wpOp
      simp only [ho, hw, if_true]
      rcases h1 with h1 | ⟨_, _, _, h2⟩
      · refine Or.inl ?_
        have h2 := upon_aftS (Q' := NormQ Q) h1
        exact Oper.wp_mono (fun a' w' hK => ⟨hK.1, wpAnyH_loud r l _ a' w' hl hB' hK.2⟩) h2
      · exact h2.elim
theorem wpAnyH_takes {g : Nat} (hs : Region.noSelect ops = true) (hQ : ∀ c a d v w, Q (.panic c) (Act.put a d v) w → Q (.panic c) a w) : ∀ (tk : List Nat) (l : List Oper) (listed : Array Bool) (a : Act) (w : World), l.toArray = ops →
    takeB ops tk listed = true → S w → wpQuiet P ops S (fun a' => wpAnyH P .any ops Q S g (setAll tk listed) a' w) (sel l tk) a → wpAnyH P .any ops Q S (tk.length + g) listed a w
  | [], l, listed, a, w, hl, hB, hS, h => by rw [List.length_nil, Nat.zero_add]; exact h
  | i :: r, l, listed, a, w, hl, hB, hS, h => by
    simp only [takeB, Bool.and_eq_true] at hB
    obtain ⟨⟨⟨hr, hf⟩, hv⟩, hB'⟩ := hB
    cases ho : ops[i]? with
    | none => rw [ho] at hv; cases hv
    | some o =>
      rw [ho] at hv
      have hlo : l[i]? = some o := by rw [← hl] at ho; simpa using ho
      have hsel : sel l (i :: r) = o :: sel l r := by simp [sel, hlo]
      rw [hsel] at h
      have key : ∃ v, YieldsIf P ops S o v a ∧ wpQuiet P ops S (fun a' => wpAnyH P .any ops Q S g (setAll r (listed.setIfInBounds i true)) a' w) (sel l r) (a.put o.dst v) := by
        unfold wpQuiet at h
        by_cases hw : Region.wanted o (yielded ops a.tmps) = true
        · rw [if_pos hw] at h
          obtain ⟨v, h1, h2⟩ := h
          refine ⟨v, Or.inl ⟨hw, fun w' hS' => ?_⟩, h2⟩
          have h3 := h1 w' hS'
          unfold Oper.quietAt at h3
          cases hrun : (execOp a.eval o).run P w' with
          | ok n w'' =>
            obtain ⟨u, rfl⟩ := valB_only hv hrun
            rw [hrun] at h3
            simp only [Oper.quietUpon] at h3
            rw [h3.1, h3.2]
          | halt x w'' => rw [hrun] at h3; simp only [Oper.quietUpon] at h3
        · rw [if_neg hw] at h
          exact ⟨undef, Or.inr ⟨by simpa using hw, rfl⟩, h⟩
      obtain ⟨v, hy, h2⟩ := key
      rw [List.length_cons, show r.length + 1 + g = (r.length + g) + 1 by omega]
      exact wpAnyH_take ho hs hf hr (fun c a w h => hQ c a _ _ w h) hy hS (wpAnyH_takes hs hQ r l _ _ w hl hB' hS h2)
theorem wpQuiet_mono {C : World → Prop} {Q Q' : Act → Prop} (hQ : ∀ a, Q a → Q' a) : ∀ (l : List Oper) (a : Act), wpQuiet P ops C Q l a → wpQuiet P ops C Q' l a
  | [], a, h => hQ a h
  | o :: l, a, h => by
    unfold wpQuiet at h ⊢
    by_cases hw : Region.wanted o (yielded ops a.tmps) = true
    · rw [if_pos hw] at h ⊢
      exact Oper.quiet_mono (wpQuiet_mono hQ l) h
    · rw [if_neg hw] at h ⊢
      exact wpQuiet_mono hQ l _ h
end
theorem St.nil {M : List Nat} {w0 w : World} {L : List (Nat × List Value × TypeId)} (st : St M w0 w L) : St M w0 w [] := ⟨st.keep, by simp, by simp, by simp⟩
section
variable {P : Program} {Q : Exit → Act → World → Prop} {a : Act} {w w0 : World} {M : List Nat} {L : List (Nat × List Value × TypeId)} {l : List Oper}
theorem wp_region_sched_st {id : Nat} (st : St M w0 w L) (tk ld : List Nat) (L1 : List (Nat × List Value × TypeId)) (hL1 : ∀ w', St M w0 w' L → St M w0 w' L1) (hm : P.follows .mixedOrders = true) (hB : schedB l.toArray tk ld = true)
    (h : wpQuiet P l.toArray (fun w' => St M w0 w' L1) (fun a' => ∀ w', St M w0 w' L → wpLoud P l.toArray (fun w' => St M w0 w' L1) Q (sel l ld) a' w') (sel l tk) a) : (Code.region id l.toArray true).wp P Q a w := by
  simp only [schedB, Bool.and_eq_true, decide_eq_true_eq] at hB
  obtain ⟨⟨⟨hs, ht⟩, hl⟩, hn⟩ := hB
  refine wp_region_any hm ?_
  have st1 := st.call (Keep.drew w)
  rw [← hn]
  refine wpAny_mono (Q := NormQ Q) (fun e a w h => by cases e <;> first | exact h | exact h.elim) _ _ _ _ ?_
  refine wpAny_of_held (S := fun w' => St M w0 w' L1) _ _ _ _ ?_
  rw [hn]
  have hk := wpAnyH_takes (P := P) (Q := NormQ Q) (S := fun w' => St M w0 w' L1) (g := ld.length) hs (fun c a d v w h => h.elim) tk l (Array.replicate l.toArray.size false) a w.drew rfl ht (hL1 _ st1)
    (wpQuiet_mono (fun a' ha => wpAnyH_loud ld l _ a' _ rfl hl (ha _ st1)) _ _ h)
  rw [hn] at hk
  exact hk
theorem aftS_go {S : World → Prop} {K : Act → World → Prop} (hS : S w) (h : K a w) : AftS S K .normal a w := ⟨hS, h⟩
theorem loud_go {S : World → Prop} {ops : Array Oper} {o : Oper} {r : List Oper} (h : wpList P ops (AftS S (wpLoud P ops S Q r)) [o] a w) : wpLoud P ops S Q (o :: r) a w := h
theorem loud_nil {S : World → Prop} {ops : Array Oper} (h : Q .normal a w) : wpLoud P ops S Q [] a w := h
end
end Go.Proofs.YtmfgbkmkcljciaaDoor
