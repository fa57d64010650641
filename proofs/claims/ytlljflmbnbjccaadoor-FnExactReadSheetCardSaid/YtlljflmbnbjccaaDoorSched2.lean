/- A region that draws its order, in two turns: what only reads is taken first, then what comes in one order; then both once more; no condition. -/
import Derived.Test.YtlljflmbnbjccaaDoorSched
namespace Go.Proofs.YtlljflmbnbjccaaDoor
open Go.RowKit
set_option linter.unusedSimpArgs false
set_option linter.unusedVariables false
section
variable {P : Program} {ops : Array Oper} {Q : Exit → Act → World → Prop} {S : World → Prop}
def loudKB (ops : Array Oper) : List Nat → Array Bool → Bool
  | [], _ => true
  | i :: r, listed => decide (Region.ready .any ops listed = [i]) && (match ops[i]? with | some o => o.guard.isNone | none => false) && loudKB ops r (listed.setIfInBounds i true)
def schedB2 (ops : Array Oper) (tk ld tk2 ld2 : List Nat) : Bool :=
  Region.noSelect ops && takeB ops tk (Array.replicate ops.size false) && loudKB ops ld (setAll tk (Array.replicate ops.size false)) && takeB ops tk2 (setAll ld (setAll tk (Array.replicate ops.size false))) &&
    loudB ops ld2 (setAll tk2 (setAll ld (setAll tk (Array.replicate ops.size false)))) && decide (tk.length + (ld.length + (tk2.length + ld2.length)) = ops.size)
def wpLoudK (P : Program) (ops : Array Oper) (S : World → Prop) (K : Act → World → Prop) : List Oper → Act → World → Prop
  | [], a, w => K a w
  | o :: r, a, w => wpList P ops (AftS S (wpLoudK P ops S K r)) [o] a w
theorem wpAnyH_loudK {g : Nat} {K : Act → World → Prop} : ∀ (ld : List Nat) (l : List Oper) (listed : Array Bool) (a : Act) (w : World), l.toArray = ops → loudKB ops ld listed = true → S w → wpLoudK P ops S K (sel l ld) a w →
    (∀ a w, S w → K a w → wpAnyH P .any ops (NormQ Q) S g (setAll ld listed) a w) → wpAnyH P .any ops (NormQ Q) S (ld.length + g) listed a w
  | [], l, listed, a, w, hl, hB, hS, h, hK => by rw [List.length_nil, Nat.zero_add]; exact hK a w hS h
  | i :: r, l, listed, a, w, hl, hB, hS, h, hK => by
    simp only [loudKB, Bool.and_eq_true, decide_eq_true_eq] at hB
    obtain ⟨⟨hr, hg⟩, hB'⟩ := hB
    cases ho : ops[i]? with
    | none => rw [ho] at hg; cases hg
    | some o =>
      rw [ho] at hg
      have hlo : l[i]? = some o := by rw [← hl] at ho; simpa using ho
      have hsel : sel l (i :: r) = o :: sel l r := by simp [sel, hlo]
      rw [hsel] at h
      rw [List.length_cons, show r.length + 1 + g = (r.length + g) + 1 by omega]
      refine ⟨fun h0 => (by rw [hr] at h0; cases h0), fun j hj => ?_⟩
      rw [hr] at hj
      obtain rfl : j = i := by simpa using hj
      have hg' : o.guard = none := by have hg2 : o.guard.isNone = true := hg; simpa using hg2
      have hw : ∀ ys, Region.wanted o ys = true := fun ys => by simp [Region.wanted, hg']
      have h1 : o.wp P a w (fun a w => S w ∧ wpLoudK P ops S K (sel l r) a w) (AftS S (wpLoudK P ops S K (sel l r))) ∨ (o.asks P a w ∧ LetsOut (AftS S (wpLoudK P ops S K (sel l r)))) := by
        have := h
        unfold wpLoudK wpList at this
        rw [if_pos (hw _)] at this
        exact this
      unfold wpOp
      simp only [ho, hw, if_true]
      rcases h1 with h1 | ⟨_, _, _, h2⟩
      · refine Or.inl ?_
        have h2 := upon_aftS (Q' := NormQ Q) h1
        exact Oper.wp_mono (fun a' w' hK' => ⟨hK'.1, wpAnyH_loudK r l _ a' w' hl hB' hK'.1 hK'.2 hK⟩) h2
      · exact h2.elim
end
section
variable {P : Program} {Q : Exit → Act → World → Prop} {a : Act} {w w0 : World} {M : List Nat} {L : List (Nat × List Value × TypeId)} {l : List Oper}
theorem wp_region_sched2_st {id : Nat} (st : St M w0 w L) (tk ld tk2 ld2 : List Nat) (L1 : List (Nat × List Value × TypeId)) (hL1 : ∀ w', St M w0 w' L → St M w0 w' L1) (hm : P.follows .mixedOrders = true) (hB : schedB2 l.toArray tk ld tk2 ld2 = true)
    (h : wpQuiet P l.toArray (fun w' => St M w0 w' L1) (fun a' => ∀ w', St M w0 w' L → wpLoudK P l.toArray (fun w' => St M w0 w' L1) (fun a2 w2 => wpQuiet P l.toArray (fun w' => St M w0 w' L1) (fun a3 => wpLoud P l.toArray (fun w' => St M w0 w' L1) Q (sel l ld2) a3 w2) (sel l tk2) a2) (sel l ld) a' w') (sel l tk) a) : (Code.region id l.toArray true).wp P Q a w := by
  simp only [schedB2, Bool.and_eq_true, decide_eq_true_eq] at hB
  obtain ⟨⟨⟨⟨⟨hs, ht⟩, hl⟩, ht2⟩, hl2⟩, hn⟩ := hB
  refine wp_region_any hm ?_
  have st1 := st.call (Keep.drew w)
  rw [← hn]
  refine wpAny_mono (Q := NormQ Q) (fun e a w h => by cases e <;> first | exact h | exact h.elim) _ _ _ _ ?_
  refine wpAny_of_held (S := fun w' => St M w0 w' L1) _ _ _ _ ?_
  rw [hn]
  have hk := wpAnyH_takes (P := P) (Q := NormQ Q) (S := fun w' => St M w0 w' L1) (g := ld.length + (tk2.length + ld2.length)) hs (fun c a d v w h => h.elim) tk l (Array.replicate l.toArray.size false) a w.drew rfl ht (hL1 _ st1)
    (wpQuiet_mono (fun a' ha => wpAnyH_loudK (g := tk2.length + ld2.length) ld l _ a' _ rfl hl (hL1 _ st1) (ha _ st1) (fun a2 w2 hS2 hK2 =>
      wpAnyH_takes (P := P) (Q := NormQ Q) (S := fun w' => St M w0 w' L1) (g := ld2.length) hs (fun c a d v w h => h.elim) tk2 l _ a2 w2 rfl ht2 hS2
        (wpQuiet_mono (fun a3 ha3 => wpAnyH_loud ld2 l _ a3 _ rfl hl2 ha3) _ _ hK2))) _ _ h)
  rw [hn] at hk
  exact hk
theorem loudK_go {S : World → Prop} {ops : Array Oper} {o : Oper} {r : List Oper} {K : Act → World → Prop} (h : wpList P ops (AftS S (wpLoudK P ops S K r)) [o] a w) : wpLoudK P ops S K (o :: r) a w := h
theorem loudK_nil {S : World → Prop} {ops : Array Oper} {K : Act → World → Prop} (h : K a w) : wpLoudK P ops S K [] a w := h
end
end Go.Proofs.YtlljflmbnbjccaaDoor
