/- Within a round of a loop over a function: what was shown of a region elsewhere holds there too; no condition. -/
import Derived.Test.YtmndbmapepenjaaSched2
import Derived.RangeFuncNested
import Derived.RangeFuncBound
import Derived.RangeFuncCalls
import Derived.RangeFuncLeaves
import Derived.OrdersIn
import Derived.TacticsIn
namespace Go.Proofs.Ytmndbmapepenjaa
open Go.RowKit
set_option linter.unusedSimpArgs false
set_option linter.unusedVariables false
section
variable {P : Program} {n l : Nat} {K : Act → World → Prop} {Q : Exit → Act → World → Prop} {a : Act} {w : World}
theorem rowsIn_of {row : String} {args : Array Value} {R : Value → World → Prop} (h : Rows P row args w R) : RowsIn (Fence.wide.inRound l) n P row args w R := fun c cs _ => by
  obtain ⟨v, w', r, s⟩ := h c cs
  exact ⟨v, w', r, stepsIn_wide.2 s⟩
theorem uponIn_of {o : Oper} {r : Result Next} (h : o.upon P a K Q r) : o.uponIn (Fence.wide.inRound l) n P a K Q r := by
  cases r with
  | ok x w' =>
    cases x with
    | enter f args => exact ⟨fun h => by simp [Fence.wide] at h, CallsIn.inRound l (callsIn_wide.2 h)⟩
    | row row args => exact ⟨fun h => by simp [Fence.wide] at h, rowsIn_of h⟩
    | round _ _ _ _ _ => exact (h : False).elim
    | _ => exact h
  | halt x w' => cases x <;> exact h
theorem operIn_of {o : Oper} (hnd : ∀ c, o.op ≠ .defer c) (h : o.wp P a w K Q) : o.wpIn (Fence.wide.inRound l) n P a w K Q :=
  ⟨fun _ _ => trivial, by rw [Fence.inRound_round, Oper.semAt_eq _ _ _ hnd]; exact uponIn_of h⟩
def nodefB (o : Oper) : Bool := match o.op with | .defer _ => false | _ => true
theorem nodef {o : Oper} (h : nodefB o = true) : ∀ c, o.op ≠ .defer c := fun c e => by unfold nodefB at h; rw [e] at h; cases h
theorem listIn_of {ops : Array Oper} (hQ : ¬ LetsOut Q) : ∀ {r : List Oper} {a : Act} {w : World}, r.all nodefB = true → wpList P ops Q r a w → wpListIn (Fence.wide.inRound l) n P ops Q r a w
  | [], a, w, _, h => h
  | o :: r, a, w, hd, h => by
    simp only [List.all_cons, Bool.and_eq_true] at hd
    unfold wpList at h
    unfold wpListIn
    by_cases hw : Region.wanted o (yielded ops a.tmps) = true
    · rw [if_pos hw] at h ⊢
      rcases h with h | ⟨_, h⟩
      · exact Oper.wpIn_mono (fun a w h => listIn_of hQ hd.2 h) (operIn_of (nodef hd.1) h)
      · exact absurd h hQ
    · rw [if_neg hw] at h ⊢
      exact ⟨fun _ _ => trivial, listIn_of hQ hd.2 h⟩
theorem anyIn_of {ops : Array Oper} (hQ : ¬ LetsOut Q) (hd : ∀ (i : Nat) (o : Oper), ops[i]? = some o → nodefB o = true) : ∀ (fuel : Nat) (listed : Array Bool) (a : Act) (w : World), wpAny P .any ops Q fuel listed a w → wpAnyIn (Fence.wide.inRound l) n P .any ops Q fuel listed a w
  | 0, listed, a, w, h => h
  | fuel + 1, listed, a, w, h => by
    refine ⟨h.1, fun i hi => ?_⟩
    have h1 := h.2 i hi
    unfold wpOp at h1
    unfold wpOpIn
    cases ho : ops[i]? with
    | none => rw [ho] at h1; exact anyIn_of hQ hd fuel _ _ _ h1
    | some o =>
      rw [ho] at h1
      simp only at h1 ⊢
      by_cases hw : Region.wanted o (yielded ops a.tmps) = true
      · rw [if_pos hw] at h1 ⊢
        rcases h1 with h1 | ⟨_, h1⟩
        · exact Oper.wpIn_mono (fun a w h => anyIn_of hQ hd fuel _ _ _ h) (operIn_of (nodef (hd i o ho)) h1)
        · exact absurd h1 hQ
      · rw [if_neg hw] at h1 ⊢
        exact ⟨fun _ _ => trivial, anyIn_of hQ hd fuel _ _ _ h1⟩
end
section
variable {P : Program} {Q : Exit → Act → World → Prop} {a : Act} {w w0 : World} {M : List Nat} {L : List (Nat × List Value × TypeId)} {l : List Oper} {n lp : Nat}
/-- XSched's rule, within a round. -/
theorem wpIn_region_sched_st {id : Nat} (st : St M w0 w L) (tk ld : List Nat) (L1 : List (Nat × List Value × TypeId)) (hL1 : ∀ w', St M w0 w' L → St M w0 w' L1) (hm : P.follows .mixedOrders = true) (hB : schedB l.toArray tk ld = true) (hd : l.all nodefB = true) (hQ : ¬ LetsOut Q)
    (h : wpQuiet P l.toArray (fun w' => St M w0 w' L1) (fun a' => ∀ w', St M w0 w' L → wpLoud P l.toArray (fun w' => St M w0 w' L1) Q (sel l ld) a' w') (sel l tk) a) : (Code.region id l.toArray true).wpIn (Fence.wide.inRound lp) n P Q a w := by
  simp only [schedB, Bool.and_eq_true, decide_eq_true_eq] at hB
  obtain ⟨⟨⟨hs, ht⟩, hl⟩, hn⟩ := hB
  refine wpIn_region_any hm (anyIn_of hQ (fun i o ho => List.all_eq_true.1 hd o (List.mem_of_getElem? (by simpa using ho))) _ _ _ _ ?_)
  have st1 := st.call (Keep.drew w)
  rw [← hn]
  refine wpAny_mono (Q := NormQ Q) (fun e a w h => by cases e <;> first | exact h | exact h.elim) _ _ _ _ ?_
  refine wpAny_of_held (S := fun w' => St M w0 w' L1) _ _ _ _ ?_
  rw [hn]
  have hk := wpAnyH_takes (P := P) (Q := NormQ Q) (S := fun w' => St M w0 w' L1) (g := ld.length) hs (fun c a d v w h => h.elim) tk l (Array.replicate l.toArray.size false) a w.drew rfl ht (hL1 _ st1)
    (wpQuiet_mono (fun a' ha => wpAnyH_loud ld l _ a' _ rfl hl (ha _ st1)) _ _ h)
  rw [hn] at hk
  exact hk
theorem wpIn_region_lst {id : Nat} (hd : l.all nodefB = true) (hQ : ¬ LetsOut Q) (h : wpList P l.toArray Q l a w) : (Code.region id l.toArray false).wpIn (Fence.wide.inRound lp) n P Q a w :=
  wpIn_region_lit (listIn_of hQ hd h)
end
end Go.Proofs.Ytmndbmapepenjaa
