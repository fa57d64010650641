/- Books that a function makes: grown by frames and by whole books, copied; no condition. -/
import Derived.Test.YtmfgbkmkcljciaaDoorVal2
import Derived.Test.YtmfgbkmkcljciaaDoorBk2
import Derived.Lib.SliceRun
namespace Go.Proofs.YtmfgbkmkcljciaaDoor
open Go.RowKit
set_option linter.unusedSimpArgs false
set_option linter.unusedVariables false

/-- A slice of the call's own: n elements, their cells xs, before what else the call has made (L). -/
def Own (E : TypeId) (sz n : Nat) (xs : List Value) (M : List Nat) (w0 w : World) (L : List (Nat × List Value × TypeId)) (v : Value) : Prop :=
  ∃ g cap spare, v = .slice (some ⟨g, 0, none⟩) n cap ∧ St M w0 w ((g, xs ++ spare, E) :: L) ∧ (xs ++ spare).length = cap * sz ∧ cap ≤ maxLen
theorem Own.gives {E : TypeId} {sz n : Nat} {xs : List Value} {w0 w : World} {L : List (Nat × List Value × TypeId)} {v : Value} (h : Own E sz n xs [] w0 w L v) : Gives E sz n xs w0 v w := by
  obtain ⟨g, cap, spare, hv, st, h1, h2⟩ := h
  exact ⟨g, cap, spare, hv, out_of st .here, st.get .here, h1, h2⟩
theorem Own.keep {E : TypeId} {sz n : Nat} {xs : List Value} {w0 w : World} {L : List (Nat × List Value × TypeId)} {v : Value} (h : Own E sz n xs [] w0 w L v) : Keep [] w0 w := by
  obtain ⟨g, cap, spare, hv, st, h1, h2⟩ := h
  exact st.keep
/-- What a function answers that hands back a slice of its own: nil where nilOk lets it be. -/
def SlOut (E : TypeId) (sz n : Nat) (xs : List Value) (nilOk : Prop) (w : World) (v : Value) (w' : World) : Prop := (nilOk ∧ n = 0 ∧ v = .slice none 0 0) ∨ Gives E sz n xs w v w'
theorem Gives.since {E : TypeId} {sz n : Nat} {xs : List Value} {w w1 w2 : World} {v : Value} (h : Gives E sz n xs w1 v w2) (hk : Keep [] w w1) : Gives E sz n xs w v w2 := by
  obtain ⟨g, cap, spare, hv, hg, h1, h2, h3⟩ := h
  exact ⟨g, cap, spare, hv, Nat.le_trans hk.size hg, h1, h2, h3⟩
theorem SlOut.since {E : TypeId} {sz n : Nat} {xs : List Value} {q q' : Prop} {w w1 w2 : World} {v : Value} (h : SlOut E sz n xs q w1 v w2) (hk : Keep [] w w1) (hq : q → q') : SlOut E sz n xs q' w v w2 := by
  rcases h with ⟨h1, h2, h3⟩ | h
  · exact Or.inl ⟨hq h1, h2, h3⟩
  · exact Or.inr (h.since hk)
def BookPost (R : List Fm) (n : Nat) (nilOk : Prop) (w : World) (e : Ending) (w' : World) : Prop := ∃ v, e = .returned v ∧ SlOut 33 12 n (encs fv R) nilOk w v w' ∧ Keep [] w w'
def BookCode (R : List Fm) (n : Nat) (code : Int) (nilOk : Prop) (w : World) (e : Ending) (w' : World) : Prop := ∃ v, e = .returned (.tuple #[v, .int .i64 code]) ∧ SlOut 33 12 n (encs fv R) nilOk w v w' ∧ Keep [] w w'

section
variable {P : Program} {ops : Array Oper} {rest : List Oper} {o : Oper} {a : Act} {w w0 : World} {Q : Exit → Act → World → Prop} {M : List Nat} {L : List (Nat × List Value × TypeId)}
theorem gate_app {s x : Operand} {T T' : TypeId} (_ho : o.op = .call { callee := .builtin .append, args := #[s, x], argTypes := #[T, T'] }) (h : wpList P ops Q (o :: rest) a w) : wpList P ops Q (o :: rest) a w := h
/-- A slice of the call's own grows by what another shows. -/
theorem ia_appendR {s x : Operand} {T E : TypeId} {sz y g n cap m c i : Nat} {z xs spare news : List Value} {p : Option Addr} (st : St M w0 w L) (hgd : o.guard = none) (ho : o.op = .call { callee := .builtin .append, args := #[s, x], argTypes := #[T, T] }) (hs : a.eval s = .slice (some ⟨g, 0, none⟩) n cap) (hx : a.eval x = .slice p m c)
    [hT : SlcC P T E sz y z] [ha : AtC g (xs ++ spare) E i L] (hxl : xs.length = n * sz) (hcap : (xs ++ spare).length = cap * sz) (hcm : cap ≤ maxLen) (hr : Rd w p m news) (hp : p = none → m = 0) (hnl : news.length = m * sz) (h1 : ∀ u ∈ news, u.oneCell' = true)
    (h63 : n + m ≤ maxLen) (hby : (n + m) * y ≤ 140737488355328)
    (h : ∀ g' cap' spare' w1, St M w0 w1 (L.set i (g', (xs ++ news) ++ spare', E)) → ((xs ++ news) ++ spare').length = cap' * sz → cap' ≤ maxLen → wpList P ops Q rest (a.put o.dst (.slice (some ⟨g', 0, none⟩) (n + m) cap')) w1) : wpList P ops Q (o :: rest) a w := by
  have hup : ∀ g' new, Upd g g' (xs ++ spare) new E L (L.set i (g', new, E)) := by
    have := ha.at_
    clear h st hr ha
    induction L generalizing i with
    | nil => simp at this
    | cons x L ih =>
      intro g' new
      cases i with
      | zero => simp at this; subst this; exact .here
      | succ i => exact .there (ih (i := i) (by simpa using this) g' new)
  cases p with
  | none =>
    have hm : m = 0 := hp rfl
    subst hm
    have hnews : news = [] := List.eq_nil_of_length_eq_zero (by rw [hnl, Nat.zero_mul])
    subst hnews
    obtain ⟨u, v, hi, hs', hy', hz, hc⟩ := hT.out.i
    have hb : Blk w g (xs ++ spare) E := st.atC
    have hle : n ≤ cap := by
      rcases Nat.lt_or_ge cap n with h2 | h2
      · have h3 : (cap + 1) * sz ≤ n * sz := Nat.mul_le_mul_right _ h2
        rw [Nat.succ_mul] at h3
        have := hT.out.p
        rw [List.length_append] at hcap
        omega
      · exact h2
    refine wpList_plain hgd fun K hK => ?_
    have hrun : (Builtin.append_ #[T, T] o.type #[.slice (some ⟨g, 0, none⟩) n cap, .slice none 0 c]).run P w = .ok (.slice (some ⟨g, 0, none⟩) n cap) w := by
      simp [Builtin.append_, run_underlying hT.out.u, sizeOf, typeInfo, hi, Builtin.lenOf, Builtin.firstCells, hle, storeCells]
    unfold Oper.wp execOp
    simp only [ho, resolve, invoke, builtin, Sem.run_bind, Sem.run_pure, Result.andThen_ok, List.map_toArray, List.map_cons, List.map_nil, hs, hx, hrun]
    have hset : L.set i (g, (xs ++ []) ++ spare, E) = L := by
      rw [List.append_nil]
      apply List.ext_getElem?
      intro j
      rw [List.getElem?_set]
      split
      · rename_i e; subst e
        have := ha.at_
        rw [this]
        have hlt := (List.getElem?_eq_some_iff.1 this).1
        simp [hlt]
      · rfl
    exact hK _ _ (h g cap spare w (by rw [hset]; exact st) (by rw [List.append_nil]; exact hcap) hcm)
  | some ad =>
    have hnews : ∀ j u, news[j]? = some u → w.cell? (ad.add j) = some u := by
      intro j u hj
      have hjl := (List.getElem?_eq_some_iff.1 hj).1
      have hm : 0 < m := by
        rcases Nat.eq_zero_or_pos m with h0 | h0
        · subst h0; rw [hnl, Nat.zero_mul] at hjl; omega
        · exact h0
      obtain ⟨b, f, hp', hc⟩ := hr hm
      injection hp' with hp'
      subst hp'
      rw [Addr.add_lit]
      exact hc.2 j u hj
    exact wpl_append hgd s x T ho hT.out g n cap hs ad m c hx news hnl hnews h1 st xs spare (fun g' new => L.set i (g', new, E)) hup hxl hcap hcm h63 hby h
end
theorem ia_appendR0 {P : Program} {ops : Array Oper} {rest : List Oper} {o : Oper} {a : Act} {w w0 : World} {Q : Exit → Act → World → Prop} {M : List Nat} {L : List (Nat × List Value × TypeId)} {s x : Operand} {T E : TypeId} {sz y g m c i : Nat} {z news : List Value} {p : Option Addr} (st : St M w0 w L) (hgd : o.guard = none) (ho : o.op = .call { callee := .builtin .append, args := #[s, x], argTypes := #[T, T] }) (hs : a.eval s = .slice (some ⟨g, 0, none⟩) 0 0) (hx : a.eval x = .slice p m c)
    [hT : SlcC P T E sz y z] [ha : AtC g [] E i L] (hr : Rd w p m news) (hp : p = none → m = 0) (hnl : news.length = m * sz) (h1 : ∀ u ∈ news, u.oneCell' = true) (h63 : m ≤ maxLen) (hby : m * y ≤ 140737488355328)
    (h : ∀ g' cap' spare' w1, St M w0 w1 (L.set i (g', news ++ spare', E)) → (news ++ spare').length = cap' * sz → cap' ≤ maxLen → wpList P ops Q rest (a.put o.dst (.slice (some ⟨g', 0, none⟩) m cap')) w1) : wpList P ops Q (o :: rest) a w :=
  ia_appendR (xs := []) (spare := []) (ha := ha) st hgd ho hs hx (by simp) (by simp) (Nat.zero_le _) hr hp hnl h1 (by rw [Nat.zero_add]; exact h63) (by rw [Nat.zero_add]; exact hby)
    (fun g' cap' spare' w1 st hc hm => by rw [Nat.zero_add]; exact h g' cap' spare' w1 (by simpa using st) (by simpa using hc) hm)
theorem Rd.fr {w : World} {g : Nat} {x : List Value} {T : TypeId} (h : Blk w g x T) : Rd w (some ⟨g, 0, none⟩) 1 x := .of0 h

/-! ### Copied -/
section
variable {P : Program} {ops : Array Oper} {rest : List Oper} {o : Oper} {a : Act} {w w0 : World} {Q : Exit → Act → World → Prop} {M : List Nat} {L : List (Nat × List Value × TypeId)}
theorem ia_bsl0 {sl : Nat} {T E : TypeId} {s y : Nat} {z : List Value} (st : St M w0 w L) (_hN : o.dst = some sl) (hgd : o.guard = none) (ho : o.op = .buildSlice T 0 #[]) [hT : SlcC P T E s y z]
    (h : ∀ B w1, St M w0 w1 ((B, [], E) :: L) → wpList P ops Q rest (a.put o.dst (.slice (some ⟨B, 0, none⟩) 0 0)) w1) : wpList P ops Q (o :: rest) a w := wpl_buildSlice0 hgd T ho hT.out st h
theorem ia_bsl1 {sl : Nat} {T E : TypeId} {s y : Nat} {z cs : List Value} {x : Operand} {v : Value} (st : St M w0 w L) (_hN : o.dst = some sl) (hgd : o.guard = none) (ho : o.op = .buildSlice T 1 #[(0, x)]) (hx : a.eval x = v) (hcs : v.cells = cs.toArray) [hT : SlcC P T E s y z] (hl : cs.length = s) (h24 : s ≤ 16777216)
    (h : ∀ B w1, St M w0 w1 ((B, cs, E) :: L) → wpList P ops Q rest (a.put o.dst (.slice (some ⟨B, 0, none⟩) 1 1)) w1) : wpList P ops Q (o :: rest) a w := wpl_buildSlice1 hgd T x ho v hx cs hcs hT.out hl h24 st h
/-- A part of a slice. -/
theorem ia_cut {α : Type} {e : α → List Value} {T E : TypeId} {s y n c : Nat} {z : List Value} {x il ih : Operand} {p : Option Addr} {k k' : IntKind} {l h : Nat} {B : List α} (hes : ∀ a, (e a).length = s) (hgd : o.guard = none) (ho : o.op = .slice T x (some il) (some ih) none) (hx : a.eval x = .slice p n c) (hil : a.eval il = .int k l) (hih : a.eval ih = .int k' h) [hT : SlcC P T E s y z]
    (hB : B.length = n) (hlh : l ≤ h) (hhn : h ≤ n) (hnc : n ≤ c) (hr : Rd w p n (encs e B))
    (hk : ∀ p2, (p2 = none ↔ p = none) → Rd w p2 (h - l) (encs e ((B.drop l).take (h - l))) → wpList P ops Q rest (a.put o.dst (.slice p2 (h - l) (c - l))) w) : wpList P ops Q (o :: rest) a w := by
  have he : P.elem T = E := by unfold Program.elem; rw [hT.out.u]
  have hu : P.underlying T = some (.slice (P.elem T)) := by rw [he]; exact hT.out.u
  have hrun := run_slice_lh (P := P) w T p n c hu k k' l h (by omega) (by omega) (by omega)
  rw [he, hT.out.sizeOf w] at hrun
  simp only [Result.andThen_ok, Int.toNat_natCast, sliced] at hrun
  refine wpl_val hgd (.slice (if c = l then p else p.map (·.add (l * s))) (h - l) (c - l)) (by
    unfold execOp
    simp only [ho, hx, hil, hih, Sem.run_bind, Sem.run_pure, Result.andThen_ok, Option.map_some, Option.map_none, run_sliceAt_slice w T _ _ _ _ hu, hrun]) (hk _ ?_ ?_)
  · split
    · exact Iff.rfl
    · cases p <;> simp
  · intro hpos
    obtain ⟨b, f, hp, hc⟩ := hr (by omega)
    subst hp
    rw [if_neg (by omega)]
    refine ⟨b, f + l * s, by simp [Addr.add_lit], hc.1, fun j v hj => ?_⟩
    have hjl : j < ((B.drop l).take (h - l)).length * s := by rw [← encs_length hes]; exact (List.getElem?_eq_some_iff.1 hj).1
    rw [Nat.add_assoc]
    refine hc.2 _ v ?_
    rw [← encs_take hes, List.getElem?_take, if_pos (by
      rw [List.length_take, List.length_drop] at hjl
      exact Nat.lt_of_lt_of_le hjl (Nat.mul_le_mul_right _ (Nat.min_le_left _ _)))] at hj
    rw [← encs_drop hes, List.getElem?_drop] at hj
    exact hj
end

theorem eqBook_z {m : Nat} (hm : m = 0) (p p' : Option Addr) (c c' : Nat) (w : World) : Calls Tryd.prog 6 #[.slice p 0 c, .slice p' m c'] w fun e w' => e = .returned (.bool true) ∧ Keep [] w w' := by
  subst hm; exact eqBook_0 p p' c c' w
theorem eqBook_v {R : List Fm} {m : Nat} (hR : R.length = m) (hm : m ≤ 4000000) {p p' : Option Addr} {c c' : Nat} {w : World} (hr : Rd w p m (encs fv R)) (hr' : Rd w p' m (encs fv R)) :
    Calls Tryd.prog 6 #[.slice p m c, .slice p' m c'] w fun e w' => e = .returned (.bool true) ∧ Keep [] w w' := eqBook_c R m hR hm p p' c c' w hr hr'
theorem markBook_k {n c k0 K : Nat} {k : Int} (hk : k = (k0 : Nat)) (hK : k0 + n * 12 = K) (hn : n ≤ 2000000) (hk0 : k0 ≤ 100000000) {g : Nat} {cs : List Value} {T : TypeId} {w : World} (hb : Blk w g cs T) (hcs : n * 12 ≤ cs.length) :
    Calls Tryd.prog 7 #[.slice (some ⟨g, 0, none⟩) n c, .int .i64 k] w fun e w' => e = .returned (.int .i64 (K : Nat)) ∧ Keep [g] w w' ∧ Blk w' g (marks (mkF k0) (n * 12) cs) T := by
  subst hK; subst hk; exact markBook_c n c k0 hn hk0 g cs hcs T w hb
theorem heldBook_k {n c k0 K : Nat} {k : Int} (hk : k = (k0 : Nat)) (hK : k0 + n * 12 = K) (hn : n ≤ 2000000) (hk0 : k0 ≤ 100000000) {g : Nat} {cs : List Value} {T : TypeId} {w : World} (hb : Blk w g (marks (mkF k0) (n * 12) cs) T) :
    Calls Tryd.prog 8 #[.slice (some ⟨g, 0, none⟩) n c, .int .i64 k] w fun e w' => e = .returned (.int .i64 (K : Nat)) ∧ Keep [] w w' := by
  subst hK; subst hk; exact heldBook_c n c k0 hn hk0 g cs T w hb
theorem markBook_z {p : Option Addr} {c : Nat} {k : Int} {k0 : Nat} (hk : k = (k0 : Nat)) (w : World) : Calls Tryd.prog 7 #[.slice p 0 c, .int .i64 k] w fun e w' => e = .returned (.int .i64 k) ∧ Keep [] w w' := by
  subst hk; exact markBook_0 p c k0 w
theorem heldBook_z {p : Option Addr} {c : Nat} {k : Int} {k0 : Nat} (hk : k = (k0 : Nat)) (w : World) : Calls Tryd.prog 8 #[.slice p 0 c, .int .i64 k] w fun e w' => e = .returned (.int .i64 k) ∧ Keep [] w w' := by
  subst hk; exact heldBook_0 p c k0 w
end Go.Proofs.YtmfgbkmkcljciaaDoor
