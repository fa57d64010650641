/- Texts of this seat, one behind the other: Res, B3, B7, B8, CutB, Sched, B9, Text, Sx, Spl, DoorW, FText, RdP, RbP, Rd, LRd; no condition. -/
import Derived.Test.YtmfgbkmkcljciaaGreatDoorM2
import Derived.Lib.SliceRun
import Derived.Test.YtmfgbkmkcljciaaGreatDoorM1
import Derived.Lib.Tables
import Derived.Laws.Strings2
import Derived.Laws.Strings3
import Derived.Laws.Strings
import Derived.Test.YtmfgbkmkcljciaaGreatDoorRows
import Derived.HandedShaped
import Derived.MakeChecks
import Derived.LaidHandle
import Derived.Stop.LaidErr
import Derived.Shelf.Vars
import Derived.Lib.Strings
import Derived.Lib.IndexMore
import Derived.Lib.CountLaws
import Derived.Lib.Join
/- Books that a function makes: grown by frames and by whole books, copied; no condition. -/
namespace Go.Proofs.YtmfgbkmkcljciaaGreatDoor
open Go.RowKit
set_option linter.unusedSimpArgs false
set_option linter.unusedVariables false

/-- A slice of the call's own: n elements, their cells xs, before what else the call has made (L). -/
def Own (E : TypeId) (sz n : Nat) (xs : List Value) (M : List Nat) (w0 w : World) (L : List (Nat × List Value × TypeId)) (v : Value) : Prop :=
  ∃ g cap spare, v = .slice (some ⟨g, 0, none⟩) n cap ∧ St M w0 w ((g, xs ++ spare, E) :: L) ∧ (xs ++ spare).length = cap * sz ∧ cap ≤ maxLen
theorem Own.gives {E : TypeId} {sz n : Nat} {xs : List Value} {w0 w : World} {L : List (Nat × List Value × TypeId)} {v : Value} (h : Own E sz n xs [] w0 w L v) : Gives E sz n xs w0 v w := by
  obtain ⟨g, cap, spare, hv, st, h1, h2⟩ := h
  exact ⟨g, cap, spare, hv, out_of st .here, st.get .here, h1, h2⟩
theorem Own.keep {E : TypeId} {sz n : Nat} {xs : List Value} {w0 w : World} {L : List (Nat × List Value × TypeId)} {v : Value} (h : Own E sz n xs [] w0 w L v) : Keep [] w0 w := by
  obtain ⟨g, cap, spare, hv, st, h1, h2⟩ := h
  exact st.keep
/-- What a function answers that hands back a slice of its own: nil where nilOk lets it be. -/
def SlOut (E : TypeId) (sz n : Nat) (xs : List Value) (nilOk : Prop) (w : World) (v : Value) (w' : World) : Prop := (nilOk ∧ n = 0 ∧ v = .slice none 0 0) ∨ Gives E sz n xs w v w'
theorem Gives.since {E : TypeId} {sz n : Nat} {xs : List Value} {w w1 w2 : World} {v : Value} (h : Gives E sz n xs w1 v w2) (hk : Keep [] w w1) : Gives E sz n xs w v w2 := by
  obtain ⟨g, cap, spare, hv, hg, h1, h2, h3⟩ := h
  exact ⟨g, cap, spare, hv, Nat.le_trans hk.size hg, h1, h2, h3⟩
theorem SlOut.since {E : TypeId} {sz n : Nat} {xs : List Value} {q q' : Prop} {w w1 w2 : World} {v : Value} (h : SlOut E sz n xs q w1 v w2) (hk : Keep [] w w1) (hq : q → q') : SlOut E sz n xs q' w v w2 := by
  rcases h with ⟨h1, h2, h3⟩ | h
  · exact Or.inl ⟨hq h1, h2, h3⟩
  · exact Or.inr (h.since hk)
def BookPost (R : List Fm) (n : Nat) (nilOk : Prop) (w : World) (e : Ending) (w' : World) : Prop := ∃ v, e = .returned v ∧ SlOut 42 12 n (encs fv R) nilOk w v w' ∧ Keep [] w w'
def BookCode (R : List Fm) (n : Nat) (code : Int) (nilOk : Prop) (w : World) (e : Ending) (w' : World) : Prop := ∃ v, e = .returned (.tuple #[v, .int .i64 code]) ∧ SlOut 42 12 n (encs fv R) nilOk w v w' ∧ Keep [] w w'

section
variable {P : Program} {ops : Array Oper} {rest : List Oper} {o : Oper} {a : Act} {w w0 : World} {Q : Exit → Act → World → Prop} {M : List Nat} {L : List (Nat × List Value × TypeId)}
theorem gate_app {s x : Operand} {T T' : TypeId} (_ho : o.op = .call { callee := .builtin .append, args := #[s, x], argTypes := #[T, T'] }) (h : wpList P ops Q (o :: rest) a w) : wpList P ops Q (o :: rest) a w := h
/-- A slice of the call's own grows by what another shows. -/
theorem ia_appendR {s x : Operand} {T E : TypeId} {sz y g n cap m c i : Nat} {z xs spare news : List Value} {p : Option Addr} (st : St M w0 w L) (hgd : o.guard = none) (ho : o.op = .call { callee := .builtin .append, args := #[s, x], argTypes := #[T, T] }) (hs : a.eval s = .slice (some ⟨g, 0, none⟩) n cap) (hx : a.eval x = .slice p m c)
    [hT : SlcC P T E sz y z] [ha : AtC g (xs ++ spare) E i L] (hxl : xs.length = n * sz) (hcap : (xs ++ spare).length = cap * sz) (hcm : cap ≤ maxLen) (hr : Rd w p m news) (hp : p = none → m = 0) (hnl : news.length = m * sz) (h1 : ∀ u ∈ news, u.oneCell' = true)
    (h63 : n + m ≤ maxLen) (hby : (n + m) * y ≤ 140737488355328)
    (h : ∀ g' cap' spare' w1, St M w0 w1 (L.set i (g', (xs ++ news) ++ spare', E)) → ((xs ++ news) ++ spare').length = cap' * sz → cap' ≤ maxLen → wpList P ops Q rest (a.put o.dst (.slice (some ⟨g', 0, none⟩) (n + m) cap')) w1) : wpList P ops Q (o :: rest) a w := by
  have hup : ∀ g' new, Upd g g' (xs ++ spare) new E L (L.set i (g', new, E)) := by
    have := ha.at_
    clear h st hr ha
    induction L generalizing i with
    | nil => simp at this
    | cons x L ih =>
      intro g' new
      cases i with
      | zero => simp at this; subst this; exact .here
      | succ i => exact .there (ih (i := i) (by simpa using this) g' new)
  cases p with
  | none =>
    have hm : m = 0 := hp rfl
    subst hm
    have hnews : news = [] := List.eq_nil_of_length_eq_zero (by rw [hnl, Nat.zero_mul])
    subst hnews
    obtain ⟨u, v, hi, hs', hy', hz, hc⟩ := hT.out.i
    have hb : Blk w g (xs ++ spare) E := st.atC
    have hle : n ≤ cap := by
      rcases Nat.lt_or_ge cap n with h2 | h2
      · have h3 : (cap + 1) * sz ≤ n * sz := Nat.mul_le_mul_right _ h2
        rw [Nat.succ_mul] at h3
        have := hT.out.p
        rw [List.length_append] at hcap
        omega
      · exact h2
    refine wpList_plain hgd fun K hK => ?_
    have hrun : (Builtin.append_ #[T, T] o.type #[.slice (some ⟨g, 0, none⟩) n cap, .slice none 0 c]).run P w = .ok (.slice (some ⟨g, 0, none⟩) n cap) w := by
      simp [Builtin.append_, run_underlying hT.out.u, sizeOf, typeInfo, hi, Builtin.lenOf, Builtin.firstCells, hle, storeCells]
    unfold Oper.wp execOp
    simp only [ho, resolve, invoke, builtin, Sem.run_bind, Sem.run_pure, Result.andThen_ok, List.map_toArray, List.map_cons, List.map_nil, hs, hx, hrun]
    have hset : L.set i (g, (xs ++ []) ++ spare, E) = L := by
      rw [List.append_nil]
      apply List.ext_getElem?
      intro j
      rw [List.getElem?_set]
      split
      · rename_i e; subst e
        have := ha.at_
        rw [this]
        have hlt := (List.getElem?_eq_some_iff.1 this).1
        simp [hlt]
      · rfl
    exact hK _ _ (h g cap spare w (by rw [hset]; exact st) (by rw [List.append_nil]; exact hcap) hcm)
  | some ad =>
    have hnews : ∀ j u, news[j]? = some u → w.cell? (ad.add j) = some u := by
      intro j u hj
      have hjl := (List.getElem?_eq_some_iff.1 hj).1
      have hm : 0 < m := by
        rcases Nat.eq_zero_or_pos m with h0 | h0
        · subst h0; rw [hnl, Nat.zero_mul] at hjl; omega
        · exact h0
      obtain ⟨b, f, hp', hc⟩ := hr hm
      injection hp' with hp'
      subst hp'
      rw [Addr.add_lit]
      exact hc.2 j u hj
    exact wpl_append hgd s x T ho hT.out g n cap hs ad m c hx news hnl hnews h1 st xs spare (fun g' new => L.set i (g', new, E)) hup hxl hcap hcm h63 hby h
end
theorem ia_appendR0 {P : Program} {ops : Array Oper} {rest : List Oper} {o : Oper} {a : Act} {w w0 : World} {Q : Exit → Act → World → Prop} {M : List Nat} {L : List (Nat × List Value × TypeId)} {s x : Operand} {T E : TypeId} {sz y g m c i : Nat} {z news : List Value} {p : Option Addr} (st : St M w0 w L) (hgd : o.guard = none) (ho : o.op = .call { callee := .builtin .append, args := #[s, x], argTypes := #[T, T] }) (hs : a.eval s = .slice (some ⟨g, 0, none⟩) 0 0) (hx : a.eval x = .slice p m c)
    [hT : SlcC P T E sz y z] [ha : AtC g [] E i L] (hr : Rd w p m news) (hp : p = none → m = 0) (hnl : news.length = m * sz) (h1 : ∀ u ∈ news, u.oneCell' = true) (h63 : m ≤ maxLen) (hby : m * y ≤ 140737488355328)
    (h : ∀ g' cap' spare' w1, St M w0 w1 (L.set i (g', news ++ spare', E)) → (news ++ spare').length = cap' * sz → cap' ≤ maxLen → wpList P ops Q rest (a.put o.dst (.slice (some ⟨g', 0, none⟩) m cap')) w1) : wpList P ops Q (o :: rest) a w :=
  ia_appendR (xs := []) (spare := []) (ha := ha) st hgd ho hs hx (by simp) (by simp) (Nat.zero_le _) hr hp hnl h1 (by rw [Nat.zero_add]; exact h63) (by rw [Nat.zero_add]; exact hby)
    (fun g' cap' spare' w1 st hc hm => by rw [Nat.zero_add]; exact h g' cap' spare' w1 (by simpa using st) (by simpa using hc) hm)
theorem Rd.fr {w : World} {g : Nat} {x : List Value} {T : TypeId} (h : Blk w g x T) : Rd w (some ⟨g, 0, none⟩) 1 x := .of0 h

/-! ### Copied -/
section
variable {P : Program} {ops : Array Oper} {rest : List Oper} {o : Oper} {a : Act} {w w0 : World} {Q : Exit → Act → World → Prop} {M : List Nat} {L : List (Nat × List Value × TypeId)}
theorem ia_bsl0 {sl : Nat} {T E : TypeId} {s y : Nat} {z : List Value} (st : St M w0 w L) (_hN : o.dst = some sl) (hgd : o.guard = none) (ho : o.op = .buildSlice T 0 #[]) [hT : SlcC P T E s y z]
    (h : ∀ B w1, St M w0 w1 ((B, [], E) :: L) → wpList P ops Q rest (a.put o.dst (.slice (some ⟨B, 0, none⟩) 0 0)) w1) : wpList P ops Q (o :: rest) a w := wpl_buildSlice0 hgd T ho hT.out st h
theorem ia_bsl1 {sl : Nat} {T E : TypeId} {s y : Nat} {z cs : List Value} {x : Operand} {v : Value} (st : St M w0 w L) (_hN : o.dst = some sl) (hgd : o.guard = none) (ho : o.op = .buildSlice T 1 #[(0, x)]) (hx : a.eval x = v) (hcs : v.cells = cs.toArray) [hT : SlcC P T E s y z] (hl : cs.length = s) (h24 : s ≤ 16777216)
    (h : ∀ B w1, St M w0 w1 ((B, cs, E) :: L) → wpList P ops Q rest (a.put o.dst (.slice (some ⟨B, 0, none⟩) 1 1)) w1) : wpList P ops Q (o :: rest) a w := wpl_buildSlice1 hgd T x ho v hx cs hcs hT.out hl h24 st h
/-- A part of a slice. -/
theorem ia_cut {α : Type} {e : α → List Value} {T E : TypeId} {s y n c : Nat} {z : List Value} {x il ih : Operand} {p : Option Addr} {k k' : IntKind} {l h : Nat} {B : List α} (hes : ∀ a, (e a).length = s) (hgd : o.guard = none) (ho : o.op = .slice T x (some il) (some ih) none) (hx : a.eval x = .slice p n c) (hil : a.eval il = .int k l) (hih : a.eval ih = .int k' h) [hT : SlcC P T E s y z]
    (hB : B.length = n) (hlh : l ≤ h) (hhn : h ≤ n) (hnc : n ≤ c) (hr : Rd w p n (encs e B))
    (hk : ∀ p2, (p2 = none ↔ p = none) → Rd w p2 (h - l) (encs e ((B.drop l).take (h - l))) → wpList P ops Q rest (a.put o.dst (.slice p2 (h - l) (c - l))) w) : wpList P ops Q (o :: rest) a w := by
  have he : P.elem T = E := by unfold Program.elem; rw [hT.out.u]
  have hu : P.underlying T = some (.slice (P.elem T)) := by rw [he]; exact hT.out.u
  have hrun := run_slice_lh (P := P) w T p n c hu k k' l h (by omega) (by omega) (by omega)
  rw [he, hT.out.sizeOf w] at hrun
  simp only [Result.andThen_ok, Int.toNat_natCast, sliced] at hrun
  refine wpl_val hgd (.slice (if c = l then p else p.map (·.add (l * s))) (h - l) (c - l)) (by
    unfold execOp
    simp only [ho, hx, hil, hih, Sem.run_bind, Sem.run_pure, Result.andThen_ok, Option.map_some, Option.map_none, run_sliceAt_slice w T _ _ _ _ hu, hrun]) (hk _ ?_ ?_)
  · split
    · exact Iff.rfl
    · cases p <;> simp
  · intro hpos
    obtain ⟨b, f, hp, hc⟩ := hr (by omega)
    subst hp
    rw [if_neg (by omega)]
    refine ⟨b, f + l * s, by simp [Addr.add_lit], hc.1, fun j v hj => ?_⟩
    have hjl : j < ((B.drop l).take (h - l)).length * s := by rw [← encs_length hes]; exact (List.getElem?_eq_some_iff.1 hj).1
    rw [Nat.add_assoc]
    refine hc.2 _ v ?_
    rw [← encs_take hes, List.getElem?_take, if_pos (by
      rw [List.length_take, List.length_drop] at hjl
      exact Nat.lt_of_lt_of_le hjl (Nat.mul_le_mul_right _ (Nat.min_le_left _ _)))] at hj
    rw [← encs_drop hes, List.getElem?_drop] at hj
    exact hj
end

set_option maxRecDepth 100000 in
theorem Clone_c (B : List Fm) (n : Nat) (hB : B.length = n) (hn : n ≤ 4000000) (p : Option Addr) (hp : p = none → n = 0) (c : Nat) (w : World) (hr : Rd w p n (encs fv B)) :
    Calls Tryz.prog 41 #[.slice p n c] w (BookPost B n (p = none) w) := by
  have st := St.start w
  have hlen : (encs fv B).length = n * 12 := by rw [encs_fv_length, hB]
  replace hlen := hid hlen
  clear hB
  cases p with
  | none =>
    obtain rfl : n = 0 := hp rfl
    have hnil := fun w => Lib.run_eql_slice_nil (P := Tryz.prog) w 25 42 none 0 c 0 0 Tryz.underlying25
    go_enter Tryz.func41, Tryz.ntmps41
    go_wp2_with fail
    go_ret
    exact ⟨_, rfl, Or.inl ⟨by simp, rfl, rfl⟩, st.keep⟩
  | some ad =>
    have hnil := fun w => Lib.run_eql_slice_nil (P := Tryz.prog) w 25 42 (some ad) n c 0 0 Tryz.underlying25
    clear hp
    go_enter Tryz.func41, Tryz.ntmps41
    go_wp2_with (first | ((with_reducible refine gate_bsl rfl ?_); refine ia_bsl0 (sl := 5) st rfl rfl rfl ?_; clear st; intro B5 _ st) | ((with_reducible refine gate_app rfl ?_); refine ia_appendR0 (news := encs fv B) st rfl rfl rfl rfl (hr.keep st.keep) (fun h => by cases h) hlen.out (encs_one fv_one _) (by unfold maxLen; omega) (by omega) ?_; clear st; intro g2 cap2 spare2 _ st hcap2 hcm2; (try simp only [List.set_cons_zero, List.set_cons_succ] at st)))
    go_ret
    exact ⟨_, rfl, Or.inr ⟨g2, cap2, spare2, rfl, out_of st .here, st.get .here, hcap2, hcm2⟩, st.keep⟩
end Go.Proofs.YtmfgbkmkcljciaaGreatDoor
/- The dots of a frame, one by one; no condition. -/
namespace Go.Proofs.YtmfgbkmkcljciaaGreatDoor
open Go.RowKit
set_option linter.unusedSimpArgs false
set_option linter.unusedVariables false

/-- The cells of a list of dots. -/
def dtv (l : List (Nat × Nat)) : List Value := l.flatMap fun d => [.int .i8 (d.1 : Int), .int .i8 (d.2 : Int)]
theorem dtv_length (l : List (Nat × Nat)) : (dtv l).length = l.length * 2 := by
  induction l with
  | nil => rfl
  | cons d l ih => simp only [dtv, List.flatMap_cons, List.length_append, List.length_cons, List.length_nil] at ih ⊢; omega
theorem dtv_append (l m : List (Nat × Nat)) : dtv (l ++ m) = dtv l ++ dtv m := by simp [dtv]
theorem dtv_one (l : List (Nat × Nat)) : ∀ v ∈ dtv l, v.oneCell' = true := by
  intro v hv
  simp only [dtv, List.mem_flatMap] at hv
  obtain ⟨d, _, hd⟩ := hv
  simp at hd
  rcases hd with rfl | rfl <;> rfl
theorem dtv_get (l : List (Nat × Nat)) : ∀ (i : Nat), i < l.length → (dtv l)[i * 2]? = some (.int .i8 ((l.getD i (0, 0)).1 : Int)) ∧ (dtv l)[i * 2 + 1]? = some (.int .i8 ((l.getD i (0, 0)).2 : Int)) := by
  induction l with
  | nil => intro i hi; simp at hi
  | cons d l ih =>
    intro i hi
    cases i with
    | zero => simp [dtv]
    | succ i =>
      have := ih i (by simpa using hi)
      simp only [dtv, List.flatMap_cons] at this ⊢
      rw [List.getElem?_append_right (by simp; omega), List.getElem?_append_right (by simp; omega)]
      simp only [List.length_cons, List.length_nil]
      rw [show (i + 1) * 2 - (0 + 1 + 1) = i * 2 by omega, show (i + 1) * 2 + 1 - (0 + 1 + 1) = i * 2 + 1 by omega]
      simpa using this
theorem built_dot (x y : Int) : Tryz.prog.built 108 [(0, .int .i8 x), (1, .int .i8 y)] = some [Value.int .i8 x, .int .i8 y].toArray := by kernel_rfl
theorem i8_wrap {n : Int} (h0 : -128 ≤ n) (h1 : n < 128) : IntKind.i8.wrap n = n := by
  simp [IntKind.wrap, IntKind.bits, IntKind.signed]; omega
def DotsPost (f : List Nat) (w : World) (e : Ending) (w' : World) : Prop := ∃ v, e = .returned v ∧ Gives 108 2 (dots f).length (dtv (dots f)) w v w' ∧ Keep [] w w'

set_option maxRecDepth 100000 in
theorem l01Dots_c (f : List Nat) (ok : FrOk f) (b o : Nat) (w : World) (hb : Cl w b o (frv f)) :
    Calls Tryz.prog 84 #[.pointer (some ⟨b, o, none⟩)] w (DotsPost f w) := by
  have hf := ok.len
  have st := St.start w
  go_enter Tryz.func84, Tryz.ntmps84
  go_wp2_with (first | ((with_reducible refine gate_bsl rfl ?_); refine wpl_buildSlice0 rfl _ rfl tDotS st ?_; clear st; intro B1 _ st))
  go_loopw [3, 4] (fun v i wr => ∃ (y g cap : Nat) (spare : List Value), y ≤ 12 ∧ i = .int .i64 y ∧ v = .slice (some ⟨g, 0, none⟩) (dotsTo f (12 * y)).length cap ∧
    St [] w wr [(g, dtv (dotsTo f (12 * y)) ++ spare, 108)] ∧ (dtv (dotsTo f (12 * y)) ++ spare).length = cap * 2 ∧ cap ≤ maxLen) (fun _ i _ => 12 - (intOf i).toNat)
  case atStart => exact ⟨0, B1, 0, [], by omega, rfl, rfl, st, rfl, Nat.zero_le _⟩
  case round =>
    clear st
    obtain ⟨y, g, cap, spare, hy, rfl, rfl, st, hcap, hcm⟩ := hrel
    by_cases hly : y < 12
    · obtain ⟨wo, rfl⟩ : ∃ wo : World, wo = wr := ⟨_, rfl⟩
      have hdy : decide ((y : Int) < 12) = true := by simp; omega
      have hcy := i8_wrap (n := (y : Int)) (by omega) (by omega)
      go_wp2_with fail
      go_loopw [3, 5] (fun v i wr => ∃ (x g cap : Nat) (spare : List Value), x ≤ 12 ∧ i = .int .i64 x ∧ v = .slice (some ⟨g, 0, none⟩) (dotsTo f (12 * y + x)).length cap ∧
        St [] w wr [(g, dtv (dotsTo f (12 * y + x)) ++ spare, 108)] ∧ (dtv (dotsTo f (12 * y + x)) ++ spare).length = cap * 2 ∧ cap ≤ maxLen) (fun _ i _ => 12 - (intOf i).toNat)
      case atStart => exact ⟨0, g, cap, spare, by omega, rfl, rfl, st, hcap, hcm⟩
      case round =>
        clear st hcap hcm
        obtain ⟨x, g, cap, spare, hx, rfl, rfl, st, hcap, hcm⟩ := hrel
        have HC := hid hcap
        clear hcap
        by_cases hlx : x < 12
        · have hcx := i8_wrap (n := (x : Int)) (by omega) (by omega)
          have hlen := dotsTo_length f (12 * y + x)
          by_cases hp : hasD f x y = true
          · have hI : hasI f x y = true := by rw [hasI_nat]; exact hp
            have HD := hid (dotsTo_hit f hlx hp)
            go_wp2_with (first | (go_at_call 101; refine (l01Has_c f ok b o x y _ (hb.keep st.keep (by simp))).mono ?_; rintro _ _ ⟨rfl, hk⟩; replace st := st.call hk; clear hk) | ((with_reducible refine gate_build rfl ?_); refine wpl_build rfl _ [(0, _), (1, _)] rfl _ (built_dot _ _) ?_) | ((with_reducible refine gate_bsl rfl ?_); refine wpl_buildSlice1 rfl _ _ rfl _ rfl _ rfl tDotS rfl (by decide) st ?_; clear st; intro _ _ st) | ((with_reducible refine gate_call rfl ?_); (refine wpl_append rfl _ _ _ rfl tDotS _ _ _ rfl _ _ _ rfl [.int .i8 (x : Int), .int .i8 (y : Int)] (by rfl) (fun j u hj => by rw [Addr.add_lit, Nat.zero_add]; exact (st.get (by repeat (first | exact At.here | apply At.there))).cellv hj) (by simp [Value.oneCell']) st (dtv (dotsTo f (12 * y + x))) spare _ (fun _ _ => (by repeat (first | exact Upd.here | apply Upd.there))) (dtv_length _) HC.out hcm (by unfold maxLen; omega) (by omega) ?_); clear st; intro g2 cap2 spare2 _ st hcap2 hcm2))
            go_roundw
            case rel =>
              have e : dtv (dotsTo f (12 * y + (x + 1))) = dtv (dotsTo f (12 * y + x)) ++ [.int .i8 (x : Int), .int .i8 (y : Int)] := by rw [HD.out, dtv_append]; rfl
              exact ⟨x + 1, g2, cap2, spare2, by omega, by go_num, by rw [HD.out, List.length_append]; rfl, by rw [e]; exact st.drop, by rw [e]; exact hcap2, hcm2⟩
            case measure => simp [intOf]; omega
          · have hp' : hasD f x y = false := by simpa using hp
            clear hp
            have hI : hasI f x y = false := by rw [hasI_nat]; exact hp'
            have HD := hid (dotsTo_miss f hlx hp')
            clear hp'
            go_wp2_with (first | (go_at_call 101; refine (l01Has_c f ok b o x y _ (hb.keep st.keep (by simp))).mono ?_; rintro _ _ ⟨rfl, hk⟩; replace st := st.call hk; clear hk))
            go_roundw
            case rel => exact ⟨x + 1, g, cap, spare, by omega, by go_num, by rw [HD.out], by rw [HD.out]; exact st, by rw [HD.out]; exact HC.out, hcm⟩
            case measure => simp [intOf]; omega
        · obtain rfl : x = 12 := by omega
          go_wp2_with fail
          go_roundw
          case rel => exact ⟨y + 1, g, cap, spare, by omega, by go_num, by rw [show 12 * (y + 1) = 12 * y + 12 by omega], by rw [show 12 * (y + 1) = 12 * y + 12 by omega]; exact st, by rw [show 12 * (y + 1) = 12 * y + 12 by omega]; exact HC.out, hcm⟩
          case measure => simp [intOf]; omega
    · obtain rfl : y = 12 := by omega
      have HC := hid hcap
      clear hcap
      go_wp2_with fail
      go_ret
      exact ⟨_, rfl, ⟨g, cap, spare, rfl, (st.ge _ List.mem_cons_self).elim id (fun h => by simp at h), st.get .here, HC.out, hcm⟩, st.keep⟩
end Go.Proofs.YtmfgbkmkcljciaaGreatDoor
/- Dots carried over: mirrored, turned, rolled; no condition. -/
namespace Go.Proofs.YtmfgbkmkcljciaaGreatDoor
open Go.RowKit
set_option linter.unusedSimpArgs false
set_option linter.unusedVariables false

/-! ### Numbers and fields -/
section
variable {P : Program} {T : TypeId}
theorem run_sub64 {a b : Int} (h0 : -9223372036854775808 ≤ a - b) (h1 : a - b ≤ 9223372036854775807) (w : World) : (binOp .sub T (.int .i64 a) (.int .i64 b)).run P w = .ok (.int .i64 (a - b)) w := by
  have e := IntWalk.i64_in (a - b) ⟨h0, h1⟩
  go_simp
theorem run_add64 {a b : Int} (h0 : -9223372036854775808 ≤ a + b) (h1 : a + b ≤ 9223372036854775807) (w : World) : (binOp .add T (.int .i64 a) (.int .i64 b)).run P w = .ok (.int .i64 (a + b)) w := by
  have e := IntWalk.i64_in (a + b) ⟨h0, h1⟩
  go_simp
end
theorem fld_dot0 (b f : Nat) (w' : World) : (Instr.fieldAt 108 (.pointer (some ⟨b, f, none⟩)) 0).run Tryz.prog w' = .ok (.pointer (some ⟨b, f + 0, none⟩)) w' := by
  simp [Instr.fieldAt, run_underlying Tryz.underlying108, Instr.sureAddr]
  go_simp
theorem fld_dot1 (b f : Nat) (w' : World) : (Instr.fieldAt 108 (.pointer (some ⟨b, f, none⟩)) 1).run Tryz.prog w' = .ok (.pointer (some ⟨b, f + 1, none⟩)) w' := by
  simp [Instr.fieldAt, run_underlying Tryz.underlying108, Instr.sureAddr]
  go_simp

/-! ### Dots, one after the other -/
theorem dot_mem {f : List Nat} {i : Nat} (hi : i < (dots f).length) : ((dots f).getD i (0, 0)).1 < 12 ∧ ((dots f).getD i (0, 0)).2 < 12 := by
  have h : (dots f).getD i (0, 0) ∈ dots f := by
    rw [List.getD_eq_getElem?_getD, List.getElem?_eq_getElem hi]; exact List.getElem_mem hi
  have := mem_dots.1 h
  exact ⟨this.1, this.2.1⟩
theorem dots_length (f : List Nat) : (dots f).length ≤ 144 := dotsTo_length f 144
theorem dot_get0 {l : List (Nat × Nat)} {spare : List Value} {i : Nat} (hi : i < l.length) : (dtv l ++ spare)[0 + i * 2 + 0]? = some (.int .i8 ((l.getD i (0, 0)).1 : Int)) := by
  rw [Nat.zero_add, Nat.add_zero, List.getElem?_append_left (by rw [dtv_length]; omega)]; exact (dtv_get l i hi).1
theorem dot_get1 {l : List (Nat × Nat)} {spare : List Value} {i : Nat} (hi : i < l.length) : (dtv l ++ spare)[0 + i * 2 + 1]? = some (.int .i8 ((l.getD i (0, 0)).2 : Int)) := by
  rw [Nat.zero_add, List.getElem?_append_left (by rw [dtv_length]; omega)]; exact (dtv_get l i hi).2
theorem putAll_frOk (l : List (Int × Int)) : FrOk (putAll l) := mk_frOk _
theorem putAll_length (l : List (Int × Int)) : (putAll l).length = 12 := mk_length _
theorem putI_putAll (l : List (Int × Int)) (x y : Int) : putI (putAll l) x y = putAll (l ++ [(x, y)]) := by
  unfold putI
  by_cases hp : placeB x y = true
  · rw [if_pos hp]
    obtain ⟨h1, h2, h3, h4⟩ := placeB_iff.1 hp
    rw [putAll_in l (by omega) (by omega), Int.toNat_of_nonneg h1, Int.toNat_of_nonneg h3]
  · rw [if_neg hp]
    exact putAll_out l fun h => hp (placeB_iff.2 h)
/-- The first k dots, carried over by t. -/
def over (t : Nat × Nat → Int × Int) (f : List Nat) (k : Nat) : List Nat := putAll (((dots f).take k).map t)
theorem over_zero (t : Nat × Nat → Int × Int) (f : List Nat) : over t f 0 = zf := putAll_nil
theorem over_frOk (t : Nat × Nat → Int × Int) (f : List Nat) (k : Nat) : FrOk (over t f k) := putAll_frOk _
theorem over_length (t : Nat × Nat → Int × Int) (f : List Nat) (k : Nat) : (over t f k).length = 12 := by unfold over putAll; exact mk_length _
theorem over_step (t : Nat × Nat → Int × Int) (f : List Nat) {k : Nat} (hk : k < (dots f).length) : putI (over t f k) (t ((dots f).getD k (0, 0))).1 (t ((dots f).getD k (0, 0))).2 = over t f (k + 1) := by
  unfold over
  rw [putI_putAll, List.take_succ_eq_append_getElem hk, List.map_append, List.getD_eq_getElem?_getD, List.getElem?_eq_getElem hk]
  rfl
theorem over_all (t : Nat × Nat → Int × Int) (f : List Nat) (p : Nat → Nat → Bool) (h : ∀ x y, x < 12 → y < 12 → (p x y = true ↔ ∃ x' y', x' < 12 ∧ y' < 12 ∧ hasD f x' y' = true ∧ t (x', y') = ((x : Int), (y : Int)))) : over t f (dots f).length = mk p := by
  unfold over putAll
  rw [List.take_of_length_le (Nat.le_refl _)]
  refine mk_congr fun x y hx hy => ?_
  rw [Bool.eq_iff_iff, List.any_map, any_dots, h x y hx hy]
  constructor
  · rintro ⟨x', y', h1, h2, h3, h4⟩
    exact ⟨x', y', h1, h2, h3, by simp at h4; exact Prod.ext h4.1 h4.2⟩
  · rintro ⟨x', y', h1, h2, h3, h4⟩
    exact ⟨x', y', h1, h2, h3, by simp [h4]⟩

theorem dot_at {f : List Nat} {k : Nat} (hk : k < (dots f).length) : ∃ dx dy : Nat, dx < 12 ∧ dy < 12 ∧ (∀ spare : List Value, (dtv (dots f) ++ spare)[0 + k * 2 + 0]? = some (.int .i8 (dx : Int))) ∧
    (∀ spare : List Value, (dtv (dots f) ++ spare)[0 + k * 2 + 1]? = some (.int .i8 (dy : Int))) ∧ ∀ t : Nat × Nat → Int × Int, putI (over t f k) (t (dx, dy)).1 (t (dx, dy)).2 = over t f (k + 1) :=
  ⟨((dots f).getD k (0, 0)).1, ((dots f).getD k (0, 0)).2, (dot_mem hk).1, (dot_mem hk).2, fun _ => dot_get0 hk, fun _ => dot_get1 hk, fun t => over_step t f hk⟩
/-! ### Mirrored and turned -/
def mirP (f : List Nat) (x y : Nat) : Bool := hasI f (11 - (x : Int)) y
def trnP (f : List Nat) (x y : Nat) : Bool := hasI f y (11 - (x : Int))
def mirT (d : Nat × Nat) : Int × Int := (11 - (d.1 : Int), d.2)
def trnT (d : Nat × Nat) : Int × Int := (11 - (d.2 : Int), d.1)
theorem hasI_in {f : List Nat} {x y : Int} : hasI f x y = true ↔ 0 ≤ x ∧ x < 12 ∧ 0 ≤ y ∧ y < 12 ∧ hasD f x.toNat y.toNat = true := by
  constructor
  · intro h
    have hp : placeB x y = true := by
      rcases Bool.eq_false_or_eq_true (placeB x y) with hp | hp
      · exact hp
      · rw [hasI_no f hp] at h; cases h
    obtain ⟨h1, h2, h3, h4⟩ := placeB_iff.1 hp
    refine ⟨h1, h2, h3, h4, ?_⟩
    rw [← hasI_nat, Int.toNat_of_nonneg h1, Int.toNat_of_nonneg h3]; exact h
  · rintro ⟨h1, h2, h3, h4, h5⟩
    rw [← hasI_nat, Int.toNat_of_nonneg h1, Int.toNat_of_nonneg h3] at h5; exact h5
theorem mir_all (f : List Nat) : over mirT f (dots f).length = mk (mirP f) := over_all _ _ _ fun x y hx hy => by
  unfold mirP
  rw [hasI_in]
  constructor
  · rintro ⟨h1, h2, h3, h4, h5⟩
    exact ⟨_, _, by omega, by omega, h5, by simp [mirT]; omega⟩
  · rintro ⟨x', y', h1, h2, h3, h4⟩
    simp only [mirT, Prod.mk.injEq] at h4
    obtain ⟨h4, h5⟩ := h4
    refine ⟨by omega, by omega, by omega, by omega, ?_⟩
    rw [show (11 - (x : Int)).toNat = x' by omega, show ((y : Int)).toNat = y' by omega]; exact h3
theorem trn_all (f : List Nat) : over trnT f (dots f).length = mk (trnP f) := over_all _ _ _ fun x y hx hy => by
  unfold trnP
  rw [hasI_in]
  constructor
  · rintro ⟨h1, h2, h3, h4, h5⟩
    exact ⟨_, _, by omega, by omega, h5, by simp [trnT]; omega⟩
  · rintro ⟨x', y', h1, h2, h3, h4⟩
    simp only [trnT, Prod.mk.injEq] at h4
    obtain ⟨h4, h5⟩ := h4
    refine ⟨by omega, by omega, by omega, by omega, ?_⟩
    rw [show (11 - (x : Int)).toNat = y' by omega, show ((y : Int)).toNat = x' by omega]; exact h3
/-- What a function on one frame answers that carries its dots over. -/
def ovR (p : List Nat → Nat → Nat → Bool) (f : List Nat) : List Nat := if okB f = true then mk (p f) else zf
theorem ovR_ok {p : List Nat → Nat → Nat → Bool} {f : List Nat} (ok : FrOk f) : FrOk (ovR p f) := by
  unfold ovR
  split
  · exact mk_frOk _
  · exact zf_ok

end Go.Proofs.YtmfgbkmkcljciaaGreatDoor
/- Rolled frames; no condition. -/
namespace Go.Proofs.YtmfgbkmkcljciaaGreatDoor
open Go.RowKit
set_option linter.unusedSimpArgs false
set_option linter.unusedVariables false

theorem gate_int {P : Program} {w : World} {F : FuncId} {n lo hi : Int} {R : Ending → World → Prop} (h : Calls P F #[.int .i64 n, .int .i64 lo, .int .i64 hi] w R) : Calls P F #[.int .i64 n, .int .i64 lo, .int .i64 hi] w R := h
theorem l00In_v {n lo hi : Int} {v : Bool} (h : inB n lo hi = v) (w : World) : Calls Tryz.prog 60 #[.int .i64 n, .int .i64 lo, .int .i64 hi] w fun e w' => e = .returned (.bool v) ∧ Keep [] w w' := by
  subst h; exact l00In_c n lo hi w
theorem inRange_v {n lo hi : Int} {v : Bool} (h : inB n lo hi = v) (w : World) : Calls Tryz.prog 56 #[.int .i64 n, .int .i64 lo, .int .i64 hi] w fun e w' => e = .returned (.bool v) ∧ Keep [] w w' := by
  subst h; exact inRange_c n lo hi w
theorem l01Ok_w {f : List Nat} {v : Bool} (h : okB f = v) (hf : f.length = 12) (b o : Nat) (w : World) (hb : Cl w b o (frv f)) :
    Calls Tryz.prog 73 #[.pointer (some ⟨b, o, none⟩)] w fun e w' => e = .returned (.bool v) ∧ Keep [] w w' := by
  subst h; exact l01Ok_c f hf b o w hb
theorem ValidFrame_v {f : List Nat} {v : Bool} (h : okB f = v) (hf : f.length = 12) (w : World) :
    Calls Tryz.prog 79 #[.agg (frv f).toArray] w fun e w' => e = .returned (.bool v) ∧ Keep [] w w' := by
  subst h; exact ValidFrame_c f hf w
theorem run_rem12 {P : Program} {T : TypeId} {a : Int} (w : World) : (binOp .rem T (.int .i64 a) (.int .i64 12)).run P w = .ok (.int .i64 (a.tmod 12)) w := by
  have e := IntWalk.i64_in (a.tmod 12) (by
    by_cases h : 0 ≤ a
    · rw [Int.tmod_eq_emod_of_nonneg h]; omega
    · have h1 : a.tmod 12 = -((-a).tmod 12) := by rw [Int.neg_tmod]; omega
      rw [h1, Int.tmod_eq_emod_of_nonneg (by omega)]; omega)
  go_simp

/-- The code of a question about a way. -/
def wayC (f : List Nat) (e s : Int) : Int := if okB f = true then (if inB e (-12) 12 = true ∧ inB s (-12) 12 = true then 0 else 2) else 1
theorem wayC_0 {f : List Nat} {e s : Int} (h : okB f = true) (he : inB e (-12) 12 = true) (hs : inB s (-12) 12 = true) : wayC f e s = 0 := by simp [wayC, h, he, hs]
theorem wayC_1 {f : List Nat} {e s : Int} (h : okB f = false) : wayC f e s = 1 := by simp [wayC, h]
theorem wayC_2 {f : List Nat} {e s : Int} (h : okB f = true) (he : inB e (-12) 12 = false) : wayC f e s = 2 := by simp [wayC, h, he]
theorem wayC_3 {f : List Nat} {e s : Int} (h : okB f = true) (hs : inB s (-12) 12 = false) : wayC f e s = 2 := by simp [wayC, h, hs]
theorem wayC_in {f : List Nat} {e s : Int} (h : wayC f e s = 0) : -12 ≤ e ∧ e ≤ 12 ∧ -12 ≤ s ∧ s ≤ 12 := by
  unfold wayC at h
  split at h
  · split at h
    · rename_i h1
      have h2 := h1.1
      have h3 := h1.2
      simp [inB] at h2 h3
      omega
    · cases h
  · cases h
def rolP (e s : Int) (f : List Nat) (x y : Nat) : Bool := hasI f (((x : Int) - e + 24).tmod 12) (((y : Int) - s + 24).tmod 12)
def rolT (e s : Int) (d : Nat × Nat) : Int × Int := (((d.1 : Int) + e + 12).tmod 12, ((d.2 : Int) + s + 12).tmod 12)
theorem rol_all (f : List Nat) {e s : Int} (h : -12 ≤ e ∧ e ≤ 12 ∧ -12 ≤ s ∧ s ≤ 12) : over (rolT e s) f (dots f).length = mk (rolP e s f) := over_all _ _ _ fun x y hx hy => by
  obtain ⟨g1, g2, g3, g4⟩ := h
  unfold rolP
  rw [hasI_in, Int.tmod_eq_emod_of_nonneg (by omega : (0 : Int) ≤ (x : Int) - e + 24), Int.tmod_eq_emod_of_nonneg (by omega : (0 : Int) ≤ (y : Int) - s + 24)]
  constructor
  · rintro ⟨h1, h2, h3, h4, h5⟩
    refine ⟨_, _, by omega, by omega, h5, ?_⟩
    unfold rolT
    simp only [Prod.mk.injEq]
    rw [Int.tmod_eq_emod_of_nonneg (by omega), Int.tmod_eq_emod_of_nonneg (by omega)]
    omega
  · rintro ⟨x', y', h1, h2, h3, h4⟩
    unfold rolT at h4
    simp only [Prod.mk.injEq] at h4
    rw [Int.tmod_eq_emod_of_nonneg (by omega), Int.tmod_eq_emod_of_nonneg (by omega)] at h4
    obtain ⟨h4, h5⟩ := h4
    refine ⟨by omega, by omega, by omega, by omega, ?_⟩
    rw [show (((x : Int) - e + 24) % 12).toNat = x' by omega, show (((y : Int) - s + 24) % 12).toNat = y' by omega]; exact h3
/-- What RollFrame answers. -/
def rolR (e s : Int) (f : List Nat) : List Nat := if wayC f e s = 0 then mk (rolP e s f) else zf
theorem rolR_ok (e s : Int) {f : List Nat} (ok : FrOk f) : FrOk (rolR e s f) := by
  unfold rolR
  split
  · exact mk_frOk _
  · exact zf_ok
end Go.Proofs.YtmfgbkmkcljciaaGreatDoor
/- Parts of books: the reference and the program; no condition. -/
namespace Go.Proofs.YtmfgbkmkcljciaaGreatDoor
open Go.RowKit
set_option linter.unusedSimpArgs false
set_option linter.unusedVariables false

theorem gate_slice {P : Program} {ops : Array Oper} {rest : List Oper} {o : Oper} {a : Act} {w : World} {Q : Exit → Act → World → Prop} {T : TypeId} {x : Operand} {l h m : Option Operand} (_ho : o.op = .slice T x l h m) (hh : wpList P ops Q (o :: rest) a w) : wpList P ops Q (o :: rest) a w := hh
def cutIn (n : Nat) (from_ to : Int) : Bool := inB from_ 0 n && inB to from_ n
def cutBC (B : List Fm) (from_ to : Int) : Int := if bkB B = true then (if cutIn B.length from_ to = true then 0 else 2) else 1
def cutBR (B : List Fm) (from_ to : Int) : List Fm := if cutBC B from_ to = 0 then (B.drop from_.toNat).take (to.toNat - from_.toNat) else []
theorem l02Ok_v {B : List Fm} {v : Bool} (h : bkB B = v) (n : Nat) (hB : B.length = n) (hn : n ≤ 4000000) (p : Option Addr) (c : Nat) (w : World) (hr : Rd w p n (encs fv B)) :
    Calls Tryz.prog 39 #[.slice p n c] w fun e w' => e = .returned (.bool v) ∧ Keep [] w w' := by
  subst h; exact l02Ok_c B n hB hn p c w hr
theorem ValidBook_v {B : List Fm} {v : Bool} (h : bkB B = v) (n : Nat) (hB : B.length = n) (hn : n ≤ 4000000) (p : Option Addr) (c : Nat) (w : World) (hr : Rd w p n (encs fv B)) :
    Calls Tryz.prog 16 #[.slice p n c] w fun e w' => e = .returned (.bool v) ∧ Keep [] w w' := by
  subst h; exact ValidBook_c B n hB hn p c w hr
theorem gives0 {w w1 : World} {L : List (Nat × List Value × TypeId)} {B : Nat} {E : TypeId} {sz : Nat} (st : St [] w w1 L) (h : At B [] E L) : Gives E sz 0 [] w (.slice (some ⟨B, 0, none⟩) 0 0) w1 :=
  ⟨B, 0, [], rfl, out_of st h, st.get h, by simp, Nat.zero_le _⟩
set_option maxHeartbeats 1000000 in
set_option maxRecDepth 100000 in
theorem CutBook_c (B : List Fm) (n : Nat) (hB : B.length = n) (hn : n ≤ 1000000) (p : Option Addr) (hp : p = none → n = 0) (c : Nat) (hc : n ≤ c) (i j : Int) (w : World) (hr : Rd w p n (encs fv B)) :
    Calls Tryz.prog 25 #[.slice p n c, .int .i64 i, .int .i64 j] w (BookCode (cutBR B i j) (cutBR B i j).length (cutBC B i j) (cutBC B i j ≠ 0 ∨ p = none) w) := by
  have st := St.start w
  rcases Bool.eq_false_or_eq_true (bkB B) with h | h
  · have HV := hid (fun w' hk => ValidBook_v h n hB (by omega) p c w' (hr.keep (w1 := w') hk))
    rcases Bool.eq_false_or_eq_true (cutIn n i j) with h2 | h2
    · have hc0 : cutBC B i j = 0 := by unfold cutBC; rw [if_pos h, hB, if_pos h2]
      unfold cutBR
      rw [hc0, if_pos rfl]
      unfold cutIn at h2
      rw [Bool.and_eq_true] at h2
      obtain ⟨q1, q2⟩ := h2
      have r1 := q1
      have r2 := q2
      unfold inB at r1 r2
      rw [decide_eq_true_eq] at r1 r2
      obtain ⟨f, rfl⟩ : ∃ f : Nat, i = f := ⟨i.toNat, by omega⟩
      obtain ⟨t, rfl⟩ : ∃ t : Nat, j = t := ⟨j.toNat, by omega⟩
      have hft : f ≤ t := by omega
      have htn : t ≤ n := by omega
      simp only [Int.toNat_natCast]
      have hl : ((B.drop f).take (t - f)).length = t - f := by rw [List.length_take, List.length_drop]; omega
      rw [hl]
      have HL := hid hl
      replace hB := hid hB
      have HP0 := hid hp
      clear hl hp hc0 h r1 r2
      go_enter Tryz.func25, Tryz.ntmps25
      go_wp2_with (first | (go_at_call 16; refine (HV.out _ st.keep).mono ?_; rintro _ _ ⟨rfl, hk⟩; replace st := st.call hk; clear hk) | (go_at_call 56; (with_reducible refine (inRange_v q1 _).mono ?_); rintro _ _ ⟨rfl, hk⟩; replace st := st.call hk; clear hk) | (go_at_call 56; (with_reducible refine (inRange_v q2 _).mono ?_); rintro _ _ ⟨rfl, hk⟩; replace st := st.call hk; clear hk) | ((with_reducible refine gate_slice rfl ?_); refine ia_cut (B := B) fv_len rfl rfl rfl rfl rfl hB.out hft htn hc (hr.keep st.keep) ?_; intro p2 hp2 hr2; have HP2 := hid hp2; clear hp2) | (go_at_call 41; refine (Clone_c ((B.drop f).take (t - f)) (t - f) HL.out (by omega) _ (fun h => by have := HP0.out (HP2.out.1 h); omega) _ _ hr2).mono ?_; rintro _ _ ⟨v, rfl, hv, hk⟩; have HVV := hid (hv.since st.keep (fun h => (Or.inr (HP2.out.1 h) : (0 : Int) ≠ 0 ∨ p = none))); clear hv; replace st := st.call hk; clear hk) | ((with_reducible refine gate_lst ?_); (first | ((with_reducible refine' wpl_ung ?_ ?_ ?_); rotate_left 1; (focus exact rfl); (focus exact rfl)))))
      go_ret2
      exact ⟨_, rfl, HVV.out, st.keep⟩
    · have hc2 : cutBC B i j = 2 := by unfold cutBC; rw [if_pos h, hB, if_neg (by rw [h2]; decide)]
      unfold cutBR
      rw [hc2, if_neg (by decide)]
      unfold cutIn at h2
      clear hc2 h hB hp
      rcases Bool.eq_false_or_eq_true (inB i 0 n) with q1 | q1
      · have q2 : inB j i n = false := by rw [q1, Bool.true_and] at h2; exact h2
        clear h2
        go_enter Tryz.func25, Tryz.ntmps25
        go_wp2_with (first | (go_at_call 16; refine (HV.out _ st.keep).mono ?_; rintro _ _ ⟨rfl, hk⟩; replace st := st.call hk; clear hk) | (go_at_call 56; (with_reducible refine (inRange_v q1 _).mono ?_); rintro _ _ ⟨rfl, hk⟩; replace st := st.call hk; clear hk) | (go_at_call 56; (with_reducible refine (inRange_v q2 _).mono ?_); rintro _ _ ⟨rfl, hk⟩; replace st := st.call hk; clear hk) | ((with_reducible refine gate_lst ?_); (first | ((with_reducible refine' wpl_ung ?_ ?_ ?_); rotate_left 1; (focus exact rfl); (focus exact rfl)))))
        go_ret2
        exact ⟨_, rfl, Or.inl ⟨.inl (by decide), rfl, rfl⟩, st.keep⟩
      · clear h2
        go_enter Tryz.func25, Tryz.ntmps25
        go_wp2_with (first | (go_at_call 16; refine (HV.out _ st.keep).mono ?_; rintro _ _ ⟨rfl, hk⟩; replace st := st.call hk; clear hk) | (go_at_call 56; (with_reducible refine (inRange_v q1 _).mono ?_); rintro _ _ ⟨rfl, hk⟩; replace st := st.call hk; clear hk) | ((with_reducible refine gate_lst ?_); (first | ((with_reducible refine' wpl_ung ?_ ?_ ?_); rotate_left 1; (focus exact rfl); (focus exact rfl)))))
        go_ret2
        exact ⟨_, rfl, Or.inl ⟨.inl (by decide), rfl, rfl⟩, st.keep⟩
  · have HV := hid (fun w' hk => ValidBook_v h n hB (by omega) p c w' (hr.keep (w1 := w') hk))
    have hc1 : cutBC B i j = 1 := by unfold cutBC; rw [if_neg (by rw [h]; decide)]
    unfold cutBR
    rw [hc1, if_neg (by decide)]
    clear hc1 h hB hp
    go_enter Tryz.func25, Tryz.ntmps25
    go_wp2_with (first | (go_at_call 16; refine (HV.out _ st.keep).mono ?_; rintro _ _ ⟨rfl, hk⟩; replace st := st.call hk; clear hk) | ((with_reducible refine gate_lst ?_); (first | ((with_reducible refine' wpl_ung ?_ ?_ ?_); rotate_left 1; (focus exact rfl); (focus exact rfl)))))
    go_ret2
    exact ⟨_, rfl, Or.inl ⟨.inl (by decide), rfl, rfl⟩, st.keep⟩
end Go.Proofs.YtmfgbkmkcljciaaGreatDoor
/- A region that draws its order: what only reads is taken first, wherever it stands; what is left comes in one order; no condition. -/
namespace Go.Proofs.YtmfgbkmkcljciaaGreatDoor
open Go.RowKit
set_option linter.unusedSimpArgs false
set_option linter.unusedVariables false

/-- Operations that yield a value and no more. -/
def valB (o : Oper) : Bool :=
  match o.op with
  | .move _ | .assign _ | .binOp _ _ _ _ _ | .unOp _ _ _ | .convert _ _ _ | .load _ _ | .indexAddr _ _ _ | .index _ _ _ | .fieldAddr _ _ _ | .field _ _ _ | .slice _ _ _ _ _ | .extract _ _ | .build _ _ => true
  | .call c => match c.callee with
    | .builtin .len | .builtin .cap | .builtin .min | .builtin .max => true
    | _ => false
  | _ => false
theorem value_only {P : Program} {s : Sem Value} {w w' : World} {n : Next} (h : (do pure (Next.value (← s)) : Sem Next).run P w = .ok n w') : ∃ v, n = .value v := by
  simp only [Sem.run_bind, Sem.run_pure] at h
  cases hr : s.run P w with
  | ok v w1 => rw [hr] at h; simp only [Result.andThen_ok] at h; injection h with h1 _; exact ⟨v, h1.symm⟩
  | halt x w1 => rw [hr] at h; simp [Result.andThen] at h
theorem valB_only {P : Program} {o : Oper} {a : Act} {w w' : World} {n : Next} (hb : valB o = true) (h : (execOp a.eval o).run P w = .ok n w') : ∃ v, n = .value v := by
  unfold execOp at h
  unfold valB at hb
  split at hb <;> first | (cases hb; done) | skip
  case _ x e => simp only [e, Sem.run_pure] at h; injection h with h1 _; exact ⟨_, h1.symm⟩
  case _ x e => simp only [e, Sem.run_pure] at h; injection h with h1 _; exact ⟨_, h1.symm⟩
  all_goals first
    | (rename_i e; rw [e] at h; exact value_only h)
    | (rename_i c e
       rw [e] at h
       simp only [resolve] at h
       split at hb <;> first | (cases hb; done) | skip
       all_goals
         rename_i e2
         rw [e2] at h
         simp only [Sem.run_bind, Sem.run_pure, Result.andThen_ok, invoke, builtin] at h
         exact value_only (by simpa only [Sem.run_bind, Sem.run_pure] using h))
section
variable {P : Program} {ops : Array Oper} {Q : Exit → Act → World → Prop} {S : World → Prop}
/-- Those at some places. -/
def sel (l : List Oper) (is : List Nat) : List Oper := is.filterMap fun i => l[i]?
def takeB (ops : Array Oper) : List Nat → Array Bool → Bool
  | [], _ => true
  | i :: r, listed => (Region.ready .any ops listed).contains i && Region.free .any ops listed i && (match ops[i]? with | some o => valB o | none => false) && takeB ops r (listed.setIfInBounds i true)
def setAll : List Nat → Array Bool → Array Bool
  | [], listed => listed
  | i :: r, listed => setAll r (listed.setIfInBounds i true)
def loudB (ops : Array Oper) : List Nat → Array Bool → Bool
  | [], listed => (Region.ready .any ops listed).isEmpty
  | i :: r, listed => decide (Region.ready .any ops listed = [i]) && (match ops[i]? with | some o => o.guard.isNone | none => false) && loudB ops r (listed.setIfInBounds i true)
def schedB (ops : Array Oper) (tk ld : List Nat) : Bool :=
  Region.noSelect ops && takeB ops tk (Array.replicate ops.size false) && loudB ops ld (setAll tk (Array.replicate ops.size false)) && decide (tk.length + ld.length = ops.size)
/-- Behind one loud operation. -/
def AftS (S : World → Prop) (K : Act → World → Prop) : Exit → Act → World → Prop
  | .normal, a, w => S w ∧ K a w
  | _, _, _ => False
def wpLoud (P : Program) (ops : Array Oper) (S : World → Prop) (Q : Exit → Act → World → Prop) : List Oper → Act → World → Prop
  | [], a, w => Q .normal a w
  | o :: r, a, w => wpList P ops (AftS S (wpLoud P ops S Q r)) [o] a w
def NormQ (Q : Exit → Act → World → Prop) : Exit → Act → World → Prop
  | .normal, a, w => Q .normal a w
  | _, _, _ => False
theorem upon_aftS {o : Oper} {a : Act} {K : Act → World → Prop} {Q' : Exit → Act → World → Prop} {r : Result Next} (h : o.upon P a (fun a w => S w ∧ K a w) (AftS S K) r) : o.upon P a (fun a w => S w ∧ K a w) Q' r := by
  cases r with
  | ok v w' =>
    cases v with
    | enter f args =>
      refine Calls.mono (h := h) (fun e w'' he => ?_)
      cases e with
      | returned v => exact he
      | panicked c => exact he.elim
      | outgrown => obtain ⟨_, _, he⟩ := he; exact he.elim
    | _ => exact h
  | halt e w' =>
    cases e with
    | panic v => exact h.elim
    | _ => exact h
theorem wpAnyH_loud : ∀ (ld : List Nat) (l : List Oper) (listed : Array Bool) (a : Act) (w : World), l.toArray = ops → loudB ops ld listed = true → wpLoud P ops S Q (sel l ld) a w → wpAnyH P .any ops (NormQ Q) S ld.length listed a w
  | [], l, listed, a, w, hl, hB, h => ⟨by simpa [loudB] using hB, h⟩
  | i :: r, l, listed, a, w, hl, hB, h => by
    simp only [loudB, Bool.and_eq_true, decide_eq_true_eq] at hB
    obtain ⟨⟨hr, hg⟩, hB'⟩ := hB
    cases ho : ops[i]? with
    | none => rw [ho] at hg; cases hg
    | some o =>
      rw [ho] at hg
      have hlo : l[i]? = some o := by rw [← hl] at ho; simpa using ho
      have hsel : sel l (i :: r) = o :: sel l r := by simp [sel, hlo]
      rw [hsel] at h
      refine ⟨fun h0 => (by rw [hr] at h0; cases h0), fun j hj => ?_⟩
      rw [hr] at hj
      obtain rfl : j = i := by simpa using hj
      have hg' : o.guard = none := by have hg2 : o.guard.isNone = true := hg; simpa using hg2
      have hw : ∀ ys, Region.wanted o ys = true := fun ys => by simp [Region.wanted, hg']
      have h1 : o.wp P a w (fun a w => S w ∧ wpLoud P ops S Q (sel l r) a w) (AftS S (wpLoud P ops S Q (sel l r))) ∨ (o.asks P a w ∧ LetsOut (AftS S (wpLoud P ops S Q (sel l r)))) := by
        have := h
        unfold wpLoud wpList at this
        rw [if_pos (hw _)] at this
        exact this
      unfold wpOp
      simp only [ho, hw, if_true]
      rcases h1 with h1 | ⟨_, _, _, h2⟩
      · refine Or.inl ?_
        have h2 := upon_aftS (Q' := NormQ Q) h1
        exact Oper.wp_mono (fun a' w' hK => ⟨hK.1, wpAnyH_loud r l _ a' w' hl hB' hK.2⟩) h2
      · exact h2.elim
theorem wpAnyH_takes {g : Nat} (hs : Region.noSelect ops = true) (hQ : ∀ c a d v w, Q (.panic c) (Act.put a d v) w → Q (.panic c) a w) : ∀ (tk : List Nat) (l : List Oper) (listed : Array Bool) (a : Act) (w : World), l.toArray = ops →
    takeB ops tk listed = true → S w → wpQuiet P ops S (fun a' => wpAnyH P .any ops Q S g (setAll tk listed) a' w) (sel l tk) a → wpAnyH P .any ops Q S (tk.length + g) listed a w
  | [], l, listed, a, w, hl, hB, hS, h => by rw [List.length_nil, Nat.zero_add]; exact h
  | i :: r, l, listed, a, w, hl, hB, hS, h => by
    simp only [takeB, Bool.and_eq_true] at hB
    obtain ⟨⟨⟨hr, hf⟩, hv⟩, hB'⟩ := hB
    cases ho : ops[i]? with
    | none => rw [ho] at hv; cases hv
    | some o =>
      rw [ho] at hv
      have hlo : l[i]? = some o := by rw [← hl] at ho; simpa using ho
      have hsel : sel l (i :: r) = o :: sel l r := by simp [sel, hlo]
      rw [hsel] at h
      have key : ∃ v, YieldsIf P ops S o v a ∧ wpQuiet P ops S (fun a' => wpAnyH P .any ops Q S g (setAll r (listed.setIfInBounds i true)) a' w) (sel l r) (a.put o.dst v) := by
        unfold wpQuiet at h
        by_cases hw : Region.wanted o (yielded ops a.tmps) = true
        · rw [if_pos hw] at h
          obtain ⟨v, h1, h2⟩ := h
          refine ⟨v, Or.inl ⟨hw, fun w' hS' => ?_⟩, h2⟩
          have h3 := h1 w' hS'
          unfold Oper.quietAt at h3
          cases hrun : (execOp a.eval o).run P w' with
          | ok n w'' =>
            obtain ⟨u, rfl⟩ := valB_only hv hrun
            rw [hrun] at h3
            simp only [Oper.quietUpon] at h3
            rw [h3.1, h3.2]
          | halt x w'' => rw [hrun] at h3; simp only [Oper.quietUpon] at h3
        · rw [if_neg hw] at h
          exact ⟨undef, Or.inr ⟨by simpa using hw, rfl⟩, h⟩
      obtain ⟨v, hy, h2⟩ := key
      rw [List.length_cons, show r.length + 1 + g = (r.length + g) + 1 by omega]
      exact wpAnyH_take ho hs hf hr (fun c a w h => hQ c a _ _ w h) hy hS (wpAnyH_takes hs hQ r l _ _ w hl hB' hS h2)
theorem wpQuiet_mono {C : World → Prop} {Q Q' : Act → Prop} (hQ : ∀ a, Q a → Q' a) : ∀ (l : List Oper) (a : Act), wpQuiet P ops C Q l a → wpQuiet P ops C Q' l a
  | [], a, h => hQ a h
  | o :: l, a, h => by
    unfold wpQuiet at h ⊢
    by_cases hw : Region.wanted o (yielded ops a.tmps) = true
    · rw [if_pos hw] at h ⊢
      exact Oper.quiet_mono (wpQuiet_mono hQ l) h
    · rw [if_neg hw] at h ⊢
      exact wpQuiet_mono hQ l _ h
end
theorem St.nil {M : List Nat} {w0 w : World} {L : List (Nat × List Value × TypeId)} (st : St M w0 w L) : St M w0 w [] := ⟨st.keep, by simp, by simp, by simp⟩
section
variable {P : Program} {Q : Exit → Act → World → Prop} {a : Act} {w w0 : World} {M : List Nat} {L : List (Nat × List Value × TypeId)} {l : List Oper}
theorem wp_region_sched_st {id : Nat} (st : St M w0 w L) (tk ld : List Nat) (L1 : List (Nat × List Value × TypeId)) (hL1 : ∀ w', St M w0 w' L → St M w0 w' L1) (hm : P.follows .mixedOrders = true) (hB : schedB l.toArray tk ld = true)
    (h : wpQuiet P l.toArray (fun w' => St M w0 w' L1) (fun a' => ∀ w', St M w0 w' L → wpLoud P l.toArray (fun w' => St M w0 w' L1) Q (sel l ld) a' w') (sel l tk) a) : (Code.region id l.toArray true).wp P Q a w := by
  simp only [schedB, Bool.and_eq_true, decide_eq_true_eq] at hB
  obtain ⟨⟨⟨hs, ht⟩, hl⟩, hn⟩ := hB
  refine wp_region_any hm ?_
  have st1 := st.call (Keep.drew w)
  rw [← hn]
  refine wpAny_mono (Q := NormQ Q) (fun e a w h => by cases e <;> first | exact h | exact h.elim) _ _ _ _ ?_
  refine wpAny_of_held (S := fun w' => St M w0 w' L1) _ _ _ _ ?_
  rw [hn]
  have hk := wpAnyH_takes (P := P) (Q := NormQ Q) (S := fun w' => St M w0 w' L1) (g := ld.length) hs (fun c a d v w h => h.elim) tk l (Array.replicate l.toArray.size false) a w.drew rfl ht (hL1 _ st1)
    (wpQuiet_mono (fun a' ha => wpAnyH_loud ld l _ a' _ rfl hl (ha _ st1)) _ _ h)
  rw [hn] at hk
  exact hk
theorem aftS_go {S : World → Prop} {K : Act → World → Prop} (hS : S w) (h : K a w) : AftS S K .normal a w := ⟨hS, h⟩
theorem loud_go {S : World → Prop} {ops : Array Oper} {o : Oper} {r : List Oper} (h : wpList P ops (AftS S (wpLoud P ops S Q r)) [o] a w) : wpLoud P ops S Q (o :: r) a w := h
theorem loud_nil {S : World → Prop} {ops : Array Oper} (h : Q .normal a w) : wpLoud P ops S Q [] a w := h
end
end Go.Proofs.YtmfgbkmkcljciaaGreatDoor
/- Dots counted; no condition. -/
namespace Go.Proofs.YtmfgbkmkcljciaaGreatDoor
open Go.RowKit
set_option linter.unusedSimpArgs false
set_option linter.unusedVariables false

/-- The dots of a row. -/
def pc (r : Nat) : Nat := ((List.range 12).filter fun x => r.testBit x).length
def c8 (r : Nat) : Nat := ((List.range 8).filter fun x => r.testBit x).length
theorem pop_c8 : ((List.range 256).all fun r => decide (Lib.pop8 ((r : Nat) : Int) = (c8 r : Int))) = true := by decide +kernel
theorem c8_c4 : ((List.range 16).all fun r => decide (c8 r = ((List.range 4).filter fun x => r.testBit x).length)) = true := by decide +kernel
theorem pop_pc {r : Nat} (hr : r < 4096) : Lib.pop8 ((r / 256 : Nat) : Int) + Lib.pop8 ((r % 256 : Nat) : Int) = (pc r : Int) := by
  have h1 := List.all_eq_true.1 pop_c8 (r / 256) (List.mem_range.2 (by omega))
  have h2 := List.all_eq_true.1 pop_c8 (r % 256) (List.mem_range.2 (by omega))
  have h3 := List.all_eq_true.1 c8_c4 (r / 256) (List.mem_range.2 (by omega))
  simp only [decide_eq_true_eq] at h1 h2 h3
  rw [h1, h2, h3]
  have e1 : c8 (r % 256) = c8 r := by
    unfold c8
    congr 1
    apply List.filter_congr
    intro x hx
    have hx : x < 8 := List.mem_range.1 hx
    have := Nat.testBit_mod_two_pow r 8 x
    rw [show (2 : Nat) ^ 8 = 256 from rfl] at this
    rw [this]; simp [hx]
  have e2 : ((List.range 4).filter fun x => (r / 256).testBit x).length = ((List.range 4).filter fun x => r.testBit (8 + x)).length := by
    congr 1
    apply List.filter_congr
    intro x hx
    have : (r / 2 ^ 8).testBit x = r.testBit (x + 8) := Nat.testBit_div_two_pow _ _
    rw [show (2 : Nat) ^ 8 = 256 from rfl] at this
    rw [this, Nat.add_comm]
  rw [e1, e2]
  unfold pc c8
  rw [show (12 : Nat) = 8 + 4 from rfl, List.range_add, List.filter_append, List.length_append, List.filter_map, List.length_map]
  simp only [Function.comp_def]
  omega
theorem pc_le (r : Nat) : pc r ≤ 12 := by
  unfold pc
  exact Nat.le_trans (List.length_filter_le _ _) (by simp)
def cntTo (f : List Nat) : Nat → Nat
  | 0 => 0
  | y + 1 => cntTo f y + pc (ro f y)
theorem cntTo_le (f : List Nat) (y : Nat) : cntTo f y ≤ 12 * y := by
  induction y with
  | zero => simp [cntTo]
  | succ y ih => have := pc_le (ro f y); simp only [cntTo]; omega
theorem dotsTo_row (f : List Nat) {y : Nat} (hy : y < 12) : (dotsTo f (12 * (y + 1))).length = (dotsTo f (12 * y)).length + pc (ro f y) := by
  unfold dotsTo pc
  rw [show 12 * (y + 1) = 12 * y + 12 by omega, List.range_add, List.filter_append, List.map_append, List.length_append, List.length_map, List.length_map, List.filter_map, List.length_map]
  congr 2
  apply List.filter_congr
  intro x hx
  have hx : x < 12 := List.mem_range.1 hx
  simp only [Function.comp]
  rw [show (12 * y + x) % 12 = x by omega, show (12 * y + x) / 12 = y by omega, hasD_in f hx hy]
theorem dots_cnt (f : List Nat) : ∀ y, y ≤ 12 → (dotsTo f (12 * y)).length = cntTo f y
  | 0, _ => rfl
  | y + 1, h => by rw [dotsTo_row f (by omega), dots_cnt f y (by omega)]; rfl
theorem dots_cnt12 (f : List Nat) : (dots f).length = cntTo f 12 := dots_cnt f 12 (Nat.le_refl _)

section
variable {P : Program} {ops : Array Oper} {rest : List Oper} {o : Oper} {a : Act} {Q : Act → Prop} {C : World → Prop}
theorem wpq_pop (hgd : o.guard = none) (T : TypeId) (x ix : Operand) (ho : o.op = .index T x ix) (hx : a.eval x = .string Lib.pop8tab) (k : IntKind) (i : Int) (hi : a.eval ix = .int k i) (hu : P.underlying T = some .string) (h0 : 0 ≤ i) (h1 : i ≤ 255)
    (h : wpQuiet P ops C Q rest (a.put o.dst (.int .u8 (Lib.pop8 i)))) : wpQuiet P ops C Q (o :: rest) a :=
  wpq_val hgd _ (fun w' _ => by
    unfold execOp
    simp only [ho, hx, hi, Sem.run_bind, Sem.run_pure, Result.andThen_ok, Lib.run_index_pop8tab w' T k i hu h0 h1]) h
theorem qgate_index {T : TypeId} {x i : Operand} (_ho : o.op = .index T x i) (h : wpQuiet P ops C Q (o :: rest) a) : wpQuiet P ops C Q (o :: rest) a := h
theorem qgate_assign {x : Operand} (_ho : o.op = .assign x) (h : wpQuiet P ops C Q (o :: rest) a) : wpQuiet P ops C Q (o :: rest) a := h
theorem wpq_assign (hgd : o.guard = none) (x : Operand) (ho : o.op = .assign x) (v : Value) (hv : a.eval x = v) (h : wpQuiet P ops C Q rest (a.put o.dst v)) : wpQuiet P ops C Q (o :: rest) a :=
  wpq_val hgd v (fun w' _ => by unfold execOp; simp only [ho, hv]; rfl) h
theorem wpq_extract (hgd : o.guard = none) (x : Operand) (k : Nat) (ho : o.op = .extract x k) (v : Value) (hv : ∀ w, (execOp a.eval o).run P w = .ok (.value v) w) (h : wpQuiet P ops C Q rest (a.put o.dst v)) : wpQuiet P ops C Q (o :: rest) a :=
  wpq_val hgd v (fun w' _ => hv w') h
theorem run_shr8 {T : TypeId} {r : Nat} (hr : r < 65536) (w : World) : (binOp .shr T (.int .u16 r) (.int .u64 8)).run P w = .ok (.int .u16 ((r / 256 : Nat) : Int)) w := by
  go_simp
theorem pop8_le : ((List.range 256).all fun r => decide (0 ≤ Lib.pop8 ((r : Nat) : Int) ∧ Lib.pop8 ((r : Nat) : Int) ≤ 8)) = true := by decide +kernel
theorem run_addu8 {T : TypeId} {a b : Nat} (ha : a < 256) (hb : b < 256) (w : World) : (binOp .add T (.int .u8 (Lib.pop8 a)) (.int .u8 (Lib.pop8 b))).run P w = .ok (.int .u8 (Lib.pop8 a + Lib.pop8 b)) w := by
  have h1 := List.all_eq_true.1 pop8_le a (List.mem_range.2 ha)
  have h2 := List.all_eq_true.1 pop8_le b (List.mem_range.2 hb)
  simp only [decide_eq_true_eq] at h1 h2
  have e : IntKind.u8.wrap (Lib.pop8 a + Lib.pop8 b) = Lib.pop8 a + Lib.pop8 b := by
    simp [IntKind.wrap, IntKind.bits, IntKind.signed]; omega
  go_simp
end
set_option maxRecDepth 100000 in
theorem ones_c (r : Nat) (hr : r < 4096) (w : World) : Calls Tryz.prog 96 #[.int .u16 r] w fun e w' => e = .returned (.int .i64 (pc r)) ∧ Keep [] w w' := by
  have st := St.start w
  have HP := hid (pop_pc hr)
  have hm : r &&& 255 = r % 256 := Nat.and_two_pow_sub_one_eq_mod r 8
  have hpl := hid (pc_le r)
  go_enter Tryz.func96, Tryz.ntmps96
  go_wp2_with fail
  (refine wp_region_quiet_st st (by kernel_rfl) (by kernel_rfl) ?_; clear st; (repeat ((first | (refine wpq_move rfl _ rfl _ rfl ?_) | ((with_reducible refine qgate_assign rfl ?_); refine wpq_assign rfl _ rfl _ rfl ?_) | ((with_reducible refine qgate_dst (N := 4) rfl ?_); ((with_reducible refine qgate_bin rfl ?_); refine wpq_bin rfl _ _ _ _ _ rfl _ _ _ _ rfl rfl (.int .u16 ((r / 256 : Nat) : Int)) (fun w' => run_shr8 (by omega) w') ?_)) | ((with_reducible refine qgate_dst (N := 7) rfl ?_); ((with_reducible refine qgate_bin rfl ?_); refine wpq_bin rfl _ _ _ _ _ rfl _ _ _ _ rfl rfl (.int .u16 ((r % 256 : Nat) : Int)) (fun w' => by rw [← hm]; exact run_and (b := 255) (by omega) (by omega) w') ?_)) | ((with_reducible refine qgate_index rfl ?_); refine wpq_pop rfl _ _ _ rfl rfl _ _ rfl Tryz.underlying9 (by omega) (by omega) ?_) | ((with_reducible refine qgate_dst (N := 9) rfl ?_); ((with_reducible refine qgate_bin rfl ?_); refine wpq_bin rfl _ _ _ _ _ rfl _ _ _ _ rfl rfl (.int .u8 (Lib.pop8 ((r / 256 : Nat) : Int) + Lib.pop8 ((r % 256 : Nat) : Int))) (fun w' => run_addu8 (by omega) (by omega) w') ?_)) | ((with_reducible refine qgate_dst (N := 10) rfl ?_); ((with_reducible refine qgate_conv rfl ?_); refine wpq_conv rfl _ _ _ rfl _ _ _ (pc r : Int) rfl rfl (by kernel_rfl) (by rw [HP.out]; exact IntWalk.i64_in _ (by have := hpl.out; omega)) ?_))); (simp only [Act.put, Act.eval, Array.getD_eq_getD_getElem?, List.getElem?_toArray, List.getElem?_cons_succ, List.getElem?_cons_zero, Option.getD_some, List.setIfInBounds_toArray, List.set_cons_succ, List.set_cons_zero, List.getElem_toArray, List.getElem_cons_succ, List.getElem_cons_zero]))); refine wpQuiet_nil ?_; intro _ st)
  go_wp2_with fail
  go_ret
  exact ⟨rfl, st.keep⟩
set_option maxRecDepth 100000 in
theorem count_c (f : List Nat) (ok : FrOk f) (h : okB f = true) (w : World) : Calls Tryz.prog 76 #[.agg (frv f).toArray] w fun e w' => e = .returned (.int .i64 ((dots f).length : Nat)) ∧ Keep [] w w' := by
  have hf := ok.len
  have st := St.start w
  rw [dots_cnt12]
  have HO := hid (okB_ro h)
  go_enter Tryz.func76, Tryz.ntmps76
  go_wp2_with (first | ((with_reducible refine gate_box rfl ?_); (with_reducible refine gate_dst (N := 1) rfl ?_); refine wpl_box rfl _ _ rfl _ rfl _ rfl st ?_; clear st; intro B1 _ st) | ((with_reducible refine gate_load rfl ?_); refine wpl_loadAll rfl _ _ rfl _ rfl tFr.toAggT _ _ (st.get (by repeat (first | exact At.here | apply At.there))) (by simp [frv_length, zf_length, mk_length, withD_length, part_length, rowsOf_length, *]) ?_))
  go_loopw [3, 7] (fun m i wr => ∃ y : Nat, y ≤ 12 ∧ i = .int .i64 y ∧ m = .int .i64 (cntTo f y) ∧ St [] w wr [(B1, frv f, 42)]) (fun _ i _ => 12 - (intOf i).toNat)
  case atStart => exact ⟨0, by omega, rfl, rfl, st⟩
  case round =>
    clear st
    obtain ⟨y, hy, rfl, rfl, st⟩ := hrel
    by_cases hlt : y < 12
    · have hdy : decide ((y : Int) < 12) = true := by simp; omega
      have hc1 := cntTo_le f y
      have hc2 := pc_le (ro f y)
      go_wp2_with (first | ((with_reducible refine gate_index rfl ?_); refine wpl_index rfl _ _ _ rfl _ rfl _ _ rfl tFr y rfl hlt _ (frv_get _ _ (by omega)) ?_) | (go_at_call 96; refine (ones_c (ro f y) (HO.out y) _).mono ?_; rintro _ _ ⟨rfl, hk⟩; replace st := st.call hk; clear hk) | ((with_reducible refine gate_dst (N := 13) rfl ?_); ((with_reducible refine gate_bin rfl ?_); refine wpl_bin rfl _ _ _ _ _ rfl _ _ _ _ rfl rfl (.int .i64 ((cntTo f y : Int) + (pc (ro f y) : Int))) (fun w' => run_add64 (by omega) (by omega) w') ?_)))
      go_roundw
      case rel => exact ⟨y + 1, by omega, by go_num, by simp [cntTo], st⟩
      case measure => simp [intOf]; omega
    · obtain rfl : y = 12 := by omega
      go_wp2_with fail
      go_ret
      exact ⟨rfl, st.keep⟩
theorem l01Count_c (f : List Nat) (ok : FrOk f) (b o : Nat) (w : World) (hb : Cl w b o (frv f)) :
    Calls Tryz.prog 93 #[.pointer (some ⟨b, o, none⟩)] w fun e w' => e = .returned (.int .i64 ((dots f).length : Nat)) ∧ Keep [] w w' := by
  have hf := ok.len
  have st := St.start w
  go_enter Tryz.func93, Tryz.ntmps93
  go_wp2_with (first | (go_at_call 84; refine (l01Dots_c f ok _ _ _ hb).mono ?_; rintro _ _ ⟨v, rfl, ⟨g, cap, spare, rfl, hg, hbg, hcap, hcm⟩, hk⟩; replace st := st.adopt hk hg hbg; clear hk hg hbg hcap hcm))
  go_ret
  exact ⟨rfl, st.keep⟩
/-- How many dots f has, if it is valid. -/
def cntR (f : List Nat) : Int := if okB f = true then ((dots f).length : Int) else 0
end Go.Proofs.YtmfgbkmkcljciaaGreatDoor
/- The texts of frames: the reference and the program, the library's Builder by the shelf's contracts; no condition. -/
namespace Go.Proofs.YtmfgbkmkcljciaaGreatDoor
open Go.RowKit
set_option linter.unusedSimpArgs false
set_option linter.unusedVariables false
def chB (b : Bool) : UInt8 := if b = true then 35 else 46
def rowT (f : List Nat) (y : Nat) : List UInt8 := ((List.range 12).map fun (x : Nat) => chB (hasI f x y)) ++ [10]
/-- The first y rows, and x places of the next one. -/
def ttx (f : List Nat) (y x : Nat) : List UInt8 := ((List.range y).flatMap (rowT f)) ++ (List.range x).map fun (k : Nat) => chB (hasI f k y)
def txt (f : List Nat) : List UInt8 := (List.range 12).flatMap (rowT f)
theorem ttx_zero (f : List Nat) : ttx f 0 0 = [] := rfl
theorem ttx_x (f : List Nat) (y x : Nat) : ttx f y x ++ [chB (hasI f x y)] = ttx f y (x + 1) := by simp [ttx, List.range_succ]
theorem ttx_y (f : List Nat) (y : Nat) : ttx f y 12 ++ [10] = ttx f (y + 1) 0 := by simp [ttx, List.range_succ (n := y), rowT]
theorem ttx_all (f : List Nat) : ttx f 12 0 = txt f := by simp [ttx, txt]
theorem rowT_length (f : List Nat) (y : Nat) : (rowT f y).length = 13 := by simp [rowT]
theorem flat_length (f : List Nat) (y : Nat) : ((List.range y).flatMap (rowT f)).length = y * 13 := by
  induction y with
  | zero => rfl
  | succ y ih => rw [List.range_succ, List.flatMap_append, List.length_append, ih]; simp [rowT_length]; omega
theorem ttx_length (f : List Nat) (y x : Nat) : (ttx f y x).length = y * 13 + x := by unfold ttx; rw [List.length_append, flat_length]; simp
theorem txt_length (f : List Nat) : (txt f).length = 156 := by unfold txt; rw [flat_length]

section
variable {P : Program} {ops : Array Oper} {rest : List Oper} {o : Oper} {a : Act} {w w0 : World} {Q : Exit → Act → World → Prop} {M : List Nat} {L : List (Nat × List Value × TypeId)}
theorem gate_add {T U : TypeId} {x y : Operand} (_ho : o.op = .binOp .add T x y U) (h : wpList P ops Q (o :: rest) a w) : wpList P ops Q (o :: rest) a w := h
/-- A string made of two. -/
theorem la_sadd {T U : TypeId} {x y : Operand} {l m : List UInt8} (hgd : o.guard = none) (ho : o.op = .binOp .add T x y U) (hx : a.eval x = .string ⟨l.toArray⟩) (hy : a.eval y = .string ⟨m.toArray⟩) (hl : l.length + m.length ≤ 9223372036854775807)
    (h : wpList P ops Q rest (a.put o.dst (.string ⟨(l ++ m).toArray⟩)) w) : wpList P ops Q (o :: rest) a w := by
  refine wpl_val hgd _ ?_ h
  have hr := run_string_add_sum (P := P) w ⟨l.toArray⟩ ⟨m.toArray⟩ (by simpa [ByteArray.size] using hl)
  rw [ByteArray.mk_append_mk] at hr
  unfold execOp
  simp [ho, hx, hy, eqGuard, binOp_string_add, hr]
/-- A new block, its number told. -/
theorem ia_allocZ {sl n : Nat} {T : TypeId} {zs : List Value} (st : St M w0 w L) (_hN : o.dst = some sl) (hgd : o.guard = none) (ho : o.op = .alloc T) [hT : AggC P T n zs]
    (h : ∀ wA w1, St M w0 wA L → Keep [] wA w1 → wA.heap.size < w1.heap.size → Blk w1 wA.heap.size zs T → wpList P ops Q rest (a.put o.dst (.pointer (some ⟨wA.heap.size, 0, none⟩))) w1) : wpList P ops Q (o :: rest) a w := by
  obtain ⟨i, hi, hs, hz⟩ := hT.out.i
  refine wpList_plain hgd fun K hK => ?_
  unfold Oper.wp execOp
  simp only [ho, Instr.alloc, zeroValue, typeInfo, hi, hz, newVar, newRow, Value.cells, Sem.run_bind, Sem.run_pure, run_program, run_newObj, Result.andThen_ok, World.alloc_eq]
  exact hK _ _ (h w _ st (Keep.alloc w _) (by simp) (Blk.alloc w zs T))
end
instance : AggC Tryz.prog 88 2 [.pointer none, .slice none 0 0] := ⟨aggT_of Tryz.underlying88 rfl (by kernel_rfl)⟩
theorem shX : Builder.Extra Tryz.prog shR := {
  sizeBuilder := by kernel_rfl
  liesBuilder := by kernel_rfl
  t5 := Tryz.underlying5
  a5 := Tryz.isAgg5
  z5 := Tryz.sizeOf5
  v5 := Tryz.zeroValue5
  infoByte := by kernel_rfl
  cellsByte := by kernel_rfl
  sizeByte := by kernel_rfl
  neB5 := by decide }
/-- A builder that the call has made since wA, its bytes l. -/
def Bw (wA : World) (l : List UInt8) (w : World) : Prop := Lib.IsBuilderF 88 5 wA.heap.size wA.heap.size (Lib.byteCells l) w ∧ Below wA.heap.size wA w ∧ wA.heap.size ≤ w.heap.size
theorem Bw.keep {wA w : World} {l : List UInt8} (h : Bw wA l w) : Keep [] wA w := Keep.of_below h.2.1
theorem Bw.call {wA w w' : World} {l : List UInt8} (h : Bw wA l w) (hk : Keep [] w w') : Bw wA l w' := by
  have hb := hk.below
  refine ⟨?_, h.2.1.trans (hb.mono h.2.2), Nat.le_trans h.2.2 hk.size⟩
  have at_ : ∀ p, Lib.BuilderAtF 88 5 wA.heap.size wA.heap.size p (Lib.byteCells l) w → Lib.BuilderAtF 88 5 wA.heap.size wA.heap.size p (Lib.byteCells l) w' := by
    intro p h1
    have hlt := h1.lt
    obtain ⟨hB, v, hv, hown, hne⟩ := h1
    exact ⟨hB, v, (hb.block _ hlt).trans hv, hown.kept (row := none) ⟨hb.os, hb.tape, hb.output, hb.size, fun k hk _ => hb.block k hk⟩ (Classical.em _), hne⟩
  exact h.1.elim (fun x => .inl (at_ _ x)) (fun x => .inr (at_ _ x))
theorem Bw.start {wA w1 : World} (hk : Keep [] wA w1) (hlt : wA.heap.size < w1.heap.size) (hb : Blk w1 wA.heap.size [.pointer none, .slice none 0 0] 88) : Bw wA [] w1 :=
  ⟨Lib.IsBuilderF.of (Or.inl ⟨Nat.le_refl _, .slice none 0 0, hb, World.ownsRow_nil _ _ _ _, by simp [Value.ownBlock]⟩), hk.below, by omega⟩
theorem writeByte_b {wA w : World} {l : List UInt8} (h : Bw wA l w) (c : UInt8) (z : Int) (hz : z = (c.toNat : Nat)) (hl : l.length + 1 ≤ 140737488355328) :
    Calls Tryz.prog 69 #[.pointer (some ⟨wA.heap.size, 0, none⟩), .int .u8 z] w fun e w' => e = .returned .nilIface ∧ Bw wA (l ++ [c]) w' := by
  subst hz
  refine (Any.Builder_WriteByte_k sh167 shX wA.heap.size wA.heap.size (Lib.byteCells l) (c.toNat : Nat) w h.1 (by rw [Lib.byteCells_length]; exact hl) h.2.2).mono ?_
  rintro e w' ⟨he, h1, h2, _⟩
  refine ⟨he, ?_, h.2.1.trans h2, Nat.le_trans h.2.2 h2.size⟩
  have e1 : Lib.byteCells (l ++ [c]) = Lib.byteCells l ++ [.int .u8 (c.toNat : Nat)] := by simp [Lib.byteCells]
  rw [e1]
  exact Or.inr h1
theorem string_b {wA w : World} {l : List UInt8} (h : Bw wA l w) :
    Calls Tryz.prog 70 #[.pointer (some ⟨wA.heap.size, 0, none⟩)] w fun e w' => e = .returned (.string ⟨l.toArray⟩) ∧ Keep [] wA w' := by
  refine (Any.Builder_String_any_k sh169 shX wA.heap.size wA.heap.size l w h.1 h.2.2).mono ?_
  rintro e w' ⟨he, _, h2, _⟩
  exact ⟨he, Keep.of_below (h.2.1.trans h2)⟩
set_option maxHeartbeats 1000000 in
set_option maxRecDepth 100000 in
theorem frameText_c (f : List Nat) (ok : FrOk f) (w : World) :
    Calls Tryz.prog 36 #[.agg (frv f).toArray] w fun e w' => e = .returned (.string ⟨(txt f).toArray⟩) ∧ Keep [] w w' := by
  have st := St.start w
  have hf := hid ok.len
  have hfl : (frv f).length = 12 := by rw [frv_length, ok.len]
  have HL := hid ttx_length
  go_enter Tryz.func36, Tryz.ntmps36
  go_wp2_with (first | ((with_reducible refine gate_alloc rfl ?_); refine ia_allocZ (sl := 3) st rfl rfl rfl ?_; clear st; intro wA w1 stA hk1 hlt1 hb1; have hbw := Bw.start hk1 hlt1 hb1; clear hk1 hlt1 hb1) | ((with_reducible refine gate_lst ?_); (first | ((with_reducible refine gate_box rfl ?_); (first | (refine ia_box (sl := 1) st rfl rfl rfl rfl rfl ?_; clear st; intro B1 _ st))) | ((with_reducible refine gate_alloc rfl ?_); (first | (refine ia_alloc (sl := 3) st rfl rfl rfl ?_; clear st; intro B3 _ st))) | ((with_reducible refine gate_load rfl ?_); (first | (refine ia_loadAll st rfl rfl rfl ?_ ?_; (focus (first | rfl | (simp; done) | (simp; assumption) | (simp; omega) | (simp [*]; done)))) | (refine ia_loadC (hb.keep st.keep (by simp)) rfl rfl rfl ?_ ?_; (focus (first | rfl | (simp; done) | (simp; assumption) | (simp; omega) | (simp [*]; done)))) | (refine ia_loadC (hb'.keep st.keep (by simp)) rfl rfl rfl ?_ ?_; (focus (first | rfl | (simp; done) | (simp; assumption) | (simp; omega) | (simp [*]; done)))) | (refine ia_loadC (Cl.of (hb1.keep st.keep (by simp))) rfl rfl rfl ?_ ?_; (focus (first | rfl | (simp; done) | (simp; assumption) | (simp; omega) | (simp [*]; done)))) | (refine ia_loadC (Cl.of (hb2.keep st.keep (by simp))) rfl rfl rfl ?_ ?_; (focus (first | rfl | (simp; done) | (simp; assumption) | (simp; omega) | (simp [*]; done)))))))))
  rw [← ttx_zero f] at hbw
  go_loopw [6] (fun i wr => ∃ y : Nat, y ≤ 12 ∧ i = .int .i64 y ∧ Bw wA (ttx f y 0) wr) (fun i _ => 12 - (intOf i).toNat)
  case atStart => exact ⟨0, by omega, rfl, hbw⟩
  case round =>
    clear hbw
    obtain ⟨y, hy, rfl, hbw⟩ := hrel
    have st := stA.call hbw.keep
    by_cases hlt : y < 12
    · have hd : decide ((y : Int) < 12) = true := by simp; omega
      obtain ⟨wo, rfl⟩ : ∃ wo : World, wo = wr := ⟨_, rfl⟩
      go_wp2_with (first | ((with_reducible refine gate_lst ?_); (first | ((with_reducible refine gate_box rfl ?_); (first | (refine ia_box (sl := 1) st rfl rfl rfl rfl rfl ?_; clear st; intro B1 _ st))) | ((with_reducible refine gate_alloc rfl ?_); (first | (refine ia_alloc (sl := 3) st rfl rfl rfl ?_; clear st; intro B3 _ st))) | ((with_reducible refine gate_load rfl ?_); (first | (refine ia_loadAll st rfl rfl rfl ?_ ?_; (focus (first | rfl | (simp; done) | (simp; assumption) | (simp; omega) | (simp [*]; done)))) | (refine ia_loadC (hb.keep st.keep (by simp)) rfl rfl rfl ?_ ?_; (focus (first | rfl | (simp; done) | (simp; assumption) | (simp; omega) | (simp [*]; done)))) | (refine ia_loadC (hb'.keep st.keep (by simp)) rfl rfl rfl ?_ ?_; (focus (first | rfl | (simp; done) | (simp; assumption) | (simp; omega) | (simp [*]; done)))) | (refine ia_loadC (Cl.of (hb1.keep st.keep (by simp))) rfl rfl rfl ?_ ?_; (focus (first | rfl | (simp; done) | (simp; assumption) | (simp; omega) | (simp [*]; done)))) | (refine ia_loadC (Cl.of (hb2.keep st.keep (by simp))) rfl rfl rfl ?_ ?_; (focus (first | rfl | (simp; done) | (simp; assumption) | (simp; omega) | (simp [*]; done)))))))))
      go_loopw [9] (fun i wr => ∃ x : Nat, x ≤ 12 ∧ i = .int .i64 x ∧ Bw wA (ttx f y x) wr) (fun i _ => 12 - (intOf i).toNat)
      case atStart => exact ⟨0, by omega, rfl, hbw⟩
      case round =>
        clear hbw st
        obtain ⟨x, hx, rfl, hbw⟩ := hrel
        have st := stA.call hbw.keep
        have hl := HL.out f y x
        by_cases hlx : x < 12
        · have hd2 : decide ((x : Int) < 12) = true := by simp; omega
          have HS := hid (ttx_x f y x)
          have HH := hid (fun w' => has_c f ok (x : Int) (y : Int) w')
          rcases Bool.eq_false_or_eq_true (hasI f x y) with h | h
          · rw [h] at HS HH
            go_wp2_with (first | (go_at_call 68; refine (HH.out _).mono ?_; rintro _ _ ⟨rfl, hk⟩; replace hbw := hbw.call hk; replace st := st.call hk; clear hk) | (go_at_call 69; refine (writeByte_b hbw 35 _ rfl (by omega)).mono ?_; clear hbw st; rintro _ _ ⟨rfl, hbw⟩; have st := stA.call hbw.keep) | ((with_reducible refine gate_lst ?_); (first | ((with_reducible refine gate_box rfl ?_); (first | (refine ia_box (sl := 1) st rfl rfl rfl rfl rfl ?_; clear st; intro B1 _ st))) | ((with_reducible refine gate_alloc rfl ?_); (first | (refine ia_alloc (sl := 3) st rfl rfl rfl ?_; clear st; intro B3 _ st))) | ((with_reducible refine gate_load rfl ?_); (first | (refine ia_loadAll st rfl rfl rfl ?_ ?_; (focus (first | rfl | (simp; done) | (simp; assumption) | (simp; omega) | (simp [*]; done)))) | (refine ia_loadC (hb.keep st.keep (by simp)) rfl rfl rfl ?_ ?_; (focus (first | rfl | (simp; done) | (simp; assumption) | (simp; omega) | (simp [*]; done)))) | (refine ia_loadC (hb'.keep st.keep (by simp)) rfl rfl rfl ?_ ?_; (focus (first | rfl | (simp; done) | (simp; assumption) | (simp; omega) | (simp [*]; done)))) | (refine ia_loadC (Cl.of (hb1.keep st.keep (by simp))) rfl rfl rfl ?_ ?_; (focus (first | rfl | (simp; done) | (simp; assumption) | (simp; omega) | (simp [*]; done)))) | (refine ia_loadC (Cl.of (hb2.keep st.keep (by simp))) rfl rfl rfl ?_ ?_; (focus (first | rfl | (simp; done) | (simp; assumption) | (simp; omega) | (simp [*]; done)))))))))
            go_roundw
            case rel => exact ⟨x + 1, by omega, by go_num, by rw [← HS.out]; exact hbw⟩
            case measure => simp [intOf]; omega
          · rw [h] at HS HH
            go_wp2_with (first | (go_at_call 68; refine (HH.out _).mono ?_; rintro _ _ ⟨rfl, hk⟩; replace hbw := hbw.call hk; replace st := st.call hk; clear hk) | (go_at_call 69; refine (writeByte_b hbw 46 _ rfl (by omega)).mono ?_; clear hbw st; rintro _ _ ⟨rfl, hbw⟩; have st := stA.call hbw.keep) | ((with_reducible refine gate_lst ?_); (first | ((with_reducible refine gate_box rfl ?_); (first | (refine ia_box (sl := 1) st rfl rfl rfl rfl rfl ?_; clear st; intro B1 _ st))) | ((with_reducible refine gate_alloc rfl ?_); (first | (refine ia_alloc (sl := 3) st rfl rfl rfl ?_; clear st; intro B3 _ st))) | ((with_reducible refine gate_load rfl ?_); (first | (refine ia_loadAll st rfl rfl rfl ?_ ?_; (focus (first | rfl | (simp; done) | (simp; assumption) | (simp; omega) | (simp [*]; done)))) | (refine ia_loadC (hb.keep st.keep (by simp)) rfl rfl rfl ?_ ?_; (focus (first | rfl | (simp; done) | (simp; assumption) | (simp; omega) | (simp [*]; done)))) | (refine ia_loadC (hb'.keep st.keep (by simp)) rfl rfl rfl ?_ ?_; (focus (first | rfl | (simp; done) | (simp; assumption) | (simp; omega) | (simp [*]; done)))) | (refine ia_loadC (Cl.of (hb1.keep st.keep (by simp))) rfl rfl rfl ?_ ?_; (focus (first | rfl | (simp; done) | (simp; assumption) | (simp; omega) | (simp [*]; done)))) | (refine ia_loadC (Cl.of (hb2.keep st.keep (by simp))) rfl rfl rfl ?_ ?_; (focus (first | rfl | (simp; done) | (simp; assumption) | (simp; omega) | (simp [*]; done)))))))))
            go_roundw
            case rel => exact ⟨x + 1, by omega, by go_num, by rw [← HS.out]; exact hbw⟩
            case measure => simp [intOf]; omega
        · obtain rfl : x = 12 := by omega
          have HS := hid (ttx_y f y)
          go_wp2_with (first | (go_at_call 69; refine (writeByte_b hbw 10 _ rfl (by omega)).mono ?_; clear hbw st; rintro _ _ ⟨rfl, hbw⟩; have st := stA.call hbw.keep) | ((with_reducible refine gate_lst ?_); (first | ((with_reducible refine gate_box rfl ?_); (first | (refine ia_box (sl := 1) st rfl rfl rfl rfl rfl ?_; clear st; intro B1 _ st))) | ((with_reducible refine gate_alloc rfl ?_); (first | (refine ia_alloc (sl := 3) st rfl rfl rfl ?_; clear st; intro B3 _ st))) | ((with_reducible refine gate_load rfl ?_); (first | (refine ia_loadAll st rfl rfl rfl ?_ ?_; (focus (first | rfl | (simp; done) | (simp; assumption) | (simp; omega) | (simp [*]; done)))) | (refine ia_loadC (hb.keep st.keep (by simp)) rfl rfl rfl ?_ ?_; (focus (first | rfl | (simp; done) | (simp; assumption) | (simp; omega) | (simp [*]; done)))) | (refine ia_loadC (hb'.keep st.keep (by simp)) rfl rfl rfl ?_ ?_; (focus (first | rfl | (simp; done) | (simp; assumption) | (simp; omega) | (simp [*]; done)))) | (refine ia_loadC (Cl.of (hb1.keep st.keep (by simp))) rfl rfl rfl ?_ ?_; (focus (first | rfl | (simp; done) | (simp; assumption) | (simp; omega) | (simp [*]; done)))) | (refine ia_loadC (Cl.of (hb2.keep st.keep (by simp))) rfl rfl rfl ?_ ?_; (focus (first | rfl | (simp; done) | (simp; assumption) | (simp; omega) | (simp [*]; done)))))))))
          go_roundw
          case rel => exact ⟨y + 1, by omega, by go_num, by rw [← HS.out]; exact hbw⟩
          case measure => simp [intOf]; omega
    · obtain rfl : y = 12 := by omega
      rw [ttx_all] at hbw
      have hst := stA.keep
      go_wp2_with (first | (go_at_call 70; refine (string_b hbw).mono ?_; clear hbw st; rintro _ _ ⟨rfl, hk⟩) | ((with_reducible refine gate_lst ?_); (first | ((with_reducible refine gate_box rfl ?_); (first | (refine ia_box (sl := 1) st rfl rfl rfl rfl rfl ?_; clear st; intro B1 _ st))) | ((with_reducible refine gate_alloc rfl ?_); (first | (refine ia_alloc (sl := 3) st rfl rfl rfl ?_; clear st; intro B3 _ st))) | ((with_reducible refine gate_load rfl ?_); (first | (refine ia_loadAll st rfl rfl rfl ?_ ?_; (focus (first | rfl | (simp; done) | (simp; assumption) | (simp; omega) | (simp [*]; done)))) | (refine ia_loadC (hb.keep st.keep (by simp)) rfl rfl rfl ?_ ?_; (focus (first | rfl | (simp; done) | (simp; assumption) | (simp; omega) | (simp [*]; done)))) | (refine ia_loadC (hb'.keep st.keep (by simp)) rfl rfl rfl ?_ ?_; (focus (first | rfl | (simp; done) | (simp; assumption) | (simp; omega) | (simp [*]; done)))) | (refine ia_loadC (Cl.of (hb1.keep st.keep (by simp))) rfl rfl rfl ?_ ?_; (focus (first | rfl | (simp; done) | (simp; assumption) | (simp; omega) | (simp [*]; done)))) | (refine ia_loadC (Cl.of (hb2.keep st.keep (by simp))) rfl rfl rfl ?_ ?_; (focus (first | rfl | (simp; done) | (simp; assumption) | (simp; omega) | (simp [*]; done)))))))))
      go_ret
      exact ⟨rfl, hst.trans hk (by simp)⟩
/-- The text of the first k pages. -/
def btx (B : List Fm) : Nat → List UInt8
  | 0 => []
  | k + 1 => (if 0 < k then btx B k ++ [10] else btx B k) ++ txt (B.getD k fz).1
theorem btx_length (B : List Fm) : ∀ k, (btx B k).length ≤ k * 157
  | 0 => by simp [btx]
  | k + 1 => by
    have := btx_length B k
    unfold btx
    rw [List.length_append, txt_length]
    split <;> (try rw [List.length_append]) <;> simp <;> omega
theorem btx_one (B : List Fm) : btx B 1 = txt (B.getD 0 fz).1 := by simp [btx]
theorem btx_more (B : List Fm) {k : Nat} (hk : 0 < k) : btx B (k + 1) = (btx B k ++ [10]) ++ txt (B.getD k fz).1 := by rw [btx, if_pos hk]
theorem btx_join (B : List Fm) : ∀ k, k ≤ B.length → Lib.join ((B.take k).map fun b => txt b.1) [10] = btx B k := by
  intro k
  induction k with
  | zero => intro _; simp [Lib.join, btx]
  | succ k ih =>
    intro hk
    have hkl : k < B.length := by omega
    rw [List.take_succ_eq_append_getElem hkl, List.map_append, List.map_singleton]
    have snoc : ∀ (l : List (List UInt8)) (x : List UInt8), l ≠ [] → Lib.join (l ++ [x]) [10] = (Lib.join l [10] ++ [10]) ++ x := by
      intro l x
      intro h
      cases l with
      | nil => exact absurd rfl h
      | cons a r => rw [List.cons_append, Lib.join_cons, Lib.join_cons]; simp [Lib.joinTail]
    have hg : B[k] = B.getD k fz := by rw [List.getD_eq_getElem?_getD, List.getElem?_eq_getElem hkl]; rfl
    rcases Nat.eq_zero_or_pos k with h0 | hpos
    · subst h0
      simp [Lib.join, btx, hg]
    · rw [snoc _ _ (by intro e; have h1 := congrArg List.length e; rw [List.length_map, List.length_take, List.length_nil] at h1; omega), ih (by omega), btx_more B hpos, hg]
def btxt (B : List Fm) : List UInt8 := btx B B.length
/-- A string. -/
def sv (l : List UInt8) : List Value := [.string ⟨l.toArray⟩]
@[simp] theorem sv_len (l : List UInt8) : (sv l).length = 1 := rfl
theorem sv_one (l : List UInt8) : ∀ v ∈ sv l, v.oneCell' = true := by simp [sv, Value.oneCell']
@[simp] theorem encs_sv_length (l : List (List UInt8)) : (encs sv l).length = l.length := by rw [encs_length sv_len, Nat.mul_one]
theorem join_b (R : List (List UInt8)) (n : Nat) (hR : R.length = n) (hn : n ≤ 2000000) (sep : List UInt8) (hlen : (Lib.join R sep).length ≤ 140737488355328) (g c : Nat) (hc : n ≤ c) (w : World) (cs : List Value) (T : TypeId) (hb : Blk w g (encs sv R ++ cs) T) :
    Calls Tryz.prog 37 #[.slice (some ⟨g, 0, none⟩) n c, .string ⟨sep.toArray⟩] w fun e w' => e = .returned (.string ⟨(Lib.join R sep).toArray⟩) ∧ Keep [] w w' := by
  subst hR
  have hm : (R.map fun l => (⟨l.toArray⟩ : ByteArray)).map (fun x => x.data.toList) = R := by rw [List.map_map]; simp [Function.comp_def]
  have hl : (R.map fun l => (⟨l.toArray⟩ : ByteArray)).length = R.length := by simp
  have h := Any.strings_Join sh156 shX g 0 c (R.map fun l => (⟨l.toArray⟩ : ByteArray)) ⟨sep.toArray⟩ w (fun j x hj => by
    rw [List.getElem?_map] at hj
    obtain ⟨l, hl, rfl⟩ := Option.map_eq_some_iff.1 hj
    obtain ⟨hjl, e⟩ := List.getElem?_eq_some_iff.1 hl
    have := encs_getA sv_len R cs j hjl 0 (by omega)
    rw [Nat.mul_one, Nat.add_zero, e] at this
    rw [Nat.zero_add]
    exact hb.cellv this) hb.lt (by rw [hl]; omega) (by rw [hl]; exact hc) (by rw [hm]; exact hlen)
  rw [hl, hm] at h
  exact h.mono fun e w' ⟨h1, h2⟩ => ⟨h1, Keep.of_below h2⟩
def bkT (B : List Fm) : List UInt8 := if bkB B = true then btxt B else []
def tks (B : List Fm) (k : Nat) : List (List UInt8) := (B.take k).map fun b => txt b.1
theorem tks_length {B : List Fm} {k n : Nat} (hB : B.length = n) (hk : k ≤ n) : (tks B k).length = k := by unfold tks; rw [List.length_map, List.length_take]; omega
theorem tks_step {B : List Fm} {k : Nat} (hk : k < B.length) : tks B k ++ [txt B[k].1] = tks B (k + 1) := by unfold tks; rw [List.take_succ_eq_append_getElem hk, List.map_append]; rfl
set_option maxHeartbeats 1000000 in
set_option maxRecDepth 100000 in
theorem BookText_c (B : List Fm) (n : Nat) (hB : B.length = n) (hn : n ≤ 2000000) (p : Option Addr) (c : Nat) (w : World) (hr : Rd w p n (encs fv B)) :
    Calls Tryz.prog 7 #[.slice p n c] w fun e w' => e = .returned (.string ⟨(bkT B).toArray⟩) ∧ Keep [] w w' := by
  have st := St.start w
  unfold bkT
  rcases Bool.eq_false_or_eq_true (bkB B) with h | h
  · have HV := hid (fun w' hk => ValidBook_v h n hB (by omega) p c w' (hr.keep (w1 := w') hk))
    rw [if_pos h]
    have HJ : Hid (Lib.join (tks B n) [10] = btxt B) := hid (by unfold tks btxt; rw [btx_join B n (by omega), hB])
    have HJL : Hid ((Lib.join (tks B n) [10]).length ≤ 140737488355328) := hid (by rw [HJ.out]; unfold btxt; have := btx_length B B.length; omega)
    replace hB := hid hB
    clear h
    go_enter Tryz.func7, Tryz.ntmps7
    go_wp2_with (first | (go_at_call 16; refine (HV.out _ st.keep).mono ?_; rintro _ _ ⟨rfl, hk⟩; replace st := st.call hk; clear hk) | ((with_reducible refine gate_bsl rfl ?_); refine ia_bsl0 (sl := 9) st rfl rfl rfl ?_; clear st; intro B9 _ st) | ((with_reducible refine gate_lst ?_); (first | ((with_reducible refine gate_alloc rfl ?_); (first | (refine ia_alloc (sl := 5) st rfl rfl rfl ?_; clear st; intro B5 _ st))) | ((with_reducible refine gate_load rfl ?_); (first | (refine ia_loadAll st rfl rfl rfl ?_ ?_; (focus (first | rfl | (simp; done) | (simp; assumption) | (simp; omega) | (simp [*]; done)))) | (refine ia_loadC (hb.keep st.keep (by simp)) rfl rfl rfl ?_ ?_; (focus (first | rfl | (simp; done) | (simp; assumption) | (simp; omega) | (simp [*]; done)))) | (refine ia_loadC (hb'.keep st.keep (by simp)) rfl rfl rfl ?_ ?_; (focus (first | rfl | (simp; done) | (simp; assumption) | (simp; omega) | (simp [*]; done)))) | (refine ia_loadC (Cl.of (hb1.keep st.keep (by simp))) rfl rfl rfl ?_ ?_; (focus (first | rfl | (simp; done) | (simp; assumption) | (simp; omega) | (simp [*]; done)))) | (refine ia_loadC (Cl.of (hb2.keep st.keep (by simp))) rfl rfl rfl ?_ ?_; (focus (first | rfl | (simp; done) | (simp; assumption) | (simp; omega) | (simp [*]; done)))))) | ((with_reducible refine gate_store rfl ?_); (first | (refine ia_storeAll st rfl rfl rfl rfl ?_ ?_ ?_ ?_; (focus (first | rfl | (simp; done) | (simp; assumption) | (simp; omega) | (simp [*]; done))); (focus (first | exact frv_one _ | exact fv_one _ | exact p8_one _ | exact k3_one _ | exact i1_one _ | (simp [Value.oneCell']; done))); (focus (first | rfl | (simp; done) | (simp; assumption) | (simp; omega) | (simp [*]; done))); clear st; intro _ st; (try simp only [List.set_cons_zero, List.set_cons_succ] at st)) | (refine ia_storeSeg st rfl rfl rfl rfl ?_ ?_ ?_ ?_; (focus (first | rfl | (simp; done) | (simp; assumption) | (simp; omega) | (simp [*]; done))); (focus (first | exact frv_one _ | exact fv_one _ | exact p8_one _ | exact k3_one _ | exact i1_one _ | (simp [Value.oneCell']; done))); (focus (first | omega | (simp; done) | (simp; omega) | (simp [*]; omega))); clear st; intro _ st; (try simp only [List.set_cons_zero, List.set_cons_succ] at st)))) | ((with_reducible refine gate_addr rfl ?_); (first | (refine' ia_slcP HP.out rfl rfl rfl rfl ?_ ?_ ?_) | (refine' ia_slcP HP2.out rfl rfl rfl rfl ?_ ?_ ?_)); rotate_left 1; (focus (first | exact (rfl : (0 : Int) = ((0 : Nat) : Int)) | exact (rfl : (1 : Int) = ((1 : Nat) : Int)) | exact rfl | exact HE1.out | exact HE2.out)); (focus (first | omega | (simp; done) | (simp; omega) | (simp [*]; omega)))))))
    go_loopw [3, 12] (fun v i wr => ∃ k : Nat, k ≤ n ∧ i = .int .i64 k ∧ Own 9 1 k (encs sv (tks B k)) [] w wr [] v) (fun _ i _ => n - (intOf i).toNat)
    case atStart => exact ⟨0, by omega, rfl, B9, 0, [], rfl, st, rfl, Nat.zero_le _⟩
    case round =>
      clear st
      obtain ⟨k, hk, rfl, g, cap, spare, rfl, st, hcap, hcm⟩ := hrel
      have HC := hid hcap
      clear hcap
      by_cases hlt : k < n
      · have hd : decide ((k : Int) < (n : Int)) = true := by simpa using hlt
        obtain ⟨b, f, hp, hcl⟩ := hr (by omega)
        have HP := hid hp
        have hkB : k < B.length := by rw [hB.out]; exact hlt
        have hb := hcl.seg fv_len hkB
        have HS := hid (tks_step hkB)
        obtain ⟨x, hx⟩ : ∃ x, B[k] = x := ⟨_, rfl⟩
        rw [hx] at hb HS
        have HH := hid (fun w' => frameText_c x.1 x.2 w')
        obtain ⟨T, hT⟩ : ∃ T, txt x.1 = T := ⟨_, rfl⟩
        rw [hT] at HH HS
        clear hx hp hcl hkB hT
        go_wp2_with (first | (go_at_call 36; refine (HH.out _).mono ?_; rintro _ _ ⟨rfl, hk⟩; replace st := st.call hk; clear hk) | ((with_reducible refine gate_bsl rfl ?_); refine ia_bsl1 (sl := 19) st rfl rfl rfl rfl rfl ?_ (by decide) ?_; (focus (first | rfl | (simp; done) | (simp; assumption) | (simp; omega) | (simp [*]; done))); clear st; intro B19 _ st) | ((with_reducible refine gate_app rfl ?_); refine ia_appendR (news := (sv T)) (xs := (encs sv (tks B k))) (spare := spare) st rfl rfl rfl rfl (by rw [encs_sv_length, tks_length hB.out hk, Nat.mul_one]) HC.out hcm (.fr (st.get (by repeat (first | exact At.here | apply At.there)))) (fun h => by cases h) (sv_len _) (sv_one _) (by unfold maxLen; omega) (by omega) ?_; clear st; intro g2 cap2 spare2 _ st hcap2 hcm2; (try simp only [List.set_cons_zero, List.set_cons_succ] at st)) | ((with_reducible refine gate_lst ?_); (first | ((with_reducible refine gate_alloc rfl ?_); (first | (refine ia_alloc (sl := 5) st rfl rfl rfl ?_; clear st; intro B5 _ st))) | ((with_reducible refine gate_load rfl ?_); (first | (refine ia_loadAll st rfl rfl rfl ?_ ?_; (focus (first | rfl | (simp; done) | (simp; assumption) | (simp; omega) | (simp [*]; done)))) | (refine ia_loadC (hb.keep st.keep (by simp)) rfl rfl rfl ?_ ?_; (focus (first | rfl | (simp; done) | (simp; assumption) | (simp; omega) | (simp [*]; done)))) | (refine ia_loadC (hb'.keep st.keep (by simp)) rfl rfl rfl ?_ ?_; (focus (first | rfl | (simp; done) | (simp; assumption) | (simp; omega) | (simp [*]; done)))) | (refine ia_loadC (Cl.of (hb1.keep st.keep (by simp))) rfl rfl rfl ?_ ?_; (focus (first | rfl | (simp; done) | (simp; assumption) | (simp; omega) | (simp [*]; done)))) | (refine ia_loadC (Cl.of (hb2.keep st.keep (by simp))) rfl rfl rfl ?_ ?_; (focus (first | rfl | (simp; done) | (simp; assumption) | (simp; omega) | (simp [*]; done)))))) | ((with_reducible refine gate_store rfl ?_); (first | (refine ia_storeAll st rfl rfl rfl rfl ?_ ?_ ?_ ?_; (focus (first | rfl | (simp; done) | (simp; assumption) | (simp; omega) | (simp [*]; done))); (focus (first | exact frv_one _ | exact fv_one _ | exact p8_one _ | exact k3_one _ | exact i1_one _ | (simp [Value.oneCell']; done))); (focus (first | rfl | (simp; done) | (simp; assumption) | (simp; omega) | (simp [*]; done))); clear st; intro _ st; (try simp only [List.set_cons_zero, List.set_cons_succ] at st)) | (refine ia_storeSeg st rfl rfl rfl rfl ?_ ?_ ?_ ?_; (focus (first | rfl | (simp; done) | (simp; assumption) | (simp; omega) | (simp [*]; done))); (focus (first | exact frv_one _ | exact fv_one _ | exact p8_one _ | exact k3_one _ | exact i1_one _ | (simp [Value.oneCell']; done))); (focus (first | omega | (simp; done) | (simp; omega) | (simp [*]; omega))); clear st; intro _ st; (try simp only [List.set_cons_zero, List.set_cons_succ] at st)))) | ((with_reducible refine gate_addr rfl ?_); (first | (refine' ia_slcP HP.out rfl rfl rfl rfl ?_ ?_ ?_) | (refine' ia_slcP HP2.out rfl rfl rfl rfl ?_ ?_ ?_)); rotate_left 1; (focus (first | exact (rfl : (0 : Int) = ((0 : Nat) : Int)) | exact (rfl : (1 : Int) = ((1 : Nat) : Int)) | exact rfl | exact HE1.out | exact HE2.out)); (focus (first | omega | (simp; done) | (simp; omega) | (simp [*]; omega)))))))
        have e : encs sv (tks B (k + 1)) = encs sv (tks B k) ++ sv T := by rw [← HS.out, encs_append]; simp [encs]
        go_roundw
        case rel => exact ⟨k + 1, by omega, by go_num, g2, cap2, spare2, rfl, by rw [e]; exact st.drop.drop, by rw [e]; exact hcap2, hcm2⟩
        case measure => first | (simp [intOf]; done) | (simp [intOf]; omega)
      · obtain rfl : k = n := by omega
        have hkc : k ≤ cap := by have := HC.out; rw [List.length_append, encs_sv_length, tks_length hB.out (Nat.le_refl _)] at this; omega
        go_wp2_with (first | (go_at_call 37; refine (join_b (tks B k) k (tks_length hB.out (Nat.le_refl _)) hn [10] HJL.out _ _ hkc _ spare _ (st.get (by repeat (first | exact At.here | apply At.there)))).mono ?_; rintro _ _ ⟨rfl, hk⟩; replace st := st.call hk; clear hk) | ((with_reducible refine gate_lst ?_); (first | ((with_reducible refine gate_alloc rfl ?_); (first | (refine ia_alloc (sl := 5) st rfl rfl rfl ?_; clear st; intro B5 _ st))) | ((with_reducible refine gate_load rfl ?_); (first | (refine ia_loadAll st rfl rfl rfl ?_ ?_; (focus (first | rfl | (simp; done) | (simp; assumption) | (simp; omega) | (simp [*]; done)))) | (refine ia_loadC (hb.keep st.keep (by simp)) rfl rfl rfl ?_ ?_; (focus (first | rfl | (simp; done) | (simp; assumption) | (simp; omega) | (simp [*]; done)))) | (refine ia_loadC (hb'.keep st.keep (by simp)) rfl rfl rfl ?_ ?_; (focus (first | rfl | (simp; done) | (simp; assumption) | (simp; omega) | (simp [*]; done)))) | (refine ia_loadC (Cl.of (hb1.keep st.keep (by simp))) rfl rfl rfl ?_ ?_; (focus (first | rfl | (simp; done) | (simp; assumption) | (simp; omega) | (simp [*]; done)))) | (refine ia_loadC (Cl.of (hb2.keep st.keep (by simp))) rfl rfl rfl ?_ ?_; (focus (first | rfl | (simp; done) | (simp; assumption) | (simp; omega) | (simp [*]; done)))))) | ((with_reducible refine gate_store rfl ?_); (first | (refine ia_storeAll st rfl rfl rfl rfl ?_ ?_ ?_ ?_; (focus (first | rfl | (simp; done) | (simp; assumption) | (simp; omega) | (simp [*]; done))); (focus (first | exact frv_one _ | exact fv_one _ | exact p8_one _ | exact k3_one _ | exact i1_one _ | (simp [Value.oneCell']; done))); (focus (first | rfl | (simp; done) | (simp; assumption) | (simp; omega) | (simp [*]; done))); clear st; intro _ st; (try simp only [List.set_cons_zero, List.set_cons_succ] at st)) | (refine ia_storeSeg st rfl rfl rfl rfl ?_ ?_ ?_ ?_; (focus (first | rfl | (simp; done) | (simp; assumption) | (simp; omega) | (simp [*]; done))); (focus (first | exact frv_one _ | exact fv_one _ | exact p8_one _ | exact k3_one _ | exact i1_one _ | (simp [Value.oneCell']; done))); (focus (first | omega | (simp; done) | (simp; omega) | (simp [*]; omega))); clear st; intro _ st; (try simp only [List.set_cons_zero, List.set_cons_succ] at st)))) | ((with_reducible refine gate_addr rfl ?_); (first | (refine' ia_slcP HP.out rfl rfl rfl rfl ?_ ?_ ?_) | (refine' ia_slcP HP2.out rfl rfl rfl rfl ?_ ?_ ?_)); rotate_left 1; (focus (first | exact (rfl : (0 : Int) = ((0 : Nat) : Int)) | exact (rfl : (1 : Int) = ((1 : Nat) : Int)) | exact rfl | exact HE1.out | exact HE2.out)); (focus (first | omega | (simp; done) | (simp; omega) | (simp [*]; omega)))))))
        go_ret
        exact ⟨by rw [HJ.out]; rfl, st.keep⟩
  · have HV := hid (fun w' hk => ValidBook_v h n hB (by omega) p c w' (hr.keep (w1 := w') hk))
    rw [if_neg (by rw [h]; decide)]
    go_enter Tryz.func7, Tryz.ntmps7
    go_wp2_with (first | (go_at_call 16; refine (HV.out _ st.keep).mono ?_; rintro _ _ ⟨rfl, hk⟩; replace st := st.call hk; clear hk) | ((with_reducible refine gate_lst ?_); (first | ((with_reducible refine gate_alloc rfl ?_); (first | (refine ia_alloc (sl := 5) st rfl rfl rfl ?_; clear st; intro B5 _ st))) | ((with_reducible refine gate_load rfl ?_); (first | (refine ia_loadAll st rfl rfl rfl ?_ ?_; (focus (first | rfl | (simp; done) | (simp; assumption) | (simp; omega) | (simp [*]; done)))) | (refine ia_loadC (hb.keep st.keep (by simp)) rfl rfl rfl ?_ ?_; (focus (first | rfl | (simp; done) | (simp; assumption) | (simp; omega) | (simp [*]; done)))) | (refine ia_loadC (hb'.keep st.keep (by simp)) rfl rfl rfl ?_ ?_; (focus (first | rfl | (simp; done) | (simp; assumption) | (simp; omega) | (simp [*]; done)))) | (refine ia_loadC (Cl.of (hb1.keep st.keep (by simp))) rfl rfl rfl ?_ ?_; (focus (first | rfl | (simp; done) | (simp; assumption) | (simp; omega) | (simp [*]; done)))) | (refine ia_loadC (Cl.of (hb2.keep st.keep (by simp))) rfl rfl rfl ?_ ?_; (focus (first | rfl | (simp; done) | (simp; assumption) | (simp; omega) | (simp [*]; done)))))) | ((with_reducible refine gate_store rfl ?_); (first | (refine ia_storeAll st rfl rfl rfl rfl ?_ ?_ ?_ ?_; (focus (first | rfl | (simp; done) | (simp; assumption) | (simp; omega) | (simp [*]; done))); (focus (first | exact frv_one _ | exact fv_one _ | exact p8_one _ | exact k3_one _ | exact i1_one _ | (simp [Value.oneCell']; done))); (focus (first | rfl | (simp; done) | (simp; assumption) | (simp; omega) | (simp [*]; done))); clear st; intro _ st; (try simp only [List.set_cons_zero, List.set_cons_succ] at st)) | (refine ia_storeSeg st rfl rfl rfl rfl ?_ ?_ ?_ ?_; (focus (first | rfl | (simp; done) | (simp; assumption) | (simp; omega) | (simp [*]; done))); (focus (first | exact frv_one _ | exact fv_one _ | exact p8_one _ | exact k3_one _ | exact i1_one _ | (simp [Value.oneCell']; done))); (focus (first | omega | (simp; done) | (simp; omega) | (simp [*]; omega))); clear st; intro _ st; (try simp only [List.set_cons_zero, List.set_cons_succ] at st)))) | ((with_reducible refine gate_addr rfl ?_); (first | (refine' ia_slcP HP.out rfl rfl rfl rfl ?_ ?_ ?_) | (refine' ia_slcP HP2.out rfl rfl rfl rfl ?_ ?_ ?_)); rotate_left 1; (focus (first | exact (rfl : (0 : Int) = ((0 : Nat) : Int)) | exact (rfl : (1 : Int) = ((1 : Nat) : Int)) | exact rfl | exact HE1.out | exact HE2.out)); (focus (first | omega | (simp; done) | (simp; omega) | (simp [*]; omega)))))))
    go_ret
    exact ⟨rfl, st.keep⟩
end Go.Proofs.YtmfgbkmkcljciaaGreatDoor
/- Strings letter by letter and in parts: rules of the walk; no condition. -/
namespace Go.Proofs.YtmfgbkmkcljciaaGreatDoor
open Go.RowKit
set_option linter.unusedSimpArgs false
set_option linter.unusedVariables false
theorem bytes_ext {a b : ByteArray} (h : a.data = b.data) : a = b := by cases a; cases b; simp at h; rw [h]
theorem ext_l (l : List UInt8) (a b : Nat) : (⟨l.toArray⟩ : ByteArray).extract a b = ⟨((l.drop a).take (b - a)).toArray⟩ := by
  apply bytes_ext
  rw [ByteArray.data_extract]
  simp [List.extract_eq_take_drop]
theorem size_l (l : List UInt8) : (⟨l.toArray⟩ : ByteArray).size = l.length := rfl
section
variable {P : Program} {ops : Array Oper} {rest : List Oper} {o : Oper} {a : Act} {w : World} {Q : Exit → Act → World → Prop} {T : TypeId} {x ix il ih : Operand} {l : List UInt8} {K K' : IntKind} {k i j : Nat}
theorem gate_ind {i : Operand} (_ho : o.op = .index T x i) (h : wpList P ops Q (o :: rest) a w) : wpList P ops Q (o :: rest) a w := h
theorem gate_scut {l h m : Option Operand} (_ho : o.op = .slice T x l h m) (hh : wpList P ops Q (o :: rest) a w) : wpList P ops Q (o :: rest) a w := hh
theorem index_l (hu : P.underlying T = some .string) (hk : k < l.length) (w : World) : (Instr.index T (.string ⟨l.toArray⟩) (.int K k)).run P w = .ok (.int .u8 ((l.getD k 0).toNat : Nat)) w := by
  have hk' : ((k : Nat) : Int) < ((⟨l.toArray⟩ : ByteArray).size : Nat) := by rw [size_l]; omega
  rw [run_index_string w T ⟨l.toArray⟩ K k hu, dif_pos ⟨by omega, hk'⟩]
  have e : (⟨l.toArray⟩ : ByteArray)[((k : Nat) : Int).toNat]'(by rw [Int.toNat_natCast]; exact hk) = l.getD k 0 := by
    rw [List.getD_eq_getElem?_getD, List.getElem?_eq_getElem hk]
    rfl
  rw [e]
theorem ia_sidx (hgd : o.guard = none) (ho : o.op = .index T x ix) (hx : a.eval x = .string ⟨l.toArray⟩) (hi : a.eval ix = .int K k) (hu : P.underlying T = some .string) (hk : k < l.length)
    (h : wpList P ops Q rest (a.put o.dst (.int .u8 ((l.getD k 0).toNat : Nat))) w) : wpList P ops Q (o :: rest) a w :=
  wpl_val hgd _ (by
    unfold execOp
    simp only [ho, hx, hi, Sem.run_bind, Sem.run_pure, Result.andThen_ok, index_l hu hk]) h
theorem ia_scut (hgd : o.guard = none) (ho : o.op = .slice T x (some il) (some ih) none) (hx : a.eval x = .string ⟨l.toArray⟩) (hil : a.eval il = .int K i) (hih : a.eval ih = .int K' j) (hu : P.underlying T = some .string) (h1 : i ≤ j) (h2 : j ≤ l.length)
    (h : wpList P ops Q rest (a.put o.dst (.string ⟨((l.drop i).take (j - i)).toArray⟩)) w) : wpList P ops Q (o :: rest) a w := by
  have hr := run_slice_string (P := P) (w := w) T ⟨l.toArray⟩ K K' (i : Nat) (j : Nat) hu (by omega) (by omega) (by rw [size_l]; omega)
  rw [Int.toNat_natCast, Int.toNat_natCast, ext_l] at hr
  exact wpl_val hgd _ (by
    unfold execOp
    simp only [ho, hx, hil, hih, Instr.sliceAt, Sem.run_bind, Sem.run_pure, Result.andThen_ok, Option.map_some, Option.map_none, run_underlying hu, hr]) h
theorem ia_scutF (hgd : o.guard = none) (ho : o.op = .slice T x (some il) none none) (hx : a.eval x = .string ⟨l.toArray⟩) (hil : a.eval il = .int K i) (hu : P.underlying T = some .string) (h1 : i ≤ l.length)
    (h : wpList P ops Q rest (a.put o.dst (.string ⟨(l.drop i).toArray⟩)) w) : wpList P ops Q (o :: rest) a w := by
  have hr := run_slice_string_from_if (P := P) (w := w) T ⟨l.toArray⟩ K (i : Nat) hu
  rw [if_pos ⟨by omega, by rw [size_l]; omega⟩, Int.toNat_natCast, ext_l, size_l, List.take_of_length_le (by rw [List.length_drop]; omega)] at hr
  exact wpl_val hgd _ (by
    unfold execOp
    simp only [ho, hx, hil, Instr.sliceAt, Sem.run_bind, Sem.run_pure, Result.andThen_ok, Option.map_some, Option.map_none, run_underlying hu, hr]) h
end
end Go.Proofs.YtmfgbkmkcljciaaGreatDoor
/- A text is cut at a letter (the reference's walk); no condition. -/
namespace Go.Proofs.YtmfgbkmkcljciaaGreatDoor
open Go.RowKit
set_option linter.unusedSimpArgs false
set_option linter.unusedVariables false
def PcPost (c : UInt8) (l : List UInt8) (w : World) (e : Ending) (w' : World) : Prop := ∃ v, e = .returned v ∧ Gives 9 1 (wds c l).length (encs sv (wds c l)) w v w' ∧ Keep [] w w'
section
variable {P : Program} {ops : Array Oper} {rest : List Oper} {o : Oper} {a : Act} {w : World} {Q : Exit → Act → World → Prop}
theorem gate_sq {T U : TypeId} {x y : Operand} (_ho : o.op = .binOp .eql T x y U) (h : wpList P ops Q (o :: rest) a w) : wpList P ops Q (o :: rest) a w := h
theorem la_seq {T U : TypeId} {x y : Operand} {l m : List UInt8} {v : Bool} (hv : decide (l = m) = v) (hgd : o.guard = none) (ho : o.op = .binOp .eql T x y U) (hx : a.eval x = .string ⟨l.toArray⟩) (hy : a.eval y = .string ⟨m.toArray⟩)
    (h : wpList P ops Q rest (a.put o.dst (.bool v)) w) : wpList P ops Q (o :: rest) a w :=
  wpl_val hgd _ (by
    subst hv
    unfold execOp
    simp only [ho, hx, hy]
    by_cases e : l = m
    · subst e; go_simp
    · go_simp) h
end
theorem cell_keep {w w' : World} (hk : Keep [] w w') {b : Nat} {v : Value} (h : w.cell? ⟨b, 0, none⟩ = some v) : w'.cell? ⟨b, 0, none⟩ = some v := by
  have hlt : b < w.heap.size := by
    unfold World.cell? at h
    cases hh : w.heap[b]? with
    | none => simp [hh] at h
    | some o => exact (Array.getElem?_eq_some_iff.1 hh).1
  unfold World.cell? at h ⊢
  rw [hk.block b hlt (by simp)]
  exact h
theorem words_get {W : List (List UInt8)} {sp : List Value} {k : Nat} {x : List UInt8} (hk : k < W.length) (hx : W[k] = x) : (encs sv W ++ sp)[k]? = some (.string ⟨x.toArray⟩) := by
  have := encs_getA sv_len W sp k hk 0 (by omega)
  rw [Nat.mul_one, Nat.add_zero, hx] at this
  exact this
def allTo (f : List UInt8 → Bool) (W : List (List UInt8)) (k : Nat) : Prop := ∀ j (h : j < W.length), j < k → f W[j] = true
theorem allTo.step {f : List UInt8 → Bool} {W : List (List UInt8)} {k : Nat} (h : allTo f W k) (hk : k < W.length) (e : f W[k] = true) : allTo f W (k + 1) := fun j hj hjk => by
  by_cases e2 : j = k
  · subst e2; exact e
  · exact h j hj (by omega)
theorem allTo.all {f : List UInt8 → Bool} {W : List (List UInt8)} {k : Nat} (h : allTo f W k) (hk : W.length = k) : W.all f = true := by
  rw [List.all_eq_true]
  intro x hx
  obtain ⟨j, hj, rfl⟩ := List.mem_iff_getElem.1 hx
  exact h j hj (by omega)
theorem mapG_step {α : Type} {e : α → List Value} {f : List UInt8 → α} {W : List (List UInt8)} {k : Nat} (hk : k < W.length) : encs e ((W.take (k + 1)).map f) = encs e ((W.take k).map f) ++ e (f W[k]) := by
  rw [List.take_succ_eq_append_getElem hk, List.map_append, encs_append]
  simp [encs]
theorem mapG_len {α : Type} {e : α → List Value} {s : Nat} (hs : ∀ a, (e a).length = s) {f : List UInt8 → α} {W : List (List UInt8)} {k : Nat} (hk : k ≤ W.length) : (encs e ((W.take k).map f)).length = k * s := by
  rw [encs_length hs, List.length_map, List.length_take, Nat.min_eq_left hk]
section
variable {P : Program} {ops : Array Oper} {rest : List Oper} {o : Oper} {a : Act} {w : World} {Q : Exit → Act → World → Prop}
theorem gate_sn {T U : TypeId} {x y : Operand} (_ho : o.op = .binOp .neq T x y U) (h : wpList P ops Q (o :: rest) a w) : wpList P ops Q (o :: rest) a w := h
theorem la_sneq {T U : TypeId} {x y : Operand} {l m : List UInt8} {v : Bool} (hv : (!decide (l = m)) = v) (hgd : o.guard = none) (ho : o.op = .binOp .neq T x y U) (hx : a.eval x = .string ⟨l.toArray⟩) (hy : a.eval y = .string ⟨m.toArray⟩)
    (h : wpList P ops Q rest (a.put o.dst (.bool v)) w) : wpList P ops Q (o :: rest) a w :=
  wpl_val hgd _ (by
    subst hv
    unfold execOp
    simp only [ho, hx, hy]
    by_cases e : l = m
    · subst e; go_simp
    · go_simp) h
end
end Go.Proofs.YtmfgbkmkcljciaaGreatDoor
/- The wrap of a door's row, and the library's cell of which the world's shape tells; no condition. -/
namespace Go.Proofs.YtmfgbkmkcljciaaGreatDoor
open Go.RowKit
/-- The wrap of a row that lists variables: the world's shape is told too. -/
theorem returns_and_shaped {H : Type} {enc : TypeId × Value → H} {a : Assume} {C : Checked} {os : Os} {f : FuncId} {fn : Func} {s : ChangeSpec} {conds : List PathCond} {apart fresh handsOn again : Bool} {X : World → Array Value → Prop}
    (hX : ∀ (w w' : World) (args : Array Value), w.heap = w'.heap → X w args → X w' args)
    (own : ownKnob C.prog.godebug = none) (started : os.Started) (noInit : C.prog.inits.idxOf? f = none) (hfn : C.prog.funcs[f]? = some fn)
    (witness : ∃ (w : World) (tape : Tape) (i : Input), w.os = os ∧ (w.forCall tape i).Shaped C.prog ∧ i.vars = [] ∧ Input.okWide C.prog (w.forCall tape i) .any w.heap.size f i ∧
      ((s.pre enc C.prog fn conds apart (w.forCall tape i).memory i.args ∧ X (w.forCall tape i).memory i.args) ∧ sizedMet enc C.prog fn (OpenSpec.ofChange s) apart (w.forCall tape i).memory i.args) ∧ a.holds C.prog (lone (Frame.enter C.prog f i.args .normal) [] (w.forCall tape i)))
    (contract : ∀ (W : World) (base : Nat) (args : Array Value) (ds gs : List (DataW H)) (before : List MemPlace),
      (∀ (j : Nat) t v, fn.params[j]? = some t → args[j]? = some v → Value.okWide C.prog W .any base t v) →
      DataW.Whole enc C.prog fn.params.toList s.vars apart W args.toList ds gs before →
      conds.all (PathCond.test C.prog ⟨fn.params.toList, ds, s.plain.varTypes C.prog, gs⟩) = true →
      (DataW.weightsEach C.prog (fn.params.toList ++ s.plain.varTypes C.prog) (ds ++ gs)).all (· ≤ reachBytes) = true → X W args → W.ShapedOpen C.prog →
      Calls C.prog f args W fun e W' => ∃ v, e = .returned v ∧ s.post enc C.prog fn apart fresh handsOn again W args v W') :
    ReturnsInHanded a C os f .any (fun w args => (s.pre enc C.prog fn conds apart w args ∧ X w args) ∧ sizedMet enc C.prog fn (OpenSpec.ofChange s) apart w args) (s.post enc C.prog fn apart fresh handsOn again) :=
  returnsInHanded_of_calls own started noInit witness fun w tape i _ hsh _ hok hpre _ => by
    obtain ⟨_, _, _, fn', hfn', _, _, _, _, hval⟩ := hok
    obtain rfl : fn' = fn := Option.some.inj (hfn'.symm.trans hfn)
    obtain ⟨⟨⟨ds, gs, before, hw, hc⟩, hx⟩, hz⟩ := hpre
    refine (contract (w.forCall tape i) w.heap.size i.args ds gs before hval (DataW.Whole.of_heap (w' := w.forCall tape i) (by rfl) hw) hc (hz.weights hw) (hX _ _ _ (by rfl) hx) hsh).mono fun e W' ⟨v, he, hp⟩ => ?_
    subst he
    exact ChangeSpec.post_blind hp
theorem max_of {W : World} (h : W.ShapedOpen Tryz.prog) : ∃ m, W.cell? ⟨shR.g 1, 0, none⟩ = some (.int .i64 m) :=
  Go.Proofs.cell_of_shapedOpen_int (P := Tryz.prog) (g := shR.g 1) (t := 3) (zero := #[.int .i64 0]) h (of_decide_eq_true (by kernel_rfl)) (by kernel_rfl) rfl (by kernel_rfl) (by kernel_rfl) Tryz.underlying3
end Go.Proofs.YtmfgbkmkcljciaaGreatDoor
/- A frame's text: the law FrameText; no condition. -/
namespace Go.Proofs.YtmfgbkmkcljciaaGreatDoor
open Go.RowKit
set_option linter.unusedSimpArgs false
set_option linter.unusedVariables false
def ftx (f : List Nat) : ByteArray := if okB f = true then ⟨(txt f).toArray⟩ else ⟨#[]⟩
end Go.Proofs.YtmfgbkmkcljciaaGreatDoor
/- Texts read as frames, by plain mathematics: lines, and when the two ways agree; no condition. -/
namespace Go.Proofs.YtmfgbkmkcljciaaGreatDoor
open Go.RowKit
set_option linter.unusedSimpArgs false
set_option linter.unusedVariables false
/-- Where the line begins in which letter i stands. -/
def spB (l : List UInt8) : Nat → Nat
  | 0 => 0
  | i + 1 => if l.getD i 0 = 10 then i + 1 else spB l i
/-- The lines that have ended below letter i. -/
def spL (l : List UInt8) : Nat → List (List UInt8)
  | 0 => []
  | i + 1 => if l.getD i 0 = 10 then spL l i ++ [(l.drop (spB l i)).take (i - spB l i)] else spL l i
theorem spB_le (l : List UInt8) : ∀ i, spB l i ≤ i
  | 0 => Nat.le_refl _
  | i + 1 => by have := spB_le l i; unfold spB; split <;> omega
theorem spL_le (l : List UInt8) : ∀ i, (spL l i).length ≤ i
  | 0 => Nat.le_refl _
  | i + 1 => by
    have := spL_le l i
    unfold spL
    split
    · rw [List.length_append, List.length_singleton]; omega
    · omega
def flat10 (A : List (List UInt8)) : List UInt8 := A.flatMap (· ++ [10])
theorem flat10_cons (x : List UInt8) (A : List (List UInt8)) : flat10 (x :: A) = x ++ 10 :: flat10 A := by simp [flat10]
theorem flat10_app (A B : List (List UInt8)) : flat10 (A ++ B) = flat10 A ++ flat10 B := by simp [flat10]
def lines (l : List UInt8) : List (List UInt8) := spL l l.length ++ [l.drop (spB l l.length)]
theorem mem_seg {l : List UInt8} {b n : Nat} {c : UInt8} (h : c ∈ (l.drop b).take n) : ∃ j, b ≤ j ∧ j < b + n ∧ j < l.length ∧ l.getD j 0 = c := by
  obtain ⟨i, hi, e⟩ := List.mem_iff_getElem.1 h
  rw [List.length_take, List.length_drop] at hi
  rw [List.getElem_take, List.getElem_drop] at e
  refine ⟨b + i, by omega, by omega, by omega, ?_⟩
  rw [List.getD_eq_getElem?_getD, List.getElem?_eq_getElem (by omega)]
  exact e
theorem spl_inv (l : List UInt8) : ∀ i, i ≤ l.length → l.take (spB l i) = flat10 (spL l i) ∧ (∀ x ∈ spL l i, (10 : UInt8) ∉ x) ∧ ∀ j, spB l i ≤ j → j < i → l.getD j 0 ≠ 10
  | 0, _ => ⟨by simp [spB, spL, flat10], by simp [spL], fun j _ h => by omega⟩
  | i + 1, hi => by
    obtain ⟨h1, h2, h3⟩ := spl_inv l i (by omega)
    have hb := spB_le l i
    unfold spB spL
    by_cases h : l.getD i 0 = 10
    · rw [if_pos h, if_pos h]
      refine ⟨?_, ?_, fun j a b => by omega⟩
      · rw [flat10_app, ← h1, flat10_cons]
        have e : l.take (i + 1) = l.take i ++ [10] := by
          rw [List.take_succ_eq_append_getElem (by omega)]
          have : l[i] = 10 := by rw [List.getD_eq_getElem?_getD, List.getElem?_eq_getElem (by omega)] at h; exact h
          rw [this]
        have e2 : l.take i = l.take (spB l i) ++ (l.drop (spB l i)).take (i - spB l i) := by
          rw [← List.take_add, show spB l i + (i - spB l i) = i by omega]
        rw [e, e2, List.append_assoc]
        rfl
      · intro x hx
        rcases List.mem_append.1 hx with hx | hx
        · exact h2 x hx
        · rw [List.mem_singleton] at hx
          subst hx
          intro hm
          obtain ⟨j, j1, j2, _, j4⟩ := mem_seg hm
          exact h3 j j1 (by omega) j4
    · rw [if_neg h, if_neg h]
      refine ⟨h1, h2, fun j a b => ?_⟩
      by_cases e : j = i
      · subst e; exact h
      · exact h3 j a (by omega)
/-- A text is its ended lines and what stands behind them. -/
theorem lines_inv (l : List UInt8) : l = flat10 (spL l l.length) ++ l.drop (spB l l.length) ∧ (∀ x ∈ spL l l.length, (10 : UInt8) ∉ x) ∧ (10 : UInt8) ∉ l.drop (spB l l.length) := by
  obtain ⟨h1, h2, h3⟩ := spl_inv l l.length (Nat.le_refl _)
  refine ⟨by rw [← h1, List.take_append_drop], h2, fun h => ?_⟩
  obtain ⟨j, j1, _, j3, j4⟩ := mem_seg (l := l) (b := spB l l.length) (n := l.length) (c := 10) (by rw [List.take_of_length_le (by rw [List.length_drop]; omega)]; exact h)
  exact h3 j j1 j3 j4
theorem cut10 {x y r s : List UInt8} (hx : (10 : UInt8) ∉ x) (hy : (10 : UInt8) ∉ y) (h : x ++ 10 :: r = y ++ 10 :: s) : x = y ∧ r = s := by
  induction x generalizing y with
  | nil =>
    cases y with
    | nil => simp at h; exact ⟨rfl, h⟩
    | cons c y => simp at h; exact absurd h.1 (fun e => hy (by rw [e]; simp))
  | cons c x ih =>
    cases y with
    | nil => simp at h; exact absurd h.1 (fun e => hx (by rw [e]; simp))
    | cons d y =>
      simp only [List.cons_append, List.cons.injEq] at h
      obtain ⟨e1, e2⟩ := ih (fun hm => hx (List.mem_cons_of_mem _ hm)) (fun hm => hy (List.mem_cons_of_mem _ hm)) h.2
      exact ⟨by rw [h.1, e1], e2⟩
theorem flat_inj {A B : List (List UInt8)} {a b : List UInt8} (hA : ∀ x ∈ A, (10 : UInt8) ∉ x) (hB : ∀ x ∈ B, (10 : UInt8) ∉ x) (ha : (10 : UInt8) ∉ a) (hb : (10 : UInt8) ∉ b) (h : flat10 A ++ a = flat10 B ++ b) : A = B ∧ a = b := by
  induction A generalizing B with
  | nil =>
    cases B with
    | nil => exact ⟨rfl, by simpa [flat10] using h⟩
    | cons y B =>
      rw [flat10_cons] at h
      exact absurd (show (10 : UInt8) ∈ a by rw [show a = y ++ 10 :: flat10 B ++ b by simpa [flat10] using h]; simp) ha
  | cons x A ih =>
    cases B with
    | nil =>
      rw [flat10_cons] at h
      exact absurd (show (10 : UInt8) ∈ b by rw [show b = x ++ 10 :: flat10 A ++ a by simpa [flat10] using h.symm]; simp) hb
    | cons y B =>
      rw [flat10_cons, flat10_cons, List.append_assoc, List.append_assoc] at h
      obtain ⟨e1, e2⟩ := cut10 (hA x (by simp)) (hB y (by simp)) h
      obtain ⟨e3, e4⟩ := ih (fun z hz => hA z (by simp [hz])) (fun z hz => hB z (by simp [hz])) e2
      exact ⟨by rw [e1, e3], e4⟩
/-- The letter at x of row y. -/
def chR (R : List (List UInt8)) (y x : Nat) : UInt8 := (R.getD y []).getD x 0
def goodC (c : UInt8) : Bool := decide (c = 35) || decide (c = 46)
def goodR (r : List UInt8) : Bool := decide (r.length = 12) && (List.range 12).all fun x => goodC (r.getD x 0)
def rdB (R : List (List UInt8)) : Bool := decide (R.length = 12) && (List.range 12).all fun y => goodR (R.getD y [])
def rdP (R : List (List UInt8)) (x y : Nat) : Bool := decide (chR R y x = 35)
def rdF (R : List (List UInt8)) : List Nat := if rdB R = true then mk (rdP R) else zf
/-- What the reference reads. -/
def rsB (l : List UInt8) : Bool := rdB (spL l l.length) && decide (l.drop (spB l l.length) = [])
def rsF (l : List UInt8) : List Nat := if rsB l = true then mk (rdP (spL l l.length)) else zf
/-- What the program reads. -/
def riP (l : List UInt8) (x y : Nat) : Bool := decide (l.getD (y * 13 + x) 0 = 35)
def riB (l : List UInt8) : Bool := decide (l.length = 156) && decide (txt (mk (riP l)) = l)
def riF (l : List UInt8) : List Nat := if riB l = true then mk (riP l) else zf
theorem txt_flat (f : List Nat) : txt f = flat10 ((List.range 12).map fun (y : Nat) => (List.range 12).map fun (x : Nat) => chB (hasI f x y)) := by
  unfold txt flat10 rowT
  rw [List.flatMap_map]
theorem chB_ne (b : Bool) : chB b ≠ 10 ∧ goodC (chB b) = true := by cases b <;> decide
theorem txt_no (f : List Nat) : ∀ r ∈ ((List.range 12).map fun (y : Nat) => (List.range 12).map fun (x : Nat) => chB (hasI f x y)), (10 : UInt8) ∉ r := by
  intro r hr hm
  obtain ⟨y, _, rfl⟩ := List.mem_map.1 hr
  obtain ⟨x, _, e⟩ := List.mem_map.1 hm
  exact (chB_ne _).1 e
theorem row_get {g : Nat → Nat → UInt8} {y x : Nat} (hy : y < 12) (hx : x < 12) : chR ((List.range 12).map fun y => (List.range 12).map fun x => g y x) y x = g y x := by
  unfold chR
  simp only [List.getD_eq_getElem?_getD, List.getElem?_map]
  rw [List.getElem?_range hy]
  simp only [Option.map_some, Option.getD_some, List.getElem?_map]
  rw [List.getElem?_range hx]
  rfl
theorem rdB_txt (f : List Nat) : rdB ((List.range 12).map fun (y : Nat) => (List.range 12).map fun (x : Nat) => chB (hasI f x y)) = true := by
  unfold rdB
  rw [Bool.and_eq_true, List.all_eq_true]
  refine ⟨by simp, fun y hy => ?_⟩
  have hy' := List.mem_range.1 hy
  have e : ((List.range 12).map fun (y : Nat) => (List.range 12).map fun (x : Nat) => chB (hasI f x y)).getD y [] = (List.range 12).map fun (x : Nat) => chB (hasI f x y) := by
    rw [List.getD_eq_getElem?_getD, List.getElem?_map, List.getElem?_range hy']; rfl
  rw [e]
  unfold goodR
  rw [Bool.and_eq_true, List.all_eq_true]
  refine ⟨by simp, fun x hx => ?_⟩
  have hx' := List.mem_range.1 hx
  rw [List.getD_eq_getElem?_getD, List.getElem?_map, List.getElem?_range hx']
  exact (chB_ne _).2
theorem flat_len {A : List (List UInt8)} (h : ∀ r ∈ A, r.length = 12) : (flat10 A).length = A.length * 13 := by
  induction A with
  | nil => rfl
  | cons r A ih =>
    rw [flat10_cons, List.length_append, List.length_cons, ih (fun r' hr => h r' (by simp [hr])), h r (by simp), List.length_cons]
    omega
theorem flat_get {A : List (List UInt8)} (h : ∀ r ∈ A, r.length = 12) : ∀ (y x : Nat), x < 12 → y < A.length → (flat10 A).getD (y * 13 + x) 0 = (A.getD y []).getD x 0 := by
  induction A with
  | nil => intro y x _ hy; simp at hy
  | cons r A ih =>
    intro y x hx hy
    have hr := h r (by simp)
    rw [flat10_cons, List.getD_eq_getElem?_getD]
    cases y with
    | zero =>
      rw [List.getElem?_append_left (by omega)]
      simp [List.getD_eq_getElem?_getD]
    | succ y =>
      rw [List.getElem?_append_right (by omega), hr, show (y + 1) * 13 + x - 12 = (y * 13 + x) + 1 by omega, List.getElem?_cons_succ, ← List.getD_eq_getElem?_getD,
        ih (fun r' hr => h r' (by simp [hr])) y x hx (by simpa using hy)]
      simp [List.getD_eq_getElem?_getD]
theorem rdB_row {R : List (List UInt8)} (h : rdB R = true) : R.length = 12 ∧ (∀ r ∈ R, r.length = 12) ∧ ∀ y x, y < 12 → x < 12 → chR R y x = 35 ∨ chR R y x = 46 := by
  unfold rdB at h
  rw [Bool.and_eq_true, List.all_eq_true] at h
  have hl : R.length = 12 := by simpa using h.1
  have hg : ∀ y, y < 12 → goodR (R.getD y []) = true := fun y hy => h.2 y (List.mem_range.2 hy)
  refine ⟨hl, fun r hr => ?_, fun y x hy hx => ?_⟩
  · obtain ⟨y, hy, rfl⟩ := List.mem_iff_getElem.1 hr
    have := hg y (by omega)
    unfold goodR at this
    rw [Bool.and_eq_true, List.getD_eq_getElem?_getD, List.getElem?_eq_getElem hy] at this
    simpa using this.1
  · have := hg y hy
    unfold goodR at this
    rw [Bool.and_eq_true, List.all_eq_true] at this
    have h2 := this.2 x (List.mem_range.2 hx)
    unfold goodC at h2
    rw [Bool.or_eq_true] at h2
    exact h2.imp (fun e => of_decide_eq_true e) (fun e => of_decide_eq_true e)
/-- The two ways agree. -/
theorem read_same (l : List UInt8) : rsB l = riB l ∧ rsF l = riF l := by
  obtain ⟨h1, h2, h3⟩ := lines_inv l
  have key : rsB l = true → riB l = true ∧ mk (rdP (spL l l.length)) = mk (riP l) := by
    intro h
    unfold rsB at h
    rw [Bool.and_eq_true] at h
    obtain ⟨ha, hb⟩ := h
    have hb := of_decide_eq_true hb
    obtain ⟨r1, r2, r3⟩ := rdB_row ha
    rw [hb, List.append_nil] at h1
    have hl : l.length = 156 := by rw [h1, flat_len r2, r1]
    have hg : ∀ y x, y < 12 → x < 12 → l.getD (y * 13 + x) 0 = chR (spL l l.length) y x := fun y x hy hx => by
      conv => lhs; rw [h1]
      exact flat_get r2 y x hx (by omega)
    have hp : mk (rdP (spL l l.length)) = mk (riP l) := mk_congr fun x y hx hy => by unfold rdP riP; rw [hg y x hy hx]
    refine ⟨?_, hp⟩
    unfold riB
    rw [Bool.and_eq_true]
    refine ⟨by simpa using hl, ?_⟩
    rw [decide_eq_true_eq, ← hp, txt_flat]
    conv => rhs; rw [h1]
    congr 1
    apply List.ext_getElem (by simp [r1])
    intro y y1 y2
    have hy : y < 12 := by simpa using y1
    rw [List.getElem_map, List.getElem_range]
    apply List.ext_getElem (by rw [r2 _ (List.getElem_mem y2)]; simp)
    intro x x1 x2
    have hx : x < 12 := by simpa using x1
    rw [List.getElem_map, List.getElem_range, hasI_nat, hasD_mk _ hx hy]
    have e : chR (spL l l.length) y x = (spL l l.length)[y][x] := by
      unfold chR
      rw [List.getD_eq_getElem?_getD (i := y), List.getElem?_eq_getElem y2]
      simp only [Option.getD_some]
      rw [List.getD_eq_getElem?_getD, List.getElem?_eq_getElem x2]; rfl
    unfold rdP
    rw [← e]
    rcases r3 y x hy hx with q | q <;> rw [q] <;> rfl
  have back : riB l = true → rsB l = true := by
    intro h
    unfold riB at h
    rw [Bool.and_eq_true] at h
    have ht := of_decide_eq_true h.2
    have e : flat10 (spL l l.length) ++ l.drop (spB l l.length) = flat10 ((List.range 12).map fun (y : Nat) => (List.range 12).map fun (x : Nat) => chB (hasI (mk (riP l)) x y)) ++ [] := by
      rw [← h1, List.append_nil, ← txt_flat, ht]
    obtain ⟨e1, e2⟩ := flat_inj h2 (txt_no _) h3 (by simp) e
    unfold rsB
    rw [e1, e2, rdB_txt]
    rfl
  have hB : rsB l = riB l := by
    rcases Bool.eq_false_or_eq_true (rsB l) with q | q
    · rw [q, (key q).1]
    · rcases Bool.eq_false_or_eq_true (riB l) with q2 | q2
      · rw [back q2] at q; cases q
      · rw [q, q2]
  refine ⟨hB, ?_⟩
  unfold rsF riF
  rw [← hB]
  split
  · rename_i q; exact (key q).2
  · rfl
end Go.Proofs.YtmfgbkmkcljciaaGreatDoor
/- Texts read as books, by plain mathematics: when the two ways agree; no condition. -/
namespace Go.Proofs.YtmfgbkmkcljciaaGreatDoor
open Go.RowKit
set_option linter.unusedSimpArgs false
set_option linter.unusedVariables false
/-! The lines of a text. -/
theorem wds_no (c : UInt8) : ∀ l, ∀ x ∈ wds c l, c ∉ x
  | [] => by simp [wds]
  | b :: l => by
    have ih := wds_no c l
    unfold wds
    split
    · intro x hx
      rcases List.mem_cons.1 hx with rfl | hx
      · simp
      · exact ih x hx
    · rename_i hb
      cases hw : wds c l with
      | nil => exact absurd hw (wds_ne c l)
      | cons y r =>
        rw [hw] at ih
        intro x hx
        simp only [consH] at hx
        rcases List.mem_cons.1 hx with rfl | hx
        · intro hm
          rcases List.mem_cons.1 hm with e | hm
          · exact hb e.symm
          · exact ih y (by simp) hm
        · exact ih x (by simp [hx])
theorem flat_wds : ∀ l, flat10 (wds 10 l) = l ++ [10]
  | [] => by simp [wds, flat10]
  | b :: l => by
    have ih := flat_wds l
    unfold wds
    by_cases hb : b = 10
    · subst hb
      rw [if_pos rfl, flat10_cons, ih]; rfl
    · rw [if_neg hb]
      cases hw : wds 10 l with
      | nil => exact absurd hw (wds_ne 10 l)
      | cons y r =>
        rw [hw, flat10_cons] at ih
        simp only [consH]
        rw [flat10_cons, List.cons_append, ih]; rfl
/-- The twelve lines of a frame. -/
def rowsL (f : List Nat) : List (List UInt8) := (List.range 12).map fun (y : Nat) => (List.range 12).map fun (x : Nat) => chB (hasI f x y)
theorem txt_rows (f : List Nat) : txt f = flat10 (rowsL f) := txt_flat f
theorem rowsL_length (f : List Nat) : (rowsL f).length = 12 := by simp [rowsL]
theorem rowsL_no (f : List Nat) : ∀ r ∈ rowsL f, (10 : UInt8) ∉ r := txt_no f
theorem rowsL_len (f : List Nat) : ∀ r ∈ rowsL f, r.length = 12 := by
  intro r hr
  obtain ⟨y, _, rfl⟩ := List.mem_map.1 hr
  simp
theorem rowsL_ch (f : List Nat) {x y : Nat} (hx : x < 12) (hy : y < 12) : chR (rowsL f) y x = chB (hasI f x y) := row_get (g := fun y x => chB (hasI f x y)) hy hx
theorem chB_35 (b : Bool) : decide (chB b = 35) = b := by cases b <;> decide
theorem mk_rows {f : List Nat} (hl : f.length = 12) (hf : okB f = true) : mk (rdP (rowsL f)) = f := by
  conv => rhs; rw [← mk_hasD hl hf]
  refine mk_congr fun x y hx hy => ?_
  unfold rdP
  rw [rowsL_ch f hx hy, chB_35, hasI_nat]
theorem rows_mk {R : List (List UInt8)} (h : rdB R = true) : rowsL (mk (rdP R)) = R := by
  obtain ⟨r1, r2, r3⟩ := rdB_row h
  apply List.ext_getElem (by rw [rowsL_length, r1])
  intro y y1 y2
  have hy : y < 12 := by rw [rowsL_length] at y1; exact y1
  refine Eq.trans (b := (List.range 12).map fun (x : Nat) => chB (hasI (mk (rdP R)) x y)) (by simp [rowsL]) ?_
  apply List.ext_getElem (by rw [r2 _ (List.getElem_mem y2)]; simp)
  intro x x1 x2
  have hx : x < 12 := by simpa using x1
  rw [List.getElem_map, List.getElem_range, hasI_nat, hasD_mk _ hx hy]
  have e : chR R y x = R[y][x] := by
    unfold chR
    rw [List.getD_eq_getElem?_getD (i := y), List.getElem?_eq_getElem y2]
    simp only [Option.getD_some]
    rw [List.getD_eq_getElem?_getD, List.getElem?_eq_getElem x2]; rfl
  unfold rdP
  rw [← e]
  rcases r3 y x hy hx with q | q <;> rw [q] <;> rfl
theorem mk_txt {f : List Nat} (hl : f.length = 12) (hf : okB f = true) : mk (riP (txt f)) = f := by
  conv => rhs; rw [← mk_hasD hl hf]
  refine mk_congr fun x y hx hy => ?_
  unfold riP
  rw [txt_rows, flat_get (rowsL_len f) y x hx (by rw [rowsL_length]; exact hy)]
  have := rowsL_ch f hx hy
  unfold chR at this
  rw [this, chB_35, hasI_nat]
theorem riB_txt {f : List Nat} (hl : f.length = 12) (hf : okB f = true) : riB (txt f) = true := by
  unfold riB
  rw [mk_txt hl hf, txt_length]
  simp
/-- The lines of a book: each frame's, and one that is empty. -/
def bkLines (B : List Fm) : List (List UInt8) := B.flatMap fun b => rowsL b.1 ++ [[]]
theorem bkLines_cons (b : Fm) (B : List Fm) : bkLines (b :: B) = (rowsL b.1 ++ [[]]) ++ bkLines B := by simp [bkLines]
theorem bkLines_length (B : List Fm) : (bkLines B).length = 13 * B.length := by
  induction B with
  | nil => rfl
  | cons b B ih => rw [bkLines_cons, List.length_append, ih, List.length_append, rowsL_length, List.length_cons]; simp; omega
theorem bkLines_no (B : List Fm) : ∀ r ∈ bkLines B, (10 : UInt8) ∉ r := by
  intro r hr
  obtain ⟨b, _, hb⟩ := List.mem_flatMap.1 hr
  rcases List.mem_append.1 hb with h | h
  · exact rowsL_no _ r h
  · rw [List.mem_singleton] at h; subst h; simp
theorem bkLines_drop (B : List Fm) : ∀ k, (bkLines B).drop (13 * k) = bkLines (B.drop k) := by
  induction B with
  | nil => intro k; simp [bkLines]
  | cons b B ih =>
    intro k
    cases k with
    | zero => rfl
    | succ k =>
      rw [bkLines_cons, List.drop_succ_cons, ← ih k, show 13 * (k + 1) = (rowsL b.1 ++ [[]]).length + 13 * k by rw [List.length_append, rowsL_length]; simp; omega, List.drop_append]
      simp
theorem btxt_join (B : List Fm) : btxt B = Lib.join (B.map fun b => txt b.1) [10] := by
  unfold btxt
  rw [← btx_join B B.length (Nat.le_refl _), List.take_length]
theorem flat_tail (B : List Fm) : Lib.joinTail [10] (B.map fun b => txt b.1) ++ [10] = [10] ++ flat10 (bkLines B) := by
  induction B with
  | nil => rfl
  | cons b B ih =>
    have e : Lib.joinTail [10] ((b :: B).map fun b => txt b.1) = [10] ++ txt b.1 ++ Lib.joinTail [10] (B.map fun b => txt b.1) := by simp [Lib.joinTail]
    rw [e, bkLines_cons, flat10_app, flat10_app, ← txt_rows, List.append_assoc, ih]
    simp [flat10]
theorem flat_bk {B : List Fm} (h : B ≠ []) : flat10 (bkLines B) = btxt B ++ [10] := by
  cases B with
  | nil => exact absurd rfl h
  | cons b B =>
    rw [btxt_join, List.map_cons, Lib.join_cons, List.append_assoc, flat_tail, bkLines_cons, flat10_app, flat10_app, ← txt_rows]
    simp [flat10]
/-- A text is a book's exactly where its lines are. -/
theorem lines_bk {T : List UInt8} {B : List Fm} (h : B ≠ []) : wds 10 T = bkLines B ↔ T = btxt B := by
  constructor
  · intro e
    have h1 := flat_wds T
    rw [e, flat_bk h] at h1
    exact (List.append_cancel_right h1).symm
  · intro e
    have h1 : flat10 (wds 10 T) ++ [] = flat10 (bkLines B) ++ [] := by rw [flat_wds, flat_bk h, e]
    exact (flat_inj (wds_no 10 T) (bkLines_no B) (by simp) (by simp) h1).1
/-! The reference. -/
theorem fm_congr {α β : Type} {f g : α → List β} {l : List α} (h : ∀ x ∈ l, f x = g x) : l.flatMap f = l.flatMap g := by rw [List.flatMap_def, List.flatMap_def, List.map_congr_left h]
def sgR (W : List (List UInt8)) (k : Nat) : List (List UInt8) := (W.drop (13 * k)).take 12
def sgO (W : List (List UInt8)) (k : Nat) : Bool := rdB (sgR W k) && decide (W.getD (13 * k + 12) [] = [])
def sgF (W : List (List UInt8)) (k : Nat) : Fm := ⟨mk (rdP (sgR W k)), mk_frOk _⟩
def sbO (W : List (List UInt8)) : Bool := decide (W.length % 13 = 0) && decide (W.length / 13 ≤ 40) && (List.range (W.length / 13)).all (sgO W)
def sbL (W : List (List UInt8)) : List Fm := (List.range (W.length / 13)).map (sgF W)
theorem chunks (n : Nat) : ∀ W : List (List UInt8), W.length = 13 * n → W = (List.range n).flatMap fun k => (W.drop (13 * k)).take 13 := by
  induction n with
  | zero => intro W h; rw [Nat.mul_zero] at h; rw [List.eq_nil_of_length_eq_zero h]; rfl
  | succ n ih =>
    intro W h
    have := ih (W.drop 13) (by rw [List.length_drop]; omega)
    rw [List.range_succ_eq_map, List.flatMap_cons, List.flatMap_map, Nat.mul_zero, List.drop_zero]
    conv => lhs; rw [← List.take_append_drop 13 W, this]
    congr 1
    apply fm_congr
    intro k _
    rw [List.drop_drop, show 13 + 13 * k = 13 * (k + 1) by omega]
theorem seg13 {W : List (List UInt8)} {k : Nat} (h : 13 * k + 12 < W.length) : (W.drop (13 * k)).take 13 = sgR W k ++ [W.getD (13 * k + 12) []] := by
  unfold sgR
  rw [List.take_succ_eq_append_getElem (by rw [List.length_drop]; omega), List.getElem_drop, List.getD_eq_getElem?_getD, List.getElem?_eq_getElem h]
  rfl
theorem sb_lines {W : List (List UInt8)} (h : sbO W = true) : W = bkLines (sbL W) := by
  unfold sbO at h
  simp only [Bool.and_eq_true, decide_eq_true_eq] at h
  obtain ⟨⟨h1, h2⟩, h3⟩ := h
  have hn : W.length = 13 * (W.length / 13) := by omega
  unfold bkLines sbL
  rw [List.flatMap_map]
  conv => lhs; rw [chunks _ W hn]
  apply fm_congr
  intro k hk
  have hk' := List.mem_range.1 hk
  have hg := List.all_eq_true.1 h3 k hk
  unfold sgO at hg
  simp only [Bool.and_eq_true, decide_eq_true_eq] at hg
  rw [seg13 (by omega), hg.2]
  show _ = rowsL (mk (rdP (sgR W k))) ++ [[]]
  rw [rows_mk hg.1]
theorem sgR_bk (B : List Fm) {k : Nat} (hk : k < B.length) : sgR (bkLines B) k = rowsL B[k].1 ∧ (bkLines B).getD (13 * k + 12) [] = [] := by
  have e : (bkLines B).drop (13 * k) = (rowsL B[k].1 ++ [[]]) ++ bkLines (B.drop (k + 1)) := by
    rw [bkLines_drop, List.drop_eq_getElem_cons hk, bkLines_cons]
  constructor
  · unfold sgR
    rw [e, List.append_assoc, List.take_append_of_le_length (by rw [rowsL_length]; omega), List.take_of_length_le (by rw [rowsL_length]; omega)]
  · have e2 : (bkLines B).getD (13 * k + 12) [] = ((bkLines B).drop (13 * k)).getD 12 [] := by
      rw [List.getD_eq_getElem?_getD, List.getD_eq_getElem?_getD, List.getElem?_drop]
    rw [e2, e, List.getD_eq_getElem?_getD, List.append_assoc, List.getElem?_append_right (by rw [rowsL_length]; omega), rowsL_length]
    rfl
theorem okL_mem {B : List Fm} (h : bkB B = true) : B.length ≤ 40 ∧ ∀ b ∈ B, okB b.1 = true := by
  unfold bkB okL at h
  simp only [Bool.and_eq_true, decide_eq_true_eq, List.all_eq_true] at h
  exact ⟨h.2, h.1⟩
theorem bk_of {B : List Fm} (h1 : B.length ≤ 40) (h2 : ∀ b ∈ B, okB b.1 = true) : bkB B = true := by
  unfold bkB okL
  simp only [Bool.and_eq_true, decide_eq_true_eq, List.all_eq_true]
  exact ⟨h2, h1⟩
theorem sb_bk {B : List Fm} (h : bkB B = true) : sbO (bkLines B) = true ∧ sbL (bkLines B) = B := by
  obtain ⟨h1, h2⟩ := okL_mem h
  have hd : (bkLines B).length / 13 = B.length := by rw [bkLines_length]; omega
  constructor
  · unfold sbO
    simp only [Bool.and_eq_true, decide_eq_true_eq, List.all_eq_true]
    refine ⟨⟨by rw [bkLines_length]; omega, by omega⟩, fun k hk => ?_⟩
    have hk' : k < B.length := by have := List.mem_range.1 hk; omega
    obtain ⟨e1, e2⟩ := sgR_bk B hk'
    unfold sgO
    rw [e1, e2, show rdB (rowsL B[k].1) = true from rdB_txt _]
    rfl
  · unfold sbL
    rw [hd]
    apply List.ext_getElem (by simp)
    intro k k1 k2
    rw [List.getElem_map, List.getElem_range]
    apply Subtype.ext
    show mk (rdP (sgR (bkLines B) k)) = B[k].1
    rw [(sgR_bk B k2).1]
    exact mk_rows B[k].2.len (h2 _ (List.getElem_mem k2))
/-! The program. -/
def ipO (z : List UInt8) : Bool := riB (z ++ [10])
def ipF (z : List UInt8) : Fm := ⟨mk (riP (z ++ [10])), mk_frOk _⟩
/-- The blocks of a text. -/
def blks (T : List UInt8) : List (List UInt8) := Lib.splitK [10, 10] 0 (Lib.count (Lib.trimSuffix T [10]) [10, 10]) (Lib.trimSuffix T [10])
def pbO (T : List UInt8) : Bool := (blks T).all ipO && decide (bkT ((blks T).map ipF) = T)
def pbL (T : List UInt8) : List Fm := (blks T).map ipF
theorem pb_bk {T : List UInt8} (h0 : T ≠ []) (h : pbO T = true) : bkB (pbL T) = true ∧ T = btxt (pbL T) ∧ pbL T ≠ [] := by
  unfold pbO at h
  simp only [Bool.and_eq_true, decide_eq_true_eq] at h
  have h2 := h.2
  rw [show (blks T).map ipF = pbL T from rfl] at h2
  unfold bkT at h2
  by_cases hb : bkB (pbL T) = true
  · rw [if_pos hb] at h2
    refine ⟨hb, h2.symm, fun e => ?_⟩
    rw [e] at h2
    exact h0 h2.symm
  · rw [if_neg hb] at h2
    exact absurd h2.symm h0
theorem idx_none_tail {a : List UInt8} (h : Lib.index (a ++ [10]) [10, 10] = -1) : Lib.index a [10, 10] = -1 := by
  induction a with
  | nil => rfl
  | cons b a ih =>
    rw [List.cons_append, Lib.index] at h
    rw [Lib.index]
    split at h
    · exact absurd h (by decide)
    · rename_i hp
      have hp2 : ¬ ([10, 10] : List UInt8).isPrefixOf (b :: a) = true := by
        intro e; apply hp
        cases a with
        | nil => simp [List.isPrefixOf] at e
        | cons c a => simpa [List.isPrefixOf] using e
      rw [if_neg hp2]
      split at h
      · rename_i hi
        rw [ih (beq_iff_eq.1 hi)]; rfl
      · rename_i hi
        have := Lib.index_ge (a ++ [10]) [10, 10]
        have hne : Lib.index (a ++ [10]) [10, 10] ≠ -1 := fun e => hi (by rw [e]; rfl)
        omega
theorem idx_app {a : List UInt8} (r : List UInt8) (h : Lib.index (a ++ [10]) [10, 10] = -1) : Lib.index (a ++ 10 :: 10 :: r) [10, 10] = (a.length : Nat) := by
  induction a with
  | nil => rw [List.nil_append, Lib.index]; simp [List.isPrefixOf]
  | cons b a ih =>
    rw [List.cons_append, Lib.index] at h
    rw [List.cons_append, Lib.index]
    split at h
    · exact absurd h (by decide)
    · rename_i hp
      have hp2 : ¬ ([10, 10] : List UInt8).isPrefixOf (b :: (a ++ 10 :: 10 :: r)) = true := by
        intro e; apply hp
        cases a with
        | nil => simpa [List.isPrefixOf] using e
        | cons c a => simpa [List.isPrefixOf] using e
      rw [if_neg hp2]
      split at h
      · rename_i hi
        rw [ih (beq_iff_eq.1 hi), if_neg (by intro e; have := beq_iff_eq.1 e; omega)]
        simp
      · rename_i hi
        have := Lib.index_ge (a ++ [10]) [10, 10]
        have hne : Lib.index (a ++ [10]) [10, 10] ≠ -1 := fun e => hi (by rw [e]; rfl)
        omega
theorem idx_row {r X : List UInt8} (hr : (10 : UInt8) ∉ r) (hX : Lib.index X [10, 10] = -1) (hh : X.head? ≠ some 10) : Lib.index (r ++ 10 :: X) [10, 10] = -1 := by
  induction r with
  | nil =>
    rw [List.nil_append, Lib.index]
    have hp2 : ¬ ([10, 10] : List UInt8).isPrefixOf (10 :: X) = true := by
      intro e
      cases X with
      | nil => simp [List.isPrefixOf] at e
      | cons c X => simp [List.isPrefixOf] at e; exact hh (by rw [← e]; rfl)
    rw [if_neg hp2, hX]; rfl
  | cons b r ih =>
    rw [List.cons_append, Lib.index]
    have hb : (10 : UInt8) ≠ b := fun e => hr (by rw [e]; simp)
    have hp2 : ¬ ([10, 10] : List UInt8).isPrefixOf (b :: (r ++ 10 :: X)) = true := by
      intro e
      simp [List.isPrefixOf] at e
      exact hb e.1
    rw [if_neg hp2, ih (fun hm => hr (by simp [hm]))]; rfl
theorem idx_flat {A : List (List UInt8)} (h : ∀ r ∈ A, (10 : UInt8) ∉ r ∧ r ≠ []) : Lib.index (flat10 A) [10, 10] = -1 ∧ (flat10 A).head? ≠ some 10 := by
  induction A with
  | nil => exact ⟨rfl, by simp [flat10]⟩
  | cons r A ih =>
    obtain ⟨i1, i2⟩ := ih (fun x hx => h x (by simp [hx]))
    obtain ⟨r1, r2⟩ := h r (by simp)
    rw [flat10_cons]
    refine ⟨idx_row r1 i1 i2, ?_⟩
    cases r with
    | nil => exact absurd rfl r2
    | cons c r => simp; exact fun e => r1 (by rw [e]; simp)
/-- A frame's text without its last line's end. -/
def txm (f : List Nat) : List UInt8 := (txt f).dropLast
theorem txm_txt (f : List Nat) : txm f ++ [10] = txt f := by
  have hl := txt_length f
  have hne : txt f ≠ [] := by intro e; rw [e] at hl; simp at hl
  have e : (txt f).getLast hne = 10 := by
    have h1 : txt f = ((List.range 11).flatMap (rowT f) ++ (List.range 12).map fun (x : Nat) => chB (hasI f x (11 : Nat))) ++ [10] := by
      unfold txt
      rw [show (List.range 12).flatMap (rowT f) = (List.range 11 ++ [11]).flatMap (rowT f) from rfl, List.flatMap_append, List.flatMap_singleton]
      unfold rowT
      rw [← List.append_assoc]
    have h2 := List.getLast?_eq_some_getLast hne
    have h3 : (txt f).getLast? = some 10 := by rw [h1]; simp
    rw [h3] at h2
    exact (Option.some.inj h2).symm
  unfold txm
  conv => rhs; rw [← List.dropLast_concat_getLast hne, e]
theorem txm_idx (f : List Nat) : Lib.index (txm f ++ [10]) [10, 10] = -1 := by
  rw [txm_txt, txt_rows]
  refine (idx_flat fun r hr => ⟨rowsL_no f r hr, fun e => ?_⟩).1
  have := rowsL_len f r hr
  rw [e] at this
  simp at this
theorem split_join (a : List UInt8) (L : List (List UInt8)) (h : ∀ x ∈ a :: L, Lib.index (x ++ [10]) [10, 10] = -1) : Lib.splitK [10, 10] 0 (Lib.count (Lib.join (a :: L) [10, 10]) [10, 10]) (Lib.join (a :: L) [10, 10]) = a :: L := by
  induction L generalizing a with
  | nil => rw [Lib.join_one, Lib.count_miss (idx_none_tail (h a (by simp)))]; rfl
  | cons b L ih =>
    have e : Lib.join (a :: b :: L) [10, 10] = a ++ 10 :: 10 :: Lib.join (b :: L) [10, 10] := by
      rw [Lib.join_cons, Lib.join_cons]
      simp [Lib.joinTail]
    have hi := idx_app (Lib.join (b :: L) [10, 10]) (h a (by simp))
    have hd : (a ++ 10 :: 10 :: Lib.join (b :: L) [10, 10]).drop (a.length + 2) = Lib.join (b :: L) [10, 10] := by
      rw [List.drop_append, List.drop_of_length_le (by omega)]
      simp
    rw [e, Lib.count_hit (by simp) hi, Nat.add_comm, Lib.splitK, hi, if_neg (by intro e; have := beq_iff_eq.1 e; omega)]
    simp only [Int.toNat_natCast, List.length_cons, List.length_nil, Nat.zero_add, Nat.reduceAdd]
    rw [hd, ih b (fun x hx => h x (by simp [List.mem_cons.1 hx]))]
    simp
theorem btxt_trim (b : Fm) (B : List Fm) : btxt (b :: B) = Lib.join ((b :: B).map fun b => txm b.1) [10, 10] ++ [10] := by
  rw [btxt_join, List.map_cons, List.map_cons, Lib.join_cons, Lib.join_cons]
  have key : ∀ B : List Fm, [10] ++ Lib.joinTail [10] (B.map fun b => txt b.1) = Lib.joinTail [10, 10] (B.map fun b => txm b.1) ++ [10] := by
    intro B
    induction B with
    | nil => rfl
    | cons c B ih =>
      have e1 : Lib.joinTail [10] ((c :: B).map fun b => txt b.1) = [10] ++ txm c.1 ++ ([10] ++ Lib.joinTail [10] (B.map fun b => txt b.1)) := by
        rw [List.map_cons, ← txm_txt]; simp [Lib.joinTail]
      have e2 : Lib.joinTail [10, 10] ((c :: B).map fun b => txm b.1) = [10, 10] ++ txm c.1 ++ Lib.joinTail [10, 10] (B.map fun b => txm b.1) := by simp [Lib.joinTail]
      rw [e1, e2, ih]
      simp
  rw [List.append_assoc, ← key B, ← txm_txt]
  simp
theorem trim_snoc (l : List UInt8) : Lib.trimSuffix (l ++ [10]) [10] = l := by
  unfold Lib.trimSuffix Lib.hasSuffix
  rw [if_pos (by rw [List.isSuffixOf_iff_suffix]; exact List.suffix_append l [10])]
  simp
theorem blks_bk (b : Fm) (B : List Fm) : blks (btxt (b :: B)) = (b :: B).map fun b => txm b.1 := by
  unfold blks
  rw [btxt_trim, trim_snoc, List.map_cons]
  refine split_join _ _ fun x hx => ?_
  rw [← List.map_cons (f := fun b : Fm => txm b.1)] at hx
  obtain ⟨c, _, rfl⟩ := List.mem_map.1 hx
  exact txm_idx c.1
theorem pb_of {B : List Fm} (h0 : B ≠ []) (h : bkB B = true) : pbO (btxt B) = true ∧ pbL (btxt B) = B := by
  obtain ⟨h1, h2⟩ := okL_mem h
  cases B with
  | nil => exact absurd rfl h0
  | cons b B =>
    have hm : pbL (btxt (b :: B)) = b :: B := by
      unfold pbL
      rw [blks_bk, List.map_map]
      apply List.ext_getElem (by simp)
      intro k k1 k2
      rw [List.getElem_map]
      apply Subtype.ext
      show mk (riP (txm (b :: B)[k].1 ++ [10])) = (b :: B)[k].1
      rw [txm_txt]
      exact mk_txt (b :: B)[k].2.len (h2 _ (List.getElem_mem k2))
    refine ⟨?_, hm⟩
    unfold pbO
    rw [show (blks (btxt (b :: B))).map ipF = b :: B from hm, blks_bk]
    simp only [Bool.and_eq_true, decide_eq_true_eq, List.all_eq_true]
    refine ⟨fun x hx => ?_, ?_⟩
    · obtain ⟨c, hc, rfl⟩ := List.mem_map.1 hx
      unfold ipO
      rw [txm_txt]
      exact riB_txt c.2.len (h2 c hc)
    · unfold bkT
      rw [if_pos h]
/-! Both. -/
/-- What a text is read as: whether it is a book's, and the book. -/
def rbO (T : List UInt8) : Bool := decide (T = []) || sbO (wds 10 T)
def rbL (T : List UInt8) : List Fm := if T = [] then [] else if sbO (wds 10 T) = true then sbL (wds 10 T) else []
theorem wds_nil_iff {T : List UInt8} (h : T ≠ []) (hs : sbO (wds 10 T) = true) : sbL (wds 10 T) ≠ [] := by
  intro e
  have := sb_lines hs
  rw [e] at this
  exact wds_ne 10 T this
theorem rb_same {T : List UInt8} (h0 : T ≠ []) : sbO (wds 10 T) = pbO T ∧ (pbO T = true → sbL (wds 10 T) = pbL T) := by
  have key : pbO T = true → sbO (wds 10 T) = true ∧ sbL (wds 10 T) = pbL T := by
    intro h
    obtain ⟨h1, h2, h3⟩ := pb_bk h0 h
    have := (lines_bk h3).2 h2
    rw [this]
    exact sb_bk h1
  refine ⟨?_, fun h => (key h).2⟩
  cases hp : pbO T with
  | true => exact (key hp).1
  | false =>
    cases hs : sbO (wds 10 T) with
    | false => rfl
    | true =>
      exfalso
      have hne := wds_nil_iff h0 hs
      have e := (lines_bk hne).1 (sb_lines hs)
      have hb : bkB (sbL (wds 10 T)) = true := by
        unfold sbO at hs
        simp only [Bool.and_eq_true, decide_eq_true_eq] at hs
        refine bk_of ?_ ?_
        · unfold sbL; rw [List.length_map, List.length_range]; exact hs.1.2
        · intro b hb
          unfold sbL at hb
          obtain ⟨k, _, rfl⟩ := List.mem_map.1 hb
          exact mk_ok _
      have := (pb_of hne hb).1
      rw [← e, hp] at this
      cases this
theorem rb_read {B : List Fm} (h : bkB B = true) : rbO (btxt B) = true ∧ rbL (btxt B) = B := by
  by_cases h0 : B = []
  · subst h0
    exact ⟨rfl, rfl⟩
  · have hT : btxt B ≠ [] := by
      intro e
      have h1 := flat_bk h0
      rw [e] at h1
      have h2 := congrArg List.length h1
      cases B with
      | nil => exact h0 rfl
      | cons b B =>
        rw [bkLines_cons, flat10_app, flat10_app, ← txt_rows] at h2
        simp [txt_length] at h2
        omega
    have e := (lines_bk h0).2 rfl
    unfold rbO rbL
    rw [if_neg hT, e, (sb_bk h).1, if_pos rfl]
    exact ⟨by simp, (sb_bk h).2⟩
end Go.Proofs.YtmfgbkmkcljciaaGreatDoor
/- Texts read as frames: the reference's walks; no condition. -/
namespace Go.Proofs.YtmfgbkmkcljciaaGreatDoor
open Go.RowKit
set_option linter.unusedSimpArgs false
set_option linter.unusedVariables false
def LinesPost (l : List UInt8) (w : World) (e : Ending) (w' : World) : Prop := ∃ v, e = .returned v ∧ Gives 9 1 (lines l).length (encs sv (lines l)) w v w' ∧ Keep [] w w'
end Go.Proofs.YtmfgbkmkcljciaaGreatDoor
/- The law ReadFrame: the reference, the program, and what the law answers; no condition. -/
namespace Go.Proofs.YtmfgbkmkcljciaaGreatDoor
open Go.RowKit
set_option linter.unusedSimpArgs false
set_option linter.unusedVariables false
def rsC (l : List UInt8) : Int := if rsB l = true then 0 else 5
theorem rsF_len (l : List UInt8) : (rsF l).length = 12 := by
  unfold rsF
  split
  · exact mk_length _
  · rfl
theorem get_mid {xs ys : List Value} {z : List UInt8} {n : Nat} (h : xs.length = n * 1) : (xs ++ sv z ++ ys)[n]? = some (.string ⟨z.toArray⟩) := by
  rw [List.append_assoc, List.getElem?_append_right (by omega), h, show n - n * 1 = 0 by omega]; rfl

section
variable {P : Program} {ops : Array Oper} {rest : List Oper} {o : Oper} {a : Act} {w : World} {Q : Exit → Act → World → Prop}
/-- A slice cut at a length: its own head. -/
theorem ia_cutTo {T E : TypeId} {s y n c : Nat} {z : List Value} {x ih : Operand} {p : Option Addr} {k : IntKind} {h : Nat} (hgd : o.guard = none) (ho : o.op = .slice T x none (some ih) none) (hx : a.eval x = .slice p n c) (hih : a.eval ih = .int k h) [hT : SlcC P T E s y z] (hhc : h ≤ c)
    (hk : wpList P ops Q rest (a.put o.dst (.slice p h c)) w) : wpList P ops Q (o :: rest) a w := by
  have he : P.elem T = E := by unfold Program.elem; rw [hT.out.u]
  have hu : P.underlying T = some (.slice (P.elem T)) := by rw [he]; exact hT.out.u
  have hr := run_slice_h (P := P) w T p n c hu k h (by omega) (by omega)
  rw [he, hT.out.sizeOf w] at hr
  simp only [Result.andThen_ok, Int.toNat_natCast, sliced_zero P] at hr
  exact wpl_val hgd _ (by
    unfold execOp
    simp only [ho, hx, hih, Sem.run_bind, Sem.run_pure, Result.andThen_ok, Option.map_some, Option.map_none, run_sliceAt_slice w T _ _ _ _ hu, hr]) hk
end
end Go.Proofs.YtmfgbkmkcljciaaGreatDoor
