/- Slices of elements of several cells: how they lie, made, cut, read at a place; no condition. -/
import Derived.Test.YtmfgbkmkcljciaaDoorAuto
import Derived.Laws.MakeOwn
namespace Go.Proofs.YtmfgbkmkcljciaaDoor
open Go.RowKit
set_option linter.unusedSimpArgs false
set_option linter.unusedVariables false

section
variable {w w1 : World} {b o f : Nat} {cs xs ys : List Value} {T : TypeId} {M : List Nat}
theorem Cl.fore (h : Cl w b o (xs ++ ys)) : Cl w b o xs := ⟨h.1, fun j v hj => h.2 j v (by
  have hjl : j < xs.length := (List.getElem?_eq_some_iff.1 hj).1
  rw [List.getElem?_append_left hjl]; exact hj)⟩
theorem Cl.seg {α : Type} {e : α → List Value} {s : Nat} (hs : ∀ a, (e a).length = s) {l : List α} (h : Cl w b o (encs e l)) {k : Nat} (hk : k < l.length) : Cl w b (o + k * s) (e l[k]) := ⟨h.1, fun j v hj => by
  have hjl : j < s := by rw [← hs l[k]]; exact (List.getElem?_eq_some_iff.1 hj).1
  rw [Nat.add_assoc]
  exact h.2 _ v (by rw [encs_get hs l k hk j hjl, hj])⟩
theorem Cl.zero {v : Value} (h : Cl w b o cs) (hv : cs[0]? = some v) : w.cell? ⟨b, o, none⟩ = some v := h.2 0 v hv
theorem Blk.seg {α : Type} {e : α → List Value} {s : Nat} (hs : ∀ a, (e a).length = s) {l : List α} {sp : List Value} (h : Blk w b (encs e l ++ sp) T) {k : Nat} (hk : k < l.length) : Cl w b (k * s) (e l[k]) := by
  have := (Cl.of h).fore.seg hs hk
  rwa [Nat.zero_add] at this
end
/-- What a slice of n elements shows: cs, from its head on. -/
def Rd (w : World) (p : Option Addr) (n : Nat) (cs : List Value) : Prop := 0 < n → ∃ b f, p = some ⟨b, f, none⟩ ∧ Cl w b f cs
theorem Rd.keep {w w1 : World} {p : Option Addr} {n : Nat} {cs : List Value} (h : Rd w p n cs) (hk : Keep [] w w1) : Rd w1 p n cs := fun hn => by
  obtain ⟨b, f, hp, hc⟩ := h hn
  exact ⟨b, f, hp, hc.keep hk (by simp)⟩
theorem Rd.of {w : World} {b n : Nat} {xs ys : List Value} {T : TypeId} (h : Blk w b (xs ++ ys) T) : Rd w (some ⟨b, 0, none⟩) n xs := fun _ => ⟨b, 0, rfl, (Cl.of h).fore⟩
theorem Rd.of0 {w : World} {b n : Nat} {xs : List Value} {T : TypeId} (h : Blk w b xs T) : Rd w (some ⟨b, 0, none⟩) n xs := fun _ => ⟨b, 0, rfl, Cl.of h⟩
theorem Rd.nil {w : World} {p : Option Addr} {cs : List Value} : Rd w p 0 cs := fun h => absurd h (by omega)

theorem made_flat (z : List Value) (n s : Nat) (hs : z.length = s) : madeCells z.toArray (n * s) = (List.replicate n z).flatten.toArray := by
  by_cases h0 : s = 0
  · subst h0
    have : z = [] := List.eq_nil_of_length_eq_zero hs
    subst this
    have e : (List.replicate n ([] : List Value)).flatten = [] := by simp
    rw [e, Nat.mul_zero]; simp [madeCells, Array.range_zero']
  · apply Array.ext
    · simp [madeCells, hs]
    · intro i h1 h2
      have hi : i < n * s := by simpa [madeCells] using h1
      have hi1 : i % s < s := Nat.mod_lt _ (by omega)
      have key : ∀ (n i : Nat), i < n * s → (List.replicate n z).flatten[i]? = z[i % s]? := by
        intro n
        induction n with
        | zero => intro i hi; omega
        | succ n ih =>
          intro i hi
          rw [List.replicate_succ, List.flatten_cons]
          by_cases hlt : i < s
          · rw [List.getElem?_append_left (by omega), Nat.mod_eq_of_lt hlt]
          · rw [List.getElem?_append_right (by omega), hs, ih (i - s) (by rw [Nat.succ_mul] at hi; omega), Nat.mod_eq_sub_mod (a := i) (by omega)]
      have := key n i hi
      simp only [madeCells, Array.getElem_map, Array.getElem_range, List.getElem_toArray, List.size_toArray, hs]
      rw [List.getElem?_eq_getElem (by simpa using h2), List.getElem?_eq_getElem (by omega)] at this
      injection this with this
      rw [this]
      simp [hs, hi1]

section
variable {P : Program} {ops : Array Oper} {rest : List Oper} {o : Oper} {a : Act} {w w0 : World} {Q : Exit → Act → World → Prop} {M : List Nat} {L L' : List (Nat × List Value × TypeId)}
theorem gate_make {T : TypeId} {x y : Operand} (_ho : o.op = .makeSlice T x y) (h : wpList P ops Q (o :: rest) a w) : wpList P ops Q (o :: rest) a w := h
theorem la_makeSlice {E : TypeId} {s y : Nat} {z : List Value} {T : TypeId} {x x' : Operand} {k k' : IntKind} {i i' : Int} {n : Nat} (hT : SlcT P T E s y z) (hn : i = n) (hn' : i' = n) (hy : n * y ≤ 140737488355328) (h63 : n ≤ 9223372036854775807) (st : St M w0 w L)
    (hgd : o.guard = none) (ho : o.op = .makeSlice T x x') (hx : a.eval x = .int k i) (hx' : a.eval x' = .int k' i')
    (h : ∀ B w1, St M w0 w1 ((B, (List.replicate n z).flatten, E) :: L) → wpList P ops Q rest (a.put o.dst (.slice (some ⟨B, 0, none⟩) n n)) w1) : wpList P ops Q (o :: rest) a w := by
  subst hn
  subst hn'
  obtain ⟨u, v, hi, hs, hy', hz, hc⟩ := hT.i
  have hb : (y : Int) * (n : Int) ≤ 281474976710656 := by
    have h1 : ((n * y : Nat) : Int) ≤ 140737488355328 := by omega
    rw [Int.natCast_mul, Int.mul_comm] at h1
    omega
  have hr := run_make (P := P) w T E u v hT.u hi hz k k' n n (by omega) (by omega) (by rw [hy']; exact hb) (by omega)
  rw [hc, Int.toNat_natCast, hs, made_flat z n s hT.l] at hr
  refine wpList_plain hgd fun K hK => ?_
  unfold Oper.wp execOp
  simp only [ho, hx, hx', Sem.run_bind, Sem.run_pure, Result.andThen_ok, hr]
  exact hK _ _ (h _ _ (st.alloc _ E))
theorem la_slcAddrP {p : Option Addr} {E : TypeId} {s y : Nat} {z : List Value} {T : TypeId} {x ix : Operand} {b f m c : Nat} {k : IntKind} {i : Int} {j : Nat} (hp : p = some ⟨b, f, none⟩) (hT : SlcT P T E s y z) (hj : i = j) (h1 : j < m) (hgd : o.guard = none) (ho : o.op = .indexAddr T x ix) (hx : a.eval x = .slice p m c) (hi : a.eval ix = .int k i)
    (h : wpList P ops Q rest (a.put o.dst (.pointer (some ⟨b, f + j * s, none⟩))) w) : wpList P ops Q (o :: rest) a w := by
  subst hp
  exact wpl_slcAddr hgd T x ix ho b f m c hx k i hi hT j hj h1 h
theorem sliced_zero (P : Program) (a : Option Addr) (h c s : Nat) : sliced a 0 h c s = .slice a h c := by
  cases a with
  | none => simp [sliced]
  | some a => obtain ⟨b, f, m⟩ := a; cases m <;> simp [sliced, Addr.add]
end
section
variable {P : Program} {ops : Array Oper} {rest : List Oper} {o : Oper} {a : Act} {w w0 : World} {Q : Act → Prop} {C : World → Prop} {M : List Nat} {L L' : List (Nat × List Value × TypeId)}
theorem qa_slcAddrP {p : Option Addr} {E : TypeId} {s y : Nat} {z : List Value} {T : TypeId} {x ix : Operand} {b f m c : Nat} {k : IntKind} {i : Int} {j : Nat} (hp : p = some ⟨b, f, none⟩) (hT : SlcT P T E s y z) (hj : i = j) (h1 : j < m) (hgd : o.guard = none) (ho : o.op = .indexAddr T x ix) (hx : a.eval x = .slice p m c) (hi : a.eval ix = .int k i)
    (h : wpQuiet P ops C Q rest (a.put o.dst (.pointer (some ⟨b, f + j * s, none⟩)))) : wpQuiet P ops C Q (o :: rest) a := by
  subst hp
  exact wpq_slcAddr hgd T x ix ho b f m c hx k i hi hT j hj h1 h
theorem qg_slice {T : TypeId} {x : Operand} {l h m : Option Operand} (_ho : o.op = .slice T x l h m) (h : wpQuiet P ops C Q (o :: rest) a) : wpQuiet P ops C Q (o :: rest) a := h
theorem qa_sliceH {E : TypeId} {s y : Nat} {z : List Value} {T : TypeId} {x ih : Operand} {p : Option Addr} {m c : Nat} {k : IntKind} {i : Int} {n : Nat} (hT : SlcT P T E s y z) (hn : i = n) (hc : n ≤ c) (hgd : o.guard = none) (ho : o.op = .slice T x none (some ih) none) (hx : a.eval x = .slice p m c) (hi : a.eval ih = .int k i)
    (h : wpQuiet P ops C Q rest (a.put o.dst (.slice p n c))) : wpQuiet P ops C Q (o :: rest) a := by
  subst hn
  exact wpq_val hgd _ (fun w' _ => by
    have he : P.elem T = E := by unfold Program.elem; rw [hT.u]
    have hr := run_slice_h (P := P) w' T p m c (by rw [he]; exact hT.u) k n (by omega) (by omega)
    rw [he, hT.sizeOf w'] at hr
    simp only [Result.andThen_ok, Int.toNat_natCast, sliced_zero P] at hr
    have hu : P.underlying T = some (.slice (P.elem T)) := by rw [he]; exact hT.u
    unfold execOp
    simp only [ho, hx, hi, Sem.run_bind, Sem.run_pure, Result.andThen_ok, Option.map_some, Option.map_none, run_sliceAt_slice w' T _ _ _ _ hu, hr]) h
end
end Go.Proofs.YtmfgbkmkcljciaaDoor
