/- How slices among a law's arguments are read; no condition. -/
import Derived.Test.YtlljflmbnbjccaaDoorOpen
import Derived.Test.YtlljflmbnbjccaaDoorEnc
import Derived.Deep.Slices
namespace Go.Proofs.YtlljflmbnbjccaaDoor
open Go.RowKit Go.ChangeShapes Go.WideShapes
section
variable {H : Type} {enc : TypeId × Value → H} {P : Program} {w : World} {base : Nat} {spare : Nat → Bool} {held : Bool} {t te : TypeId}
theorem cell_spot {a : Addr} {v : Value} (h : w.cell? a = some v) : a = ⟨a.block, a.off, none⟩ ∧ a.block < w.heap.size := by
  unfold World.cell? at h
  split at h
  · rename_i c _ _ hb
    split at h
    · cases h
    · rename_i hs
      refine ⟨?_, (Array.getElem?_eq_some_iff.1 hb).1⟩
      obtain ⟨b, o, s⟩ := a
      cases s with
      | none => rfl
      | some _ => simp at hs
  · cases h
theorem open_vecC {α : Type} (e : α → List Value) {s : Nat} (hs0 : 0 < s) (hes : ∀ a, (e a).length = s) (ht : P.underlying t = some (.slice te)) (hc : P.cellsOf te = s)
    (helem : ∀ fuel cs x, DataW.trod enc P w base spare held fuel te cs = some x → ∃ a : α, cs = e a) {fuel : Nat} {cs : List Value} {x : DataW H × List MemPlace}
    (hf : DataW.trod enc P w base spare held fuel t cs = some x) : ∃ (B : List α) (p : Option Addr) (n c : Nat), B.length = n ∧ cs = [.slice p n c] ∧ n ≤ 9223372036854775807 ∧ Rd w p n (encs e B) := by
  rcases Go.Deep.open_slice ht hf with ⟨hcs, _⟩ | ⟨a, len, cap, m, n, D, Pl, hcs, _, hlc, hcm, hm, hxe, hx⟩
  · exact ⟨[], none, 0, 0, rfl, hcs, by omega, .nil⟩
  · have hlm : len ≤ m := by rw [hm]; split <;> omega
    have each : ∀ i, i < len → ∃ x : α, ∀ j, j < s → w.cell? (a.add (i * s + j)) = (e x)[j]? := by
      intro i hi
      obtain ⟨cs', h1, h2⟩ := hx i (by omega)
      obtain ⟨x, rfl⟩ := helem _ _ _ h2
      rw [hc] at h1
      obtain ⟨_, _, h3⟩ := World.cells?_some h1
      exact ⟨x, fun j hj => by rw [← h3 j hj, Go.Deep.add_add]⟩
    have hB : ∃ B : List α, B.length = len ∧ ∀ i (h : i < B.length), ∀ j, j < s → w.cell? (a.add (i * s + j)) = (e B[i])[j]? := by
      clear hx hm hlm hcm hlc hf hxe hcs
      induction len with
      | zero => exact ⟨[], rfl, fun i h => absurd h (by simp)⟩
      | succ k ih =>
        obtain ⟨B, h1, h2⟩ := ih (fun i hi => each i (by omega))
        obtain ⟨x, hx⟩ := each k (by omega)
        refine ⟨B ++ [x], by simp [h1], fun i h j hj => ?_⟩
        by_cases hik : i < B.length
        · rw [List.getElem_append_left hik]; exact h2 i hik j hj
        · have : i = k := by simp at h; omega
          subst this
          rw [List.getElem_append_right (by omega)]
          simp only [h1, Nat.sub_self, List.getElem_cons_zero]
          exact hx j hj
    obtain ⟨B, hBl, hBc⟩ := hB
    refine ⟨B, some a, len, cap, hBl, hcs, by simp only [maxLen] at hcm; omega, fun hn => ?_⟩
    have h0 := hBc 0 (by omega) 0 hs0
    rw [Nat.zero_mul, Nat.add_zero] at h0
    have ha0 : a.add 0 = a := by simp [Addr.add]
    rw [ha0] at h0
    have hsome : ∃ v, (e B[0])[0]? = some v := ⟨_, List.getElem?_eq_getElem (by rw [hes]; exact hs0)⟩
    obtain ⟨v0, hv0⟩ := hsome
    rw [hv0] at h0
    obtain ⟨hsp, hlt⟩ := cell_spot h0
    refine ⟨a.block, a.off, by rw [← hsp], hlt, fun j u hj => ?_⟩
    have hjl : j < B.length * s := by rw [← encs_length hes]; exact (List.getElem?_eq_some_iff.1 hj).1
    have hk : j / s < B.length := (Nat.div_lt_iff_lt_mul hs0).2 hjl
    have hr : j % s < s := Nat.mod_lt _ hs0
    have hdm : j / s * s + j % s = j := by rw [Nat.mul_comm]; exact Nat.div_add_mod j s
    have h1 := encs_get hes B (j / s) hk (j % s) hr
    rw [hdm, hj] at h1
    have h2 := hBc (j / s) hk (j % s) hr
    rw [hdm, ← h1] at h2
    rw [← h2, hsp, Addr.add_lit]
theorem open_vec {α : Type} (e : α → List Value) {s : Nat} (hs0 : 0 < s) (hes : ∀ a, (e a).length = s) (ht : P.underlying t = some (.slice te)) (hc : P.cellsOf te = s)
    (helem : ∀ fuel cs x, DataW.trod enc P w base spare held fuel te cs = some x → ∃ a : α, cs = e a) {r : Reach} {b0 : Nat} {v : Value} {d : DataW H} {ps : List MemPlace}
    (hval : Value.okWide P w r b0 t v) (hd : DataW.Trod enc P w base spare held t v d ps) : ∃ (B : List α) (p : Option Addr) (n c : Nat), B.length = n ∧ v = .slice p n c ∧ n ≤ 9223372036854775807 ∧ Rd w p n (encs e B) := by
  obtain ⟨a0, len, cap, rfl⟩ := okWide_slice ht hval
  obtain ⟨fuel, hf⟩ := hd
  obtain ⟨B, p, n, c, hB, hcs, hn, hr⟩ := open_vecC e hs0 hes ht hc helem hf
  simp [Value.cells] at hcs
  obtain ⟨rfl, rfl, rfl⟩ := hcs
  exact ⟨B, _, _, _, hB, rfl, hn, hr⟩
theorem open_book {te2 : TypeId} (ht : P.underlying t = some (.slice te)) (he : P.underlying te = some (.array 12 te2)) (he2 : P.underlying te2 = some (.int .u16)) (hce : P.cellsOf te2 = 1) (hct : P.cellsOf te = 12)
    {r : Reach} {b0 : Nat} {v : Value} {d : DataW H} {ps : List MemPlace} (hval : Value.okWide P w r b0 t v) (hd : DataW.Trod enc P w base spare held t v d ps) : ∃ (B : List Fm) (p : Option Addr) (n c : Nat), B.length = n ∧ v = .slice p n c ∧ n ≤ 9223372036854775807 ∧ Rd w p n (encs fv B) :=
  open_vec fv (by decide) fv_len ht hct (fun fuel cs x h => by
    obtain ⟨f, ok, e1, _⟩ := frame_cells he he2 hce hct h
    exact ⟨⟨f, ok⟩, e1⟩) hval hd
theorem open_i64s (ht : P.underlying t = some (.slice te)) (he : P.underlying te = some (.int .i64)) (hct : P.cellsOf te = 1)
    {r : Reach} {b0 : Nat} {v : Value} {d : DataW H} {ps : List MemPlace} (hval : Value.okWide P w r b0 t v) (hd : DataW.Trod enc P w base spare held t v d ps) : ∃ (B : List Int) (p : Option Addr) (n c : Nat), B.length = n ∧ v = .slice p n c ∧ n ≤ 9223372036854775807 ∧ Rd w p n (encs i1 B) :=
  open_vec i1 (by decide) i1_len ht hct (fun fuel cs x h => by
    obtain ⟨n, e0, _⟩ := DataW.trod_int he h
    exact ⟨n, e0⟩) hval hd
end
end Go.Proofs.YtlljflmbnbjccaaDoor
