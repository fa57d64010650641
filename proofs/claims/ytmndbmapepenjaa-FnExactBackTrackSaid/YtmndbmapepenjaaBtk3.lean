/- Tracks backwards: the program; no condition. -/
import Derived.Test.YtmndbmapepenjaaBtk2
import Derived.Shelf.Abstract
namespace Go.Proofs.Ytmndbmapepenjaa
open Go.RowKit Go.Shelf
set_option linter.unusedSimpArgs false
set_option linter.unusedVariables false
section
variable {A B w w0 W : World} {b : Nat} {cs : List Value} {T : TypeId} {M : List Nat} {L L' : List (Nat × List Value × TypeId)} {row : Option Nat}
theorem Blk.grown (h : Blk A b cs T) (hg : A.grownBy B row) (hr : ∀ r, row = some r → ∃ o : Obj, A.heap[r]? = some o ∧ o.isCells = false) : Blk B b cs T := by
  unfold Blk at h ⊢
  rw [hg.block b (Array.getElem?_eq_some_iff.1 h).1 (fun e => by
    obtain ⟨o, ho, hc⟩ := hr b e.symm
    rw [h] at ho
    cases ho
    cases hc)]
  exact h
theorem St.grown (st : St M w0 A L) (hg : A.grownBy B row) (hr : ∀ r, row = some r → w0.heap.size ≤ r ∧ ∃ o : Obj, A.heap[r]? = some o ∧ o.isCells = false) : St M w0 B L := by
  refine ⟨⟨?_, ?_, ?_, Nat.le_trans st.keep.size hg.size, fun k hk hm => ?_⟩, fun p hp => (st.has p hp).grown hg (fun r e => (hr r e).2), st.ge, st.nd⟩
  · first | exact hg.os.trans st.keep.os | exact hg.os.symm.trans st.keep.os
  · first | exact hg.tape.trans st.keep.tape | exact hg.tape.symm.trans st.keep.tape
  · first | exact hg.output.trans st.keep.output | exact hg.output.symm.trans st.keep.output
  · exact (hg.block k (Nat.lt_of_lt_of_le hk st.keep.size) (fun e => by have := (hr k e.symm).1; omega)).trans (st.keep.block k hk hm)
/-- What was made since w, and what was made since W out of it. -/
theorem St.after (h : St [] w W L) (k : St M W B L') (hM : ∀ x ∈ M, w.heap.size ≤ x) : St [] w B L' :=
  ⟨h.keep.trans k.keep (fun x hx hlt => by have := hM x hx; omega), k.has, fun p hp => by
    rcases k.ge p hp with h1 | h1
    · exact Or.inl (Nat.le_trans h.keep.size h1)
    · exact Or.inl (hM _ h1), k.nd⟩
/-- The blocks at hand, as what a part of the code may write. -/
theorem St.again (h : St [] w W L) : St (L.map (·.1)) W W L := ⟨Keep.refl _ _, h.has, fun p hp => Or.inr (List.mem_map_of_mem hp), h.nd⟩
theorem St.sub (st : St M w0 w L) (h : ∀ p ∈ L', p ∈ L) (hn : (L'.map (·.1)).Nodup) : St M w0 w L' := ⟨st.keep, fun p hp => st.has p (h p hp), fun p hp => st.ge p (h p hp), hn⟩
theorem St.geb (st : St [] w0 w L) (h : At b cs T L) : w0.heap.size ≤ b := by simpa using st.ge _ h.mem
theorem St.own1 (h : St M W W L) (hb : Blk W b cs T) (hn : b ∉ L.map (·.1)) : St (b :: M) W W ((b, cs, T) :: L) :=
  ⟨Keep.refl _ _, fun p hp => by
    rcases List.mem_cons.1 hp with rfl | hp
    · exact hb
    · exact h.has p hp, fun p hp => by
    rcases List.mem_cons.1 hp with rfl | hp
    · exact Or.inr (List.mem_cons_self)
    · exact (h.ge p hp).imp id (List.mem_cons_of_mem _), by
    simp only [List.map_cons, List.nodup_cons]
    exact ⟨hn, h.nd⟩⟩
theorem Keep.kf {n : Nat} (h : Keep [] A B) : KeepsFrom n A B := ⟨h.size, fun k o _ hk _ => (h.block k (Array.getElem?_eq_some_iff.1 hk).1 (by simp)).trans hk⟩
theorem Keep.kp {n : Nat} {ex : List Nat} (h : Keep [] A B) (hn : n ≤ A.heap.size) : KpB ex n A B := ⟨h.size, fun k hk _ => h.block k (by omega) (by simp)⟩
/-- What is no cells lies as it lay: the blocks that may be written hold cells. -/
theorem St.kf {n : Nat} (st : St M A B L) (hM : ∀ x ∈ M, ∃ cs T, Blk A x cs T) : KeepsFrom n A B := ⟨st.keep.size, fun k o _ hk ho => by
  refine (st.keep.block k (Array.getElem?_eq_some_iff.1 hk).1 (fun hm => ?_)).trans hk
  obtain ⟨cs, T, hb⟩ := hM k hm
  unfold Blk at hb
  rw [hb] at hk
  cases hk
  cases ho⟩
theorem Blk.inj {c' : List Value} {T' : TypeId} (h : Blk A b cs T) (h' : Blk A b c' T') : cs = c' := by
  unfold Blk at h h'
  rw [h] at h'
  have := Option.some.inj h'
  injection this with h1 h2 h3
  exact by simpa using h1
end
/-- What one round has turned. -/
theorem back_leaf {w W W' : World} {n₀ B6 B17 B5 B4 Bx g g2 B37 : Nat} {cs0 c6 c6' c5 c4 cx y cs2 : List Value} {TK T6 T5 T4 TX TY T2 : TypeId} (st0 : St [] w W [(g, cs0, TK), (B6, c6, T6), (B5, c5, T5), (B4, c4, T4)]) (hBx : Blk W Bx cx TX) (hn : n₀ ≤ W.heap.size) (hw : w.heap.size ≤ n₀) (hBn : n₀ ≤ Bx) (h3 : g = B17 ∨ n₀ ≤ g)
    (st : St [Bx, g, B6, B5, B4] W W' [(B37, y, TY), (Bx, cx, TX), (g2, cs2, T2), (B6, c6', T6), (B5, c5, T5), (B4, c4, T4)]) :
    KeepsFrom n₀ W W' ∧ KpB [B6, B17] n₀ W W' ∧ n₀ ≤ W'.heap.size ∧ St [] w W' [(g2, cs2, T2), (B6, c6', T6), (B5, c5, T5), (B4, c4, T4)] ∧ (g2 = B17 ∨ n₀ ≤ g2) := by
  have gg := st0.get (b := g) .here
  have g6 := st0.get (b := B6) (.there .here)
  have g5 := st0.get (b := B5) (.there (.there .here))
  have g4 := st0.get (b := B4) (.there (.there (.there .here)))
  have k5 := st.get (b := B5) (.there (.there (.there (.there .here))))
  have k4 := st.get (b := B4) (.there (.there (.there (.there (.there .here)))))
  have e1 := st0.geb (b := g) .here
  have e2 := st0.geb (b := B6) (.there .here)
  have e3 := st0.geb (b := B5) (.there (.there .here))
  have e4 := st0.geb (b := B4) (.there (.there (.there .here)))
  refine ⟨st.kf (fun x hx => ?_), ⟨st.keep.size, fun k hk he => ?_⟩, Nat.le_trans hn st.keep.size, (st0.after st (fun x hx => ?_)).drop.drop, ?_⟩
  · simp only [List.mem_cons, List.mem_nil_iff, or_false] at hx
    rcases hx with rfl | rfl | rfl | rfl | rfl
    · exact ⟨_, _, hBx⟩
    · exact ⟨_, _, gg⟩
    · exact ⟨_, _, g6⟩
    · exact ⟨_, _, g5⟩
    · exact ⟨_, _, g4⟩
  · simp only [List.mem_cons, List.mem_nil_iff, or_false, not_or] at he
    by_cases h5 : k = B5
    · subst h5; unfold Blk at k5 g5; rw [k5, g5]
    by_cases h4 : k = B4
    · subst h4; unfold Blk at k4 g4; rw [k4, g4]
    refine st.keep.block k (by omega) ?_
    simp only [List.mem_cons, List.mem_nil_iff, or_false, not_or]
    exact ⟨by omega, by omega, he.1, h5, h4⟩
  · simp only [List.mem_cons, List.mem_nil_iff, or_false] at hx
    rcases hx with rfl | rfl | rfl | rfl | rfl <;> omega
  · have hnd := st.nd
    simp only [List.map_cons, List.map_nil, List.nodup_cons, List.mem_cons, List.mem_nil_iff, or_false, not_or] at hnd
    have hge := st.ge (g2, cs2, T2) (by simp)
    simp only [List.mem_cons, List.mem_nil_iff, or_false] at hge
    omega
theorem nodef_all {l : List Oper} (h : l.all nodefB = true) : ∀ (i : Nat) (o : Oper), l.toArray[i]? = some o → nodefB o = true := fun i o ho => List.all_eq_true.1 h o (List.mem_of_getElem? (by simpa using ho))
/-- A key played backwards. -/
def kRev (a z : Int) (x : Ky) : Ky := (a + z - x.1, x.2.1, x.2.2)
theorem keyAt_c (t x y : Int) (ht : -32768 ≤ t ∧ t < 32768) (hx : -128 ≤ x ∧ x < 128) (hy : -128 ≤ y ∧ y < 128) (w : World) :
    Calls Try.prog 55 #[.int .i64 t, .int .i64 x, .int .i64 y] w fun e w' => e = .returned (.agg (k3 (t, x, y)).toArray) ∧ Keep [] w w' := by
  have st := St.start w
  have e1 := i16_wrap ht.1 ht.2
  have e2 := i8_wrap hx.1 hx.2
  have e3 := i8_wrap hy.1 hy.2
  go_enter Try.func55, Try.ntmps55
  go_wp2_with (first | ((with_reducible refine gate_lst ?_); (first | ((with_reducible refine gate_alloc rfl ?_); (first | (refine ia_alloc (sl := 6) st rfl rfl rfl ?_; clear st; intro B6 _ st))) | ((with_reducible refine gate_store rfl ?_); (first | (refine ia_storeAll st rfl rfl rfl rfl ?_ ?_ ?_ ?_; (focus (first | rfl | (simp; done) | (simp; assumption) | (simp; omega) | (simp [*]; done))); (focus (first | exact frv_one _ | exact fv_one _ | exact p8_one _ | exact k3_one _ | exact i1_one _ | (simp [Value.oneCell']; done))); (focus (first | rfl | (simp; done) | (simp; assumption) | (simp; omega) | (simp [*]; done))); clear st; intro _ st; (try simp only [List.set_cons_zero, List.set_cons_succ] at st)) | (refine ia_storeSeg st rfl rfl rfl rfl ?_ ?_ ?_ ?_; (focus (first | rfl | (simp; done) | (simp; assumption) | (simp; omega) | (simp [*]; done))); (focus (first | exact frv_one _ | exact fv_one _ | exact p8_one _ | exact k3_one _ | exact i1_one _ | (simp [Value.oneCell']; done))); (focus (first | omega | (simp; done) | (simp; omega) | (simp [*]; omega))); clear st; intro _ st; (try simp only [List.set_cons_zero, List.set_cons_succ] at st)))) | ((with_reducible refine gate_build rfl ?_); refine' la_build ?_ rfl rfl ?_; rotate_left 1; (focus ((try simp only [List.map_cons, List.map_nil, Act.put, Act.eval, Array.getD_eq_getD_getElem?, List.getElem?_toArray, List.getElem?_cons_succ, List.getElem?_cons_zero, Option.getD_some, List.setIfInBounds_toArray, List.set_cons_succ, List.set_cons_zero, List.getElem_toArray, List.getElem_cons_succ, List.getElem_cons_zero]); (first | (with_reducible exact built_key _ _ _))))))))
  refine bodyPost_cell rfl tKey rfl _ rfl _ _ (st.get (by repeat (first | exact At.here | apply At.there))) rfl ?_
  exact ⟨rfl, st.keep⟩
end Go.Proofs.Ytmndbmapepenjaa
