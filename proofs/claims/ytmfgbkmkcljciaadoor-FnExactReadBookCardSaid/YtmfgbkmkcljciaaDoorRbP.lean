/- Texts read as books, by plain mathematics: when the two ways agree; no condition. -/
import Derived.Test.YtmfgbkmkcljciaaDoorRdP
import Derived.Test.YtmfgbkmkcljciaaDoorWds
import Derived.Lib.Strings
import Derived.Lib.IndexMore
import Derived.Lib.CountLaws
import Derived.Lib.Join
namespace Go.Proofs.YtmfgbkmkcljciaaDoor
open Go.RowKit
set_option linter.unusedSimpArgs false
set_option linter.unusedVariables false
/-! The lines of a text. -/
theorem wds_no (c : UInt8) : ∀ l, ∀ x ∈ wds c l, c ∉ x
  | [] => by simp [wds]
  | b :: l => by
    have ih := wds_no c l
    unfold wds
    split
    · intro x hx
      rcases List.mem_cons.1 hx with rfl | hx
      · simp
      · exact ih x hx
    · rename_i hb
      cases hw : wds c l with
      | nil => exact absurd hw (wds_ne c l)
      | cons y r =>
        rw [hw] at ih
        intro x hx
        simp only [consH] at hx
        rcases List.mem_cons.1 hx with rfl | hx
        · intro hm
          rcases List.mem_cons.1 hm with e | hm
          · exact hb e.symm
          · exact ih y (by simp) hm
        · exact ih x (by simp [hx])
theorem flat_wds : ∀ l, flat10 (wds 10 l) = l ++ [10]
  | [] => by simp [wds, flat10]
  | b :: l => by
    have ih := flat_wds l
    unfold wds
    by_cases hb : b = 10
    · subst hb
      rw [if_pos rfl, flat10_cons, ih]; rfl
    · rw [if_neg hb]
      cases hw : wds 10 l with
      | nil => exact absurd hw (wds_ne 10 l)
      | cons y r =>
        rw [hw, flat10_cons] at ih
        simp only [consH]
        rw [flat10_cons, List.cons_append, ih]; rfl
/-- The twelve lines of a frame. -/
def rowsL (f : List Nat) : List (List UInt8) := (List.range 12).map fun (y : Nat) => (List.range 12).map fun (x : Nat) => chB (hasI f x y)
theorem txt_rows (f : List Nat) : txt f = flat10 (rowsL f) := txt_flat f
theorem rowsL_length (f : List Nat) : (rowsL f).length = 12 := by simp [rowsL]
theorem rowsL_no (f : List Nat) : ∀ r ∈ rowsL f, (10 : UInt8) ∉ r := txt_no f
theorem rowsL_len (f : List Nat) : ∀ r ∈ rowsL f, r.length = 12 := by
  intro r hr
  obtain ⟨y, _, rfl⟩ := List.mem_map.1 hr
  simp
theorem rowsL_ch (f : List Nat) {x y : Nat} (hx : x < 12) (hy : y < 12) : chR (rowsL f) y x = chB (hasI f x y) := row_get (g := fun y x => chB (hasI f x y)) hy hx
theorem chB_35 (b : Bool) : decide (chB b = 35) = b := by cases b <;> decide
theorem mk_rows {f : List Nat} (hl : f.length = 12) (hf : okB f = true) : mk (rdP (rowsL f)) = f := by
  conv => rhs; rw [← mk_hasD hl hf]
  refine mk_congr fun x y hx hy => ?_
  unfold rdP
  rw [rowsL_ch f hx hy, chB_35, hasI_nat]
theorem rows_mk {R : List (List UInt8)} (h : rdB R = true) : rowsL (mk (rdP R)) = R := by
  obtain ⟨r1, r2, r3⟩ := rdB_row h
  apply List.ext_getElem (by rw [rowsL_length, r1])
  intro y y1 y2
  have hy : y < 12 := by rw [rowsL_length] at y1; exact y1
  refine Eq.trans (b := (List.range 12).map fun (x : Nat) => chB (hasI (mk (rdP R)) x y)) (by simp [rowsL]) ?_
  apply List.ext_getElem (by rw [r2 _ (List.getElem_mem y2)]; simp)
  intro x x1 x2
  have hx : x < 12 := by simpa using x1
  rw [List.getElem_map, List.getElem_range, hasI_nat, hasD_mk _ hx hy]
  have e : chR R y x = R[y][x] := by
    unfold chR
    rw [List.getD_eq_getElem?_getD (i := y), List.getElem?_eq_getElem y2]
    simp only [Option.getD_some]
    rw [List.getD_eq_getElem?_getD, List.getElem?_eq_getElem x2]; rfl
  unfold rdP
  rw [← e]
  rcases r3 y x hy hx with q | q <;> rw [q] <;> rfl
theorem mk_txt {f : List Nat} (hl : f.length = 12) (hf : okB f = true) : mk (riP (txt f)) = f := by
  conv => rhs; rw [← mk_hasD hl hf]
  refine mk_congr fun x y hx hy => ?_
  unfold riP
  rw [txt_rows, flat_get (rowsL_len f) y x hx (by rw [rowsL_length]; exact hy)]
  have := rowsL_ch f hx hy
  unfold chR at this
  rw [this, chB_35, hasI_nat]
theorem riB_txt {f : List Nat} (hl : f.length = 12) (hf : okB f = true) : riB (txt f) = true := by
  unfold riB
  rw [mk_txt hl hf, txt_length]
  simp
/-- The lines of a book: each frame's, and one that is empty. -/
def bkLines (B : List Fm) : List (List UInt8) := B.flatMap fun b => rowsL b.1 ++ [[]]
theorem bkLines_cons (b : Fm) (B : List Fm) : bkLines (b :: B) = (rowsL b.1 ++ [[]]) ++ bkLines B := by simp [bkLines]
theorem bkLines_length (B : List Fm) : (bkLines B).length = 13 * B.length := by
  induction B with
  | nil => rfl
  | cons b B ih => rw [bkLines_cons, List.length_append, ih, List.length_append, rowsL_length, List.length_cons]; simp; omega
theorem bkLines_no (B : List Fm) : ∀ r ∈ bkLines B, (10 : UInt8) ∉ r := by
  intro r hr
  obtain ⟨b, _, hb⟩ := List.mem_flatMap.1 hr
  rcases List.mem_append.1 hb with h | h
  · exact rowsL_no _ r h
  · rw [List.mem_singleton] at h; subst h; simp
theorem bkLines_drop (B : List Fm) : ∀ k, (bkLines B).drop (13 * k) = bkLines (B.drop k) := by
  induction B with
  | nil => intro k; simp [bkLines]
  | cons b B ih =>
    intro k
    cases k with
    | zero => rfl
    | succ k =>
      rw [bkLines_cons, List.drop_succ_cons, ← ih k, show 13 * (k + 1) = (rowsL b.1 ++ [[]]).length + 13 * k by rw [List.length_append, rowsL_length]; simp; omega, List.drop_append]
      simp
theorem btxt_join (B : List Fm) : btxt B = Lib.join (B.map fun b => txt b.1) [10] := by
  unfold btxt
  rw [← btx_join B B.length (Nat.le_refl _), List.take_length]
theorem flat_tail (B : List Fm) : Lib.joinTail [10] (B.map fun b => txt b.1) ++ [10] = [10] ++ flat10 (bkLines B) := by
  induction B with
  | nil => rfl
  | cons b B ih =>
    have e : Lib.joinTail [10] ((b :: B).map fun b => txt b.1) = [10] ++ txt b.1 ++ Lib.joinTail [10] (B.map fun b => txt b.1) := by simp [Lib.joinTail]
    rw [e, bkLines_cons, flat10_app, flat10_app, ← txt_rows, List.append_assoc, ih]
    simp [flat10]
theorem flat_bk {B : List Fm} (h : B ≠ []) : flat10 (bkLines B) = btxt B ++ [10] := by
  cases B with
  | nil => exact absurd rfl h
  | cons b B =>
    rw [btxt_join, List.map_cons, Lib.join_cons, List.append_assoc, flat_tail, bkLines_cons, flat10_app, flat10_app, ← txt_rows]
    simp [flat10]
/-- A text is a book's exactly where its lines are. -/
theorem lines_bk {T : List UInt8} {B : List Fm} (h : B ≠ []) : wds 10 T = bkLines B ↔ T = btxt B := by
  constructor
  · intro e
    have h1 := flat_wds T
    rw [e, flat_bk h] at h1
    exact (List.append_cancel_right h1).symm
  · intro e
    have h1 : flat10 (wds 10 T) ++ [] = flat10 (bkLines B) ++ [] := by rw [flat_wds, flat_bk h, e]
    exact (flat_inj (wds_no 10 T) (bkLines_no B) (by simp) (by simp) h1).1
/-! The reference. -/
theorem fm_congr {α β : Type} {f g : α → List β} {l : List α} (h : ∀ x ∈ l, f x = g x) : l.flatMap f = l.flatMap g := by rw [List.flatMap_def, List.flatMap_def, List.map_congr_left h]
def sgR (W : List (List UInt8)) (k : Nat) : List (List UInt8) := (W.drop (13 * k)).take 12
def sgO (W : List (List UInt8)) (k : Nat) : Bool := rdB (sgR W k) && decide (W.getD (13 * k + 12) [] = [])
def sgF (W : List (List UInt8)) (k : Nat) : Fm := ⟨mk (rdP (sgR W k)), mk_frOk _⟩
def sbO (W : List (List UInt8)) : Bool := decide (W.length % 13 = 0) && decide (W.length / 13 ≤ 40) && (List.range (W.length / 13)).all (sgO W)
def sbL (W : List (List UInt8)) : List Fm := (List.range (W.length / 13)).map (sgF W)
theorem chunks (n : Nat) : ∀ W : List (List UInt8), W.length = 13 * n → W = (List.range n).flatMap fun k => (W.drop (13 * k)).take 13 := by
  induction n with
  | zero => intro W h; rw [Nat.mul_zero] at h; rw [List.eq_nil_of_length_eq_zero h]; rfl
  | succ n ih =>
    intro W h
    have := ih (W.drop 13) (by rw [List.length_drop]; omega)
    rw [List.range_succ_eq_map, List.flatMap_cons, List.flatMap_map, Nat.mul_zero, List.drop_zero]
    conv => lhs; rw [← List.take_append_drop 13 W, this]
    congr 1
    apply fm_congr
    intro k _
    rw [List.drop_drop, show 13 + 13 * k = 13 * (k + 1) by omega]
theorem seg13 {W : List (List UInt8)} {k : Nat} (h : 13 * k + 12 < W.length) : (W.drop (13 * k)).take 13 = sgR W k ++ [W.getD (13 * k + 12) []] := by
  unfold sgR
  rw [List.take_succ_eq_append_getElem (by rw [List.length_drop]; omega), List.getElem_drop, List.getD_eq_getElem?_getD, List.getElem?_eq_getElem h]
  rfl
theorem sb_lines {W : List (List UInt8)} (h : sbO W = true) : W = bkLines (sbL W) := by
  unfold sbO at h
  simp only [Bool.and_eq_true, decide_eq_true_eq] at h
  obtain ⟨⟨h1, h2⟩, h3⟩ := h
  have hn : W.length = 13 * (W.length / 13) := by omega
  unfold bkLines sbL
  rw [List.flatMap_map]
  conv => lhs; rw [chunks _ W hn]
  apply fm_congr
  intro k hk
  have hk' := List.mem_range.1 hk
  have hg := List.all_eq_true.1 h3 k hk
  unfold sgO at hg
  simp only [Bool.and_eq_true, decide_eq_true_eq] at hg
  rw [seg13 (by omega), hg.2]
  show _ = rowsL (mk (rdP (sgR W k))) ++ [[]]
  rw [rows_mk hg.1]
theorem sgR_bk (B : List Fm) {k : Nat} (hk : k < B.length) : sgR (bkLines B) k = rowsL B[k].1 ∧ (bkLines B).getD (13 * k + 12) [] = [] := by
  have e : (bkLines B).drop (13 * k) = (rowsL B[k].1 ++ [[]]) ++ bkLines (B.drop (k + 1)) := by
    rw [bkLines_drop, List.drop_eq_getElem_cons hk, bkLines_cons]
  constructor
  · unfold sgR
    rw [e, List.append_assoc, List.take_append_of_le_length (by rw [rowsL_length]; omega), List.take_of_length_le (by rw [rowsL_length]; omega)]
  · have e2 : (bkLines B).getD (13 * k + 12) [] = ((bkLines B).drop (13 * k)).getD 12 [] := by
      rw [List.getD_eq_getElem?_getD, List.getD_eq_getElem?_getD, List.getElem?_drop]
    rw [e2, e, List.getD_eq_getElem?_getD, List.append_assoc, List.getElem?_append_right (by rw [rowsL_length]; omega), rowsL_length]
    rfl
theorem okL_mem {B : List Fm} (h : bkB B = true) : B.length ≤ 40 ∧ ∀ b ∈ B, okB b.1 = true := by
  unfold bkB okL at h
  simp only [Bool.and_eq_true, decide_eq_true_eq, List.all_eq_true] at h
  exact ⟨h.2, h.1⟩
theorem bk_of {B : List Fm} (h1 : B.length ≤ 40) (h2 : ∀ b ∈ B, okB b.1 = true) : bkB B = true := by
  unfold bkB okL
  simp only [Bool.and_eq_true, decide_eq_true_eq, List.all_eq_true]
  exact ⟨h2, h1⟩
theorem sb_bk {B : List Fm} (h : bkB B = true) : sbO (bkLines B) = true ∧ sbL (bkLines B) = B := by
  obtain ⟨h1, h2⟩ := okL_mem h
  have hd : (bkLines B).length / 13 = B.length := by rw [bkLines_length]; omega
  constructor
  · unfold sbO
    simp only [Bool.and_eq_true, decide_eq_true_eq, List.all_eq_true]
    refine ⟨⟨by rw [bkLines_length]; omega, by omega⟩, fun k hk => ?_⟩
    have hk' : k < B.length := by have := List.mem_range.1 hk; omega
    obtain ⟨e1, e2⟩ := sgR_bk B hk'
    unfold sgO
    rw [e1, e2, show rdB (rowsL B[k].1) = true from rdB_txt _]
    rfl
  · unfold sbL
    rw [hd]
    apply List.ext_getElem (by simp)
    intro k k1 k2
    rw [List.getElem_map, List.getElem_range]
    apply Subtype.ext
    show mk (rdP (sgR (bkLines B) k)) = B[k].1
    rw [(sgR_bk B k2).1]
    exact mk_rows B[k].2.len (h2 _ (List.getElem_mem k2))
/-! The program. -/
def ipO (z : List UInt8) : Bool := riB (z ++ [10])
def ipF (z : List UInt8) : Fm := ⟨mk (riP (z ++ [10])), mk_frOk _⟩
/-- The blocks of a text. -/
def blks (T : List UInt8) : List (List UInt8) := Lib.splitK [10, 10] 0 (Lib.count (Lib.trimSuffix T [10]) [10, 10]) (Lib.trimSuffix T [10])
def pbO (T : List UInt8) : Bool := (blks T).all ipO && decide (bkT ((blks T).map ipF) = T)
def pbL (T : List UInt8) : List Fm := (blks T).map ipF
theorem pb_bk {T : List UInt8} (h0 : T ≠ []) (h : pbO T = true) : bkB (pbL T) = true ∧ T = btxt (pbL T) ∧ pbL T ≠ [] := by
  unfold pbO at h
  simp only [Bool.and_eq_true, decide_eq_true_eq] at h
  have h2 := h.2
  rw [show (blks T).map ipF = pbL T from rfl] at h2
  unfold bkT at h2
  by_cases hb : bkB (pbL T) = true
  · rw [if_pos hb] at h2
    refine ⟨hb, h2.symm, fun e => ?_⟩
    rw [e] at h2
    exact h0 h2.symm
  · rw [if_neg hb] at h2
    exact absurd h2.symm h0
theorem idx_none_tail {a : List UInt8} (h : Lib.index (a ++ [10]) [10, 10] = -1) : Lib.index a [10, 10] = -1 := by
  induction a with
  | nil => rfl
  | cons b a ih =>
    rw [List.cons_append, Lib.index] at h
    rw [Lib.index]
    split at h
    · exact absurd h (by decide)
    · rename_i hp
      have hp2 : ¬ ([10, 10] : List UInt8).isPrefixOf (b :: a) = true := by
        intro e; apply hp
        cases a with
        | nil => simp [List.isPrefixOf] at e
        | cons c a => simpa [List.isPrefixOf] using e
      rw [if_neg hp2]
      split at h
      · rename_i hi
        rw [ih (beq_iff_eq.1 hi)]; rfl
      · rename_i hi
        have := Lib.index_ge (a ++ [10]) [10, 10]
        have hne : Lib.index (a ++ [10]) [10, 10] ≠ -1 := fun e => hi (by rw [e]; rfl)
        omega
theorem idx_app {a : List UInt8} (r : List UInt8) (h : Lib.index (a ++ [10]) [10, 10] = -1) : Lib.index (a ++ 10 :: 10 :: r) [10, 10] = (a.length : Nat) := by
  induction a with
  | nil => rw [List.nil_append, Lib.index]; simp [List.isPrefixOf]
  | cons b a ih =>
    rw [List.cons_append, Lib.index] at h
    rw [List.cons_append, Lib.index]
    split at h
    · exact absurd h (by decide)
    · rename_i hp
      have hp2 : ¬ ([10, 10] : List UInt8).isPrefixOf (b :: (a ++ 10 :: 10 :: r)) = true := by
        intro e; apply hp
        cases a with
        | nil => simpa [List.isPrefixOf] using e
        | cons c a => simpa [List.isPrefixOf] using e
      rw [if_neg hp2]
      split at h
      · rename_i hi
        rw [ih (beq_iff_eq.1 hi), if_neg (by intro e; have := beq_iff_eq.1 e; omega)]
        simp
      · rename_i hi
        have := Lib.index_ge (a ++ [10]) [10, 10]
        have hne : Lib.index (a ++ [10]) [10, 10] ≠ -1 := fun e => hi (by rw [e]; rfl)
        omega
theorem idx_row {r X : List UInt8} (hr : (10 : UInt8) ∉ r) (hX : Lib.index X [10, 10] = -1) (hh : X.head? ≠ some 10) : Lib.index (r ++ 10 :: X) [10, 10] = -1 := by
  induction r with
  | nil =>
    rw [List.nil_append, Lib.index]
    have hp2 : ¬ ([10, 10] : List UInt8).isPrefixOf (10 :: X) = true := by
      intro e
      cases X with
      | nil => simp [List.isPrefixOf] at e
      | cons c X => simp [List.isPrefixOf] at e; exact hh (by rw [← e]; rfl)
    rw [if_neg hp2, hX]; rfl
  | cons b r ih =>
    rw [List.cons_append, Lib.index]
    have hb : (10 : UInt8) ≠ b := fun e => hr (by rw [e]; simp)
    have hp2 : ¬ ([10, 10] : List UInt8).isPrefixOf (b :: (r ++ 10 :: X)) = true := by
      intro e
      simp [List.isPrefixOf] at e
      exact hb e.1
    rw [if_neg hp2, ih (fun hm => hr (by simp [hm]))]; rfl
theorem idx_flat {A : List (List UInt8)} (h : ∀ r ∈ A, (10 : UInt8) ∉ r ∧ r ≠ []) : Lib.index (flat10 A) [10, 10] = -1 ∧ (flat10 A).head? ≠ some 10 := by
  induction A with
  | nil => exact ⟨rfl, by simp [flat10]⟩
  | cons r A ih =>
    obtain ⟨i1, i2⟩ := ih (fun x hx => h x (by simp [hx]))
    obtain ⟨r1, r2⟩ := h r (by simp)
    rw [flat10_cons]
    refine ⟨idx_row r1 i1 i2, ?_⟩
    cases r with
    | nil => exact absurd rfl r2
    | cons c r => simp; exact fun e => r1 (by rw [e]; simp)
/-- A frame's text without its last line's end. -/
def txm (f : List Nat) : List UInt8 := (txt f).dropLast
theorem txm_txt (f : List Nat) : txm f ++ [10] = txt f := by
  have hl := txt_length f
  have hne : txt f ≠ [] := by intro e; rw [e] at hl; simp at hl
  have e : (txt f).getLast hne = 10 := by
    have h1 : txt f = ((List.range 11).flatMap (rowT f) ++ (List.range 12).map fun (x : Nat) => chB (hasI f x (11 : Nat))) ++ [10] := by
      unfold txt
      rw [show (List.range 12).flatMap (rowT f) = (List.range 11 ++ [11]).flatMap (rowT f) from rfl, List.flatMap_append, List.flatMap_singleton]
      unfold rowT
      rw [← List.append_assoc]
    have h2 := List.getLast?_eq_some_getLast hne
    have h3 : (txt f).getLast? = some 10 := by rw [h1]; simp
    rw [h3] at h2
    exact (Option.some.inj h2).symm
  unfold txm
  conv => rhs; rw [← List.dropLast_concat_getLast hne, e]
theorem txm_idx (f : List Nat) : Lib.index (txm f ++ [10]) [10, 10] = -1 := by
  rw [txm_txt, txt_rows]
  refine (idx_flat fun r hr => ⟨rowsL_no f r hr, fun e => ?_⟩).1
  have := rowsL_len f r hr
  rw [e] at this
  simp at this
theorem split_join (a : List UInt8) (L : List (List UInt8)) (h : ∀ x ∈ a :: L, Lib.index (x ++ [10]) [10, 10] = -1) : Lib.splitK [10, 10] 0 (Lib.count (Lib.join (a :: L) [10, 10]) [10, 10]) (Lib.join (a :: L) [10, 10]) = a :: L := by
  induction L generalizing a with
  | nil => rw [Lib.join_one, Lib.count_miss (idx_none_tail (h a (by simp)))]; rfl
  | cons b L ih =>
    have e : Lib.join (a :: b :: L) [10, 10] = a ++ 10 :: 10 :: Lib.join (b :: L) [10, 10] := by
      rw [Lib.join_cons, Lib.join_cons]
      simp [Lib.joinTail]
    have hi := idx_app (Lib.join (b :: L) [10, 10]) (h a (by simp))
    have hd : (a ++ 10 :: 10 :: Lib.join (b :: L) [10, 10]).drop (a.length + 2) = Lib.join (b :: L) [10, 10] := by
      rw [List.drop_append, List.drop_of_length_le (by omega)]
      simp
    rw [e, Lib.count_hit (by simp) hi, Nat.add_comm, Lib.splitK, hi, if_neg (by intro e; have := beq_iff_eq.1 e; omega)]
    simp only [Int.toNat_natCast, List.length_cons, List.length_nil, Nat.zero_add, Nat.reduceAdd]
    rw [hd, ih b (fun x hx => h x (by simp [List.mem_cons.1 hx]))]
    simp
theorem btxt_trim (b : Fm) (B : List Fm) : btxt (b :: B) = Lib.join ((b :: B).map fun b => txm b.1) [10, 10] ++ [10] := by
  rw [btxt_join, List.map_cons, List.map_cons, Lib.join_cons, Lib.join_cons]
  have key : ∀ B : List Fm, [10] ++ Lib.joinTail [10] (B.map fun b => txt b.1) = Lib.joinTail [10, 10] (B.map fun b => txm b.1) ++ [10] := by
    intro B
    induction B with
    | nil => rfl
    | cons c B ih =>
      have e1 : Lib.joinTail [10] ((c :: B).map fun b => txt b.1) = [10] ++ txm c.1 ++ ([10] ++ Lib.joinTail [10] (B.map fun b => txt b.1)) := by
        rw [List.map_cons, ← txm_txt]; simp [Lib.joinTail]
      have e2 : Lib.joinTail [10, 10] ((c :: B).map fun b => txm b.1) = [10, 10] ++ txm c.1 ++ Lib.joinTail [10, 10] (B.map fun b => txm b.1) := by simp [Lib.joinTail]
      rw [e1, e2, ih]
      simp
  rw [List.append_assoc, ← key B, ← txm_txt]
  simp
theorem trim_snoc (l : List UInt8) : Lib.trimSuffix (l ++ [10]) [10] = l := by
  unfold Lib.trimSuffix Lib.hasSuffix
  rw [if_pos (by rw [List.isSuffixOf_iff_suffix]; exact List.suffix_append l [10])]
  simp
theorem blks_bk (b : Fm) (B : List Fm) : blks (btxt (b :: B)) = (b :: B).map fun b => txm b.1 := by
  unfold blks
  rw [btxt_trim, trim_snoc, List.map_cons]
  refine split_join _ _ fun x hx => ?_
  rw [← List.map_cons (f := fun b : Fm => txm b.1)] at hx
  obtain ⟨c, _, rfl⟩ := List.mem_map.1 hx
  exact txm_idx c.1
theorem pb_of {B : List Fm} (h0 : B ≠ []) (h : bkB B = true) : pbO (btxt B) = true ∧ pbL (btxt B) = B := by
  obtain ⟨h1, h2⟩ := okL_mem h
  cases B with
  | nil => exact absurd rfl h0
  | cons b B =>
    have hm : pbL (btxt (b :: B)) = b :: B := by
      unfold pbL
      rw [blks_bk, List.map_map]
      apply List.ext_getElem (by simp)
      intro k k1 k2
      rw [List.getElem_map]
      apply Subtype.ext
      show mk (riP (txm (b :: B)[k].1 ++ [10])) = (b :: B)[k].1
      rw [txm_txt]
      exact mk_txt (b :: B)[k].2.len (h2 _ (List.getElem_mem k2))
    refine ⟨?_, hm⟩
    unfold pbO
    rw [show (blks (btxt (b :: B))).map ipF = b :: B from hm, blks_bk]
    simp only [Bool.and_eq_true, decide_eq_true_eq, List.all_eq_true]
    refine ⟨fun x hx => ?_, ?_⟩
    · obtain ⟨c, hc, rfl⟩ := List.mem_map.1 hx
      unfold ipO
      rw [txm_txt]
      exact riB_txt c.2.len (h2 c hc)
    · unfold bkT
      rw [if_pos h]
/-! Both. -/
/-- What a text is read as: whether it is a book's, and the book. -/
def rbO (T : List UInt8) : Bool := decide (T = []) || sbO (wds 10 T)
def rbL (T : List UInt8) : List Fm := if T = [] then [] else if sbO (wds 10 T) = true then sbL (wds 10 T) else []
theorem wds_nil_iff {T : List UInt8} (h : T ≠ []) (hs : sbO (wds 10 T) = true) : sbL (wds 10 T) ≠ [] := by
  intro e
  have := sb_lines hs
  rw [e] at this
  exact wds_ne 10 T this
theorem rb_same {T : List UInt8} (h0 : T ≠ []) : sbO (wds 10 T) = pbO T ∧ (pbO T = true → sbL (wds 10 T) = pbL T) := by
  have key : pbO T = true → sbO (wds 10 T) = true ∧ sbL (wds 10 T) = pbL T := by
    intro h
    obtain ⟨h1, h2, h3⟩ := pb_bk h0 h
    have := (lines_bk h3).2 h2
    rw [this]
    exact sb_bk h1
  refine ⟨?_, fun h => (key h).2⟩
  cases hp : pbO T with
  | true => exact (key hp).1
  | false =>
    cases hs : sbO (wds 10 T) with
    | false => rfl
    | true =>
      exfalso
      have hne := wds_nil_iff h0 hs
      have e := (lines_bk hne).1 (sb_lines hs)
      have hb : bkB (sbL (wds 10 T)) = true := by
        unfold sbO at hs
        simp only [Bool.and_eq_true, decide_eq_true_eq] at hs
        refine bk_of ?_ ?_
        · unfold sbL; rw [List.length_map, List.length_range]; exact hs.1.2
        · intro b hb
          unfold sbL at hb
          obtain ⟨k, _, rfl⟩ := List.mem_map.1 hb
          exact mk_ok _
      have := (pb_of hne hb).1
      rw [← e, hp] at this
      cases this
theorem rb_read {B : List Fm} (h : bkB B = true) : rbO (btxt B) = true ∧ rbL (btxt B) = B := by
  by_cases h0 : B = []
  · subst h0
    exact ⟨rfl, rfl⟩
  · have hT : btxt B ≠ [] := by
      intro e
      have h1 := flat_bk h0
      rw [e] at h1
      have h2 := congrArg List.length h1
      cases B with
      | nil => exact h0 rfl
      | cons b B =>
        rw [bkLines_cons, flat10_app, flat10_app, ← txt_rows] at h2
        simp [txt_length] at h2
        omega
    have e := (lines_bk h0).2 rfl
    unfold rbO rbL
    rw [if_neg hT, e, (sb_bk h).1, if_pos rfl]
    exact ⟨by simp, (sb_bk h).2⟩
end Go.Proofs.YtmfgbkmkcljciaaDoor
