/- Two frames: both valid, met, joined, cut out; no condition. -/
import Derived.Test.YtdiphapcjafbaaaB5
namespace Go.Proofs.Ytdiphapcjafbaaa
open Go.RowKit
set_option linter.unusedSimpArgs false
set_option linter.unusedVariables false

/-- The code of a question about two frames. -/
def codeG (f g : List Nat) : Int := if okB f = true ∧ okB g = true then 0 else 1
theorem codeG_0 {f g : List Nat} (h : okB f = true) (h' : okB g = true) : codeG f g = 0 := by simp [codeG, h, h']
theorem codeG_1 {f g : List Nat} (h : okB f = false) : codeG f g = 1 := by simp [codeG, h]
theorem codeG_2 {f g : List Nat} (h : okB g = false) : codeG f g = 1 := by simp [codeG, h]
theorem codeG_ok {f g : List Nat} (h : codeG f g = 0) : okB f = true ∧ okB g = true := by
  unfold codeG at h
  split at h
  · assumption
  · cases h
theorem l01Ok_v {f : List Nat} {v : Bool} (h : okB f = v) (hf : f.length = 12) (b o : Nat) (w : World) (hb : Cl w b o (frv f)) :
    Calls Try.prog 73 #[.pointer (some ⟨b, o, none⟩)] w fun e w' => e = .returned (.bool v) ∧ Keep [] w w' := by
  subst h; exact l01Ok_c f hf b o w hb
set_option maxRecDepth 100000 in
theorem l01Both_c (f g : List Nat) (okf : FrOk f) (okg : FrOk g) (b o b' o' : Nat) (w : World) (hb : Cl w b o (frv f)) (hb' : Cl w b' o' (frv g)) :
    Calls Try.prog 85 #[.pointer (some ⟨b, o, none⟩), .pointer (some ⟨b', o', none⟩)] w fun e w' => e = .returned (.int .i64 (codeG f g)) ∧ Keep [] w w' := by
  have hf := okf.len
  have hg := okg.len
  have st := St.start w
  rcases Bool.eq_false_or_eq_true (okB f) with h | h
  · rcases Bool.eq_false_or_eq_true (okB g) with h' | h'
    · rw [codeG_0 h h']
      go_enter Try.func85, Try.ntmps85
      go_wp2_with (first | (refine wpl_unguard rfl ?_) | (go_at_call 73; (with_reducible refine gate_ptr (b := b) (o := o) ?_); refine (l01Ok_v h hf _ _ _ hb).mono ?_; rintro _ _ ⟨rfl, hk⟩; replace st := st.call hk; clear hk) | (go_at_call 73; (with_reducible refine gate_ptr (b := b') (o := o') ?_); refine (l01Ok_v h' hg _ _ _ (hb'.keep st.keep (by simp))).mono ?_; rintro _ _ ⟨rfl, hk⟩; replace st := st.call hk; clear hk))
      go_ret
      exact ⟨rfl, st.keep⟩
    · rw [codeG_2 h']
      go_enter Try.func85, Try.ntmps85
      go_wp2_with (first | (refine wpl_unguard rfl ?_) | (go_at_call 73; (with_reducible refine gate_ptr (b := b) (o := o) ?_); refine (l01Ok_v h hf _ _ _ hb).mono ?_; rintro _ _ ⟨rfl, hk⟩; replace st := st.call hk; clear hk) | (go_at_call 73; (with_reducible refine gate_ptr (b := b') (o := o') ?_); refine (l01Ok_v h' hg _ _ _ (hb'.keep st.keep (by simp))).mono ?_; rintro _ _ ⟨rfl, hk⟩; replace st := st.call hk; clear hk))
      go_ret
      exact ⟨rfl, st.keep⟩
  · rw [codeG_1 h]
    go_enter Try.func85, Try.ntmps85
    go_wp2_with (first | (go_at_call 73; refine (l01Ok_c f hf _ _ _ hb).mono ?_; rintro _ _ ⟨rfl, hk⟩; replace st := st.call hk; clear hk))
    go_ret
    exact ⟨rfl, st.keep⟩

/-! ### Lists of frames in memory -/
def fsv (fs : List (List Nat)) : List Value := fs.flatMap frv
theorem fsv_append (fs gs : List (List Nat)) : fsv (fs ++ gs) = fsv fs ++ fsv gs := by simp [fsv]
theorem fsv_length {fs : List (List Nat)} (hl : ∀ f ∈ fs, f.length = 12) : (fsv fs).length = fs.length * 12 := by
  induction fs with
  | nil => rfl
  | cons f fs ih =>
    have h1 := hl f (by simp)
    have h2 := ih (fun g hg => hl g (by simp [hg]))
    simp only [fsv, List.flatMap_cons, List.length_append, List.length_cons, frv_length] at h2 ⊢
    omega
theorem fsv_get {fs : List (List Nat)} (hl : ∀ f ∈ fs, f.length = 12) : ∀ {k j : Nat}, k < fs.length → j < 12 → (fsv fs)[k * 12 + j]? = (frv (fs.getD k zf))[j]? := by
  induction fs with
  | nil => intro k j hk; simp at hk
  | cons f fs ih =>
    intro k j hk hj
    have h1 := hl f (by simp)
    simp only [fsv, List.flatMap_cons] at ih ⊢
    cases k with
    | zero => rw [List.getElem?_append_left (by rw [frv_length]; omega)]; simp
    | succ k =>
      rw [List.getElem?_append_right (by rw [frv_length]; omega), frv_length, show (k + 1) * 12 + j - f.length = k * 12 + j by omega]
      rw [ih (fun g hg => hl g (by simp [hg])) (by simpa using hk) hj]
      simp
theorem Cl.frame {w : World} {b o : Nat} {fs : List (List Nat)} (h : Cl w b o (fsv fs)) (hl : ∀ f ∈ fs, f.length = 12) {k : Nat} (hk : k < fs.length) : Cl w b (o + k * 12) (frv (fs.getD k zf)) :=
  ⟨h.1, fun j v hj => by
    have hjl : j < 12 := by
      have := (List.getElem?_eq_some_iff.1 hj).1
      rw [frv_length] at this
      have h2 : (fs.getD k zf).length = 12 := by
        rw [List.getD_eq_getElem?_getD, List.getElem?_eq_getElem hk]; exact hl _ (List.getElem_mem hk)
      omega
    rw [Nat.add_assoc]
    exact h.2 _ v (by rw [fsv_get hl hk hjl]; exact hj)⟩
theorem getD_mem {fs : List (List Nat)} {k : Nat} (hk : k < fs.length) : fs.getD k zf ∈ fs := by
  rw [List.getD_eq_getElem?_getD, List.getElem?_eq_getElem hk]; exact List.getElem_mem hk
theorem are1_c (f : List Nat) (hf : f.length = 12) (w : World) : Calls Try.prog 125 #[.agg (frv f).toArray] w fun e w' => e = .returned (.bool (!okB f)) ∧ Keep [] w w' := by
  have st := St.start w
  go_enter Try.func125, Try.ntmps125
  go_wp2_with (first | ((with_reducible refine gate_box rfl ?_); refine wpl_box rfl _ _ rfl _ rfl _ rfl st ?_; clear st; intro _ _ st) | ((with_reducible refine gate_load rfl ?_); refine wpl_loadAll rfl _ _ rfl _ rfl tFr.toAggT _ _ (st.get (by repeat (first | exact At.here | apply At.there))) (by simp [frv_length, zf_length, mk_length, withD_length, part_length, rowsOf_length, *]) ?_) | (go_at_call 25; refine (ValidFrame_c f hf _).mono ?_; rintro _ _ ⟨rfl, hk⟩; replace st := st.call hk; clear hk))
  go_ret
  exact ⟨rfl, st.keep⟩
def allOk (fs : List (List Nat)) : Bool := fs.all okB
def IdxFPost (fs : List (List Nat)) (w : World) (e : Ending) (w' : World) : Prop := ∃ i : Int, e = .returned (.int .i64 i) ∧ (allOk fs = true → i = -1) ∧ (allOk fs = false → 0 ≤ i) ∧ Keep [] w w'
theorem allOk_not {fs : List (List Nat)} {k : Nat} (hk : k < fs.length) (h : okB (fs.getD k zf) = false) : allOk fs = false := by
  rw [Bool.eq_false_iff]
  intro ha
  have := List.all_eq_true.1 ha _ (getD_mem hk)
  rw [h] at this; cases this
theorem allOk_of {fs : List (List Nat)} (h : ∀ k, k < fs.length → okB (fs.getD k zf) = true) : allOk fs = true := by
  unfold allOk
  rw [List.all_eq_true]
  intro x hx
  obtain ⟨i, hi, rfl⟩ := List.mem_iff_getElem.1 hx
  have := h i hi
  rwa [List.getD_eq_getElem?_getD, List.getElem?_eq_getElem hi] at this
set_option maxRecDepth 100000 in
theorem indexFuncFr_c (fs : List (List Nat)) (hl : ∀ f ∈ fs, f.length = 12) (hn : fs.length ≤ maxLen) (b o cap : Nat) (w : World) (hb : Cl w b o (fsv fs)) :
    Calls Try.prog 134 #[.slice (some ⟨b, o, none⟩) fs.length cap, .func (.func 125) #[] #[]] w (IdxFPost fs w) := by
  have st := St.start w
  have hmx : fs.length ≤ 9223372036854775807 := by simp only [maxLen] at hn; omega
  go_enter Try.func134, Try.ntmps134
  go_wp2_with fail
  go_loopw [8] (fun i wr => ∃ k : Nat, k ≤ fs.length ∧ i = .int .i64 k ∧ (∀ y, y < k → okB (fs.getD y zf) = true) ∧ St [] w wr []) (fun i _ => fs.length - (intOf i).toNat)
  case atStart => exact ⟨0, by omega, rfl, by omega, st⟩
  case round =>
    clear st
    obtain ⟨k, hk, rfl, hle, st⟩ := hrel
    have HL := hid hle
    clear hle
    by_cases hlt : k < fs.length
    · have hd : decide ((k : Int) < (fs.length : Int)) = true := by simpa using hlt
      have hfl : (fs.getD k zf).length = 12 := hl _ (getD_mem hlt)
      have hc := (hb.frame hl hlt).keep st.keep (by simp)
      rcases Bool.eq_false_or_eq_true (okB (fs.getD k zf)) with h | h
      · obtain ⟨fk, hfk⟩ : ∃ fk, fk = fs.getD k zf := ⟨_, rfl⟩
        rw [← hfk] at hfl hc h
        have HK := hid hfk
        clear hfk
        go_wp2_with (first | ((with_reducible refine gate_addr rfl ?_); refine wpl_slcAddr rfl _ _ rfl _ _ _ _ rfl _ _ rfl tFrS k rfl hlt ?_) | ((with_reducible refine gate_load rfl ?_); refine wpl_loadC rfl _ _ rfl _ rfl tFr.toAggT (frv fk) (by rw [frv_length, hfl]) (fun j v hj => by rw [Addr.add_lit]; exact hc.cellv hj) ?_) | (go_at_call 125; refine (are1_c fk hfl _).mono ?_; rintro _ _ ⟨rfl, hk⟩; replace st := st.call hk; clear hk))
        go_roundw
        case rel =>
          refine ⟨k + 1, by omega, by go_num, fun y hy => ?_, st⟩
          by_cases e : y = k
          · subst e; rw [← HK.out]; exact h
          · exact HL.out y (by omega)
        case measure => simp [intOf]; omega
      · have hno := allOk_not hlt h
        obtain ⟨fk, hfk⟩ : ∃ fk, fk = fs.getD k zf := ⟨_, rfl⟩
        rw [← hfk] at hfl hc h
        have HK := hid hfk
        clear hfk
        go_wp2_with (first | ((with_reducible refine gate_addr rfl ?_); refine wpl_slcAddr rfl _ _ rfl _ _ _ _ rfl _ _ rfl tFrS k rfl hlt ?_) | ((with_reducible refine gate_load rfl ?_); refine wpl_loadC rfl _ _ rfl _ rfl tFr.toAggT (frv fk) (by rw [frv_length, hfl]) (fun j v hj => by rw [Addr.add_lit]; exact hc.cellv hj) ?_) | (go_at_call 125; refine (are1_c fk hfl _).mono ?_; rintro _ _ ⟨rfl, hk⟩; replace st := st.call hk; clear hk))
        go_ret
        exact ⟨k, rfl, fun h => (by rw [hno] at h; cases h), fun _ => (by omega), st.keep⟩
    · obtain rfl : k = fs.length := by omega
      go_wp2_with fail
      go_ret
      exact ⟨-1, rfl, fun _ => rfl, fun h => (by rw [allOk_of (fun y hy => HL.out y (by omega))] at h; cases h), st.keep⟩
theorem containsFr_c (fs : List (List Nat)) (hl : ∀ f ∈ fs, f.length = 12) (hn : fs.length ≤ maxLen) (b o cap : Nat) (w : World) (hb : Cl w b o (fsv fs)) :
    Calls Try.prog 124 #[.slice (some ⟨b, o, none⟩) fs.length cap, .func (.func 125) #[] #[]] w fun e w' => e = .returned (.bool (!allOk fs)) ∧ Keep [] w w' := by
  have st := St.start w
  rcases Bool.eq_false_or_eq_true (allOk fs) with h | h
  · rw [h]
    go_enter Try.func124, Try.ntmps124
    go_wp2_with (go_at_call 134; refine (indexFuncFr_c fs hl hn b o cap _ hb).mono ?_; rintro _ _ ⟨i, rfl, h1, h2, hk⟩; replace st := st.call hk; obtain rfl := h1 h; clear h1 h2 hk)
    go_ret
    exact ⟨rfl, st.keep⟩
  · rw [h]
    go_enter Try.func124, Try.ntmps124
    go_wp2_with (go_at_call 134; refine (indexFuncFr_c fs hl hn b o cap _ hb).mono ?_; rintro _ _ ⟨i, rfl, h1, h2, hk⟩; replace st := st.call hk; have h3 := h2 h; clear h1 h2 hk)
    go_ret
    exact ⟨by simp [*], st.keep⟩
theorem areFrames_c (fs : List (List Nat)) (hl : ∀ f ∈ fs, f.length = 12) (hn : fs.length ≤ maxLen) (b o cap : Nat) (w : World) (hb : Cl w b o (fsv fs)) :
    Calls Try.prog 86 #[.slice (some ⟨b, o, none⟩) fs.length cap] w fun e w' => e = .returned (.bool (allOk fs)) ∧ Keep [] w w' := by
  have st := St.start w
  go_enter Try.func86, Try.ntmps86
  go_wp2_with (first | (go_at_call 124; refine (containsFr_c fs hl hn b o cap _ hb).mono ?_; rintro _ _ ⟨rfl, hk⟩; replace st := st.call hk; clear hk))
  go_ret
  exact ⟨by simp, st.keep⟩
theorem areTwo_c (f g : List Nat) (hf : f.length = 12) (hg : g.length = 12) (b cap : Nat) (T : TypeId) (w : World) (hb : Blk w b (frv f ++ frv g) T) :
    Calls Try.prog 86 #[.slice (some ⟨b, 0, none⟩) 2 cap] w fun e w' => e = .returned (.bool (decide (codeG f g = 0))) ∧ Keep [] w w' := by
  have h := areFrames_c [f, g] (by simp [hf, hg]) (by simp [maxLen]) b 0 cap w (.of (cs := fsv [f, g]) (T := T) (by simpa [fsv] using hb))
  have e : allOk [f, g] = decide (codeG f g = 0) := by
    rcases Bool.eq_false_or_eq_true (okB f) with h1 | h1 <;> rcases Bool.eq_false_or_eq_true (okB g) with h2 | h2 <;> simp [allOk, codeG, h1, h2]
  rw [e] at h
  exact h
/-- What a function on two frames answers. -/
def twoR (k : Nat → Nat → Nat) (f g : List Nat) : List Nat := if codeG f g = 0 then mixR k f g else zf
theorem twoR_len (k : Nat → Nat → Nat) (f g : List Nat) : (twoR k f g).length = 12 := by
  unfold twoR
  split
  · exact mixR_length k f g
  · rfl


set_option maxRecDepth 100000 in
theorem l01Join_c (f g : List Nat) (okf : FrOk f) (okg : FrOk g) (b o b' o' : Nat) (w : World) (hb : Cl w b o (frv f)) (hb' : Cl w b' o' (frv g)) :
    Calls Try.prog 88 #[.pointer (some ⟨b, o, none⟩), .pointer (some ⟨b', o', none⟩)] w fun e w' => e = .returned (.agg (frv (mixR (fun a b => a ||| b) f g)).toArray) ∧ Keep [] w w' := by
  have hf := okf.len
  have hg := okg.len
  have st := St.start w
  go_enter Try.func88, Try.ntmps88
  go_wp2_with (first | ((with_reducible refine gate_alloc rfl ?_); (with_reducible refine gate_dst (N := 4) rfl ?_); refine wpl_alloc rfl _ rfl tFr.toAggT st ?_; clear st; intro B4 _ st) | ((with_reducible refine gate_alloc rfl ?_); (with_reducible refine gate_dst (N := 5) rfl ?_); refine wpl_alloc rfl _ rfl tFr.toAggT st ?_; clear st; intro B5 _ st) | ((with_reducible refine gate_build rfl ?_); refine wpl_zero rfl _ rfl _ tFrB ?_) | ((with_reducible refine gate_store rfl ?_); refine wpl_storeAll rfl _ _ _ rfl _ rfl _ rfl tFr.toAggT (by simp [frv_length, zf_length, mk_length, withD_length, part_length, rowsOf_length, *]) (frv_one _) st _ _ (by repeat (first | exact Upd.here | apply Upd.there)) (by simp [frv_length, zf_length, mk_length, withD_length, part_length, rowsOf_length, *]) ?_; clear st; intro _ st))
  rw [frv_zero] at st
  go_loopw [6] (fun i wr => ∃ y : Nat, y ≤ 12 ∧ i = .int .i64 y ∧ St [] w wr [(B5, frv (part (fun y => ro f y ||| ro g y) zf y), 25), (B4, frv zf, 25)]) (fun i _ => 12 - (intOf i).toNat)
  case atStart => exact ⟨0, by omega, rfl, by rw [part_zero _ _ zf_length]; exact st⟩
  case round =>
    clear st
    obtain ⟨y, hy, rfl, st⟩ := hrel
    by_cases hlt : y < 12
    · have hdy : decide ((y : Int) < 12) = true := by simp; omega
      have hb1 := okf.ro_lt y
      have hb2 := okg.ro_lt y
      go_wp2_with fail
      (refine wp_region_tail_st st 13 (by kernel_rfl) (by kernel_rfl) ?_; clear st; simp only [List.take_succ_cons, List.take_zero, List.drop_succ_cons, List.drop_zero]; (repeat ((first | (refine wpq_move rfl _ rfl _ rfl ?_) | (refine wpq_nil rfl _ rfl _ rfl ?_) | ((with_reducible refine qgate_dst (N := 24) rfl ?_); ((with_reducible refine qgate_addr rfl ?_); refine wpq_indexAddr0 rfl _ _ _ rfl _ rfl _ _ rfl tFr y rfl hlt ?_)) | ((with_reducible refine qgate_addr rfl ?_); refine wpq_indexAddr rfl _ _ _ rfl _ _ rfl _ _ rfl tFr y rfl hlt ?_) | ((with_reducible refine qgate_dst (N := 17) rfl ?_); ((with_reducible refine qgate_load rfl ?_); refine wpq_load1 rfl _ _ rfl _ rfl tU16 _ (fun _ hw => ((hb.keep hw.keep (by simp)).cellv (frv_get _ _ (by omega)))) ?_)) | ((with_reducible refine qgate_dst (N := 22) rfl ?_); ((with_reducible refine qgate_load rfl ?_); refine wpq_load1 rfl _ _ rfl _ rfl tU16 _ (fun _ hw => ((hb'.keep hw.keep (by simp)).cellv (frv_get _ _ (by omega)))) ?_)) | ((with_reducible refine qgate_bin rfl ?_); refine wpq_bin rfl _ _ _ _ _ rfl _ _ _ _ rfl rfl (.int .u16 ((ro f y ||| ro g y : Nat) : Int)) (fun w' => run_or hb1 hb2 w') ?_)); (simp only [Act.put, Act.eval, Array.getD_eq_getD_getElem?, List.getElem?_toArray, List.getElem?_cons_succ, List.getElem?_cons_zero, Option.getD_some, List.setIfInBounds_toArray, List.set_cons_succ, List.set_cons_zero, List.getElem_toArray, List.getElem_cons_succ, List.getElem_cons_zero]))); refine wpQuiet_nil ?_; intro _ st)
      go_wp2_with (first | ((with_reducible refine gate_store rfl ?_); refine wpl_store1 rfl _ _ _ rfl _ _ rfl (.int .u16 _) rfl tU16 rfl rfl st _ _ (by repeat (first | exact Upd.here | apply Upd.there)) (by rw [frv_length, part_length]; omega) ?_; rw [frv_set, part_set (fun y => ro f y ||| ro g y) zf y hlt];clear st; intro _ st))
      go_roundw
      case rel => exact ⟨y + 1, by omega, by go_num, st⟩
      case measure => simp [intOf]; omega
    · obtain rfl : y = 12 := by omega
      rw [part_all] at st
      go_wp2_with (first | ((with_reducible refine gate_load rfl ?_); refine wpl_loadAll rfl _ _ rfl _ rfl tFr.toAggT _ _ (st.get (by repeat (first | exact At.here | apply At.there))) (by rw [frv_length, rowsOf_length]) ?_) | ((with_reducible refine gate_store rfl ?_); refine wpl_storeAll rfl _ _ _ rfl _ rfl _ rfl tFr.toAggT (by rw [frv_length, rowsOf_length]) (frv_one _) st _ _ (by repeat (first | exact Upd.here | apply Upd.there)) (by simp [frv_length, zf_length]) ?_; clear st; intro _ st))
      refine bodyPost_cell rfl tFr.toAggT rfl _ rfl _ _ (st.get (by repeat (first | exact At.here | apply At.there))) (by rw [frv_length, rowsOf_length]) ?_
      exact ⟨rfl, st.keep⟩
set_option maxRecDepth 100000 in
theorem specJoin_c (f g : List Nat) (okf : FrOk f) (okg : FrOk g) (w : World) :
    Calls Try.prog 37 #[.agg (frv f).toArray, .agg (frv g).toArray] w fun e w' => e = .returned (.tuple #[.agg (frv (twoR (fun a b => a ||| b) f g)).toArray, .int .i64 (codeG f g)]) ∧ Keep [] w w' := by
  have hf := okf.len
  have hg := okg.len
  have hm := mixR_length (fun a b => a ||| b) f g
  have st := St.start w
  unfold twoR
  by_cases hc : codeG f g = 0
  · rw [if_pos hc, hc]
    go_enter Try.func37, Try.ntmps37
    go_wp2_with (first | ((with_reducible refine gate_box rfl ?_); refine wpl_box rfl _ _ rfl _ rfl _ rfl st ?_; clear st; intro _ _ st) | ((with_reducible refine gate_alloc rfl ?_); refine wpl_alloc rfl _ rfl tFr.toAggT st ?_; clear st; intro _ _ st) | (go_at_call 85; refine (l01Both_c f g okf okg _ _ _ _ _ (.of (st.get (.there (.there .here)))) (.of (st.get (.there .here)))).mono ?_; rintro _ _ ⟨rfl, hk⟩; replace st := st.call hk; clear hk) | (go_at_call 88; refine (l01Join_c f g okf okg _ _ _ _ _ (.of (st.get (.there (.there .here)))) (.of (st.get (.there .here)))).mono ?_; rintro _ _ ⟨rfl, hk⟩; replace st := st.call hk; clear hk) | ((with_reducible refine gate_store rfl ?_); refine wpl_storeAll rfl _ _ _ rfl _ rfl _ rfl tFr.toAggT (by rw [frv_length, hm]) (frv_one _) st _ _ (by repeat (first | exact Upd.here | apply Upd.there)) (by simp [frv_length, zf_length, mk_length, withD_length, part_length, rowsOf_length, *]) ?_; clear st; intro _ st))
    refine bodyPost_cell_tmp rfl tFr.toAggT rfl _ rfl _ _ (st.get (by repeat (first | exact At.here | apply At.there))) (by rw [frv_length, hm]) _ rfl ?_
    exact ⟨rfl, st.keep⟩
  · rw [if_neg hc]
    go_enter Try.func37, Try.ntmps37
    go_wp2_with (first | ((with_reducible refine gate_box rfl ?_); refine wpl_box rfl _ _ rfl _ rfl _ rfl st ?_; clear st; intro _ _ st) | ((with_reducible refine gate_alloc rfl ?_); refine wpl_alloc rfl _ rfl tFr.toAggT st ?_; clear st; intro _ _ st) | (go_at_call 85; refine (l01Both_c f g okf okg _ _ _ _ _ (.of (st.get (.there (.there .here)))) (.of (st.get (.there .here)))).mono ?_; rintro _ _ ⟨rfl, hk⟩; replace st := st.call hk; clear hk) | ((with_reducible refine gate_build rfl ?_); refine wpl_zero rfl _ rfl _ tFrB ?_) | ((with_reducible refine gate_store rfl ?_); refine wpl_storeAll rfl _ _ _ rfl _ rfl _ rfl tFr.toAggT (by simp [frv_length, zf_length, mk_length, withD_length, part_length, rowsOf_length, *]) (frv_one _) st _ _ (by repeat (first | exact Upd.here | apply Upd.there)) (by simp [frv_length, zf_length, mk_length, withD_length, part_length, rowsOf_length, *]) ?_; clear st; intro _ st))
    refine bodyPost_cell_tmp rfl tFr.toAggT rfl _ rfl _ _ (st.get (by repeat (first | exact At.here | apply At.there))) (by simp [frv_length, zf_length, mk_length, withD_length, part_length, rowsOf_length, *]) _ rfl ?_
    exact ⟨rfl, st.keep⟩

set_option maxRecDepth 100000 in
theorem l01Less_c (f g : List Nat) (okf : FrOk f) (okg : FrOk g) (b o b' o' : Nat) (w : World) (hb : Cl w b o (frv f)) (hb' : Cl w b' o' (frv g)) :
    Calls Try.prog 90 #[.pointer (some ⟨b, o, none⟩), .pointer (some ⟨b', o', none⟩)] w fun e w' => e = .returned (.agg (frv (mixR andNot f g)).toArray) ∧ Keep [] w w' := by
  have hf := okf.len
  have hg := okg.len
  have st := St.start w
  go_enter Try.func90, Try.ntmps90
  go_wp2_with (first | ((with_reducible refine gate_alloc rfl ?_); (with_reducible refine gate_dst (N := 4) rfl ?_); refine wpl_alloc rfl _ rfl tFr.toAggT st ?_; clear st; intro B4 _ st) | ((with_reducible refine gate_alloc rfl ?_); (with_reducible refine gate_dst (N := 5) rfl ?_); refine wpl_alloc rfl _ rfl tFr.toAggT st ?_; clear st; intro B5 _ st) | ((with_reducible refine gate_build rfl ?_); refine wpl_zero rfl _ rfl _ tFrB ?_) | ((with_reducible refine gate_store rfl ?_); refine wpl_storeAll rfl _ _ _ rfl _ rfl _ rfl tFr.toAggT (by simp [frv_length, zf_length, mk_length, withD_length, part_length, rowsOf_length, *]) (frv_one _) st _ _ (by repeat (first | exact Upd.here | apply Upd.there)) (by simp [frv_length, zf_length, mk_length, withD_length, part_length, rowsOf_length, *]) ?_; clear st; intro _ st))
  rw [frv_zero] at st
  go_loopw [6] (fun i wr => ∃ y : Nat, y ≤ 12 ∧ i = .int .i64 y ∧ St [] w wr [(B5, frv (part (fun y => andNot (ro f y) (ro g y)) zf y), 25), (B4, frv zf, 25)]) (fun i _ => 12 - (intOf i).toNat)
  case atStart => exact ⟨0, by omega, rfl, by rw [part_zero _ _ zf_length]; exact st⟩
  case round =>
    clear st
    obtain ⟨y, hy, rfl, st⟩ := hrel
    by_cases hlt : y < 12
    · have hdy : decide ((y : Int) < 12) = true := by simp; omega
      have hb1 := okf.ro_lt y
      have hb2 := okg.ro_lt y
      go_wp2_with fail
      (refine wp_region_tail_st st 13 (by kernel_rfl) (by kernel_rfl) ?_; clear st; simp only [List.take_succ_cons, List.take_zero, List.drop_succ_cons, List.drop_zero]; (repeat ((first | (refine wpq_move rfl _ rfl _ rfl ?_) | (refine wpq_nil rfl _ rfl _ rfl ?_) | ((with_reducible refine qgate_dst (N := 24) rfl ?_); ((with_reducible refine qgate_addr rfl ?_); refine wpq_indexAddr0 rfl _ _ _ rfl _ rfl _ _ rfl tFr y rfl hlt ?_)) | ((with_reducible refine qgate_addr rfl ?_); refine wpq_indexAddr rfl _ _ _ rfl _ _ rfl _ _ rfl tFr y rfl hlt ?_) | ((with_reducible refine qgate_dst (N := 17) rfl ?_); ((with_reducible refine qgate_load rfl ?_); refine wpq_load1 rfl _ _ rfl _ rfl tU16 _ (fun _ hw => ((hb.keep hw.keep (by simp)).cellv (frv_get _ _ (by omega)))) ?_)) | ((with_reducible refine qgate_dst (N := 22) rfl ?_); ((with_reducible refine qgate_load rfl ?_); refine wpq_load1 rfl _ _ rfl _ rfl tU16 _ (fun _ hw => ((hb'.keep hw.keep (by simp)).cellv (frv_get _ _ (by omega)))) ?_)) | ((with_reducible refine qgate_bin rfl ?_); refine wpq_bin rfl _ _ _ _ _ rfl _ _ _ _ rfl rfl (.int .u16 ((andNot (ro f y) (ro g y) : Nat) : Int)) (fun w' => run_andNot hb1 hb2 w') ?_)); (simp only [Act.put, Act.eval, Array.getD_eq_getD_getElem?, List.getElem?_toArray, List.getElem?_cons_succ, List.getElem?_cons_zero, Option.getD_some, List.setIfInBounds_toArray, List.set_cons_succ, List.set_cons_zero, List.getElem_toArray, List.getElem_cons_succ, List.getElem_cons_zero]))); refine wpQuiet_nil ?_; intro _ st)
      go_wp2_with (first | ((with_reducible refine gate_store rfl ?_); refine wpl_store1 rfl _ _ _ rfl _ _ rfl (.int .u16 _) rfl tU16 rfl rfl st _ _ (by repeat (first | exact Upd.here | apply Upd.there)) (by rw [frv_length, part_length]; omega) ?_; rw [frv_set, part_set (fun y => andNot (ro f y) (ro g y)) zf y hlt];clear st; intro _ st))
      go_roundw
      case rel => exact ⟨y + 1, by omega, by go_num, st⟩
      case measure => simp [intOf]; omega
    · obtain rfl : y = 12 := by omega
      rw [part_all] at st
      go_wp2_with (first | ((with_reducible refine gate_load rfl ?_); refine wpl_loadAll rfl _ _ rfl _ rfl tFr.toAggT _ _ (st.get (by repeat (first | exact At.here | apply At.there))) (by rw [frv_length, rowsOf_length]) ?_) | ((with_reducible refine gate_store rfl ?_); refine wpl_storeAll rfl _ _ _ rfl _ rfl _ rfl tFr.toAggT (by rw [frv_length, rowsOf_length]) (frv_one _) st _ _ (by repeat (first | exact Upd.here | apply Upd.there)) (by simp [frv_length, zf_length]) ?_; clear st; intro _ st))
      refine bodyPost_cell rfl tFr.toAggT rfl _ rfl _ _ (st.get (by repeat (first | exact At.here | apply At.there))) (by rw [frv_length, rowsOf_length]) ?_
      exact ⟨rfl, st.keep⟩
set_option maxRecDepth 100000 in
theorem specLess_c (f g : List Nat) (okf : FrOk f) (okg : FrOk g) (w : World) :
    Calls Try.prog 39 #[.agg (frv f).toArray, .agg (frv g).toArray] w fun e w' => e = .returned (.tuple #[.agg (frv (twoR andNot f g)).toArray, .int .i64 (codeG f g)]) ∧ Keep [] w w' := by
  have hf := okf.len
  have hg := okg.len
  have hm := mixR_length andNot f g
  have st := St.start w
  unfold twoR
  by_cases hc : codeG f g = 0
  · rw [if_pos hc, hc]
    go_enter Try.func39, Try.ntmps39
    go_wp2_with (first | ((with_reducible refine gate_box rfl ?_); refine wpl_box rfl _ _ rfl _ rfl _ rfl st ?_; clear st; intro _ _ st) | ((with_reducible refine gate_alloc rfl ?_); refine wpl_alloc rfl _ rfl tFr.toAggT st ?_; clear st; intro _ _ st) | (go_at_call 85; refine (l01Both_c f g okf okg _ _ _ _ _ (.of (st.get (.there (.there .here)))) (.of (st.get (.there .here)))).mono ?_; rintro _ _ ⟨rfl, hk⟩; replace st := st.call hk; clear hk) | (go_at_call 90; refine (l01Less_c f g okf okg _ _ _ _ _ (.of (st.get (.there (.there .here)))) (.of (st.get (.there .here)))).mono ?_; rintro _ _ ⟨rfl, hk⟩; replace st := st.call hk; clear hk) | ((with_reducible refine gate_store rfl ?_); refine wpl_storeAll rfl _ _ _ rfl _ rfl _ rfl tFr.toAggT (by rw [frv_length, hm]) (frv_one _) st _ _ (by repeat (first | exact Upd.here | apply Upd.there)) (by simp [frv_length, zf_length, mk_length, withD_length, part_length, rowsOf_length, *]) ?_; clear st; intro _ st))
    refine bodyPost_cell_tmp rfl tFr.toAggT rfl _ rfl _ _ (st.get (by repeat (first | exact At.here | apply At.there))) (by rw [frv_length, hm]) _ rfl ?_
    exact ⟨rfl, st.keep⟩
  · rw [if_neg hc]
    go_enter Try.func39, Try.ntmps39
    go_wp2_with (first | ((with_reducible refine gate_box rfl ?_); refine wpl_box rfl _ _ rfl _ rfl _ rfl st ?_; clear st; intro _ _ st) | ((with_reducible refine gate_alloc rfl ?_); refine wpl_alloc rfl _ rfl tFr.toAggT st ?_; clear st; intro _ _ st) | (go_at_call 85; refine (l01Both_c f g okf okg _ _ _ _ _ (.of (st.get (.there (.there .here)))) (.of (st.get (.there .here)))).mono ?_; rintro _ _ ⟨rfl, hk⟩; replace st := st.call hk; clear hk) | ((with_reducible refine gate_build rfl ?_); refine wpl_zero rfl _ rfl _ tFrB ?_) | ((with_reducible refine gate_store rfl ?_); refine wpl_storeAll rfl _ _ _ rfl _ rfl _ rfl tFr.toAggT (by simp [frv_length, zf_length, mk_length, withD_length, part_length, rowsOf_length, *]) (frv_one _) st _ _ (by repeat (first | exact Upd.here | apply Upd.there)) (by simp [frv_length, zf_length, mk_length, withD_length, part_length, rowsOf_length, *]) ?_; clear st; intro _ st))
    refine bodyPost_cell_tmp rfl tFr.toAggT rfl _ rfl _ _ (st.get (by repeat (first | exact At.here | apply At.there))) (by simp [frv_length, zf_length, mk_length, withD_length, part_length, rowsOf_length, *]) _ rfl ?_
    exact ⟨rfl, st.keep⟩

set_option maxRecDepth 100000 in
theorem specMeet_c (f g : List Nat) (okf : FrOk f) (okg : FrOk g) (w : World) :
    Calls Try.prog 35 #[.agg (frv f).toArray, .agg (frv g).toArray] w fun e w' => e = .returned (.tuple #[.agg (frv (twoR (fun a b => a &&& b) f g)).toArray, .int .i64 (codeG f g)]) ∧ Keep [] w w' := by
  have hf := okf.len
  have hg := okg.len
  have st := St.start w
  unfold twoR
  by_cases hc : codeG f g = 0
  · rw [if_pos hc, hc]
    go_enter Try.func35, Try.ntmps35
    go_wp2_with (first | ((with_reducible refine gate_box rfl ?_); (with_reducible refine gate_dst (N := 2) rfl ?_); refine wpl_box rfl _ _ rfl _ rfl _ rfl st ?_; clear st; intro B2 _ st) | ((with_reducible refine gate_box rfl ?_); (with_reducible refine gate_dst (N := 3) rfl ?_); refine wpl_box rfl _ _ rfl _ rfl _ rfl st ?_; clear st; intro B3 _ st) | ((with_reducible refine gate_alloc rfl ?_); (with_reducible refine gate_dst (N := 4) rfl ?_); refine wpl_alloc rfl _ rfl tFr.toAggT st ?_; clear st; intro B4 _ st) | (go_at_call 85; refine (l01Both_c f g okf okg _ _ _ _ _ (.of (st.get (.there (.there .here)))) (.of (st.get (.there .here)))).mono ?_; rintro _ _ ⟨rfl, hk⟩; replace st := st.call hk; clear hk))
    rw [frv_zero] at st
    go_loopw [7] (fun i wr => ∃ y : Nat, y ≤ 12 ∧ i = .int .i64 y ∧ St [] w wr [(B4, frv zf, 25), (B3, frv g, 25), (B2, frv (part (fun y => ro f y &&& ro g y) f y), 25)]) (fun i _ => 12 - (intOf i).toNat)
    case atStart => exact ⟨0, by omega, rfl, by rw [part_zero _ _ hf]; exact st⟩
    case round =>
      clear st
      obtain ⟨y, hy, rfl, st⟩ := hrel
      by_cases hlt : y < 12
      · have hdy : decide ((y : Int) < 12) = true := by simp; omega
        have hb1 := okf.ro_lt y
        have hb2 := okg.ro_lt y
        go_wp2_with fail
        (refine wp_region_tail_st st 9 (by kernel_rfl) (by kernel_rfl) ?_; clear st; simp only [List.take_succ_cons, List.take_zero, List.drop_succ_cons, List.drop_zero]; (repeat ((first | (refine wpq_move rfl _ rfl _ rfl ?_) | ((with_reducible refine qgate_addr rfl ?_); refine wpq_indexAddr0 rfl _ _ _ rfl _ rfl _ _ rfl tFr y rfl hlt ?_) | ((with_reducible refine qgate_dst (N := 20) rfl ?_); ((with_reducible refine qgate_load rfl ?_); refine wpq_load1 rfl _ _ rfl _ rfl tU16 _ (fun _ hw => (hw.get (by repeat (first | exact At.here | apply At.there))).cellv (part_get _ _ _ _ hlt (Nat.le_refl _))) ?_)) | ((with_reducible refine qgate_dst (N := 23) rfl ?_); ((with_reducible refine qgate_load rfl ?_); refine wpq_load1 rfl _ _ rfl _ rfl tU16 _ (fun _ hw => (hw.get (by repeat (first | exact At.here | apply At.there))).cellv (frv_get _ _ (by omega))) ?_)) | ((with_reducible refine qgate_bin rfl ?_); refine wpq_bin rfl _ _ _ _ _ rfl _ _ _ _ rfl rfl (.int .u16 ((ro f y &&& ro g y : Nat) : Int)) (fun w' => run_and hb1 hb2 w') ?_)); (simp only [Act.put, Act.eval, Array.getD_eq_getD_getElem?, List.getElem?_toArray, List.getElem?_cons_succ, List.getElem?_cons_zero, Option.getD_some, List.setIfInBounds_toArray, List.set_cons_succ, List.set_cons_zero, List.getElem_toArray, List.getElem_cons_succ, List.getElem_cons_zero]))); refine wpQuiet_nil ?_; intro _ st)
        go_wp2_with (first | ((with_reducible refine gate_store rfl ?_); refine wpl_store1 rfl _ _ _ rfl _ _ rfl (.int .u16 _) rfl tU16 rfl rfl st _ _ (by repeat (first | exact Upd.here | apply Upd.there)) (by rw [frv_length, part_length]; omega) ?_; rw [frv_set, part_set (fun y => ro f y &&& ro g y) f y hlt];clear st; intro _ st))
        go_roundw
        case rel => exact ⟨y + 1, by omega, by go_num, st⟩
        case measure => simp [intOf]; omega
      · obtain rfl : y = 12 := by omega
        rw [part_all] at st
        go_wp2_with (first | ((with_reducible refine gate_load rfl ?_); refine wpl_loadAll rfl _ _ rfl _ rfl tFr.toAggT _ _ (st.get (by repeat (first | exact At.here | apply At.there))) (by rw [frv_length, rowsOf_length]) ?_) | ((with_reducible refine gate_store rfl ?_); refine wpl_storeAll rfl _ _ _ rfl _ rfl _ rfl tFr.toAggT (by rw [frv_length, rowsOf_length]) (frv_one _) st _ _ (by repeat (first | exact Upd.here | apply Upd.there)) (by simp [frv_length, zf_length]) ?_; clear st; intro _ st))
        refine bodyPost_cell_tmp rfl tFr.toAggT rfl _ rfl _ _ (st.get (by repeat (first | exact At.here | apply At.there))) (by rw [frv_length, rowsOf_length]) _ rfl ?_
        exact ⟨rfl, st.keep⟩
  · rw [if_neg hc]
    go_enter Try.func35, Try.ntmps35
    go_wp2_with (first | ((with_reducible refine gate_box rfl ?_); refine wpl_box rfl _ _ rfl _ rfl _ rfl st ?_; clear st; intro _ _ st) | ((with_reducible refine gate_alloc rfl ?_); refine wpl_alloc rfl _ rfl tFr.toAggT st ?_; clear st; intro _ _ st) | (go_at_call 85; refine (l01Both_c f g okf okg _ _ _ _ _ (.of (st.get (.there (.there .here)))) (.of (st.get (.there .here)))).mono ?_; rintro _ _ ⟨rfl, hk⟩; replace st := st.call hk; clear hk) | ((with_reducible refine gate_build rfl ?_); refine wpl_zero rfl _ rfl _ tFrB ?_) | ((with_reducible refine gate_store rfl ?_); refine wpl_storeAll rfl _ _ _ rfl _ rfl _ rfl tFr.toAggT (by simp [frv_length, zf_length, mk_length, withD_length, part_length, rowsOf_length, *]) (frv_one _) st _ _ (by repeat (first | exact Upd.here | apply Upd.there)) (by simp [frv_length, zf_length, mk_length, withD_length, part_length, rowsOf_length, *]) ?_; clear st; intro _ st))
    refine bodyPost_cell_tmp rfl tFr.toAggT rfl _ rfl _ _ (st.get (by repeat (first | exact At.here | apply At.there))) (by simp [frv_length, zf_length, mk_length, withD_length, part_length, rowsOf_length, *]) _ rfl ?_
    exact ⟨rfl, st.keep⟩

set_option maxRecDepth 100000 in
theorem Meet_c (f g : List Nat) (okf : FrOk f) (okg : FrOk g) (w : World) :
    Calls Try.prog 36 #[.agg (frv f).toArray, .agg (frv g).toArray] w fun e w' => e = .returned (.tuple #[.agg (frv (twoR (fun a b => a &&& b) f g)).toArray, .int .i64 (codeG f g)]) ∧ Keep [] w w' := by
  have hf := okf.len
  have hg := okg.len
  have hm := mixR_length (fun a b => a &&& b) f g
  have st := St.start w
  unfold twoR
  by_cases hc : codeG f g = 0
  · rw [if_pos hc, hc]
    go_enter Try.func36, Try.ntmps36
    go_wp2_with (first | ((with_reducible refine gate_box rfl ?_); refine wpl_box rfl _ _ rfl _ rfl _ rfl st ?_; clear st; intro _ _ st) | ((with_reducible refine gate_alloc rfl ?_); refine wpl_alloc rfl _ rfl tFr.toAggT st ?_; clear st; intro _ _ st) | ((with_reducible refine gate_load rfl ?_); refine wpl_loadAll rfl _ _ rfl _ rfl tFr.toAggT _ _ (st.get (by repeat (first | exact At.here | apply At.there))) (by simp [frv_length, zf_length, mk_length, withD_length, part_length, rowsOf_length, *]) ?_) | ((with_reducible refine gate_bsl rfl ?_); refine wpl_buildSlice2 rfl _ _ _ rfl _ _ rfl rfl _ _ rfl rfl tFrS (by rw [frv_length, hf]) (by rw [frv_length, hg]) (by decide) st ?_; clear st; intro _ _ st) | (go_at_call 86; refine (areTwo_c f g hf hg _ _ _ _ (st.get .here)).mono ?_; rintro _ _ ⟨rfl, hk⟩; replace st := st.call hk; clear hk) | (go_at_call 87; refine (meet_c f g okf okg _).mono ?_; rintro _ _ ⟨rfl, hk⟩; replace st := st.call hk; clear hk) | ((with_reducible refine gate_store rfl ?_); refine wpl_storeAll rfl _ _ _ rfl _ rfl _ rfl tFr.toAggT (by rw [frv_length, hm]) (frv_one _) st _ _ (by repeat (first | exact Upd.here | apply Upd.there)) (by simp [frv_length, zf_length, mk_length, withD_length, part_length, rowsOf_length, *]) ?_; clear st; intro _ st))
    refine bodyPost_cell_tmp rfl tFr.toAggT rfl _ rfl _ _ (st.get (by repeat (first | exact At.here | apply At.there))) (by rw [frv_length, hm]) _ rfl ?_
    exact ⟨rfl, st.keep⟩
  · rw [if_neg hc]
    have hc1 : codeG f g = 1 := by unfold codeG at hc ⊢; split at hc <;> simp_all
    rw [hc1]
    go_enter Try.func36, Try.ntmps36
    go_wp2_with (first | ((with_reducible refine gate_box rfl ?_); refine wpl_box rfl _ _ rfl _ rfl _ rfl st ?_; clear st; intro _ _ st) | ((with_reducible refine gate_alloc rfl ?_); refine wpl_alloc rfl _ rfl tFr.toAggT st ?_; clear st; intro _ _ st) | ((with_reducible refine gate_load rfl ?_); refine wpl_loadAll rfl _ _ rfl _ rfl tFr.toAggT _ _ (st.get (by repeat (first | exact At.here | apply At.there))) (by simp [frv_length, zf_length, mk_length, withD_length, part_length, rowsOf_length, *]) ?_) | ((with_reducible refine gate_bsl rfl ?_); refine wpl_buildSlice2 rfl _ _ _ rfl _ _ rfl rfl _ _ rfl rfl tFrS (by rw [frv_length, hf]) (by rw [frv_length, hg]) (by decide) st ?_; clear st; intro _ _ st) | (go_at_call 86; refine (areTwo_c f g hf hg _ _ _ _ (st.get .here)).mono ?_; rintro _ _ ⟨rfl, hk⟩; replace st := st.call hk; clear hk) | ((with_reducible refine gate_build rfl ?_); refine wpl_zero rfl _ rfl _ tFrB ?_) | ((with_reducible refine gate_store rfl ?_); refine wpl_storeAll rfl _ _ _ rfl _ rfl _ rfl tFr.toAggT (by simp [frv_length, zf_length, mk_length, withD_length, part_length, rowsOf_length, *]) (frv_one _) st _ _ (by repeat (first | exact Upd.here | apply Upd.there)) (by simp [frv_length, zf_length, mk_length, withD_length, part_length, rowsOf_length, *]) ?_; clear st; intro _ st))
    refine bodyPost_cell_tmp rfl tFr.toAggT rfl _ rfl _ _ (st.get (by repeat (first | exact At.here | apply At.there))) (by simp [frv_length, zf_length, mk_length, withD_length, part_length, rowsOf_length, *]) _ rfl ?_
    exact ⟨rfl, st.keep⟩

set_option maxRecDepth 100000 in
theorem Join_c (f g : List Nat) (okf : FrOk f) (okg : FrOk g) (w : World) :
    Calls Try.prog 38 #[.agg (frv f).toArray, .agg (frv g).toArray] w fun e w' => e = .returned (.tuple #[.agg (frv (twoR (fun a b => a ||| b) f g)).toArray, .int .i64 (codeG f g)]) ∧ Keep [] w w' := by
  have hf := okf.len
  have hg := okg.len
  have hm := mixR_length (fun a b => a ||| b) f g
  have st := St.start w
  unfold twoR
  by_cases hc : codeG f g = 0
  · rw [if_pos hc, hc]
    go_enter Try.func38, Try.ntmps38
    go_wp2_with (first | ((with_reducible refine gate_box rfl ?_); refine wpl_box rfl _ _ rfl _ rfl _ rfl st ?_; clear st; intro _ _ st) | ((with_reducible refine gate_alloc rfl ?_); refine wpl_alloc rfl _ rfl tFr.toAggT st ?_; clear st; intro _ _ st) | ((with_reducible refine gate_load rfl ?_); refine wpl_loadAll rfl _ _ rfl _ rfl tFr.toAggT _ _ (st.get (by repeat (first | exact At.here | apply At.there))) (by simp [frv_length, zf_length, mk_length, withD_length, part_length, rowsOf_length, *]) ?_) | ((with_reducible refine gate_bsl rfl ?_); refine wpl_buildSlice2 rfl _ _ _ rfl _ _ rfl rfl _ _ rfl rfl tFrS (by rw [frv_length, hf]) (by rw [frv_length, hg]) (by decide) st ?_; clear st; intro _ _ st) | (go_at_call 86; refine (areTwo_c f g hf hg _ _ _ _ (st.get .here)).mono ?_; rintro _ _ ⟨rfl, hk⟩; replace st := st.call hk; clear hk) | (go_at_call 89; refine (join_c f g okf okg _).mono ?_; rintro _ _ ⟨rfl, hk⟩; replace st := st.call hk; clear hk) | ((with_reducible refine gate_store rfl ?_); refine wpl_storeAll rfl _ _ _ rfl _ rfl _ rfl tFr.toAggT (by rw [frv_length, hm]) (frv_one _) st _ _ (by repeat (first | exact Upd.here | apply Upd.there)) (by simp [frv_length, zf_length, mk_length, withD_length, part_length, rowsOf_length, *]) ?_; clear st; intro _ st))
    refine bodyPost_cell_tmp rfl tFr.toAggT rfl _ rfl _ _ (st.get (by repeat (first | exact At.here | apply At.there))) (by rw [frv_length, hm]) _ rfl ?_
    exact ⟨rfl, st.keep⟩
  · rw [if_neg hc]
    have hc1 : codeG f g = 1 := by unfold codeG at hc ⊢; split at hc <;> simp_all
    rw [hc1]
    go_enter Try.func38, Try.ntmps38
    go_wp2_with (first | ((with_reducible refine gate_box rfl ?_); refine wpl_box rfl _ _ rfl _ rfl _ rfl st ?_; clear st; intro _ _ st) | ((with_reducible refine gate_alloc rfl ?_); refine wpl_alloc rfl _ rfl tFr.toAggT st ?_; clear st; intro _ _ st) | ((with_reducible refine gate_load rfl ?_); refine wpl_loadAll rfl _ _ rfl _ rfl tFr.toAggT _ _ (st.get (by repeat (first | exact At.here | apply At.there))) (by simp [frv_length, zf_length, mk_length, withD_length, part_length, rowsOf_length, *]) ?_) | ((with_reducible refine gate_bsl rfl ?_); refine wpl_buildSlice2 rfl _ _ _ rfl _ _ rfl rfl _ _ rfl rfl tFrS (by rw [frv_length, hf]) (by rw [frv_length, hg]) (by decide) st ?_; clear st; intro _ _ st) | (go_at_call 86; refine (areTwo_c f g hf hg _ _ _ _ (st.get .here)).mono ?_; rintro _ _ ⟨rfl, hk⟩; replace st := st.call hk; clear hk) | ((with_reducible refine gate_build rfl ?_); refine wpl_zero rfl _ rfl _ tFrB ?_) | ((with_reducible refine gate_store rfl ?_); refine wpl_storeAll rfl _ _ _ rfl _ rfl _ rfl tFr.toAggT (by simp [frv_length, zf_length, mk_length, withD_length, part_length, rowsOf_length, *]) (frv_one _) st _ _ (by repeat (first | exact Upd.here | apply Upd.there)) (by simp [frv_length, zf_length, mk_length, withD_length, part_length, rowsOf_length, *]) ?_; clear st; intro _ st))
    refine bodyPost_cell_tmp rfl tFr.toAggT rfl _ rfl _ _ (st.get (by repeat (first | exact At.here | apply At.there))) (by simp [frv_length, zf_length, mk_length, withD_length, part_length, rowsOf_length, *]) _ rfl ?_
    exact ⟨rfl, st.keep⟩

set_option maxRecDepth 100000 in
theorem Less_c (f g : List Nat) (okf : FrOk f) (okg : FrOk g) (w : World) :
    Calls Try.prog 40 #[.agg (frv f).toArray, .agg (frv g).toArray] w fun e w' => e = .returned (.tuple #[.agg (frv (twoR andNot f g)).toArray, .int .i64 (codeG f g)]) ∧ Keep [] w w' := by
  have hf := okf.len
  have hg := okg.len
  have hm := mixR_length andNot f g
  have st := St.start w
  unfold twoR
  by_cases hc : codeG f g = 0
  · rw [if_pos hc, hc]
    go_enter Try.func40, Try.ntmps40
    go_wp2_with (first | ((with_reducible refine gate_box rfl ?_); refine wpl_box rfl _ _ rfl _ rfl _ rfl st ?_; clear st; intro _ _ st) | ((with_reducible refine gate_alloc rfl ?_); refine wpl_alloc rfl _ rfl tFr.toAggT st ?_; clear st; intro _ _ st) | ((with_reducible refine gate_load rfl ?_); refine wpl_loadAll rfl _ _ rfl _ rfl tFr.toAggT _ _ (st.get (by repeat (first | exact At.here | apply At.there))) (by simp [frv_length, zf_length, mk_length, withD_length, part_length, rowsOf_length, *]) ?_) | ((with_reducible refine gate_bsl rfl ?_); refine wpl_buildSlice2 rfl _ _ _ rfl _ _ rfl rfl _ _ rfl rfl tFrS (by rw [frv_length, hf]) (by rw [frv_length, hg]) (by decide) st ?_; clear st; intro _ _ st) | (go_at_call 86; refine (areTwo_c f g hf hg _ _ _ _ (st.get .here)).mono ?_; rintro _ _ ⟨rfl, hk⟩; replace st := st.call hk; clear hk) | (go_at_call 91; refine (less_c f g okf okg _).mono ?_; rintro _ _ ⟨rfl, hk⟩; replace st := st.call hk; clear hk) | ((with_reducible refine gate_store rfl ?_); refine wpl_storeAll rfl _ _ _ rfl _ rfl _ rfl tFr.toAggT (by rw [frv_length, hm]) (frv_one _) st _ _ (by repeat (first | exact Upd.here | apply Upd.there)) (by simp [frv_length, zf_length, mk_length, withD_length, part_length, rowsOf_length, *]) ?_; clear st; intro _ st))
    refine bodyPost_cell_tmp rfl tFr.toAggT rfl _ rfl _ _ (st.get (by repeat (first | exact At.here | apply At.there))) (by rw [frv_length, hm]) _ rfl ?_
    exact ⟨rfl, st.keep⟩
  · rw [if_neg hc]
    have hc1 : codeG f g = 1 := by unfold codeG at hc ⊢; split at hc <;> simp_all
    rw [hc1]
    go_enter Try.func40, Try.ntmps40
    go_wp2_with (first | ((with_reducible refine gate_box rfl ?_); refine wpl_box rfl _ _ rfl _ rfl _ rfl st ?_; clear st; intro _ _ st) | ((with_reducible refine gate_alloc rfl ?_); refine wpl_alloc rfl _ rfl tFr.toAggT st ?_; clear st; intro _ _ st) | ((with_reducible refine gate_load rfl ?_); refine wpl_loadAll rfl _ _ rfl _ rfl tFr.toAggT _ _ (st.get (by repeat (first | exact At.here | apply At.there))) (by simp [frv_length, zf_length, mk_length, withD_length, part_length, rowsOf_length, *]) ?_) | ((with_reducible refine gate_bsl rfl ?_); refine wpl_buildSlice2 rfl _ _ _ rfl _ _ rfl rfl _ _ rfl rfl tFrS (by rw [frv_length, hf]) (by rw [frv_length, hg]) (by decide) st ?_; clear st; intro _ _ st) | (go_at_call 86; refine (areTwo_c f g hf hg _ _ _ _ (st.get .here)).mono ?_; rintro _ _ ⟨rfl, hk⟩; replace st := st.call hk; clear hk) | ((with_reducible refine gate_build rfl ?_); refine wpl_zero rfl _ rfl _ tFrB ?_) | ((with_reducible refine gate_store rfl ?_); refine wpl_storeAll rfl _ _ _ rfl _ rfl _ rfl tFr.toAggT (by simp [frv_length, zf_length, mk_length, withD_length, part_length, rowsOf_length, *]) (frv_one _) st _ _ (by repeat (first | exact Upd.here | apply Upd.there)) (by simp [frv_length, zf_length, mk_length, withD_length, part_length, rowsOf_length, *]) ?_; clear st; intro _ st))
    refine bodyPost_cell_tmp rfl tFr.toAggT rfl _ rfl _ _ (st.get (by repeat (first | exact At.here | apply At.there))) (by simp [frv_length, zf_length, mk_length, withD_length, part_length, rowsOf_length, *]) _ rfl ?_
    exact ⟨rfl, st.keep⟩
end Go.Proofs.Ytdiphapcjafbaaa
