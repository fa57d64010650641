/- Texts read as sheets: the walks; no condition. -/
import Derived.Test.YtlljflmbnbjccaaDoorWd
import Derived.Test.YtlljflmbnbjccaaDoorShT
import Derived.Test.YtlljflmbnbjccaaDoorRes
import Derived.Test.YtlljflmbnbjccaaDoorSx
namespace Go.Proofs.YtlljflmbnbjccaaDoor
open Go.RowKit
set_option linter.unusedSimpArgs false
set_option linter.unusedVariables false
def PcPost (c : UInt8) (l : List UInt8) (w : World) (e : Ending) (w' : World) : Prop := ∃ v, e = .returned v ∧ Gives 9 1 (wds c l).length (encs sv (wds c l)) w v w' ∧ Keep [] w w'
set_option maxHeartbeats 2000000 in
set_option maxRecDepth 100000 in
theorem l01Split_g (c : UInt8) (l : List UInt8) (n : Nat) (hn : l.length = n) (hn1 : n ≤ 1000000) (w : World) :
    Calls Tryd.prog 23 #[.string ⟨l.toArray⟩, .int .u8 (c.toNat : Nat)] w (PcPost c l w) := by
  have st := St.start w
  obtain ⟨cn, hcn⟩ : ∃ cn, c.toNat = cn := ⟨_, rfl⟩
  rw [hcn]
  have HCN := hid hcn
  have heq : (((cn : Nat) : Int) == ((cn : Nat) : Int)) = true := by simp
  have hsz : (⟨l.toArray⟩ : ByteArray).size = n := by rw [← hn]; rfl
  have HLE := hid (pcB_le c l)
  have HLL := hid (pcL_le c l)
  go_enter Tryd.func23, Tryd.ntmps23
  go_wp2_with (first | ((with_reducible refine gate_bsl rfl ?_); refine ia_bsl0 (sl := 8) st rfl rfl rfl ?_; clear st; intro B8 _ st))
  go_loopw [5, 6, 7] (fun v b i wr => ∃ (k g cap : Nat) (spare : List Value), k ≤ n ∧ i = .int .i64 k ∧ b = .int .i64 (pcB c l k : Nat) ∧ v = .slice (some ⟨g, 0, none⟩) (pcL c l k).length cap ∧ St [] w wr [(g, encs sv (pcL c l k) ++ spare, 9)] ∧ (encs sv (pcL c l k) ++ spare).length = cap * 1 ∧ cap ≤ maxLen) (fun _ _ i _ => n - (intOf i).toNat)
  case atStart => exact ⟨0, B8, 0, [], by omega, rfl, rfl, rfl, st, rfl, Nat.zero_le _⟩
  case round =>
    clear st
    obtain ⟨k, g, cap, spare, hk, rfl, rfl, rfl, st, hcap, hcm⟩ := hrel
    have HC := hid hcap
    clear hcap
    by_cases hlt : k < n
    · have hd : decide ((k : Int) < (n : Int)) = true := by simpa using hlt
      have hkl : k < l.length := by omega
      have hb := HLE.out k
      have hll := HLL.out k
      have HG : Hid ((l.getD k 0).toNat = (l.getD k 0).toNat) := hid rfl
      by_cases h10 : l.getD k 0 = c
      · have e1 : pcB c l (k + 1) = k + 1 := (pcL_step h10).1
        have e2 : pcL c l (k + 1) = pcL c l k ++ [(l.drop (pcB c l k)).take (k - pcB c l k)] := (pcL_step h10).2
        have e3 : encs sv (pcL c l (k + 1)) = encs sv (pcL c l k) ++ sv ((l.drop (pcB c l k)).take (k - pcB c l k)) := by rw [e2, encs_append]; simp [encs]
        have e4 : (pcL c l (k + 1)).length = (pcL c l k).length + 1 := by rw [e2, List.length_append]; rfl
        have HE1 := hid e1
        have HE3 := hid e3
        have HE4 := hid e4
        have HSL : Hid ((encs sv (pcL c l k)).length = (pcL c l k).length * 1) := hid (by rw [encs_length sv_len])
        have HI := hid h10
        clear e1 e2 e3 e4
        go_wp2_with (first | ((with_reducible refine gate_ind rfl ?_); refine ia_sidx (l := l) (k := k) rfl rfl rfl rfl Tryd.underlying9 hkl ?_; rw [HI.out, HCN.out]) | ((with_reducible refine gate_scut rfl ?_); refine ia_scut (l := l) (i := pcB c l k) (j := k) rfl rfl rfl rfl rfl Tryd.underlying9 hb (by omega) ?_) | ((with_reducible refine gate_bsl rfl ?_); refine ia_bsl1 (sl := 25) st rfl rfl rfl rfl rfl ?_ (by decide) ?_; (focus (first | rfl | (simp; done) | (simp; assumption) | (simp; omega) | (simp [*]; done))); clear st; intro B25 _ st) | ((with_reducible refine gate_app rfl ?_); refine ia_appendR (news := (sv ((l.drop (pcB c l k)).take (k - pcB c l k)))) (xs := (encs sv (pcL c l k))) (spare := spare) st rfl rfl rfl rfl HSL.out HC.out hcm (.fr (st.get (by repeat (first | exact At.here | apply At.there)))) (fun h => by cases h) (sv_len _) (sv_one _) (by unfold maxLen; omega) (by omega) ?_; clear st; intro g2 cap2 spare2 _ st hcap2 hcm2; (try simp only [List.set_cons_zero, List.set_cons_succ] at st)))
        go_roundw
        case rel => exact ⟨k + 1, g2, cap2, spare2, by omega, by go_num, by rw [HE1.out]; go_num, by rw [HE4.out], by rw [HE3.out]; exact st.drop, by rw [HE3.out]; exact hcap2, hcm2⟩
        case measure => first | (simp [intOf]; done) | (simp [intOf]; omega)
      · have e1 : pcB c l (k + 1) = pcB c l k := (pcL_stay h10).1
        have e2 : pcL c l (k + 1) = pcL c l k := (pcL_stay h10).2
        have HE1 := hid e1
        have HE2 := hid e2
        obtain ⟨ch, hch⟩ : ∃ ch, (l.getD k 0).toNat = ch := ⟨_, rfl⟩
        have hne : (((ch : Nat) : Int) == ((cn : Nat) : Int)) = false := by
          rw [beq_eq_false_iff_ne]
          intro e
          apply h10
          apply UInt8.toNat_inj.1
          rw [hch]
          rw [hcn]
          omega
        have HI := hid hch
        clear e1 e2 hch h10
        go_wp2_with (first | ((with_reducible refine gate_ind rfl ?_); refine ia_sidx (l := l) (k := k) rfl rfl rfl rfl Tryd.underlying9 hkl ?_; rw [HI.out]))
        go_roundw
        case rel => exact ⟨k + 1, g, cap, spare, by omega, by go_num, by rw [HE1.out], by rw [HE2.out], by rw [HE2.out]; exact st, by rw [HE2.out]; exact HC.out, hcm⟩
        case measure => first | (simp [intOf]; done) | (simp [intOf]; omega)
    · obtain rfl : k = n := by omega
      have hd : decide ((k : Int) < (k : Int)) = false := by simp
      have hb := HLE.out k
      have hll := HLL.out k
      have HN := hid hn
      have HSL : Hid ((encs sv (pcL c l k)).length = (pcL c l k).length * 1) := hid (by rw [encs_length sv_len])
      have HF : Hid (encs sv (wds c l) = encs sv (pcL c l k) ++ sv (l.drop (pcB c l k)) ∧ (wds c l).length = (pcL c l k).length + 1) := hid (by
        have e := pc_wds c l
        rw [hn] at e
        rw [← e, encs_append, List.length_append]
        exact ⟨by simp [encs], rfl⟩)
      clear hn
      go_wp2_with (first | ((with_reducible refine gate_scut rfl ?_); refine ia_scutF (l := l) (i := pcB c l k) rfl rfl rfl rfl Tryd.underlying9 (by rw [HN.out]; exact hb) ?_) | ((with_reducible refine gate_bsl rfl ?_); refine ia_bsl1 (sl := 33) st rfl rfl rfl rfl rfl ?_ (by decide) ?_; (focus (first | rfl | (simp; done) | (simp; assumption) | (simp; omega) | (simp [*]; done))); clear st; intro B33 _ st) | ((with_reducible refine gate_app rfl ?_); refine ia_appendR (news := (sv (l.drop (pcB c l k)))) (xs := (encs sv (pcL c l k))) (spare := spare) st rfl rfl rfl rfl HSL.out HC.out hcm (.fr (st.get (by repeat (first | exact At.here | apply At.there)))) (fun h => by cases h) (sv_len _) (sv_one _) (by unfold maxLen; omega) (by omega) ?_; clear st; intro g2 cap2 spare2 _ st hcap2 hcm2; (try simp only [List.set_cons_zero, List.set_cons_succ] at st)))
      go_ret
      exact ⟨.slice (some ⟨g2, 0, none⟩) ((pcL c l k).length + 1) cap2, rfl, ⟨g2, cap2, spare2, by rw [HF.out.2], out_of st (.there .here), by rw [HF.out.1]; exact st.get (.there .here), by rw [HF.out.1]; exact hcap2, hcm2⟩, st.keep⟩
section
variable {P : Program} {ops : Array Oper} {rest : List Oper} {o : Oper} {a : Act} {w : World} {Q : Exit → Act → World → Prop}
theorem gate_sq {T U : TypeId} {x y : Operand} (_ho : o.op = .binOp .eql T x y U) (h : wpList P ops Q (o :: rest) a w) : wpList P ops Q (o :: rest) a w := h
theorem la_seq {T U : TypeId} {x y : Operand} {l m : List UInt8} {v : Bool} (hv : decide (l = m) = v) (hgd : o.guard = none) (ho : o.op = .binOp .eql T x y U) (hx : a.eval x = .string ⟨l.toArray⟩) (hy : a.eval y = .string ⟨m.toArray⟩)
    (h : wpList P ops Q rest (a.put o.dst (.bool v)) w) : wpList P ops Q (o :: rest) a w :=
  wpl_val hgd _ (by
    subst hv
    unfold execOp
    simp only [ho, hx, hy]
    by_cases e : l = m
    · subst e; go_simp
    · go_simp) h
end
def numR (s : List UInt8) : Nat := if numok s = true then numv 0 s else 0
def NumPost (s : List UInt8) (w : World) (e : Ending) (w' : World) : Prop := e = .returned (.tuple #[.int .i64 (numR s : Nat), .bool (numok s)]) ∧ Keep [] w w'
theorem numok_nil : numok [] = false := by decide
theorem numok_long {s : List UInt8} (h : 10 < s.length) : numok s = false := by unfold numok; simp [h]
theorem numok_zero {s : List UInt8} (h : s.getD 0 0 = 48) (h1 : 1 < s.length) : numok s = false := by
  unfold numok
  have : decide (s.getD 0 0 = 48) = true := by simpa using h
  rw [this]; simp [h1]
theorem numok_bad {s : List UInt8} {k : Nat} (hk : k < s.length) (h : dig (s.getD k 0) = false) : numok s = false := by
  unfold numok
  have : s.all dig = false := by
    rw [List.all_eq_false]
    refine ⟨s[k], List.getElem_mem hk, ?_⟩
    rw [List.getD_eq_getElem?_getD, List.getElem?_eq_getElem hk] at h
    rw [show dig s[k] = false from h]; decide
  rw [this]; simp
theorem numok_good {s : List UInt8} (h0 : s ≠ []) (h1 : s.length ≤ 10) (h2 : s.getD 0 0 ≠ 48 ∨ s.length ≤ 1) (h : ∀ j, j < s.length → dig (s.getD j 0) = true) : numok s = true := by
  unfold numok
  have : s.all dig = true := by
    rw [List.all_eq_true]
    intro x hx
    obtain ⟨j, hj, rfl⟩ := List.mem_iff_getElem.1 hx
    have := h j hj
    rw [List.getD_eq_getElem?_getD, List.getElem?_eq_getElem hj] at this
    exact this
  rw [this, Bool.and_true, Bool.not_eq_true']
  have e1 : decide (s = []) = false := by simpa using h0
  have e2 : decide (10 < s.length) = false := by simp; omega
  rw [e1, e2, Bool.false_or, Bool.false_or]
  rcases h2 with h2 | h2
  · rw [show decide (s.getD 0 0 = 48) = false by simpa using h2]; rfl
  · rw [show decide (1 < s.length) = false by simp; omega, Bool.and_false]
theorem numv_take {s : List UInt8} {k : Nat} (hk : k < s.length) : numv 0 (s.take (k + 1)) = 10 * numv 0 (s.take k) + ((s.getD k 0).toNat - 48) := by
  rw [List.take_succ_eq_append_getElem hk]
  unfold numv
  rw [List.foldl_append, List.foldl_cons, List.foldl_nil, List.getD_eq_getElem?_getD, List.getElem?_eq_getElem hk]
  rfl
theorem numv_small {s : List UInt8} {k : Nat} (h : ∀ j, j < k → dig (s.getD j 0) = true) (hk : k ≤ s.length) (h10 : s.length ≤ 10) : numv 0 (s.take k) < 10000000000 := by
  have := numv_lt (s.take k) 0 (fun c hc => by
    obtain ⟨j, hj, rfl⟩ := List.mem_iff_getElem.1 hc
    rw [List.length_take] at hj
    have := h j (by omega)
    rw [List.getD_eq_getElem?_getD, List.getElem?_eq_getElem (by omega)] at this
    rw [List.getElem_take]; exact this)
  have h5 : 10 ^ (s.take k).length ≤ 10 ^ 10 := Nat.pow_le_pow_right (by decide) (by rw [List.length_take]; omega)
  omega
theorem run_subu8 {P : Program} {T : TypeId} {a b : Nat} (h : b ≤ a) (h2 : a < 256) (w : World) : (binOp .sub T (.int .u8 (a : Nat)) (.int .u8 (b : Nat))).run P w = .ok (.int .u8 ((a - b : Nat) : Int)) w := by
  have e : IntKind.wrap .u8 ((a : Int) - (b : Int)) = ((a - b : Nat) : Int) := by
    show ((a : Int) - (b : Int)) % 256 = _
    omega
  go_simp
  try exact e
set_option maxHeartbeats 2000000 in
set_option maxRecDepth 100000 in
theorem l01Number_c (s : List UInt8) (n : Nat) (hn : s.length = n) (hn1 : n ≤ 1000000) (w : World) : Calls Tryd.prog 24 #[.string ⟨s.toArray⟩] w (NumPost s w) := by
  have st := St.start w
  have hsz : (⟨s.toArray⟩ : ByteArray).size = n := by rw [← hn]; rfl
  unfold NumPost
  by_cases h0 : s = []
  · subst h0
    have he : (decide (([] : List UInt8) = [])) = true := by decide
    have HE := hid he
    clear he
    rw [show numR [] = 0 from rfl, numok_nil]
    go_enter Tryd.func24, Tryd.ntmps24
    go_wp2_with (first | ((with_reducible refine gate_sq rfl ?_); refine la_seq (l := []) (m := []) HE.out rfl rfl rfl rfl ?_) | ((with_reducible refine gate_lst ?_); (first | ((with_reducible refine' wpl_ung ?_ ?_ ?_); rotate_left 1; (focus exact rfl); (focus exact rfl)))))
    go_ret2
    exact ⟨rfl, st.keep⟩
  have HE : Hid (decide (s = ([] : List UInt8)) = false) := hid (by simpa using h0)
  have hpos : 0 < n := by rw [← hn]; exact List.length_pos_iff.2 h0
  by_cases hl : 10 < n
  · have e := numok_long (s := s) (by omega)
    rw [show numR s = 0 by unfold numR; rw [e]; rfl, e]
    have hd : decide ((10 : Int) < (n : Int)) = true := by simp; omega
    clear e hn
    go_enter Tryd.func24, Tryd.ntmps24
    go_wp2_with (first | ((with_reducible refine gate_sq rfl ?_); refine la_seq (l := s) (m := []) HE.out rfl rfl rfl rfl ?_) | ((with_reducible refine gate_lst ?_); (first | ((with_reducible refine' wpl_ung ?_ ?_ ?_); rotate_left 1; (focus exact rfl); (focus exact rfl)))))
    go_ret2
    exact ⟨rfl, st.keep⟩
  have hd : decide ((10 : Int) < (n : Int)) = false := by simp; omega
  have hk0 : 0 < s.length := by omega
  obtain ⟨ch, hch⟩ : ∃ ch, (s.getD 0 0).toNat = ch := ⟨_, rfl⟩
  have HCH := hid hch
  by_cases hz : s.getD 0 0 = 48 ∧ 1 < n
  · have e := numok_zero (s := s) hz.1 (by omega)
    rw [show numR s = 0 by unfold numR; rw [e]; rfl, e]
    have hc48 : ch = 48 := by rw [← hch, hz.1]; rfl
    subst hc48
    have hq : ((((48 : Nat) : Int)) == (48 : Int)) = true := by decide
    have hd1 : decide ((1 : Int) < (n : Int)) = true := by have := hz.2; simp; omega
    clear e hn hch hz
    go_enter Tryd.func24, Tryd.ntmps24
    go_wp2_with (first | ((with_reducible refine gate_sq rfl ?_); refine la_seq (l := s) (m := []) HE.out rfl rfl rfl rfl ?_) | ((with_reducible refine gate_ind rfl ?_); refine ia_sidx (l := s) (k := 0) rfl rfl rfl rfl Tryd.underlying9 hk0 ?_; rw [HCH.out]) | ((with_reducible refine gate_lst ?_); (first | ((with_reducible refine' wpl_ung ?_ ?_ ?_); rotate_left 1; (focus exact rfl); (focus exact rfl)))))
    go_ret2
    exact ⟨rfl, st.keep⟩
  have hgood : s.getD 0 0 ≠ 48 ∨ s.length ≤ 1 := by
    by_cases e : s.getD 0 0 = 48
    · have h1 : ¬ 1 < n := fun h => hz ⟨e, h⟩
      exact Or.inr (by omega)
    · exact Or.inl e
  have HGD := hid hgood
  have HL10 : Hid (s.length ≤ 10) := hid (by omega)
  have HNE := hid h0
  have HN := hid hn
  have HBD := hid (fun (k : Nat) (hk : k < s.length) (h : dig (s.getD k 0) = false) => numok_bad hk h)
  have hq : ((((ch : Nat) : Int)) == (48 : Int)) = true ∧ decide ((1 : Int) < (n : Int)) = false ∨ ((((ch : Nat) : Int)) == (48 : Int)) = false := by
    by_cases e : s.getD 0 0 = 48
    · refine Or.inl ⟨?_, ?_⟩
      · rw [← hch, e]; rfl
      · have h1 : ¬ 1 < n := fun h => hz ⟨e, h⟩
        simp; omega
    · refine Or.inr ?_
      rw [beq_eq_false_iff_ne]
      intro e2
      apply e
      apply UInt8.toNat_inj.1
      rw [hch]
      show ch = 48
      omega
  clear hn hch hz hgood h0
  rcases hq with ⟨hq, hd1⟩ | hq
  all_goals
    go_enter Tryd.func24, Tryd.ntmps24
    go_wp2_with (first | ((with_reducible refine gate_sq rfl ?_); refine la_seq (l := s) (m := []) HE.out rfl rfl rfl rfl ?_) | ((with_reducible refine gate_ind rfl ?_); refine ia_sidx (l := s) (k := 0) rfl rfl rfl rfl Tryd.underlying9 hk0 ?_; rw [HCH.out]) | ((with_reducible refine gate_lst ?_); (first | ((with_reducible refine' wpl_ung ?_ ?_ ?_); rotate_left 1; (focus exact rfl); (focus exact rfl)))))
    go_loopw [4, 5] (fun v i wr => ∃ k : Nat, k ≤ n ∧ i = .int .i64 k ∧ v = .int .i64 (numv 0 (s.take k) : Nat) ∧ (∀ j, j < k → dig (s.getD j 0) = true) ∧ St [] w wr []) (fun _ i _ => n - (intOf i).toNat)
    case atStart => exact ⟨0, by omega, rfl, rfl, fun j h => absurd h (by omega), st⟩
    case round =>
      clear st
      obtain ⟨k, hk, rfl, rfl, hall, st⟩ := hrel
      have hv := numv_small hall (by rw [HN.out]; exact hk) HL10.out
      have HALL := hid hall
      clear hall
      by_cases hlt : k < n
      · have hd3 : decide ((k : Int) < (n : Int)) = true := by simpa using hlt
        have hkl : k < s.length := by rw [HN.out]; exact hlt
        have HB := hid (HBD.out k hkl)
        have HT := hid (numv_take hkl)
        obtain ⟨x, hx⟩ : ∃ x, s.getD k 0 = x := ⟨_, rfl⟩
        have HX := hid hx
        rw [hx] at HB HT
        obtain ⟨xn, hxn⟩ : ∃ xn, x.toNat = xn := ⟨_, rfl⟩
        have hx256 : xn < 256 := by rw [← hxn]; exact x.toNat_lt
        have HXN := hid hxn
        rw [hxn] at HT
        clear hx
        by_cases hlo : xn < 48
        · have hc1 : decide ((xn : Int) < 48) = true := by simp; omega
          have hbad : dig x = false := by unfold dig; rw [hxn]; simp; omega
          have e := hid (HB.out hbad)
          clear hxn hbad
          go_wp2_with (first | ((with_reducible refine gate_ind rfl ?_); refine ia_sidx (l := s) (k := k) rfl rfl rfl rfl Tryd.underlying9 hkl ?_; rw [HX.out, HXN.out]) | ((with_reducible refine gate_lst ?_); (first | ((with_reducible refine' wpl_ung ?_ ?_ ?_); rotate_left 1; (focus exact rfl); (focus exact rfl)))))
          go_ret2
          exact ⟨by rw [show numR s = 0 by unfold numR; rw [e.out]; rfl, e.out]; rfl, st.keep⟩
        have hc1 : decide ((xn : Int) < 48) = false := by simp; omega
        by_cases hhi : 57 < xn
        · have hc2 : decide ((57 : Int) < (xn : Int)) = true := by simp; omega
          have hbad : dig x = false := by unfold dig; rw [hxn]; simp; omega
          have e := hid (HB.out hbad)
          clear hxn hbad
          go_wp2_with (first | ((with_reducible refine gate_ind rfl ?_); refine ia_sidx (l := s) (k := k) rfl rfl rfl rfl Tryd.underlying9 hkl ?_; rw [HX.out, HXN.out]) | ((with_reducible refine gate_lst ?_); (first | ((with_reducible refine' wpl_ung ?_ ?_ ?_); rotate_left 1; (focus exact rfl); (focus exact rfl)))))
          go_ret2
          exact ⟨by rw [show numR s = 0 by unfold numR; rw [e.out]; rfl, e.out]; rfl, st.keep⟩
        · have hc2 : decide ((57 : Int) < (xn : Int)) = false := by simp; omega
          have hgd : dig x = true := by unfold dig; rw [hxn]; simp; omega
          have HALL2 : Hid (∀ j, j < k + 1 → dig (s.getD j 0) = true) := hid (fun j hj => by
            by_cases e : j = k
            · rw [e, HX.out]; exact hgd
            · exact HALL.out j (by omega))
          obtain ⟨V, hV⟩ : ∃ V, numv 0 (s.take k) = V := ⟨_, rfl⟩
          rw [hV] at hv HT ⊢
          clear hxn hgd hV
          go_wp2_with (first | ((with_reducible refine gate_ind rfl ?_); refine ia_sidx (l := s) (k := k) rfl rfl rfl rfl Tryd.underlying9 hkl ?_; rw [HX.out, HXN.out]) | ((with_reducible refine gate_dst (N := 44) rfl ?_); ((with_reducible refine gate_bin rfl ?_); refine wpl_bin rfl _ _ _ _ _ rfl _ _ _ _ rfl rfl (.int .u8 ((xn - 48 : Nat) : Int)) (fun w' => run_subu8 (b := 48) (by omega) hx256 w') ?_)) | ((with_reducible refine gate_dst (N := 46) rfl ?_); ((with_reducible refine gate_bin rfl ?_); refine wpl_bin rfl _ _ _ _ _ rfl _ _ _ _ rfl rfl (.int .i64 ((10 * V + (xn - 48) : Nat) : Int)) (fun w' => by have e := IntWalk.i64_in ((10 : Int) * (V : Int) + ((xn - 48 : Nat) : Int)) (by omega); go_simp; (try (congr 1; omega))) ?_)) | ((with_reducible refine gate_lst ?_); (first | ((with_reducible refine' wpl_ung ?_ ?_ ?_); rotate_left 1; (focus exact rfl); (focus exact rfl)))))
          go_roundw
          case rel => exact ⟨k + 1, by omega, by go_num, by rw [HT.out]; congr 1, HALL2.out, st⟩
          case measure => simp [intOf]; omega
      · obtain rfl : k = n := by omega
        have hd3 : decide ((k : Int) < (k : Int)) = false := by simp
        have HF := hid (numok_good HNE.out HL10.out HGD.out (fun j hj => HALL.out j (by rw [← HN.out]; exact hj)))
        have HTK : Hid (s.take k = s) := hid (by rw [← HN.out, List.take_length])
        go_wp2_with (first | ((with_reducible refine gate_lst ?_); (first | ((with_reducible refine' wpl_ung ?_ ?_ ?_); rotate_left 1; (focus exact rfl); (focus exact rfl)))))
        go_ret2
        exact ⟨by rw [show numR s = numv 0 s by unfold numR; rw [HF.out]; rfl, HF.out, HTK.out]; rfl, st.keep⟩
/-! A number in a range, as the program reads one. -/
def rdn (lo hi : Nat) (s : List UInt8) : Option Nat := match und s with
  | some n => if lo ≤ n ∧ n ≤ hi then some n else none
  | none => none
theorem rdn_some {lo hi n : Nat} {s : List UInt8} (h : rdn lo hi s = some n) : n < 100 ∧ s = dec n ∧ lo ≤ n ∧ n ≤ hi := by
  unfold rdn at h
  cases hu : und s with
  | none => rw [hu] at h; cases h
  | some m =>
    rw [hu] at h
    obtain ⟨h1, h2⟩ := und_some hu
    simp only at h
    split at h
    · rename_i hr
      cases h
      exact ⟨h1, h2, hr⟩
    · cases h
def okN : Lib.NumEnd Int → Int → Bool
  | .ok v, n => decide (v = n)
  | _, _ => false
theorem parse_dec {n : Nat} (h : n < 100) : Lib.parseIntB 64 (dec n) = .ok (n : Int) := by
  have : ∀ n ∈ List.range 100, okN (Lib.parseIntB 64 (dec n)) (n : Int) = true := by decide +kernel
  have h1 := this n (List.mem_range.2 h)
  rcases hp : Lib.parseIntB 64 (dec n) with v | _ | _
  · rw [hp] at h1; rw [of_decide_eq_true (show decide (v = (n : Int)) = true from h1)]
  · rw [hp] at h1; cases h1
  · rw [hp] at h1; cases h1
/-- The cells of the library that are read. -/
structure Glob (w : World) : Prop where
  max : ∃ m, w.cell? ⟨shR.g 1, 0, none⟩ = some (.int .i64 m)
  syn : ∃ te pe, w.cell? ⟨shR.g 15, 0, none⟩ = some (.iface te pe)
  ran : ∃ te pe, w.cell? ⟨shR.g 16, 0, none⟩ = some (.iface te pe)
theorem cell_keep {w w' : World} (hk : Keep [] w w') {b : Nat} {v : Value} (h : w.cell? ⟨b, 0, none⟩ = some v) : w'.cell? ⟨b, 0, none⟩ = some v := by
  have hlt : b < w.heap.size := by
    unfold World.cell? at h
    cases hh : w.heap[b]? with
    | none => simp [hh] at h
    | some o => exact (Array.getElem?_eq_some_iff.1 hh).1
  unfold World.cell? at h ⊢
  rw [hk.block b hlt (by simp)]
  exact h
theorem Glob.keep {w w' : World} (h : Glob w) (hk : Keep [] w w') : Glob w' :=
  ⟨h.max.imp fun _ h => cell_keep hk h, h.syn.imp fun _ h => h.imp fun _ h => cell_keep hk h, h.ran.imp fun _ h => h.imp fun _ h => cell_keep hk h⟩
theorem Keep.bytes (w : World) (e : TypeId) (t : ByteArray) : Keep [] w (Lib.bytesWorld w e t) := Keep.of_below (Lib.bytesWorld_below w e t)
/-- What strconv.ParseInt answers: a number and no error, or an error. -/
theorem ParseInt_c (s : List UInt8) (n : Nat) (hn : s.length = n) (hn1 : n ≤ 1000000) (w : World) (hg : Glob w) :
    Calls Tryd.prog 40 #[.string ⟨s.toArray⟩, .int .i64 10, .int .i64 64] w fun e w' => (∃ v, Lib.parseIntB 64 s = .ok v ∧ e = .returned (.tuple #[.int .i64 v, .nilIface]) ∧ Keep [] w w') ∨ ((∀ v, Lib.parseIntB 64 s ≠ .ok v) ∧ ∃ v N, e = .returned (.tuple #[.int .i64 v, .iface (shR.t 168) (.pointer (some ⟨N, 0, none⟩))]) ∧ Keep [] w w') := by
  have hsz : (⟨s.toArray⟩ : ByteArray).size = n := by rw [← hn]; rfl
  have hdl : (⟨s.toArray⟩ : ByteArray).data.toList = s := by simp
  rcases hp : Lib.parseIntB 64 s with v | _ | _
  · skip
    refine (Any.strconv_ParseInt_10_at64_ok sh174 ⟨s.toArray⟩ (by omega) v (by rw [hdl, hp]) w).mono fun e w' ⟨h1, h2⟩ => ?_
    refine Or.inl ⟨v, rfl, h1, ?_⟩
    rcases h2 with rfl | ⟨t, rfl⟩
    · exact Keep.refl [] _
    · exact Keep.bytes _ _ _
  · skip
    obtain ⟨te, pe, hv⟩ := hg.syn
    refine (Any.strconv_ParseInt_10_at64_syntax sh174 ⟨s.toArray⟩ (by omega) (by rw [hdl, hp]) _ w hv (Or.inr ⟨te, pe, rfl⟩)).mono fun e w' ⟨N, h1, _, _, h2⟩ => ?_
    exact Or.inr ⟨(fun v h => (by cases h)), _, N, h1, Keep.of_below h2⟩
  · skip
    obtain ⟨te, pe, hv⟩ := hg.ran
    refine (Any.strconv_ParseInt_10_at64_range sh174 ⟨s.toArray⟩ (by omega) (by rw [hdl, hp]) _ w hv (Or.inr ⟨te, pe, rfl⟩)).mono fun e w' ⟨N, h1, _, _, h2⟩ => ?_
    exact Or.inr ⟨(fun v h => (by cases h)), _, N, h1, Keep.of_below h2⟩
def RdPost (lo hi : Nat) (s : List UInt8) (w : World) (e : Ending) (w' : World) : Prop := ∃ v : Int, e = .returned (.tuple #[.int .i64 v, .bool (rdn lo hi s).isSome]) ∧ (∀ n, rdn lo hi s = some n → v = (n : Int)) ∧ Keep [] w w'
theorem rdn_no {lo hi : Nat} {s : List UInt8} (h : ∀ v, Lib.parseIntB 64 s ≠ .ok v) : rdn lo hi s = none := by
  cases hr : rdn lo hi s with
  | none => rfl
  | some n =>
    obtain ⟨h1, h2, _⟩ := rdn_some hr
    rw [h2] at h
    exact absurd (parse_dec h1) (h _)
theorem rdn_ok {lo hi : Nat} {s : List UInt8} {v : Int} (h : Lib.parseIntB 64 s = .ok v) : (∀ n, rdn lo hi s = some n → v = (n : Int) ∧ s = dec n ∧ lo ≤ n ∧ n ≤ hi) := fun n hr => by
  obtain ⟨h1, h2, h3⟩ := rdn_some hr
  rw [h2, parse_dec h1] at h
  cases h
  exact ⟨rfl, h2, h3⟩
set_option maxHeartbeats 1000000 in
set_option maxRecDepth 100000 in
theorem readDecimal_c (s : List UInt8) (n : Nat) (hn : s.length = n) (hn1 : n ≤ 1000000) (lo hi : Nat) (hhi : hi < 100) (w : World) (hg : Glob w) :
    Calls Tryd.prog 27 #[.string ⟨s.toArray⟩, .int .i64 (lo : Nat), .int .i64 (hi : Nat)] w (RdPost lo hi s w) := by
  have st := St.start w
  have HPI := hid (ParseInt_c s n hn hn1 w hg)
  have HR := hid (fun (v : Int) => inRange_c v (lo : Int) (hi : Int))
  by_cases hno : ∀ v, Lib.parseIntB 64 s ≠ .ok v
  · have e := rdn_no (lo := lo) (hi := hi) hno
    unfold RdPost
    rw [e]
    have HNO := hid hno
    clear hno hn e
    go_enter Tryd.func27, Tryd.ntmps27
    go_wp2_with (first | (go_at_call 40; refine (HPI.out).mono ?_; rintro _ _ (⟨v, hv, rfl, hk⟩ | ⟨hno2, v, N, rfl, hk⟩); (exact absurd hv (HNO.out v)); replace st := st.call hk; clear hk hno2) | ((with_reducible refine gate_lst ?_); (first | ((with_reducible refine' wpl_ung ?_ ?_ ?_); rotate_left 1; (focus exact rfl); (focus exact rfl)))))
    go_ret2
    exact ⟨v, rfl, (fun n h => (by cases h)), st.keep⟩
  · obtain ⟨v, hv⟩ : ∃ v, Lib.parseIntB 64 s = .ok v := by
      by_cases h : ∃ v, Lib.parseIntB 64 s = .ok v
      · exact h
      · exact absurd (fun v e => h ⟨v, e⟩) hno
    have HOK := hid (rdn_ok (lo := lo) (hi := hi) hv)
    have HV := hid hv
    rcases Bool.eq_false_or_eq_true (inB v (lo : Int) (hi : Int)) with q | q
    · have hq := q
      unfold inB at hq
      have hrange : (lo : Int) ≤ v ∧ v ≤ (hi : Int) := by simpa using hq
      obtain ⟨m, rfl⟩ := Int.eq_ofNat_of_zero_le (show 0 ≤ v by omega)
      have HDC := hid (decimal_c m (by omega))
      have hr := HR.out (m : Int)
      rw [q] at hr
      have HRR := hid hr
      by_cases heq : dec m = s
      · have hu : rdn lo hi s = some m := by
          unfold rdn
          rw [← heq, und_dec (by omega)]
          exact if_pos ⟨by omega, by omega⟩
        have HE : Hid (decide (dec m = s) = true) := hid (by simpa using heq)
        unfold RdPost
        rw [hu]
        clear hno hn hv hq hrange q hr heq hu HR HOK
        go_enter Tryd.func27, Tryd.ntmps27
        go_wp2_with (first | (go_at_call 40; refine (HPI.out).mono ?_; rintro _ _ (⟨v, hv, rfl, hk⟩ | ⟨hno2, v, N, rfl, hk⟩); rotate_left 1; (exact absurd HV.out (hno2 _)); obtain rfl : (m : Int) = v := (by rw [HV.out] at hv; cases hv; rfl); replace st := st.call hk; clear hk hv) | (go_at_call 33; refine (HRR.out _).mono ?_; rintro _ _ ⟨rfl, hk⟩; replace st := st.call hk; clear hk) | (go_at_call 21; refine (HDC.out _).mono ?_; rintro _ _ ⟨rfl, hk⟩; replace st := st.call hk; clear hk) | ((with_reducible refine gate_sq rfl ?_); (with_reducible refine gate_dst (N := 28) rfl ?_); refine la_seq (l := dec m) (m := s) HE.out rfl rfl rfl rfl ?_) | ((with_reducible refine gate_lst ?_); (first | ((with_reducible refine' wpl_ung ?_ ?_ ?_); rotate_left 1; (focus exact rfl); (focus exact rfl)))))
        go_ret2
        exact ⟨(m : Int), rfl, (fun n h => (by cases h; rfl)), st.keep⟩
      · have hu : rdn lo hi s = none := by
          cases hr : rdn lo hi s with
          | none => rfl
          | some n =>
            obtain ⟨h1, h2, _⟩ := HOK.out n hr
            exact absurd (by rw [h2, Int.ofNat_inj.1 h1]) heq
        have HE : Hid (decide (dec m = s) = false) := hid (by simpa using heq)
        unfold RdPost
        rw [hu]
        clear hno hn hv hq hrange q hr heq hu HR HOK
        go_enter Tryd.func27, Tryd.ntmps27
        go_wp2_with (first | (go_at_call 40; refine (HPI.out).mono ?_; rintro _ _ (⟨v, hv, rfl, hk⟩ | ⟨hno2, v, N, rfl, hk⟩); rotate_left 1; (exact absurd HV.out (hno2 _)); obtain rfl : (m : Int) = v := (by rw [HV.out] at hv; cases hv; rfl); replace st := st.call hk; clear hk hv) | (go_at_call 33; refine (HRR.out _).mono ?_; rintro _ _ ⟨rfl, hk⟩; replace st := st.call hk; clear hk) | (go_at_call 21; refine (HDC.out _).mono ?_; rintro _ _ ⟨rfl, hk⟩; replace st := st.call hk; clear hk) | ((with_reducible refine gate_sq rfl ?_); (with_reducible refine gate_dst (N := 28) rfl ?_); refine la_seq (l := dec m) (m := s) HE.out rfl rfl rfl rfl ?_) | ((with_reducible refine gate_lst ?_); (first | ((with_reducible refine' wpl_ung ?_ ?_ ?_); rotate_left 1; (focus exact rfl); (focus exact rfl)))))
        go_ret2
        exact ⟨(m : Int), rfl, (fun n h => (by cases h)), st.keep⟩
    · have hu : rdn lo hi s = none := by
        cases hr : rdn lo hi s with
        | none => rfl
        | some n =>
          obtain ⟨h1, _, h2, h3⟩ := HOK.out n hr
          subst h1
          unfold inB at q
          have : ¬ ((lo : Int) ≤ (n : Int) ∧ (n : Int) ≤ (hi : Int)) := by simpa using q
          exact absurd ⟨by omega, by omega⟩ this
      have hr := HR.out v
      rw [q] at hr
      have HRR := hid hr
      unfold RdPost
      rw [hu]
      clear hno hn hv q hr hu HR HOK
      go_enter Tryd.func27, Tryd.ntmps27
      go_wp2_with (first | (go_at_call 40; refine (HPI.out).mono ?_; rintro _ _ (⟨v2, hv, rfl, hk⟩ | ⟨hno2, v2, N, rfl, hk⟩); rotate_left 1; (exact absurd HV.out (hno2 _)); obtain rfl : v = v2 := (by rw [HV.out] at hv; cases hv; rfl); replace st := st.call hk; clear hk hv) | (go_at_call 33; refine (HRR.out _).mono ?_; rintro _ _ ⟨rfl, hk⟩; replace st := st.call hk; clear hk) | ((with_reducible refine gate_lst ?_); (first | ((with_reducible refine' wpl_ung ?_ ?_ ?_); rotate_left 1; (focus exact rfl); (focus exact rfl)))))
      go_ret2
      exact ⟨v, rfl, (fun n h => (by cases h)), st.keep⟩
end Go.Proofs.YtlljflmbnbjccaaDoor
