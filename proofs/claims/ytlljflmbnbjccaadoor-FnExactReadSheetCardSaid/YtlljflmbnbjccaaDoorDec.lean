/- The decimal texts of small numbers: the reference's, the program's; no condition. -/
import Derived.Test.YtlljflmbnbjccaaDoorSx
import Derived.Test.YtlljflmbnbjccaaDoorText
import Derived.Lib.SlBytesRow
import Derived.Shelf.Strconv.Itoa4
import Derived.Test.YtlljflmbnbjccaaDoorSh
namespace Go.Proofs.YtlljflmbnbjccaaDoor
open Go.RowKit
set_option linter.unusedSimpArgs false
set_option linter.unusedVariables false
/-- The decimal text of a number below a hundred. -/
def dec (n : Nat) : List UInt8 := if n < 10 then [UInt8.ofNat (48 + n)] else [UInt8.ofNat (48 + n / 10), UInt8.ofNat (48 + n % 10)]
theorem dec_len (n : Nat) : (dec n).length ≤ 2 := by unfold dec; split <;> simp
def by1 (n : Int) : List Value := [.int .u8 n]
instance : IntC Tryd.prog 5 .u8 := ⟨Tryd.underlying5⟩
instance : SlcC Tryd.prog 58 5 1 1 [.int .u8 0] := ⟨slcT_of Tryd.underlying58 (.int .u8 0) (by kernel_rfl) rfl (by decide) rfl⟩
/-- One byte made a string. -/
theorem convert1 {w : World} {b : Nat} {c : UInt8} {T : TypeId} (h : Blk w b [.int .u8 (c.toNat : Nat)] T) : (convert 58 9 (.slice (some ⟨b, 0, none⟩) 1 1)).run Tryd.prog w = .ok (.string ⟨[c].toArray⟩) w := by
  have hc : Lib.Bytes w b 0 ⟨[c].toArray⟩ := fun i hi => by
    have h0 : i = 0 := by have : i < 1 := hi; omega
    subst h0
    exact h.cellv rfl
  exact Lib.run_convert_whole w 58 5 9 Tryd.underlying58 Tryd.underlying5 Tryd.underlying9 b 0 ⟨[c].toArray⟩ hc 1
theorem u8_in {n : Int} (h1 : 0 ≤ n) (h2 : n < 256) : IntKind.wrap .u8 n = n := by
  show n % 256 = n
  omega
theorem run_rem64 {P : Program} {T : TypeId} {n d r : Int} (hd : d ≠ 0) (h : n.tmod d = r) (h1 : -9223372036854775808 ≤ r) (h2 : r ≤ 9223372036854775807) (w : World) : (binOp .rem T (.int .i64 n) (.int .i64 d)).run P w = .ok (.int .i64 r) w := by
  subst h
  have e := IntWalk.i64_in _ ⟨h1, h2⟩
  go_simp
theorem run_quo64 {P : Program} {T : TypeId} {n d r : Int} (hd : d ≠ 0) (h : n.tdiv d = r) (h1 : -9223372036854775808 ≤ r) (h2 : r ≤ 9223372036854775807) (w : World) : (binOp .quo T (.int .i64 n) (.int .i64 d)).run P w = .ok (.int .i64 r) w := by
  subst h
  have e := IntWalk.i64_in _ ⟨h1, h2⟩
  go_simp
section
variable {ops : Array Oper} {rest : List Oper} {o : Oper} {a : Act} {w w0 : World} {Q : Exit → Act → World → Prop} {M : List Nat} {L : List (Nat × List Value × TypeId)}
theorem gate_cnv {S D : TypeId} {x : Operand} {P : Program} (_ho : o.op = .convert S D x) (h : wpList P ops Q (o :: rest) a w) : wpList P ops Q (o :: rest) a w := h
theorem ia_cnv1 {x : Operand} {b : Nat} {c : UInt8} {T : TypeId} (hb : Blk w b [.int .u8 (c.toNat : Nat)] T) (hgd : o.guard = none) (ho : o.op = .convert 58 9 x) (hx : a.eval x = .slice (some ⟨b, 0, none⟩) 1 1)
    (h : wpList Tryd.prog ops Q rest (a.put o.dst (.string ⟨[c].toArray⟩)) w) : wpList Tryd.prog ops Q (o :: rest) a w :=
  wpl_val hgd _ (by
    have hr := convert1 hb
    unfold execOp
    simp only [ho, hx, Sem.run_bind, Sem.run_pure, Result.andThen_ok, hr]) h
end
set_option maxRecDepth 100000 in
theorem Decimal1_c (n : Nat) (hn : n < 10) (w : World) : Calls Tryd.prog 30 #[.int .i64 n] w fun e w' => e = .returned (.string ⟨(dec n).toArray⟩) ∧ Keep [] w w' := by
  have st := St.start w
  have hd : decide ((n : Int) < 10) = true := by simp; omega
  have e0 : dec n = [UInt8.ofNat (48 + n)] := by unfold dec; rw [if_pos hn]
  have e1 : (UInt8.ofNat (48 + n)).toNat = 48 + n := by rw [UInt8.toNat_ofNat']; omega
  have e2 : (n : Int) % 10 = n := by omega
  obtain ⟨c, hc⟩ : ∃ c, UInt8.ofNat (48 + n) = c := ⟨_, rfl⟩
  rw [e0, hc]
  rw [hc] at e1
  have HC : Hid ((48 : Int) + (n : Int) = ((c.toNat : Nat) : Int)) := hid (by omega)
  clear e0 hc
  go_enter Tryd.func30, Tryd.ntmps30
  go_wp2_with (first | ((with_reducible refine gate_bsl rfl ?_); refine ia_bsl1 (sl := 9) st rfl rfl rfl rfl rfl ?_ (by decide) ?_; (focus (first | rfl | (simp; done) | (simp; assumption) | (simp; omega) | (simp [*]; done))); clear st; intro B9 _ st) | ((with_reducible refine gate_cnv rfl ?_); (with_reducible refine gate_dst (N := 10) rfl ?_); refine ia_cnv1 (c := c) (by have h : Blk _ _ [.int .u8 ((48 : Int) + (n : Int))] _ := st.get (b := B9) .here; rw [HC.out] at h; exact h) rfl rfl rfl ?_))
  go_ret
  exact ⟨rfl, st.keep⟩
set_option maxRecDepth 100000 in
set_option maxHeartbeats 1000000 in
theorem Decimal2_c (q r : Nat) (hq : q < 10) (h1 : 1 ≤ q) (hr : r < 10) (w : World) : Calls Tryd.prog 30 #[.int .i64 (q * 10 + r : Nat)] w fun e w' => e = .returned (.string ⟨[UInt8.ofNat (48 + q), UInt8.ofNat (48 + r)].toArray⟩) ∧ Keep [] w w' := by
  have st := St.start w
  obtain ⟨n, hn⟩ : ∃ n, q * 10 + r = n := ⟨_, rfl⟩
  rw [hn]
  have hd : decide ((n : Int) < 10) = false := by simp; omega
  have e1 : (UInt8.ofNat (48 + q)).toNat = 48 + q := by rw [UInt8.toNat_ofNat']; omega
  have e2 : (UInt8.ofNat (48 + r)).toNat = 48 + r := by rw [UInt8.toNat_ofNat']; omega
  have hD := Decimal1_c q hq
  have e0 : dec q = [UInt8.ofNat (48 + q)] := by unfold dec; rw [if_pos hq]
  rw [e0] at hD
  obtain ⟨c, hc⟩ : ∃ c, UInt8.ofNat (48 + q) = c := ⟨_, rfl⟩
  obtain ⟨d, hd2⟩ : ∃ d, UInt8.ofNat (48 + r) = d := ⟨_, rfl⟩
  rw [hc] at hD ⊢
  have HD := hid hD
  rw [hd2] at e2 ⊢
  have HC : Hid ((48 : Int) + (r : Int) = ((d.toNat : Nat) : Int)) := hid (by omega)
  have HQ : Hid ((n : Int).tdiv 10 = (q : Int)) := hid (by rw [Int.tdiv_eq_ediv_of_nonneg (by omega)]; omega)
  have HR : Hid ((n : Int).tmod 10 = (r : Int)) := hid (by rw [Int.tmod_eq_emod_of_nonneg (by omega)]; omega)
  clear e0 hc hd2 e1 e2 hn hD
  go_enter Tryd.func30, Tryd.ntmps30
  go_wp2_with fail
  refine wp_region_any (by kernel_rfl) ?_
  replace st := st.call (Keep.drew _)
  refine wpAny_of_held (S := fun w' => St [] w w' []) _ _ _ _ ?_
  change wpAnyH _ _ _ _ _ 11 (Array.replicate 11 false) _ _
  refine takeH (i := 0) rfl (by kernel_rfl) (by kernel_rfl) (by kernel_rfl) (fun _ _ _ h => h) rfl (fun w hw => rfl) st.nil ?_
  (simp only [Act.put, Act.eval, Array.getD_eq_getD_getElem?, List.getElem?_toArray, List.getElem?_cons_succ, List.getElem?_cons_zero, Option.getD_some, List.setIfInBounds_toArray, List.set_cons_succ, List.set_cons_zero, List.getElem_toArray, List.getElem_cons_succ, List.getElem_cons_zero])
  refine takeH (i := 1) rfl (by kernel_rfl) (by kernel_rfl) (by kernel_rfl) (fun _ _ _ h => h) rfl (fun w hw => (bin_run rfl _ _ _ _ rfl rfl (.int .i64 (q : Int)) (run_quo64 (by decide) HQ.out (by omega) (by omega) _))) st.nil ?_
  (simp only [Act.put, Act.eval, Array.getD_eq_getD_getElem?, List.getElem?_toArray, List.getElem?_cons_succ, List.getElem?_cons_zero, Option.getD_some, List.setIfInBounds_toArray, List.set_cons_succ, List.set_cons_zero, List.getElem_toArray, List.getElem_cons_succ, List.getElem_cons_zero])
  refine takeH (i := 3) rfl (by kernel_rfl) (by kernel_rfl) (by kernel_rfl) (fun _ _ _ h => h) rfl (fun w hw => rfl) st.nil ?_
  (simp only [Act.put, Act.eval, Array.getD_eq_getD_getElem?, List.getElem?_toArray, List.getElem?_cons_succ, List.getElem?_cons_zero, Option.getD_some, List.setIfInBounds_toArray, List.set_cons_succ, List.set_cons_zero, List.getElem_toArray, List.getElem_cons_succ, List.getElem_cons_zero])
  refine takeH (i := 4) rfl (by kernel_rfl) (by kernel_rfl) (by kernel_rfl) (fun _ _ _ h => h) rfl (fun w hw => (bin_run rfl _ _ _ _ rfl rfl (.int .i64 (r : Int)) (run_rem64 (by decide) HR.out (by omega) (by omega) _))) st.nil ?_
  (simp only [Act.put, Act.eval, Array.getD_eq_getD_getElem?, List.getElem?_toArray, List.getElem?_cons_succ, List.getElem?_cons_zero, Option.getD_some, List.setIfInBounds_toArray, List.set_cons_succ, List.set_cons_zero, List.getElem_toArray, List.getElem_cons_succ, List.getElem_cons_zero])
  refine takeH (i := 5) rfl (by kernel_rfl) (by kernel_rfl) (by kernel_rfl) (fun _ _ _ h => h) rfl (fun w hw => (bin_run rfl _ _ _ _ rfl rfl (.int .i64 (48 + (r : Int))) (run_add64 (by omega) (by omega) _))) st.nil ?_
  (simp only [Act.put, Act.eval, Array.getD_eq_getD_getElem?, List.getElem?_toArray, List.getElem?_cons_succ, List.getElem?_cons_zero, Option.getD_some, List.setIfInBounds_toArray, List.set_cons_succ, List.set_cons_zero, List.getElem_toArray, List.getElem_cons_succ, List.getElem_cons_zero])
  refine takeH (i := 6) rfl (by kernel_rfl) (by kernel_rfl) (by kernel_rfl) (fun _ _ _ h => h) rfl (fun w hw => (conv_run rfl .i64 .u8 (48 + (r : Int)) (48 + (r : Int)) rfl (by kernel_rfl) Tryd.underlying5 (u8_in (by omega) (by omega)))) st.nil ?_
  (simp only [Act.put, Act.eval, Array.getD_eq_getD_getElem?, List.getElem?_toArray, List.getElem?_cons_succ, List.getElem?_cons_zero, Option.getD_some, List.setIfInBounds_toArray, List.set_cons_succ, List.set_cons_zero, List.getElem_toArray, List.getElem_cons_succ, List.getElem_cons_zero])
  refine anyH_ready (rs := [2, 7]) (by kernel_rfl) (by simp) ?_
  refine AllH.one rfl rfl ?_ ?_
  · ((with_reducible refine gate_call rfl ?_); (with_reducible refine gate_dst (N := 13) rfl ?_); refine wpl_call rfl _ rfl _ rfl 30 _ _ rfl _ Tryd.func30 (by kernel_rfl) (by kernel_rfl) #[.int .i64 q] (by simp [Act.eval, Act.put]) ?_; refine (HD.out _).mono ?_; rintro _ _ ⟨rfl, hk⟩; refine ⟨(.string ⟨[c].toArray⟩), rfl, ?_⟩; replace st := st.call hk; clear hk)
    (simp only [Act.put, Act.eval, Array.getD_eq_getD_getElem?, List.getElem?_toArray, List.getElem?_cons_succ, List.getElem?_cons_zero, Option.getD_some, List.setIfInBounds_toArray, List.set_cons_succ, List.set_cons_zero, List.getElem_toArray, List.getElem_cons_succ, List.getElem_cons_zero])
    refine wpList_aftH st.nil ?_
    refine anyH_ready (rs := [7]) (by kernel_rfl) (by simp) ?_
    refine AllH.one rfl rfl ?_ ?_
    · ((with_reducible refine gate_bsl rfl ?_); refine ia_bsl1 (sl := 18) st rfl rfl rfl rfl rfl ?_ (by decide) ?_; (focus (first | rfl | (simp; done) | (simp; assumption) | (simp; omega) | (simp [*]; done))); clear st; intro B18 _ st)
      (simp only [Act.put, Act.eval, Array.getD_eq_getD_getElem?, List.getElem?_toArray, List.getElem?_cons_succ, List.getElem?_cons_zero, Option.getD_some, List.setIfInBounds_toArray, List.set_cons_succ, List.set_cons_zero, List.getElem_toArray, List.getElem_cons_succ, List.getElem_cons_zero])
      refine wpList_aftH st.nil ?_
      refine anyH_ready (rs := [8]) (by kernel_rfl) (by simp) ?_
      refine AllH.one rfl rfl ?_ ?_
      · ((with_reducible refine gate_cnv rfl ?_); refine ia_cnv1 (c := d) (by have h : Blk _ _ [.int .u8 ((48 : Int) + (r : Int))] _ := st.get (b := B18) .here; rw [HC.out] at h; exact h) rfl rfl rfl ?_)
        (simp only [Act.put, Act.eval, Array.getD_eq_getD_getElem?, List.getElem?_toArray, List.getElem?_cons_succ, List.getElem?_cons_zero, Option.getD_some, List.setIfInBounds_toArray, List.set_cons_succ, List.set_cons_zero, List.getElem_toArray, List.getElem_cons_succ, List.getElem_cons_zero])
        refine wpList_aftH st.nil ?_
        refine anyH_ready (rs := [9]) (by kernel_rfl) (by simp) ?_
        refine AllH.one rfl rfl ?_ ?_
        · ((with_reducible refine gate_add rfl ?_); refine la_sadd (l := [c]) (m := [d]) rfl rfl rfl rfl (by simp) ?_)
          (simp only [Act.put, Act.eval, Array.getD_eq_getD_getElem?, List.getElem?_toArray, List.getElem?_cons_succ, List.getElem?_cons_zero, Option.getD_some, List.setIfInBounds_toArray, List.set_cons_succ, List.set_cons_zero, List.getElem_toArray, List.getElem_cons_succ, List.getElem_cons_zero])
          refine wpList_aftH st.nil ?_
          refine anyH_ready (rs := [10]) (by kernel_rfl) (by simp) ?_
          refine AllH.one rfl rfl ?_ ?_
          · ((first | (with_reducible refine gate_move rfl ?_) | (with_reducible refine gate_assign rfl ?_) | (with_reducible refine gate_extract rfl ?_)); refine wpl_val rfl _ rfl ?_)
            (simp only [Act.put, Act.eval, Array.getD_eq_getD_getElem?, List.getElem?_toArray, List.getElem?_cons_succ, List.getElem?_cons_zero, Option.getD_some, List.setIfInBounds_toArray, List.set_cons_succ, List.set_cons_zero, List.getElem_toArray, List.getElem_cons_succ, List.getElem_cons_zero])
            refine wpList_aftH st.nil ?_
            refine wpAnyH_done (by kernel_rfl) ?_ _
            (go_wp2_with fail; go_ret; exact ⟨rfl, st.keep⟩)
          exact AllH.nil
        exact AllH.nil
      exact AllH.nil
    exact AllH.nil
  refine AllH.one rfl rfl ?_ ?_
  · ((with_reducible refine gate_bsl rfl ?_); refine ia_bsl1 (sl := 18) st rfl rfl rfl rfl rfl ?_ (by decide) ?_; (focus (first | rfl | (simp; done) | (simp; assumption) | (simp; omega) | (simp [*]; done))); clear st; intro B18 _ st)
    (simp only [Act.put, Act.eval, Array.getD_eq_getD_getElem?, List.getElem?_toArray, List.getElem?_cons_succ, List.getElem?_cons_zero, Option.getD_some, List.setIfInBounds_toArray, List.set_cons_succ, List.set_cons_zero, List.getElem_toArray, List.getElem_cons_succ, List.getElem_cons_zero])
    refine wpList_aftH st.nil ?_
    refine anyH_ready (rs := [2, 8]) (by kernel_rfl) (by simp) ?_
    refine AllH.one rfl rfl ?_ ?_
    · ((with_reducible refine gate_call rfl ?_); (with_reducible refine gate_dst (N := 13) rfl ?_); refine wpl_call rfl _ rfl _ rfl 30 _ _ rfl _ Tryd.func30 (by kernel_rfl) (by kernel_rfl) #[.int .i64 q] (by simp [Act.eval, Act.put]) ?_; refine (HD.out _).mono ?_; rintro _ _ ⟨rfl, hk⟩; refine ⟨(.string ⟨[c].toArray⟩), rfl, ?_⟩; replace st := st.call hk; clear hk)
      (simp only [Act.put, Act.eval, Array.getD_eq_getD_getElem?, List.getElem?_toArray, List.getElem?_cons_succ, List.getElem?_cons_zero, Option.getD_some, List.setIfInBounds_toArray, List.set_cons_succ, List.set_cons_zero, List.getElem_toArray, List.getElem_cons_succ, List.getElem_cons_zero])
      refine wpList_aftH st.nil ?_
      refine anyH_ready (rs := [8]) (by kernel_rfl) (by simp) ?_
      refine AllH.one rfl rfl ?_ ?_
      · ((with_reducible refine gate_cnv rfl ?_); refine ia_cnv1 (c := d) (by have h : Blk _ _ [.int .u8 ((48 : Int) + (r : Int))] _ := st.get (b := B18) .here; rw [HC.out] at h; exact h) rfl rfl rfl ?_)
        (simp only [Act.put, Act.eval, Array.getD_eq_getD_getElem?, List.getElem?_toArray, List.getElem?_cons_succ, List.getElem?_cons_zero, Option.getD_some, List.setIfInBounds_toArray, List.set_cons_succ, List.set_cons_zero, List.getElem_toArray, List.getElem_cons_succ, List.getElem_cons_zero])
        refine wpList_aftH st.nil ?_
        refine anyH_ready (rs := [9]) (by kernel_rfl) (by simp) ?_
        refine AllH.one rfl rfl ?_ ?_
        · ((with_reducible refine gate_add rfl ?_); refine la_sadd (l := [c]) (m := [d]) rfl rfl rfl rfl (by simp) ?_)
          (simp only [Act.put, Act.eval, Array.getD_eq_getD_getElem?, List.getElem?_toArray, List.getElem?_cons_succ, List.getElem?_cons_zero, Option.getD_some, List.setIfInBounds_toArray, List.set_cons_succ, List.set_cons_zero, List.getElem_toArray, List.getElem_cons_succ, List.getElem_cons_zero])
          refine wpList_aftH st.nil ?_
          refine anyH_ready (rs := [10]) (by kernel_rfl) (by simp) ?_
          refine AllH.one rfl rfl ?_ ?_
          · ((first | (with_reducible refine gate_move rfl ?_) | (with_reducible refine gate_assign rfl ?_) | (with_reducible refine gate_extract rfl ?_)); refine wpl_val rfl _ rfl ?_)
            (simp only [Act.put, Act.eval, Array.getD_eq_getD_getElem?, List.getElem?_toArray, List.getElem?_cons_succ, List.getElem?_cons_zero, Option.getD_some, List.setIfInBounds_toArray, List.set_cons_succ, List.set_cons_zero, List.getElem_toArray, List.getElem_cons_succ, List.getElem_cons_zero])
            refine wpList_aftH st.nil ?_
            refine wpAnyH_done (by kernel_rfl) ?_ _
            (go_wp2_with fail; go_ret; exact ⟨rfl, st.keep⟩)
          exact AllH.nil
        exact AllH.nil
      exact AllH.nil
    refine AllH.one rfl rfl ?_ ?_
    · ((with_reducible refine gate_cnv rfl ?_); refine ia_cnv1 (c := d) (by have h : Blk _ _ [.int .u8 ((48 : Int) + (r : Int))] _ := st.get (b := B18) .here; rw [HC.out] at h; exact h) rfl rfl rfl ?_)
      (simp only [Act.put, Act.eval, Array.getD_eq_getD_getElem?, List.getElem?_toArray, List.getElem?_cons_succ, List.getElem?_cons_zero, Option.getD_some, List.setIfInBounds_toArray, List.set_cons_succ, List.set_cons_zero, List.getElem_toArray, List.getElem_cons_succ, List.getElem_cons_zero])
      refine wpList_aftH st.nil ?_
      refine anyH_ready (rs := [2]) (by kernel_rfl) (by simp) ?_
      refine AllH.one rfl rfl ?_ ?_
      · ((with_reducible refine gate_call rfl ?_); (with_reducible refine gate_dst (N := 13) rfl ?_); refine wpl_call rfl _ rfl _ rfl 30 _ _ rfl _ Tryd.func30 (by kernel_rfl) (by kernel_rfl) #[.int .i64 q] (by simp [Act.eval, Act.put]) ?_; refine (HD.out _).mono ?_; rintro _ _ ⟨rfl, hk⟩; refine ⟨(.string ⟨[c].toArray⟩), rfl, ?_⟩; replace st := st.call hk; clear hk)
        (simp only [Act.put, Act.eval, Array.getD_eq_getD_getElem?, List.getElem?_toArray, List.getElem?_cons_succ, List.getElem?_cons_zero, Option.getD_some, List.setIfInBounds_toArray, List.set_cons_succ, List.set_cons_zero, List.getElem_toArray, List.getElem_cons_succ, List.getElem_cons_zero])
        refine wpList_aftH st.nil ?_
        refine anyH_ready (rs := [9]) (by kernel_rfl) (by simp) ?_
        refine AllH.one rfl rfl ?_ ?_
        · ((with_reducible refine gate_add rfl ?_); refine la_sadd (l := [c]) (m := [d]) rfl rfl rfl rfl (by simp) ?_)
          (simp only [Act.put, Act.eval, Array.getD_eq_getD_getElem?, List.getElem?_toArray, List.getElem?_cons_succ, List.getElem?_cons_zero, Option.getD_some, List.setIfInBounds_toArray, List.set_cons_succ, List.set_cons_zero, List.getElem_toArray, List.getElem_cons_succ, List.getElem_cons_zero])
          refine wpList_aftH st.nil ?_
          refine anyH_ready (rs := [10]) (by kernel_rfl) (by simp) ?_
          refine AllH.one rfl rfl ?_ ?_
          · ((first | (with_reducible refine gate_move rfl ?_) | (with_reducible refine gate_assign rfl ?_) | (with_reducible refine gate_extract rfl ?_)); refine wpl_val rfl _ rfl ?_)
            (simp only [Act.put, Act.eval, Array.getD_eq_getD_getElem?, List.getElem?_toArray, List.getElem?_cons_succ, List.getElem?_cons_zero, Option.getD_some, List.setIfInBounds_toArray, List.set_cons_succ, List.set_cons_zero, List.getElem_toArray, List.getElem_cons_succ, List.getElem_cons_zero])
            refine wpList_aftH st.nil ?_
            refine wpAnyH_done (by kernel_rfl) ?_ _
            (go_wp2_with fail; go_ret; exact ⟨rfl, st.keep⟩)
          exact AllH.nil
        exact AllH.nil
      exact AllH.nil
    exact AllH.nil
  exact AllH.nil
theorem Decimal_c (n : Nat) (hn : n < 100) (w : World) : Calls Tryd.prog 30 #[.int .i64 n] w fun e w' => e = .returned (.string ⟨(dec n).toArray⟩) ∧ Keep [] w w' := by
  by_cases h : n < 10
  · exact Decimal1_c n h w
  · have e : dec n = [UInt8.ofNat (48 + n / 10), UInt8.ofNat (48 + n % 10)] := by unfold dec; rw [if_neg h]
    have := Decimal2_c (n / 10) (n % 10) (by omega) (by omega) (by omega) w
    rw [show n / 10 * 10 + n % 10 = n by omega] at this
    rw [e]; exact this
theorem decDigits_dec {n : Nat} (hn : n < 100) : Lib.decDigits n = dec n := by
  unfold dec
  split
  · rename_i h; exact Lib.decDigits_one h
  · rename_i h; exact Lib.decDigits_two h hn
theorem FormatInt_c (n : Nat) (hn : n < 100) (w : World) : Calls Tryd.prog 34 #[.int .i64 n, .int .i64 10] w fun e w' => e = .returned (.string ⟨(dec n).toArray⟩) ∧ Keep [] w w' := by
  rw [← decDigits_dec hn]
  exact (Any.strconv_FormatInt_10_small sh173 n hn w).mono fun e w' ⟨h1, h2⟩ => ⟨h1, by rw [h2]; exact Keep.refl [] w⟩
theorem decimal_c (n : Nat) (hn : n < 100) (w : World) : Calls Tryd.prog 21 #[.int .i64 n] w fun e w' => e = .returned (.string ⟨(dec n).toArray⟩) ∧ Keep [] w w' := by
  have st := St.start w
  have HF := hid (FormatInt_c n hn)
  obtain ⟨D, hD⟩ : ∃ D, dec n = D := ⟨_, rfl⟩
  rw [hD] at HF ⊢
  clear hD
  go_enter Tryd.func21, Tryd.ntmps21
  go_wp2_with (first | (go_at_call 34; refine (HF.out _).mono ?_; rintro _ _ ⟨rfl, hk⟩; replace st := st.call hk; clear hk))
  go_ret
  exact ⟨rfl, st.keep⟩
end Go.Proofs.YtlljflmbnbjccaaDoor
