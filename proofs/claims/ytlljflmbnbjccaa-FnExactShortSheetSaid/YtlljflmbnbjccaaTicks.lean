/- The pages at all ticks of a sheet: the reference and the program; no condition. -/
import Derived.Test.YtlljflmbnbjccaaStr
import Derived.Test.YtlljflmbnbjccaaSh
import Derived.Laws.CopyRow
namespace Go.Proofs.Ytlljflmbnbjccaa
open Go.RowKit
set_option linter.unusedSimpArgs false
set_option linter.unusedVariables false
theorem mul_c (x y : Nat) (hx : x < 18446744073709551616) (hy : y < 18446744073709551616) (w : World) :
    Calls Try.prog 72 #[.int .u64 x, .int .u64 y] w fun e w' => e = .returned (.tuple #[.int .u64 ((x * y / 18446744073709551616 : Nat) : Int), .int .u64 ((x * y % 18446744073709551616 : Nat) : Int)]) ∧ w' = w := Any.bits_Mul sh212 x y hx hy w
theorem mulS_c (y : Nat) (hy : y ≤ 24) (w : World) :
    Calls Try.prog 72 #[.int .u64 (1 : Nat), .int .u64 y] w fun e w' => e = .returned (.tuple #[.int .u64 0, .int .u64 y]) ∧ Keep [] w w' := by
  refine (mul_c 1 y (by decide) (by omega) w).mono ?_
  rintro e w' ⟨rfl, rfl⟩
  rw [Nat.one_mul, Nat.div_eq_of_lt (by omega), Nat.mod_eq_of_lt (by omega)]
  exact ⟨rfl, Keep.refl _ _⟩
section
variable {P : Program} {ops : Array Oper} {rest : List Oper} {o : Oper} {a : Act} {w w0 : World} {Q : Exit → Act → World → Prop} {M : List Nat} {L : List (Nat × List Value × TypeId)}
theorem gate_copy {s x : Operand} {T T' : TypeId} (_ho : o.op = .call { callee := .builtin .copy, args := #[s, x], argTypes := #[T, T'] }) (h : wpList P ops Q (o :: rest) a w) : wpList P ops Q (o :: rest) a w := h
theorem ia_copy {s x : Operand} {T T' E U : TypeId} {y g off dLen dCap sLen sCap i : Nat} {z cur cs new : List Value} {b f : Nat} (st : St M w0 w L) (hgd : o.guard = none) (ho : o.op = .call { callee := .builtin .copy, args := #[s, x], argTypes := #[T, T'] })
    (hs : a.eval s = .slice (some ⟨g, off, none⟩) dLen dCap) (hx : a.eval x = .slice (some ⟨b, f, none⟩) sLen sCap) [hT : SlcC P T E 1 y z] [ha : AtC g cur U i L] (hr : Cl w b f cs) (hn : cs.length = Nat.min sLen dLen) (hfit : off + cs.length ≤ cur.length) (h1 : ∀ v ∈ cs, v.oneCell' = true)
    (hnew : new = cur.take off ++ cs ++ cur.drop (off + cs.length)) (h : ∀ w1, St M w0 w1 (L.set i (g, new, U)) → wpList P ops Q rest (a.put o.dst (.int .i64 (cs.length : Nat))) w1) : wpList P ops Q (o :: rest) a w := by
  obtain ⟨u, v, hi, hsz, hy', hz, hc⟩ := hT.out.i
  have hrun := run_copy_row (P := P) w T T' o.type E g off dLen dCap ⟨b, f, none⟩ sLen sCap cur.toArray U cs hT.out.u (by rw [hi]; simp [hsz]) (st.get ha.out) hn (fun j v hj => by rw [Addr.add_lit]; exact hr.2 j v hj) (by simpa using hfit) h1
  refine wpList_plain hgd fun K hK => ?_
  unfold Oper.wp
  simp [execOp, ho, resolve, invoke, builtin, hs, hx, hrun, Result.andThen]
  refine hK _ _ (h _ ?_)
  subst hnew
  have := st.setRow (cs := cur.take off ++ cs ++ cur.drop (off + cs.length)) ha.upd
  simpa using this
theorem qgate_slice {Q : Act → Prop} {C : World → Prop} {T : TypeId} {x : Operand} {l h m : Option Operand} (_ho : o.op = .slice T x l h m) (hh : wpQuiet P ops C Q (o :: rest) a) : wpQuiet P ops C Q (o :: rest) a := hh
theorem iq_cutL {Q : Act → Prop} {C : World → Prop} {T E : TypeId} {s y b f n c : Nat} {z : List Value} {x il : Operand} {k : IntKind} {l : Nat} (hgd : o.guard = none) (ho : o.op = .slice T x (some il) none none) (hx : a.eval x = .slice (some ⟨b, f, none⟩) n c) (hil : a.eval il = .int k l) [hT : SlcC P T E s y z] (hln : l ≤ n) (hlc : l < c)
    (hk : wpQuiet P ops C Q rest (a.put o.dst (.slice (some ⟨b, f + l * s, none⟩) (n - l) (c - l)))) : wpQuiet P ops C Q (o :: rest) a := by
  have he : P.elem T = E := by unfold Program.elem; rw [hT.out.u]
  have hu : P.underlying T = some (.slice (P.elem T)) := by rw [he]; exact hT.out.u
  refine wpq_val hgd _ (fun w' _ => ?_) hk
  have hr := run_slice_l (P := P) w' T (some ⟨b, f, none⟩) n c hu k l (by omega) (by omega)
  rw [he, hT.out.sizeOf w'] at hr
  simp only [Result.andThen_ok, Int.toNat_natCast, sliced, if_neg (show ¬ c = l by omega), Option.map_some, Addr.add_lit] at hr
  unfold execOp
  simp only [ho, hx, hil, Sem.run_bind, Sem.run_pure, Result.andThen_ok, Option.map_some, Option.map_none, run_sliceAt_slice w' T _ _ _ _ hu, hr]
theorem iq_cutH {Q : Act → Prop} {C : World → Prop} {T E : TypeId} {s y n c : Nat} {z : List Value} {x ih : Operand} {p : Option Addr} {k : IntKind} {h : Nat} (hgd : o.guard = none) (ho : o.op = .slice T x none (some ih) none) (hx : a.eval x = .slice p n c) (hih : a.eval ih = .int k h) [hT : SlcC P T E s y z] (hhc : h ≤ c)
    (hk : wpQuiet P ops C Q rest (a.put o.dst (.slice p h c))) : wpQuiet P ops C Q (o :: rest) a := by
  have he : P.elem T = E := by unfold Program.elem; rw [hT.out.u]
  have hu : P.underlying T = some (.slice (P.elem T)) := by rw [he]; exact hT.out.u
  refine wpq_val hgd _ (fun w' _ => ?_) hk
  have hr := run_slice_h (P := P) w' T p n c hu k h (by omega) (by omega)
  rw [he, hT.out.sizeOf w'] at hr
  have hz : sliced p 0 h c s = .slice p h c := by unfold sliced; split <;> cases p <;> simp [Addr.add]
  simp only [Result.andThen_ok, Int.toNat_natCast, hz] at hr
  unfold execOp
  simp only [ho, hx, hih, Sem.run_bind, Sem.run_pure, Result.andThen_ok, Option.map_some, Option.map_none, run_sliceAt_slice w' T _ _ _ _ hu, hr]
end
/-- The row as it fills. -/
def rowK (v : Int) (d k : Nat) : List Value := List.replicate k (.int .i64 v) ++ List.replicate (d - k) (.int .i64 0)
theorem rowK_length {v : Int} {d k : Nat} (h : k ≤ d) : (rowK v d k).length = d := by simp [rowK]; omega
theorem rowK_cl {w : World} {v : Int} {d k j g : Nat} {T : TypeId} (hb : Blk w g (rowK v d k) T) (hj : j ≤ k) : Cl w g 0 (List.replicate j (.int .i64 v)) := by
  have e : rowK v d k = List.replicate j (.int .i64 v) ++ (List.replicate (k - j) (.int .i64 v) ++ List.replicate (d - k) (.int .i64 0)) := by
    unfold rowK
    rw [← List.append_assoc, List.replicate_append_replicate, show j + (k - j) = k by omega]
  rw [e] at hb
  exact (Cl.of hb).fore
theorem rowK_step {v : Int} {d k j : Nat} (hk : k + j ≤ d) : rowK v d (k + j) = (rowK v d k).take (k) ++ List.replicate j (.int .i64 v) ++ (rowK v d k).drop (k + (List.replicate j (Value.int .i64 v)).length) := by
  rw [List.length_replicate]
  unfold rowK
  rw [List.take_left' (by simp), List.replicate_append_replicate, ← List.drop_drop, List.drop_left' (by simp), List.drop_replicate, show d - k - j = d - (k + j) by omega]
theorem rowK_zero (v : Int) (d : Nat) : (List.replicate d [Value.int .i64 0]).flatten = rowK v d 0 := by
  unfold rowK
  rw [List.flatten_replicate_singleton, List.replicate_zero, List.nil_append, Nat.sub_zero]
theorem encs_rep (v : Int) : ∀ d : Nat, encs i1 (List.replicate d v) = List.replicate d (.int .i64 v)
  | 0 => rfl
  | d + 1 => by rw [List.replicate_succ, List.replicate_succ, ← encs_rep v d]; rfl
def IntsPost' (R : List Int) (n : Nat) (w : World) (e : Ending) (w' : World) : Prop := ∃ v, e = .returned v ∧ Gives 2 1 n (encs i1 R) w v w' ∧ Keep [] w w'
set_option maxHeartbeats 1000000 in
set_option maxRecDepth 100000 in
theorem repeat_c (v : Int) (d : Nat) (hd0 : 1 ≤ d) (hd1 : d ≤ 24) (b f c : Nat) (w : World) (hb : Cl w b f (i1 v)) :
    Calls Try.prog 67 #[.slice (some ⟨b, f, none⟩) 1 c, .int .i64 d] w (IntsPost' (List.replicate d v) d w) := by
  have st := St.start w
  have HM := hid (mulS_c d hd1)
  have hcp : i1 v = List.replicate 1 (.int .i64 v) := rfl
  have HZ := hid (rowK_zero v d)
  have HX1 : Hid ((List.replicate 1 (Value.int .i64 v)).length = Nat.min 1 d) := hid (by rw [List.length_replicate]; exact (Nat.min_eq_left hd0).symm)
  have HX2 : Hid (0 + (List.replicate 1 (Value.int .i64 v)).length ≤ (List.replicate d [Value.int .i64 0]).flatten.length) := hid (by rw [HZ.out, rowK_length (Nat.zero_le _)]; simp; omega)
  have HX3 : Hid (rowK v d 1 = ((List.replicate d [Value.int .i64 0]).flatten).take 0 ++ List.replicate 1 (Value.int .i64 v) ++ ((List.replicate d [Value.int .i64 0]).flatten).drop (0 + (List.replicate 1 (Value.int .i64 v)).length)) := hid (by rw [HZ.out]; exact rowK_step (v := v) (d := d) (k := 0) (j := 1) (by omega))
  go_enter Try.func67, Try.ntmps67
  go_wp2_with (first | (go_at_call 72; refine (HM.out _).mono ?_; rintro _ _ ⟨rfl, hk⟩; replace st := st.call hk; clear hk) | ((with_reducible refine gate_make rfl ?_); refine la_makeSlice tI64S (n := d) ?_ ?_ ?_ ?_ st rfl rfl rfl rfl ?_; (focus (first | exact HN3.out | exact rfl | omega)); (focus (first | exact HN3.out | exact rfl | omega)); (focus omega); (focus omega); clear st; intro B30 _ st) | ((with_reducible refine gate_copy rfl ?_); refine ia_copy (cs := List.replicate 1 (.int .i64 v)) (new := rowK v d 1) st rfl rfl rfl rfl (hb.keep st.keep (by simp)) HX1.out HX2.out (fun v hv => by obtain ⟨_, rfl⟩ := List.mem_replicate.1 hv; rfl) HX3.out ?_; clear st; intro _ st; (try simp only [List.set_cons_zero, List.set_cons_succ] at st)) | ((with_reducible refine gate_lst ?_); (first | ((with_reducible refine' wpl_ung ?_ ?_ ?_); rotate_left 1; (focus exact rfl); (focus exact rfl)))) | ((with_reducible refine qgate_nil ?_); refine wpQuiet_nil ?_; intro _ st) | ((with_reducible refine qgate_any ?_); (first | ((first | (with_reducible refine qg_assign rfl ?_) | (with_reducible refine qg_move rfl ?_)); refine qa_val (fun _ _ => rfl) rfl ?_) | ((with_reducible refine qgate_bin rfl ?_); refine' qa_bin ?_ rfl rfl rfl rfl ?_; rotate_left 1; (focus (first | exact run_add64 (by omega) (by omega) | exact run_sub64 (by omega) (by omega) | (intro w'; go_simp; exact rfl)))) | ((with_reducible refine qg_slice rfl ?_); refine' qa_sliceH SlcC.out ?_ ?_ rfl rfl rfl rfl ?_; rotate_left 1; (focus (first | exact (rfl : (0 : Int) = ((0 : Nat) : Int)) | exact (rfl : (1 : Int) = ((1 : Nat) : Int)) | exact rfl | exact HE1.out | exact HE2.out)); (focus (first | omega | (simp; done) | (simp; omega) | (simp [*]; omega))))); all_goals (try (simp only [Nat.zero_add, Nat.add_zero, Nat.mul_one, Nat.zero_mul, Act.put, Act.eval, Array.getD_eq_getD_getElem?, List.getElem?_toArray, List.getElem?_cons_succ, List.getElem?_cons_zero, Option.getD_some, List.setIfInBounds_toArray, List.set_cons_succ, List.set_cons_zero, List.getElem_toArray, List.getElem_cons_succ, List.getElem_cons_zero]))) | ((with_reducible refine rgate (id := 9) ?_); refine wp_region_sched_st (id := 9) st [0, 1, 2, 3, 4, 5, 6] [7, 8, 9] [] (fun _ h => h.nil) (by kernel_rfl) (by kernel_rfl) ?_; clear st; simp only [sel, List.filterMap_cons, List.filterMap_nil, List.getElem?_cons_succ, List.getElem?_cons_zero]) | (with_reducible refine loud_go ?_) | ((with_reducible refine aftS_go ?_ ?_); (focus exact st.nil)) | (with_reducible refine loud_nil ?_))
  go_loopw [8] (fun i wr => ∃ k : Nat, 1 ≤ k ∧ k ≤ d ∧ i = .int .i64 k ∧ St [] w wr [(B30, rowK v d k, 2)]) (fun i _ => d - (intOf i).toNat)
  case atStart => exact ⟨1, by omega, by omega, rfl, st⟩
  case round =>
    clear st
    obtain ⟨k, hk0, hk, rfl, st⟩ := hrel
    by_cases hlt : k < d
    · have hd : decide ((k : Int) < (d : Int)) = true := by simpa using hlt
      obtain ⟨j, hj⟩ : ∃ j, Nat.min k (d - k) = j := ⟨_, rfl⟩
      have hjk : j ≤ k := by rw [← hj]; exact Nat.min_le_left _ _
      have hjd : k + j ≤ d := by have : j ≤ d - k := by rw [← hj]; exact Nat.min_le_right _ _
                                 omega
      have hj0 : 1 ≤ j := by rw [← hj]; exact Nat.le_min.2 ⟨hk0, by omega⟩
      have HY1 : Hid ((List.replicate j (Value.int .i64 v)).length = Nat.min k (d - k)) := hid (by rw [List.length_replicate]; exact hj.symm)
      have HY2 : Hid (k + (List.replicate j (Value.int .i64 v)).length ≤ (rowK v d k).length) := hid (by rw [rowK_length hk]; simp; omega)
      have HY3 := hid (rowK_step (v := v) hjd)
      clear hj
      go_wp2_with (first | ((with_reducible refine gate_copy rfl ?_); refine ia_copy (cs := List.replicate j (.int .i64 v)) (new := rowK v d (k + j)) st rfl rfl rfl rfl (rowK_cl (st.get .here) hjk) HY1.out HY2.out (fun v hv => by obtain ⟨_, rfl⟩ := List.mem_replicate.1 hv; rfl) HY3.out ?_; clear st; intro _ st; (try simp only [List.set_cons_zero, List.set_cons_succ, List.length_replicate] at st ⊢)) | ((with_reducible refine gate_lst ?_); (first | ((with_reducible refine' wpl_ung ?_ ?_ ?_); rotate_left 1; (focus exact rfl); (focus exact rfl)))) | ((with_reducible refine qgate_nil ?_); refine wpQuiet_nil ?_; intro _ st) | ((with_reducible refine qgate_any ?_); (first | ((with_reducible refine qgate_slice rfl ?_); refine iq_cutL rfl rfl rfl rfl (by omega) (by omega) ?_) | ((with_reducible refine qgate_slice rfl ?_); refine iq_cutH rfl rfl rfl rfl (by omega) ?_) | ((first | (with_reducible refine qg_assign rfl ?_) | (with_reducible refine qg_move rfl ?_)); refine qa_val (fun _ _ => rfl) rfl ?_) | ((with_reducible refine qgate_bin rfl ?_); refine' qa_bin ?_ rfl rfl rfl rfl ?_; rotate_left 1; (focus (first | exact run_add64 (by omega) (by omega) | exact run_sub64 (by omega) (by omega) | (intro w'; go_simp; exact rfl)))) | ((with_reducible refine qg_slice rfl ?_); refine' qa_sliceH SlcC.out ?_ ?_ rfl rfl rfl rfl ?_; rotate_left 1; (focus (first | exact (rfl : (0 : Int) = ((0 : Nat) : Int)) | exact (rfl : (1 : Int) = ((1 : Nat) : Int)) | exact rfl | exact HE1.out | exact HE2.out)); (focus (first | omega | (simp; done) | (simp; omega) | (simp [*]; omega))))); all_goals (try (simp only [Nat.zero_add, Nat.add_zero, Nat.mul_one, Nat.zero_mul, Act.put, Act.eval, Array.getD_eq_getD_getElem?, List.getElem?_toArray, List.getElem?_cons_succ, List.getElem?_cons_zero, Option.getD_some, List.setIfInBounds_toArray, List.set_cons_succ, List.set_cons_zero, List.getElem_toArray, List.getElem_cons_succ, List.getElem_cons_zero]))) | ((with_reducible refine rgate (id := 9) ?_); refine wp_region_sched_st (id := 9) st [0, 1, 2, 3, 4, 5, 6] [7, 8, 9] [] (fun _ h => h.nil) (by kernel_rfl) (by kernel_rfl) ?_; clear st; simp only [sel, List.filterMap_cons, List.filterMap_nil, List.getElem?_cons_succ, List.getElem?_cons_zero]) | (with_reducible refine loud_go ?_) | ((with_reducible refine aftS_go ?_ ?_); (focus exact st.nil)) | (with_reducible refine loud_nil ?_))
      go_roundw
      case rel => exact ⟨k + j, by omega, by omega, by go_num, st⟩
      case measure => simp [intOf]; omega
    · obtain rfl : k = d := by omega
      go_wp2_with (first | ((with_reducible refine gate_lst ?_); (first | ((with_reducible refine' wpl_ung ?_ ?_ ?_); rotate_left 1; (focus exact rfl); (focus exact rfl)))) | ((with_reducible refine qgate_nil ?_); refine wpQuiet_nil ?_; intro _ st) | ((with_reducible refine qgate_any ?_); (first | ((first | (with_reducible refine qg_assign rfl ?_) | (with_reducible refine qg_move rfl ?_)); refine qa_val (fun _ _ => rfl) rfl ?_) | ((with_reducible refine qgate_bin rfl ?_); refine' qa_bin ?_ rfl rfl rfl rfl ?_; rotate_left 1; (focus (first | exact run_add64 (by omega) (by omega) | exact run_sub64 (by omega) (by omega) | (intro w'; go_simp; exact rfl)))) | ((with_reducible refine qg_slice rfl ?_); refine' qa_sliceH SlcC.out ?_ ?_ rfl rfl rfl rfl ?_; rotate_left 1; (focus (first | exact (rfl : (0 : Int) = ((0 : Nat) : Int)) | exact (rfl : (1 : Int) = ((1 : Nat) : Int)) | exact rfl | exact HE1.out | exact HE2.out)); (focus (first | omega | (simp; done) | (simp; omega) | (simp [*]; omega))))); all_goals (try (simp only [Nat.zero_add, Nat.add_zero, Nat.mul_one, Nat.zero_mul, Act.put, Act.eval, Array.getD_eq_getD_getElem?, List.getElem?_toArray, List.getElem?_cons_succ, List.getElem?_cons_zero, Option.getD_some, List.setIfInBounds_toArray, List.set_cons_succ, List.set_cons_zero, List.getElem_toArray, List.getElem_cons_succ, List.getElem_cons_zero]))) | ((with_reducible refine rgate (id := 9) ?_); refine wp_region_sched_st (id := 9) st [0, 1, 2, 3, 4, 5, 6] [7, 8, 9] [] (fun _ h => h.nil) (by kernel_rfl) (by kernel_rfl) ?_; clear st; simp only [sel, List.filterMap_cons, List.filterMap_nil, List.getElem?_cons_succ, List.getElem?_cons_zero]) | (with_reducible refine loud_go ?_) | ((with_reducible refine aftS_go ?_ ?_); (focus exact st.nil)) | (with_reducible refine loud_nil ?_))
      go_ret
      have e : rowK v k k = encs i1 (List.replicate k v) ++ [] := by unfold rowK; rw [encs_rep, Nat.sub_self, List.replicate_zero]
      rw [e] at st
      exact ⟨_, rfl, ⟨B30, k, [], rfl, out_of st .here, st.get .here, by simp [encs_rep], by unfold maxLen; omega⟩, st.keep⟩
end Go.Proofs.Ytlljflmbnbjccaa
