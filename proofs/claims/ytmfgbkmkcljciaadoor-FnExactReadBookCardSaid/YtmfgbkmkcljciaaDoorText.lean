/- The texts of frames: the reference and the program, the library's Builder by the shelf's contracts; no condition. -/
import Derived.Test.YtmfgbkmkcljciaaDoorSh
import Derived.Test.YtmfgbkmkcljciaaDoorCutB
import Derived.Test.YtmfgbkmkcljciaaDoorSched
import Derived.Test.YtmfgbkmkcljciaaDoorB9
namespace Go.Proofs.YtmfgbkmkcljciaaDoor
open Go.RowKit
set_option linter.unusedSimpArgs false
set_option linter.unusedVariables false
def chB (b : Bool) : UInt8 := if b = true then 35 else 46
def rowT (f : List Nat) (y : Nat) : List UInt8 := ((List.range 12).map fun (x : Nat) => chB (hasI f x y)) ++ [10]
/-- The first y rows, and x places of the next one. -/
def ttx (f : List Nat) (y x : Nat) : List UInt8 := ((List.range y).flatMap (rowT f)) ++ (List.range x).map fun (k : Nat) => chB (hasI f k y)
def txt (f : List Nat) : List UInt8 := (List.range 12).flatMap (rowT f)
theorem ttx_zero (f : List Nat) : ttx f 0 0 = [] := rfl
theorem ttx_x (f : List Nat) (y x : Nat) : ttx f y x ++ [chB (hasI f x y)] = ttx f y (x + 1) := by simp [ttx, List.range_succ]
theorem ttx_y (f : List Nat) (y : Nat) : ttx f y 12 ++ [10] = ttx f (y + 1) 0 := by simp [ttx, List.range_succ (n := y), rowT]
theorem ttx_all (f : List Nat) : ttx f 12 0 = txt f := by simp [ttx, txt]
theorem rowT_length (f : List Nat) (y : Nat) : (rowT f y).length = 13 := by simp [rowT]
theorem flat_length (f : List Nat) (y : Nat) : ((List.range y).flatMap (rowT f)).length = y * 13 := by
  induction y with
  | zero => rfl
  | succ y ih => rw [List.range_succ, List.flatMap_append, List.length_append, ih]; simp [rowT_length]; omega
theorem ttx_length (f : List Nat) (y x : Nat) : (ttx f y x).length = y * 13 + x := by unfold ttx; rw [List.length_append, flat_length]; simp
theorem txt_length (f : List Nat) : (txt f).length = 156 := by unfold txt; rw [flat_length]

section
variable {P : Program} {ops : Array Oper} {rest : List Oper} {o : Oper} {a : Act} {w w0 : World} {Q : Exit → Act → World → Prop} {M : List Nat} {L : List (Nat × List Value × TypeId)}
theorem gate_add {T U : TypeId} {x y : Operand} (_ho : o.op = .binOp .add T x y U) (h : wpList P ops Q (o :: rest) a w) : wpList P ops Q (o :: rest) a w := h
/-- A string made of two. -/
theorem la_sadd {T U : TypeId} {x y : Operand} {l m : List UInt8} (hgd : o.guard = none) (ho : o.op = .binOp .add T x y U) (hx : a.eval x = .string ⟨l.toArray⟩) (hy : a.eval y = .string ⟨m.toArray⟩) (hl : l.length + m.length ≤ 9223372036854775807)
    (h : wpList P ops Q rest (a.put o.dst (.string ⟨(l ++ m).toArray⟩)) w) : wpList P ops Q (o :: rest) a w := by
  refine wpl_val hgd _ ?_ h
  have hr := run_string_add_sum (P := P) w ⟨l.toArray⟩ ⟨m.toArray⟩ (by simpa [ByteArray.size] using hl)
  rw [ByteArray.mk_append_mk] at hr
  unfold execOp
  simp [ho, hx, hy, eqGuard, binOp_string_add, hr]
/-- A new block, its number told. -/
theorem ia_allocZ {sl n : Nat} {T : TypeId} {zs : List Value} (st : St M w0 w L) (_hN : o.dst = some sl) (hgd : o.guard = none) (ho : o.op = .alloc T) [hT : AggC P T n zs]
    (h : ∀ wA w1, St M w0 wA L → Keep [] wA w1 → wA.heap.size < w1.heap.size → Blk w1 wA.heap.size zs T → wpList P ops Q rest (a.put o.dst (.pointer (some ⟨wA.heap.size, 0, none⟩))) w1) : wpList P ops Q (o :: rest) a w := by
  obtain ⟨i, hi, hs, hz⟩ := hT.out.i
  refine wpList_plain hgd fun K hK => ?_
  unfold Oper.wp execOp
  simp only [ho, Instr.alloc, zeroValue, typeInfo, hi, hz, newVar, newRow, Value.cells, Sem.run_bind, Sem.run_pure, run_program, run_newObj, Result.andThen_ok, World.alloc_eq]
  exact hK _ _ (h w _ st (Keep.alloc w _) (by simp) (Blk.alloc w zs T))
end
instance : AggC Tryd.prog 58 2 [.pointer none, .slice none 0 0] := ⟨aggT_of Tryd.underlying58 rfl (by kernel_rfl)⟩
theorem shX : Builder.Extra Tryd.prog shR := {
  sizeBuilder := by kernel_rfl
  liesBuilder := by kernel_rfl
  t5 := Tryd.underlying5
  a5 := Tryd.isAgg5
  z5 := Tryd.sizeOf5
  v5 := Tryd.zeroValue5
  infoByte := by kernel_rfl
  cellsByte := by kernel_rfl
  sizeByte := by kernel_rfl
  neB5 := by decide }
/-- A builder that the call has made since wA, its bytes l. -/
def Bw (wA : World) (l : List UInt8) (w : World) : Prop := Lib.IsBuilderF 58 5 wA.heap.size wA.heap.size (Lib.byteCells l) w ∧ Below wA.heap.size wA w ∧ wA.heap.size ≤ w.heap.size
theorem Bw.keep {wA w : World} {l : List UInt8} (h : Bw wA l w) : Keep [] wA w := Keep.of_below h.2.1
theorem Bw.call {wA w w' : World} {l : List UInt8} (h : Bw wA l w) (hk : Keep [] w w') : Bw wA l w' := by
  have hb := hk.below
  refine ⟨?_, h.2.1.trans (hb.mono h.2.2), Nat.le_trans h.2.2 hk.size⟩
  have at_ : ∀ p, Lib.BuilderAtF 58 5 wA.heap.size wA.heap.size p (Lib.byteCells l) w → Lib.BuilderAtF 58 5 wA.heap.size wA.heap.size p (Lib.byteCells l) w' := by
    intro p h1
    have hlt := h1.lt
    obtain ⟨hB, v, hv, hown, hne⟩ := h1
    exact ⟨hB, v, (hb.block _ hlt).trans hv, hown.kept (row := none) ⟨hb.os, hb.tape, hb.output, hb.size, fun k hk _ => hb.block k hk⟩ (Classical.em _), hne⟩
  exact h.1.elim (fun x => .inl (at_ _ x)) (fun x => .inr (at_ _ x))
theorem Bw.start {wA w1 : World} (hk : Keep [] wA w1) (hlt : wA.heap.size < w1.heap.size) (hb : Blk w1 wA.heap.size [.pointer none, .slice none 0 0] 58) : Bw wA [] w1 :=
  ⟨Lib.IsBuilderF.of (Or.inl ⟨Nat.le_refl _, .slice none 0 0, hb, World.ownsRow_nil _ _ _ _, by simp [Value.ownBlock]⟩), hk.below, by omega⟩
theorem writeByte_b {wA w : World} {l : List UInt8} (h : Bw wA l w) (c : UInt8) (z : Int) (hz : z = (c.toNat : Nat)) (hl : l.length + 1 ≤ 140737488355328) :
    Calls Tryd.prog 31 #[.pointer (some ⟨wA.heap.size, 0, none⟩), .int .u8 z] w fun e w' => e = .returned .nilIface ∧ Bw wA (l ++ [c]) w' := by
  subst hz
  refine (Any.Builder_WriteByte_k sh167 shX wA.heap.size wA.heap.size (Lib.byteCells l) (c.toNat : Nat) w h.1 (by rw [Lib.byteCells_length]; exact hl) h.2.2).mono ?_
  rintro e w' ⟨he, h1, h2, _⟩
  refine ⟨he, ?_, h.2.1.trans h2, Nat.le_trans h.2.2 h2.size⟩
  have e1 : Lib.byteCells (l ++ [c]) = Lib.byteCells l ++ [.int .u8 (c.toNat : Nat)] := by simp [Lib.byteCells]
  rw [e1]
  exact Or.inr h1
theorem string_b {wA w : World} {l : List UInt8} (h : Bw wA l w) :
    Calls Tryd.prog 32 #[.pointer (some ⟨wA.heap.size, 0, none⟩)] w fun e w' => e = .returned (.string ⟨l.toArray⟩) ∧ Keep [] wA w' := by
  refine (Any.Builder_String_any_k sh169 shX wA.heap.size wA.heap.size l w h.1 h.2.2).mono ?_
  rintro e w' ⟨he, _, h2, _⟩
  exact ⟨he, Keep.of_below (h.2.1.trans h2)⟩
set_option maxHeartbeats 1000000 in
set_option maxRecDepth 100000 in
theorem frameText_c (f : List Nat) (ok : FrOk f) (w : World) :
    Calls Tryd.prog 21 #[.agg (frv f).toArray] w fun e w' => e = .returned (.string ⟨(txt f).toArray⟩) ∧ Keep [] w w' := by
  have st := St.start w
  have hf := hid ok.len
  have hfl : (frv f).length = 12 := by rw [frv_length, ok.len]
  have HL := hid ttx_length
  go_enter Tryd.func21, Tryd.ntmps21
  go_wp2_with (first | ((with_reducible refine gate_alloc rfl ?_); refine ia_allocZ (sl := 3) st rfl rfl rfl ?_; clear st; intro wA w1 stA hk1 hlt1 hb1; have hbw := Bw.start hk1 hlt1 hb1; clear hk1 hlt1 hb1) | ((with_reducible refine gate_lst ?_); (first | ((with_reducible refine gate_box rfl ?_); (first | (refine ia_box (sl := 1) st rfl rfl rfl rfl rfl ?_; clear st; intro B1 _ st))) | ((with_reducible refine gate_alloc rfl ?_); (first | (refine ia_alloc (sl := 3) st rfl rfl rfl ?_; clear st; intro B3 _ st))) | ((with_reducible refine gate_load rfl ?_); (first | (refine ia_loadAll st rfl rfl rfl ?_ ?_; (focus (first | rfl | (simp; done) | (simp; assumption) | (simp; omega) | (simp [*]; done)))) | (refine ia_loadC (hb.keep st.keep (by simp)) rfl rfl rfl ?_ ?_; (focus (first | rfl | (simp; done) | (simp; assumption) | (simp; omega) | (simp [*]; done)))) | (refine ia_loadC (hb'.keep st.keep (by simp)) rfl rfl rfl ?_ ?_; (focus (first | rfl | (simp; done) | (simp; assumption) | (simp; omega) | (simp [*]; done)))) | (refine ia_loadC (Cl.of (hb1.keep st.keep (by simp))) rfl rfl rfl ?_ ?_; (focus (first | rfl | (simp; done) | (simp; assumption) | (simp; omega) | (simp [*]; done)))) | (refine ia_loadC (Cl.of (hb2.keep st.keep (by simp))) rfl rfl rfl ?_ ?_; (focus (first | rfl | (simp; done) | (simp; assumption) | (simp; omega) | (simp [*]; done)))))))))
  rw [← ttx_zero f] at hbw
  go_loopw [6] (fun i wr => ∃ y : Nat, y ≤ 12 ∧ i = .int .i64 y ∧ Bw wA (ttx f y 0) wr) (fun i _ => 12 - (intOf i).toNat)
  case atStart => exact ⟨0, by omega, rfl, hbw⟩
  case round =>
    clear hbw
    obtain ⟨y, hy, rfl, hbw⟩ := hrel
    have st := stA.call hbw.keep
    by_cases hlt : y < 12
    · have hd : decide ((y : Int) < 12) = true := by simp; omega
      obtain ⟨wo, rfl⟩ : ∃ wo : World, wo = wr := ⟨_, rfl⟩
      go_wp2_with (first | ((with_reducible refine gate_lst ?_); (first | ((with_reducible refine gate_box rfl ?_); (first | (refine ia_box (sl := 1) st rfl rfl rfl rfl rfl ?_; clear st; intro B1 _ st))) | ((with_reducible refine gate_alloc rfl ?_); (first | (refine ia_alloc (sl := 3) st rfl rfl rfl ?_; clear st; intro B3 _ st))) | ((with_reducible refine gate_load rfl ?_); (first | (refine ia_loadAll st rfl rfl rfl ?_ ?_; (focus (first | rfl | (simp; done) | (simp; assumption) | (simp; omega) | (simp [*]; done)))) | (refine ia_loadC (hb.keep st.keep (by simp)) rfl rfl rfl ?_ ?_; (focus (first | rfl | (simp; done) | (simp; assumption) | (simp; omega) | (simp [*]; done)))) | (refine ia_loadC (hb'.keep st.keep (by simp)) rfl rfl rfl ?_ ?_; (focus (first | rfl | (simp; done) | (simp; assumption) | (simp; omega) | (simp [*]; done)))) | (refine ia_loadC (Cl.of (hb1.keep st.keep (by simp))) rfl rfl rfl ?_ ?_; (focus (first | rfl | (simp; done) | (simp; assumption) | (simp; omega) | (simp [*]; done)))) | (refine ia_loadC (Cl.of (hb2.keep st.keep (by simp))) rfl rfl rfl ?_ ?_; (focus (first | rfl | (simp; done) | (simp; assumption) | (simp; omega) | (simp [*]; done)))))))))
      go_loopw [9] (fun i wr => ∃ x : Nat, x ≤ 12 ∧ i = .int .i64 x ∧ Bw wA (ttx f y x) wr) (fun i _ => 12 - (intOf i).toNat)
      case atStart => exact ⟨0, by omega, rfl, hbw⟩
      case round =>
        clear hbw st
        obtain ⟨x, hx, rfl, hbw⟩ := hrel
        have st := stA.call hbw.keep
        have hl := HL.out f y x
        by_cases hlx : x < 12
        · have hd2 : decide ((x : Int) < 12) = true := by simp; omega
          have HS := hid (ttx_x f y x)
          have HH := hid (fun w' => has_c f ok (x : Int) (y : Int) w')
          rcases Bool.eq_false_or_eq_true (hasI f x y) with h | h
          · rw [h] at HS HH
            go_wp2_with (first | (go_at_call 30; refine (HH.out _).mono ?_; rintro _ _ ⟨rfl, hk⟩; replace hbw := hbw.call hk; replace st := st.call hk; clear hk) | (go_at_call 31; refine (writeByte_b hbw 35 _ rfl (by omega)).mono ?_; clear hbw st; rintro _ _ ⟨rfl, hbw⟩; have st := stA.call hbw.keep) | ((with_reducible refine gate_lst ?_); (first | ((with_reducible refine gate_box rfl ?_); (first | (refine ia_box (sl := 1) st rfl rfl rfl rfl rfl ?_; clear st; intro B1 _ st))) | ((with_reducible refine gate_alloc rfl ?_); (first | (refine ia_alloc (sl := 3) st rfl rfl rfl ?_; clear st; intro B3 _ st))) | ((with_reducible refine gate_load rfl ?_); (first | (refine ia_loadAll st rfl rfl rfl ?_ ?_; (focus (first | rfl | (simp; done) | (simp; assumption) | (simp; omega) | (simp [*]; done)))) | (refine ia_loadC (hb.keep st.keep (by simp)) rfl rfl rfl ?_ ?_; (focus (first | rfl | (simp; done) | (simp; assumption) | (simp; omega) | (simp [*]; done)))) | (refine ia_loadC (hb'.keep st.keep (by simp)) rfl rfl rfl ?_ ?_; (focus (first | rfl | (simp; done) | (simp; assumption) | (simp; omega) | (simp [*]; done)))) | (refine ia_loadC (Cl.of (hb1.keep st.keep (by simp))) rfl rfl rfl ?_ ?_; (focus (first | rfl | (simp; done) | (simp; assumption) | (simp; omega) | (simp [*]; done)))) | (refine ia_loadC (Cl.of (hb2.keep st.keep (by simp))) rfl rfl rfl ?_ ?_; (focus (first | rfl | (simp; done) | (simp; assumption) | (simp; omega) | (simp [*]; done)))))))))
            go_roundw
            case rel => exact ⟨x + 1, by omega, by go_num, by rw [← HS.out]; exact hbw⟩
            case measure => simp [intOf]; omega
          · rw [h] at HS HH
            go_wp2_with (first | (go_at_call 30; refine (HH.out _).mono ?_; rintro _ _ ⟨rfl, hk⟩; replace hbw := hbw.call hk; replace st := st.call hk; clear hk) | (go_at_call 31; refine (writeByte_b hbw 46 _ rfl (by omega)).mono ?_; clear hbw st; rintro _ _ ⟨rfl, hbw⟩; have st := stA.call hbw.keep) | ((with_reducible refine gate_lst ?_); (first | ((with_reducible refine gate_box rfl ?_); (first | (refine ia_box (sl := 1) st rfl rfl rfl rfl rfl ?_; clear st; intro B1 _ st))) | ((with_reducible refine gate_alloc rfl ?_); (first | (refine ia_alloc (sl := 3) st rfl rfl rfl ?_; clear st; intro B3 _ st))) | ((with_reducible refine gate_load rfl ?_); (first | (refine ia_loadAll st rfl rfl rfl ?_ ?_; (focus (first | rfl | (simp; done) | (simp; assumption) | (simp; omega) | (simp [*]; done)))) | (refine ia_loadC (hb.keep st.keep (by simp)) rfl rfl rfl ?_ ?_; (focus (first | rfl | (simp; done) | (simp; assumption) | (simp; omega) | (simp [*]; done)))) | (refine ia_loadC (hb'.keep st.keep (by simp)) rfl rfl rfl ?_ ?_; (focus (first | rfl | (simp; done) | (simp; assumption) | (simp; omega) | (simp [*]; done)))) | (refine ia_loadC (Cl.of (hb1.keep st.keep (by simp))) rfl rfl rfl ?_ ?_; (focus (first | rfl | (simp; done) | (simp; assumption) | (simp; omega) | (simp [*]; done)))) | (refine ia_loadC (Cl.of (hb2.keep st.keep (by simp))) rfl rfl rfl ?_ ?_; (focus (first | rfl | (simp; done) | (simp; assumption) | (simp; omega) | (simp [*]; done)))))))))
            go_roundw
            case rel => exact ⟨x + 1, by omega, by go_num, by rw [← HS.out]; exact hbw⟩
            case measure => simp [intOf]; omega
        · obtain rfl : x = 12 := by omega
          have HS := hid (ttx_y f y)
          go_wp2_with (first | (go_at_call 31; refine (writeByte_b hbw 10 _ rfl (by omega)).mono ?_; clear hbw st; rintro _ _ ⟨rfl, hbw⟩; have st := stA.call hbw.keep) | ((with_reducible refine gate_lst ?_); (first | ((with_reducible refine gate_box rfl ?_); (first | (refine ia_box (sl := 1) st rfl rfl rfl rfl rfl ?_; clear st; intro B1 _ st))) | ((with_reducible refine gate_alloc rfl ?_); (first | (refine ia_alloc (sl := 3) st rfl rfl rfl ?_; clear st; intro B3 _ st))) | ((with_reducible refine gate_load rfl ?_); (first | (refine ia_loadAll st rfl rfl rfl ?_ ?_; (focus (first | rfl | (simp; done) | (simp; assumption) | (simp; omega) | (simp [*]; done)))) | (refine ia_loadC (hb.keep st.keep (by simp)) rfl rfl rfl ?_ ?_; (focus (first | rfl | (simp; done) | (simp; assumption) | (simp; omega) | (simp [*]; done)))) | (refine ia_loadC (hb'.keep st.keep (by simp)) rfl rfl rfl ?_ ?_; (focus (first | rfl | (simp; done) | (simp; assumption) | (simp; omega) | (simp [*]; done)))) | (refine ia_loadC (Cl.of (hb1.keep st.keep (by simp))) rfl rfl rfl ?_ ?_; (focus (first | rfl | (simp; done) | (simp; assumption) | (simp; omega) | (simp [*]; done)))) | (refine ia_loadC (Cl.of (hb2.keep st.keep (by simp))) rfl rfl rfl ?_ ?_; (focus (first | rfl | (simp; done) | (simp; assumption) | (simp; omega) | (simp [*]; done)))))))))
          go_roundw
          case rel => exact ⟨y + 1, by omega, by go_num, by rw [← HS.out]; exact hbw⟩
          case measure => simp [intOf]; omega
    · obtain rfl : y = 12 := by omega
      rw [ttx_all] at hbw
      have hst := stA.keep
      go_wp2_with (first | (go_at_call 32; refine (string_b hbw).mono ?_; clear hbw st; rintro _ _ ⟨rfl, hk⟩) | ((with_reducible refine gate_lst ?_); (first | ((with_reducible refine gate_box rfl ?_); (first | (refine ia_box (sl := 1) st rfl rfl rfl rfl rfl ?_; clear st; intro B1 _ st))) | ((with_reducible refine gate_alloc rfl ?_); (first | (refine ia_alloc (sl := 3) st rfl rfl rfl ?_; clear st; intro B3 _ st))) | ((with_reducible refine gate_load rfl ?_); (first | (refine ia_loadAll st rfl rfl rfl ?_ ?_; (focus (first | rfl | (simp; done) | (simp; assumption) | (simp; omega) | (simp [*]; done)))) | (refine ia_loadC (hb.keep st.keep (by simp)) rfl rfl rfl ?_ ?_; (focus (first | rfl | (simp; done) | (simp; assumption) | (simp; omega) | (simp [*]; done)))) | (refine ia_loadC (hb'.keep st.keep (by simp)) rfl rfl rfl ?_ ?_; (focus (first | rfl | (simp; done) | (simp; assumption) | (simp; omega) | (simp [*]; done)))) | (refine ia_loadC (Cl.of (hb1.keep st.keep (by simp))) rfl rfl rfl ?_ ?_; (focus (first | rfl | (simp; done) | (simp; assumption) | (simp; omega) | (simp [*]; done)))) | (refine ia_loadC (Cl.of (hb2.keep st.keep (by simp))) rfl rfl rfl ?_ ?_; (focus (first | rfl | (simp; done) | (simp; assumption) | (simp; omega) | (simp [*]; done)))))))))
      go_ret
      exact ⟨rfl, hst.trans hk (by simp)⟩
/-- The text of the first k pages. -/
def btx (B : List Fm) : Nat → List UInt8
  | 0 => []
  | k + 1 => (if 0 < k then btx B k ++ [10] else btx B k) ++ txt (B.getD k fz).1
theorem btx_length (B : List Fm) : ∀ k, (btx B k).length ≤ k * 157
  | 0 => by simp [btx]
  | k + 1 => by
    have := btx_length B k
    unfold btx
    rw [List.length_append, txt_length]
    split <;> (try rw [List.length_append]) <;> simp <;> omega
theorem btx_one (B : List Fm) : btx B 1 = txt (B.getD 0 fz).1 := by simp [btx]
theorem btx_more (B : List Fm) {k : Nat} (hk : 0 < k) : btx B (k + 1) = (btx B k ++ [10]) ++ txt (B.getD k fz).1 := by rw [btx, if_pos hk]
theorem btx_join (B : List Fm) : ∀ k, k ≤ B.length → Lib.join ((B.take k).map fun b => txt b.1) [10] = btx B k := by
  intro k
  induction k with
  | zero => intro _; simp [Lib.join, btx]
  | succ k ih =>
    intro hk
    have hkl : k < B.length := by omega
    rw [List.take_succ_eq_append_getElem hkl, List.map_append, List.map_singleton]
    have snoc : ∀ (l : List (List UInt8)) (x : List UInt8), l ≠ [] → Lib.join (l ++ [x]) [10] = (Lib.join l [10] ++ [10]) ++ x := by
      intro l x
      intro h
      cases l with
      | nil => exact absurd rfl h
      | cons a r => rw [List.cons_append, Lib.join_cons, Lib.join_cons]; simp [Lib.joinTail]
    have hg : B[k] = B.getD k fz := by rw [List.getD_eq_getElem?_getD, List.getElem?_eq_getElem hkl]; rfl
    rcases Nat.eq_zero_or_pos k with h0 | hpos
    · subst h0
      simp [Lib.join, btx, hg]
    · rw [snoc _ _ (by intro e; have h1 := congrArg List.length e; rw [List.length_map, List.length_take, List.length_nil] at h1; omega), ih (by omega), btx_more B hpos, hg]
def btxt (B : List Fm) : List UInt8 := btx B B.length
/-- A string. -/
def sv (l : List UInt8) : List Value := [.string ⟨l.toArray⟩]
@[simp] theorem sv_len (l : List UInt8) : (sv l).length = 1 := rfl
theorem sv_one (l : List UInt8) : ∀ v ∈ sv l, v.oneCell' = true := by simp [sv, Value.oneCell']
@[simp] theorem encs_sv_length (l : List (List UInt8)) : (encs sv l).length = l.length := by rw [encs_length sv_len, Nat.mul_one]
theorem join_b (R : List (List UInt8)) (n : Nat) (hR : R.length = n) (hn : n ≤ 2000000) (sep : List UInt8) (hlen : (Lib.join R sep).length ≤ 140737488355328) (g c : Nat) (hc : n ≤ c) (w : World) (cs : List Value) (T : TypeId) (hb : Blk w g (encs sv R ++ cs) T) :
    Calls Tryd.prog 23 #[.slice (some ⟨g, 0, none⟩) n c, .string ⟨sep.toArray⟩] w fun e w' => e = .returned (.string ⟨(Lib.join R sep).toArray⟩) ∧ Keep [] w w' := by
  subst hR
  have hm : (R.map fun l => (⟨l.toArray⟩ : ByteArray)).map (fun x => x.data.toList) = R := by rw [List.map_map]; simp [Function.comp_def]
  have hl : (R.map fun l => (⟨l.toArray⟩ : ByteArray)).length = R.length := by simp
  have h := Any.strings_Join sh156 shX g 0 c (R.map fun l => (⟨l.toArray⟩ : ByteArray)) ⟨sep.toArray⟩ w (fun j x hj => by
    rw [List.getElem?_map] at hj
    obtain ⟨l, hl, rfl⟩ := Option.map_eq_some_iff.1 hj
    obtain ⟨hjl, e⟩ := List.getElem?_eq_some_iff.1 hl
    have := encs_getA sv_len R cs j hjl 0 (by omega)
    rw [Nat.mul_one, Nat.add_zero, e] at this
    rw [Nat.zero_add]
    exact hb.cellv this) hb.lt (by rw [hl]; omega) (by rw [hl]; exact hc) (by rw [hm]; exact hlen)
  rw [hl, hm] at h
  exact h.mono fun e w' ⟨h1, h2⟩ => ⟨h1, Keep.of_below h2⟩
def bkT (B : List Fm) : List UInt8 := if bkB B = true then btxt B else []
def tks (B : List Fm) (k : Nat) : List (List UInt8) := (B.take k).map fun b => txt b.1
theorem tks_length {B : List Fm} {k n : Nat} (hB : B.length = n) (hk : k ≤ n) : (tks B k).length = k := by unfold tks; rw [List.length_map, List.length_take]; omega
theorem tks_step {B : List Fm} {k : Nat} (hk : k < B.length) : tks B k ++ [txt B[k].1] = tks B (k + 1) := by unfold tks; rw [List.take_succ_eq_append_getElem hk, List.map_append]; rfl
set_option maxHeartbeats 1000000 in
set_option maxRecDepth 100000 in
theorem BookText_c (B : List Fm) (n : Nat) (hB : B.length = n) (hn : n ≤ 2000000) (p : Option Addr) (c : Nat) (w : World) (hr : Rd w p n (encs fv B)) :
    Calls Tryd.prog 14 #[.slice p n c] w fun e w' => e = .returned (.string ⟨(bkT B).toArray⟩) ∧ Keep [] w w' := by
  have st := St.start w
  unfold bkT
  rcases Bool.eq_false_or_eq_true (bkB B) with h | h
  · have HV := hid (fun w' hk => ValidBook_v h n hB (by omega) p c w' (hr.keep (w1 := w') hk))
    rw [if_pos h]
    have HJ : Hid (Lib.join (tks B n) [10] = btxt B) := hid (by unfold tks btxt; rw [btx_join B n (by omega), hB])
    have HJL : Hid ((Lib.join (tks B n) [10]).length ≤ 140737488355328) := hid (by rw [HJ.out]; unfold btxt; have := btx_length B B.length; omega)
    replace hB := hid hB
    clear h
    go_enter Tryd.func14, Tryd.ntmps14
    go_wp2_with (first | (go_at_call 22; refine (HV.out _ st.keep).mono ?_; rintro _ _ ⟨rfl, hk⟩; replace st := st.call hk; clear hk) | ((with_reducible refine gate_bsl rfl ?_); refine ia_bsl0 (sl := 9) st rfl rfl rfl ?_; clear st; intro B9 _ st) | ((with_reducible refine gate_lst ?_); (first | ((with_reducible refine gate_alloc rfl ?_); (first | (refine ia_alloc (sl := 5) st rfl rfl rfl ?_; clear st; intro B5 _ st))) | ((with_reducible refine gate_load rfl ?_); (first | (refine ia_loadAll st rfl rfl rfl ?_ ?_; (focus (first | rfl | (simp; done) | (simp; assumption) | (simp; omega) | (simp [*]; done)))) | (refine ia_loadC (hb.keep st.keep (by simp)) rfl rfl rfl ?_ ?_; (focus (first | rfl | (simp; done) | (simp; assumption) | (simp; omega) | (simp [*]; done)))) | (refine ia_loadC (hb'.keep st.keep (by simp)) rfl rfl rfl ?_ ?_; (focus (first | rfl | (simp; done) | (simp; assumption) | (simp; omega) | (simp [*]; done)))) | (refine ia_loadC (Cl.of (hb1.keep st.keep (by simp))) rfl rfl rfl ?_ ?_; (focus (first | rfl | (simp; done) | (simp; assumption) | (simp; omega) | (simp [*]; done)))) | (refine ia_loadC (Cl.of (hb2.keep st.keep (by simp))) rfl rfl rfl ?_ ?_; (focus (first | rfl | (simp; done) | (simp; assumption) | (simp; omega) | (simp [*]; done)))))) | ((with_reducible refine gate_store rfl ?_); (first | (refine ia_storeAll st rfl rfl rfl rfl ?_ ?_ ?_ ?_; (focus (first | rfl | (simp; done) | (simp; assumption) | (simp; omega) | (simp [*]; done))); (focus (first | exact frv_one _ | exact fv_one _ | exact p8_one _ | exact k3_one _ | exact i1_one _ | (simp [Value.oneCell']; done))); (focus (first | rfl | (simp; done) | (simp; assumption) | (simp; omega) | (simp [*]; done))); clear st; intro _ st; (try simp only [List.set_cons_zero, List.set_cons_succ] at st)) | (refine ia_storeSeg st rfl rfl rfl rfl ?_ ?_ ?_ ?_; (focus (first | rfl | (simp; done) | (simp; assumption) | (simp; omega) | (simp [*]; done))); (focus (first | exact frv_one _ | exact fv_one _ | exact p8_one _ | exact k3_one _ | exact i1_one _ | (simp [Value.oneCell']; done))); (focus (first | omega | (simp; done) | (simp; omega) | (simp [*]; omega))); clear st; intro _ st; (try simp only [List.set_cons_zero, List.set_cons_succ] at st)))) | ((with_reducible refine gate_addr rfl ?_); (first | (refine' ia_slcP HP.out rfl rfl rfl rfl ?_ ?_ ?_) | (refine' ia_slcP HP2.out rfl rfl rfl rfl ?_ ?_ ?_)); rotate_left 1; (focus (first | exact (rfl : (0 : Int) = ((0 : Nat) : Int)) | exact (rfl : (1 : Int) = ((1 : Nat) : Int)) | exact rfl | exact HE1.out | exact HE2.out)); (focus (first | omega | (simp; done) | (simp; omega) | (simp [*]; omega)))))))
    go_loopw [3, 12] (fun v i wr => ∃ k : Nat, k ≤ n ∧ i = .int .i64 k ∧ Own 9 1 k (encs sv (tks B k)) [] w wr [] v) (fun _ i _ => n - (intOf i).toNat)
    case atStart => exact ⟨0, by omega, rfl, B9, 0, [], rfl, st, rfl, Nat.zero_le _⟩
    case round =>
      clear st
      obtain ⟨k, hk, rfl, g, cap, spare, rfl, st, hcap, hcm⟩ := hrel
      have HC := hid hcap
      clear hcap
      by_cases hlt : k < n
      · have hd : decide ((k : Int) < (n : Int)) = true := by simpa using hlt
        obtain ⟨b, f, hp, hcl⟩ := hr (by omega)
        have HP := hid hp
        have hkB : k < B.length := by rw [hB.out]; exact hlt
        have hb := hcl.seg fv_len hkB
        have HS := hid (tks_step hkB)
        obtain ⟨x, hx⟩ : ∃ x, B[k] = x := ⟨_, rfl⟩
        rw [hx] at hb HS
        have HH := hid (fun w' => frameText_c x.1 x.2 w')
        obtain ⟨T, hT⟩ : ∃ T, txt x.1 = T := ⟨_, rfl⟩
        rw [hT] at HH HS
        clear hx hp hcl hkB hT
        go_wp2_with (first | (go_at_call 21; refine (HH.out _).mono ?_; rintro _ _ ⟨rfl, hk⟩; replace st := st.call hk; clear hk) | ((with_reducible refine gate_bsl rfl ?_); refine ia_bsl1 (sl := 19) st rfl rfl rfl rfl rfl ?_ (by decide) ?_; (focus (first | rfl | (simp; done) | (simp; assumption) | (simp; omega) | (simp [*]; done))); clear st; intro B19 _ st) | ((with_reducible refine gate_app rfl ?_); refine ia_appendR (news := (sv T)) (xs := (encs sv (tks B k))) (spare := spare) st rfl rfl rfl rfl (by rw [encs_sv_length, tks_length hB.out hk, Nat.mul_one]) HC.out hcm (.fr (st.get (by repeat (first | exact At.here | apply At.there)))) (fun h => by cases h) (sv_len _) (sv_one _) (by unfold maxLen; omega) (by omega) ?_; clear st; intro g2 cap2 spare2 _ st hcap2 hcm2; (try simp only [List.set_cons_zero, List.set_cons_succ] at st)) | ((with_reducible refine gate_lst ?_); (first | ((with_reducible refine gate_alloc rfl ?_); (first | (refine ia_alloc (sl := 5) st rfl rfl rfl ?_; clear st; intro B5 _ st))) | ((with_reducible refine gate_load rfl ?_); (first | (refine ia_loadAll st rfl rfl rfl ?_ ?_; (focus (first | rfl | (simp; done) | (simp; assumption) | (simp; omega) | (simp [*]; done)))) | (refine ia_loadC (hb.keep st.keep (by simp)) rfl rfl rfl ?_ ?_; (focus (first | rfl | (simp; done) | (simp; assumption) | (simp; omega) | (simp [*]; done)))) | (refine ia_loadC (hb'.keep st.keep (by simp)) rfl rfl rfl ?_ ?_; (focus (first | rfl | (simp; done) | (simp; assumption) | (simp; omega) | (simp [*]; done)))) | (refine ia_loadC (Cl.of (hb1.keep st.keep (by simp))) rfl rfl rfl ?_ ?_; (focus (first | rfl | (simp; done) | (simp; assumption) | (simp; omega) | (simp [*]; done)))) | (refine ia_loadC (Cl.of (hb2.keep st.keep (by simp))) rfl rfl rfl ?_ ?_; (focus (first | rfl | (simp; done) | (simp; assumption) | (simp; omega) | (simp [*]; done)))))) | ((with_reducible refine gate_store rfl ?_); (first | (refine ia_storeAll st rfl rfl rfl rfl ?_ ?_ ?_ ?_; (focus (first | rfl | (simp; done) | (simp; assumption) | (simp; omega) | (simp [*]; done))); (focus (first | exact frv_one _ | exact fv_one _ | exact p8_one _ | exact k3_one _ | exact i1_one _ | (simp [Value.oneCell']; done))); (focus (first | rfl | (simp; done) | (simp; assumption) | (simp; omega) | (simp [*]; done))); clear st; intro _ st; (try simp only [List.set_cons_zero, List.set_cons_succ] at st)) | (refine ia_storeSeg st rfl rfl rfl rfl ?_ ?_ ?_ ?_; (focus (first | rfl | (simp; done) | (simp; assumption) | (simp; omega) | (simp [*]; done))); (focus (first | exact frv_one _ | exact fv_one _ | exact p8_one _ | exact k3_one _ | exact i1_one _ | (simp [Value.oneCell']; done))); (focus (first | omega | (simp; done) | (simp; omega) | (simp [*]; omega))); clear st; intro _ st; (try simp only [List.set_cons_zero, List.set_cons_succ] at st)))) | ((with_reducible refine gate_addr rfl ?_); (first | (refine' ia_slcP HP.out rfl rfl rfl rfl ?_ ?_ ?_) | (refine' ia_slcP HP2.out rfl rfl rfl rfl ?_ ?_ ?_)); rotate_left 1; (focus (first | exact (rfl : (0 : Int) = ((0 : Nat) : Int)) | exact (rfl : (1 : Int) = ((1 : Nat) : Int)) | exact rfl | exact HE1.out | exact HE2.out)); (focus (first | omega | (simp; done) | (simp; omega) | (simp [*]; omega)))))))
        have e : encs sv (tks B (k + 1)) = encs sv (tks B k) ++ sv T := by rw [← HS.out, encs_append]; simp [encs]
        go_roundw
        case rel => exact ⟨k + 1, by omega, by go_num, g2, cap2, spare2, rfl, by rw [e]; exact st.drop.drop, by rw [e]; exact hcap2, hcm2⟩
        case measure => first | (simp [intOf]; done) | (simp [intOf]; omega)
      · obtain rfl : k = n := by omega
        have hkc : k ≤ cap := by have := HC.out; rw [List.length_append, encs_sv_length, tks_length hB.out (Nat.le_refl _)] at this; omega
        go_wp2_with (first | (go_at_call 23; refine (join_b (tks B k) k (tks_length hB.out (Nat.le_refl _)) hn [10] HJL.out _ _ hkc _ spare _ (st.get (by repeat (first | exact At.here | apply At.there)))).mono ?_; rintro _ _ ⟨rfl, hk⟩; replace st := st.call hk; clear hk) | ((with_reducible refine gate_lst ?_); (first | ((with_reducible refine gate_alloc rfl ?_); (first | (refine ia_alloc (sl := 5) st rfl rfl rfl ?_; clear st; intro B5 _ st))) | ((with_reducible refine gate_load rfl ?_); (first | (refine ia_loadAll st rfl rfl rfl ?_ ?_; (focus (first | rfl | (simp; done) | (simp; assumption) | (simp; omega) | (simp [*]; done)))) | (refine ia_loadC (hb.keep st.keep (by simp)) rfl rfl rfl ?_ ?_; (focus (first | rfl | (simp; done) | (simp; assumption) | (simp; omega) | (simp [*]; done)))) | (refine ia_loadC (hb'.keep st.keep (by simp)) rfl rfl rfl ?_ ?_; (focus (first | rfl | (simp; done) | (simp; assumption) | (simp; omega) | (simp [*]; done)))) | (refine ia_loadC (Cl.of (hb1.keep st.keep (by simp))) rfl rfl rfl ?_ ?_; (focus (first | rfl | (simp; done) | (simp; assumption) | (simp; omega) | (simp [*]; done)))) | (refine ia_loadC (Cl.of (hb2.keep st.keep (by simp))) rfl rfl rfl ?_ ?_; (focus (first | rfl | (simp; done) | (simp; assumption) | (simp; omega) | (simp [*]; done)))))) | ((with_reducible refine gate_store rfl ?_); (first | (refine ia_storeAll st rfl rfl rfl rfl ?_ ?_ ?_ ?_; (focus (first | rfl | (simp; done) | (simp; assumption) | (simp; omega) | (simp [*]; done))); (focus (first | exact frv_one _ | exact fv_one _ | exact p8_one _ | exact k3_one _ | exact i1_one _ | (simp [Value.oneCell']; done))); (focus (first | rfl | (simp; done) | (simp; assumption) | (simp; omega) | (simp [*]; done))); clear st; intro _ st; (try simp only [List.set_cons_zero, List.set_cons_succ] at st)) | (refine ia_storeSeg st rfl rfl rfl rfl ?_ ?_ ?_ ?_; (focus (first | rfl | (simp; done) | (simp; assumption) | (simp; omega) | (simp [*]; done))); (focus (first | exact frv_one _ | exact fv_one _ | exact p8_one _ | exact k3_one _ | exact i1_one _ | (simp [Value.oneCell']; done))); (focus (first | omega | (simp; done) | (simp; omega) | (simp [*]; omega))); clear st; intro _ st; (try simp only [List.set_cons_zero, List.set_cons_succ] at st)))) | ((with_reducible refine gate_addr rfl ?_); (first | (refine' ia_slcP HP.out rfl rfl rfl rfl ?_ ?_ ?_) | (refine' ia_slcP HP2.out rfl rfl rfl rfl ?_ ?_ ?_)); rotate_left 1; (focus (first | exact (rfl : (0 : Int) = ((0 : Nat) : Int)) | exact (rfl : (1 : Int) = ((1 : Nat) : Int)) | exact rfl | exact HE1.out | exact HE2.out)); (focus (first | omega | (simp; done) | (simp; omega) | (simp [*]; omega)))))))
        go_ret
        exact ⟨by rw [HJ.out]; rfl, st.keep⟩
  · have HV := hid (fun w' hk => ValidBook_v h n hB (by omega) p c w' (hr.keep (w1 := w') hk))
    rw [if_neg (by rw [h]; decide)]
    go_enter Tryd.func14, Tryd.ntmps14
    go_wp2_with (first | (go_at_call 22; refine (HV.out _ st.keep).mono ?_; rintro _ _ ⟨rfl, hk⟩; replace st := st.call hk; clear hk) | ((with_reducible refine gate_lst ?_); (first | ((with_reducible refine gate_alloc rfl ?_); (first | (refine ia_alloc (sl := 5) st rfl rfl rfl ?_; clear st; intro B5 _ st))) | ((with_reducible refine gate_load rfl ?_); (first | (refine ia_loadAll st rfl rfl rfl ?_ ?_; (focus (first | rfl | (simp; done) | (simp; assumption) | (simp; omega) | (simp [*]; done)))) | (refine ia_loadC (hb.keep st.keep (by simp)) rfl rfl rfl ?_ ?_; (focus (first | rfl | (simp; done) | (simp; assumption) | (simp; omega) | (simp [*]; done)))) | (refine ia_loadC (hb'.keep st.keep (by simp)) rfl rfl rfl ?_ ?_; (focus (first | rfl | (simp; done) | (simp; assumption) | (simp; omega) | (simp [*]; done)))) | (refine ia_loadC (Cl.of (hb1.keep st.keep (by simp))) rfl rfl rfl ?_ ?_; (focus (first | rfl | (simp; done) | (simp; assumption) | (simp; omega) | (simp [*]; done)))) | (refine ia_loadC (Cl.of (hb2.keep st.keep (by simp))) rfl rfl rfl ?_ ?_; (focus (first | rfl | (simp; done) | (simp; assumption) | (simp; omega) | (simp [*]; done)))))) | ((with_reducible refine gate_store rfl ?_); (first | (refine ia_storeAll st rfl rfl rfl rfl ?_ ?_ ?_ ?_; (focus (first | rfl | (simp; done) | (simp; assumption) | (simp; omega) | (simp [*]; done))); (focus (first | exact frv_one _ | exact fv_one _ | exact p8_one _ | exact k3_one _ | exact i1_one _ | (simp [Value.oneCell']; done))); (focus (first | rfl | (simp; done) | (simp; assumption) | (simp; omega) | (simp [*]; done))); clear st; intro _ st; (try simp only [List.set_cons_zero, List.set_cons_succ] at st)) | (refine ia_storeSeg st rfl rfl rfl rfl ?_ ?_ ?_ ?_; (focus (first | rfl | (simp; done) | (simp; assumption) | (simp; omega) | (simp [*]; done))); (focus (first | exact frv_one _ | exact fv_one _ | exact p8_one _ | exact k3_one _ | exact i1_one _ | (simp [Value.oneCell']; done))); (focus (first | omega | (simp; done) | (simp; omega) | (simp [*]; omega))); clear st; intro _ st; (try simp only [List.set_cons_zero, List.set_cons_succ] at st)))) | ((with_reducible refine gate_addr rfl ?_); (first | (refine' ia_slcP HP.out rfl rfl rfl rfl ?_ ?_ ?_) | (refine' ia_slcP HP2.out rfl rfl rfl rfl ?_ ?_ ?_)); rotate_left 1; (focus (first | exact (rfl : (0 : Int) = ((0 : Nat) : Int)) | exact (rfl : (1 : Int) = ((1 : Nat) : Int)) | exact rfl | exact HE1.out | exact HE2.out)); (focus (first | omega | (simp; done) | (simp; omega) | (simp [*]; omega)))))))
    go_ret
    exact ⟨rfl, st.keep⟩
end Go.Proofs.YtmfgbkmkcljciaaDoor
