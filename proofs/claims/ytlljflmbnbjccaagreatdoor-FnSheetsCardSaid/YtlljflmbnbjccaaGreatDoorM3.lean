/- Texts of this seat, one behind the other: B9, Text, Dec, Wds, Wd, Spl, ShS, Pl, Ps, Sheet, Sched2; no condition. -/
import Derived.Test.YtlljflmbnbjccaaGreatDoorM2
import Derived.Lib.Tables
import Derived.Test.YtlljflmbnbjccaaGreatDoorM1
import Derived.Lib.SlBytesRow
import Derived.Shelf.Strconv.Itoa4
import Derived.Lib.Split
import Derived.Lib.SplitLaws
import Derived.WalkKit
/- Dots counted; no condition. -/
namespace Go.Proofs.YtlljflmbnbjccaaGreatDoor
open Go.RowKit
set_option linter.unusedSimpArgs false
set_option linter.unusedVariables false

/-- The dots of a row. -/
def pc (r : Nat) : Nat := ((List.range 12).filter fun x => r.testBit x).length
def c8 (r : Nat) : Nat := ((List.range 8).filter fun x => r.testBit x).length
theorem pop_c8 : ((List.range 256).all fun r => decide (Lib.pop8 ((r : Nat) : Int) = (c8 r : Int))) = true := by decide +kernel
theorem c8_c4 : ((List.range 16).all fun r => decide (c8 r = ((List.range 4).filter fun x => r.testBit x).length)) = true := by decide +kernel
theorem pop_pc {r : Nat} (hr : r < 4096) : Lib.pop8 ((r / 256 : Nat) : Int) + Lib.pop8 ((r % 256 : Nat) : Int) = (pc r : Int) := by
  have h1 := List.all_eq_true.1 pop_c8 (r / 256) (List.mem_range.2 (by omega))
  have h2 := List.all_eq_true.1 pop_c8 (r % 256) (List.mem_range.2 (by omega))
  have h3 := List.all_eq_true.1 c8_c4 (r / 256) (List.mem_range.2 (by omega))
  simp only [decide_eq_true_eq] at h1 h2 h3
  rw [h1, h2, h3]
  have e1 : c8 (r % 256) = c8 r := by
    unfold c8
    congr 1
    apply List.filter_congr
    intro x hx
    have hx : x < 8 := List.mem_range.1 hx
    have := Nat.testBit_mod_two_pow r 8 x
    rw [show (2 : Nat) ^ 8 = 256 from rfl] at this
    rw [this]; simp [hx]
  have e2 : ((List.range 4).filter fun x => (r / 256).testBit x).length = ((List.range 4).filter fun x => r.testBit (8 + x)).length := by
    congr 1
    apply List.filter_congr
    intro x hx
    have : (r / 2 ^ 8).testBit x = r.testBit (x + 8) := Nat.testBit_div_two_pow _ _
    rw [show (2 : Nat) ^ 8 = 256 from rfl] at this
    rw [this, Nat.add_comm]
  rw [e1, e2]
  unfold pc c8
  rw [show (12 : Nat) = 8 + 4 from rfl, List.range_add, List.filter_append, List.length_append, List.filter_map, List.length_map]
  simp only [Function.comp_def]
  omega
theorem pc_le (r : Nat) : pc r ≤ 12 := by
  unfold pc
  exact Nat.le_trans (List.length_filter_le _ _) (by simp)
def cntTo (f : List Nat) : Nat → Nat
  | 0 => 0
  | y + 1 => cntTo f y + pc (ro f y)
theorem cntTo_le (f : List Nat) (y : Nat) : cntTo f y ≤ 12 * y := by
  induction y with
  | zero => simp [cntTo]
  | succ y ih => have := pc_le (ro f y); simp only [cntTo]; omega
theorem dotsTo_row (f : List Nat) {y : Nat} (hy : y < 12) : (dotsTo f (12 * (y + 1))).length = (dotsTo f (12 * y)).length + pc (ro f y) := by
  unfold dotsTo pc
  rw [show 12 * (y + 1) = 12 * y + 12 by omega, List.range_add, List.filter_append, List.map_append, List.length_append, List.length_map, List.length_map, List.filter_map, List.length_map]
  congr 2
  apply List.filter_congr
  intro x hx
  have hx : x < 12 := List.mem_range.1 hx
  simp only [Function.comp]
  rw [show (12 * y + x) % 12 = x by omega, show (12 * y + x) / 12 = y by omega, hasD_in f hx hy]
theorem dots_cnt (f : List Nat) : ∀ y, y ≤ 12 → (dotsTo f (12 * y)).length = cntTo f y
  | 0, _ => rfl
  | y + 1, h => by rw [dotsTo_row f (by omega), dots_cnt f y (by omega)]; rfl
theorem dots_cnt12 (f : List Nat) : (dots f).length = cntTo f 12 := dots_cnt f 12 (Nat.le_refl _)

section
variable {P : Program} {ops : Array Oper} {rest : List Oper} {o : Oper} {a : Act} {Q : Act → Prop} {C : World → Prop}
theorem wpq_pop (hgd : o.guard = none) (T : TypeId) (x ix : Operand) (ho : o.op = .index T x ix) (hx : a.eval x = .string Lib.pop8tab) (k : IntKind) (i : Int) (hi : a.eval ix = .int k i) (hu : P.underlying T = some .string) (h0 : 0 ≤ i) (h1 : i ≤ 255)
    (h : wpQuiet P ops C Q rest (a.put o.dst (.int .u8 (Lib.pop8 i)))) : wpQuiet P ops C Q (o :: rest) a :=
  wpq_val hgd _ (fun w' _ => by
    unfold execOp
    simp only [ho, hx, hi, Sem.run_bind, Sem.run_pure, Result.andThen_ok, Lib.run_index_pop8tab w' T k i hu h0 h1]) h
theorem qgate_index {T : TypeId} {x i : Operand} (_ho : o.op = .index T x i) (h : wpQuiet P ops C Q (o :: rest) a) : wpQuiet P ops C Q (o :: rest) a := h
theorem qgate_assign {x : Operand} (_ho : o.op = .assign x) (h : wpQuiet P ops C Q (o :: rest) a) : wpQuiet P ops C Q (o :: rest) a := h
theorem wpq_assign (hgd : o.guard = none) (x : Operand) (ho : o.op = .assign x) (v : Value) (hv : a.eval x = v) (h : wpQuiet P ops C Q rest (a.put o.dst v)) : wpQuiet P ops C Q (o :: rest) a :=
  wpq_val hgd v (fun w' _ => by unfold execOp; simp only [ho, hv]; rfl) h
theorem wpq_extract (hgd : o.guard = none) (x : Operand) (k : Nat) (ho : o.op = .extract x k) (v : Value) (hv : ∀ w, (execOp a.eval o).run P w = .ok (.value v) w) (h : wpQuiet P ops C Q rest (a.put o.dst v)) : wpQuiet P ops C Q (o :: rest) a :=
  wpq_val hgd v (fun w' _ => hv w') h
theorem run_shr8 {T : TypeId} {r : Nat} (hr : r < 65536) (w : World) : (binOp .shr T (.int .u16 r) (.int .u64 8)).run P w = .ok (.int .u16 ((r / 256 : Nat) : Int)) w := by
  go_simp
theorem pop8_le : ((List.range 256).all fun r => decide (0 ≤ Lib.pop8 ((r : Nat) : Int) ∧ Lib.pop8 ((r : Nat) : Int) ≤ 8)) = true := by decide +kernel
theorem run_addu8 {T : TypeId} {a b : Nat} (ha : a < 256) (hb : b < 256) (w : World) : (binOp .add T (.int .u8 (Lib.pop8 a)) (.int .u8 (Lib.pop8 b))).run P w = .ok (.int .u8 (Lib.pop8 a + Lib.pop8 b)) w := by
  have h1 := List.all_eq_true.1 pop8_le a (List.mem_range.2 ha)
  have h2 := List.all_eq_true.1 pop8_le b (List.mem_range.2 hb)
  simp only [decide_eq_true_eq] at h1 h2
  have e : IntKind.u8.wrap (Lib.pop8 a + Lib.pop8 b) = Lib.pop8 a + Lib.pop8 b := by
    simp [IntKind.wrap, IntKind.bits, IntKind.signed]; omega
  go_simp
end
/-- How many dots f has, if it is valid. -/
def cntR (f : List Nat) : Int := if okB f = true then ((dots f).length : Int) else 0
end Go.Proofs.YtlljflmbnbjccaaGreatDoor
/- The texts of frames: the reference and the program, the library's Builder by the shelf's contracts; no condition. -/
namespace Go.Proofs.YtlljflmbnbjccaaGreatDoor
open Go.RowKit
set_option linter.unusedSimpArgs false
set_option linter.unusedVariables false
def chB (b : Bool) : UInt8 := if b = true then 35 else 46
def rowT (f : List Nat) (y : Nat) : List UInt8 := ((List.range 12).map fun (x : Nat) => chB (hasI f x y)) ++ [10]
/-- The first y rows, and x places of the next one. -/
def ttx (f : List Nat) (y x : Nat) : List UInt8 := ((List.range y).flatMap (rowT f)) ++ (List.range x).map fun (k : Nat) => chB (hasI f k y)
def txt (f : List Nat) : List UInt8 := (List.range 12).flatMap (rowT f)
theorem ttx_zero (f : List Nat) : ttx f 0 0 = [] := rfl
theorem ttx_x (f : List Nat) (y x : Nat) : ttx f y x ++ [chB (hasI f x y)] = ttx f y (x + 1) := by simp [ttx, List.range_succ]
theorem ttx_y (f : List Nat) (y : Nat) : ttx f y 12 ++ [10] = ttx f (y + 1) 0 := by simp [ttx, List.range_succ (n := y), rowT]
theorem ttx_all (f : List Nat) : ttx f 12 0 = txt f := by simp [ttx, txt]
theorem rowT_length (f : List Nat) (y : Nat) : (rowT f y).length = 13 := by simp [rowT]
theorem flat_length (f : List Nat) (y : Nat) : ((List.range y).flatMap (rowT f)).length = y * 13 := by
  induction y with
  | zero => rfl
  | succ y ih => rw [List.range_succ, List.flatMap_append, List.length_append, ih]; simp [rowT_length]; omega
theorem ttx_length (f : List Nat) (y x : Nat) : (ttx f y x).length = y * 13 + x := by unfold ttx; rw [List.length_append, flat_length]; simp
theorem txt_length (f : List Nat) : (txt f).length = 156 := by unfold txt; rw [flat_length]

section
variable {P : Program} {ops : Array Oper} {rest : List Oper} {o : Oper} {a : Act} {w w0 : World} {Q : Exit → Act → World → Prop} {M : List Nat} {L : List (Nat × List Value × TypeId)}
theorem gate_add {T U : TypeId} {x y : Operand} (_ho : o.op = .binOp .add T x y U) (h : wpList P ops Q (o :: rest) a w) : wpList P ops Q (o :: rest) a w := h
/-- A string made of two. -/
theorem la_sadd {T U : TypeId} {x y : Operand} {l m : List UInt8} (hgd : o.guard = none) (ho : o.op = .binOp .add T x y U) (hx : a.eval x = .string ⟨l.toArray⟩) (hy : a.eval y = .string ⟨m.toArray⟩) (hl : l.length + m.length ≤ 9223372036854775807)
    (h : wpList P ops Q rest (a.put o.dst (.string ⟨(l ++ m).toArray⟩)) w) : wpList P ops Q (o :: rest) a w := by
  refine wpl_val hgd _ ?_ h
  have hr := run_string_add_sum (P := P) w ⟨l.toArray⟩ ⟨m.toArray⟩ (by simpa [ByteArray.size] using hl)
  rw [ByteArray.mk_append_mk] at hr
  unfold execOp
  simp [ho, hx, hy, eqGuard, binOp_string_add, hr]
/-- A new block, its number told. -/
theorem ia_allocZ {sl n : Nat} {T : TypeId} {zs : List Value} (st : St M w0 w L) (_hN : o.dst = some sl) (hgd : o.guard = none) (ho : o.op = .alloc T) [hT : AggC P T n zs]
    (h : ∀ wA w1, St M w0 wA L → Keep [] wA w1 → wA.heap.size < w1.heap.size → Blk w1 wA.heap.size zs T → wpList P ops Q rest (a.put o.dst (.pointer (some ⟨wA.heap.size, 0, none⟩))) w1) : wpList P ops Q (o :: rest) a w := by
  obtain ⟨i, hi, hs, hz⟩ := hT.out.i
  refine wpList_plain hgd fun K hK => ?_
  unfold Oper.wp execOp
  simp only [ho, Instr.alloc, zeroValue, typeInfo, hi, hz, newVar, newRow, Value.cells, Sem.run_bind, Sem.run_pure, run_program, run_newObj, Result.andThen_ok, World.alloc_eq]
  exact hK _ _ (h w _ st (Keep.alloc w _) (by simp) (Blk.alloc w zs T))
end
instance : AggC Tryz.prog 95 2 [.pointer none, .slice none 0 0] := ⟨aggT_of Tryz.underlying95 rfl (by kernel_rfl)⟩
theorem shX : Builder.Extra Tryz.prog shR := {
  sizeBuilder := by kernel_rfl
  liesBuilder := by kernel_rfl
  t5 := Tryz.underlying5
  a5 := Tryz.isAgg5
  z5 := Tryz.sizeOf5
  v5 := Tryz.zeroValue5
  infoByte := by kernel_rfl
  cellsByte := by kernel_rfl
  sizeByte := by kernel_rfl
  neB5 := by decide }
/-- A builder that the call has made since wA, its bytes l. -/
def Bw (wA : World) (l : List UInt8) (w : World) : Prop := Lib.IsBuilderF 95 5 wA.heap.size wA.heap.size (Lib.byteCells l) w ∧ Below wA.heap.size wA w ∧ wA.heap.size ≤ w.heap.size
theorem Bw.keep {wA w : World} {l : List UInt8} (h : Bw wA l w) : Keep [] wA w := Keep.of_below h.2.1
theorem Bw.call {wA w w' : World} {l : List UInt8} (h : Bw wA l w) (hk : Keep [] w w') : Bw wA l w' := by
  have hb := hk.below
  refine ⟨?_, h.2.1.trans (hb.mono h.2.2), Nat.le_trans h.2.2 hk.size⟩
  have at_ : ∀ p, Lib.BuilderAtF 95 5 wA.heap.size wA.heap.size p (Lib.byteCells l) w → Lib.BuilderAtF 95 5 wA.heap.size wA.heap.size p (Lib.byteCells l) w' := by
    intro p h1
    have hlt := h1.lt
    obtain ⟨hB, v, hv, hown, hne⟩ := h1
    exact ⟨hB, v, (hb.block _ hlt).trans hv, hown.kept (row := none) ⟨hb.os, hb.tape, hb.output, hb.size, fun k hk _ => hb.block k hk⟩ (Classical.em _), hne⟩
  exact h.1.elim (fun x => .inl (at_ _ x)) (fun x => .inr (at_ _ x))
theorem Bw.start {wA w1 : World} (hk : Keep [] wA w1) (hlt : wA.heap.size < w1.heap.size) (hb : Blk w1 wA.heap.size [.pointer none, .slice none 0 0] 95) : Bw wA [] w1 :=
  ⟨Lib.IsBuilderF.of (Or.inl ⟨Nat.le_refl _, .slice none 0 0, hb, World.ownsRow_nil _ _ _ _, by simp [Value.ownBlock]⟩), hk.below, by omega⟩
theorem string_b {wA w : World} {l : List UInt8} (h : Bw wA l w) :
    Calls Tryz.prog 61 #[.pointer (some ⟨wA.heap.size, 0, none⟩)] w fun e w' => e = .returned (.string ⟨l.toArray⟩) ∧ Keep [] wA w' := by
  refine (Any.Builder_String_any_k sh169 shX wA.heap.size wA.heap.size l w h.1 h.2.2).mono ?_
  rintro e w' ⟨he, _, h2, _⟩
  exact ⟨he, Keep.of_below (h.2.1.trans h2)⟩
/-- The text of the first k pages. -/
def btx (B : List Fm) : Nat → List UInt8
  | 0 => []
  | k + 1 => (if 0 < k then btx B k ++ [10] else btx B k) ++ txt (B.getD k fz).1
theorem btx_length (B : List Fm) : ∀ k, (btx B k).length ≤ k * 157
  | 0 => by simp [btx]
  | k + 1 => by
    have := btx_length B k
    unfold btx
    rw [List.length_append, txt_length]
    split <;> (try rw [List.length_append]) <;> simp <;> omega
theorem btx_one (B : List Fm) : btx B 1 = txt (B.getD 0 fz).1 := by simp [btx]
theorem btx_more (B : List Fm) {k : Nat} (hk : 0 < k) : btx B (k + 1) = (btx B k ++ [10]) ++ txt (B.getD k fz).1 := by rw [btx, if_pos hk]
theorem btx_join (B : List Fm) : ∀ k, k ≤ B.length → Lib.join ((B.take k).map fun b => txt b.1) [10] = btx B k := by
  intro k
  induction k with
  | zero => intro _; simp [Lib.join, btx]
  | succ k ih =>
    intro hk
    have hkl : k < B.length := by omega
    rw [List.take_succ_eq_append_getElem hkl, List.map_append, List.map_singleton]
    have snoc : ∀ (l : List (List UInt8)) (x : List UInt8), l ≠ [] → Lib.join (l ++ [x]) [10] = (Lib.join l [10] ++ [10]) ++ x := by
      intro l x
      intro h
      cases l with
      | nil => exact absurd rfl h
      | cons a r => rw [List.cons_append, Lib.join_cons, Lib.join_cons]; simp [Lib.joinTail]
    have hg : B[k] = B.getD k fz := by rw [List.getD_eq_getElem?_getD, List.getElem?_eq_getElem hkl]; rfl
    rcases Nat.eq_zero_or_pos k with h0 | hpos
    · subst h0
      simp [Lib.join, btx, hg]
    · rw [snoc _ _ (by intro e; have h1 := congrArg List.length e; rw [List.length_map, List.length_take, List.length_nil] at h1; omega), ih (by omega), btx_more B hpos, hg]
def btxt (B : List Fm) : List UInt8 := btx B B.length
/-- A string. -/
def sv (l : List UInt8) : List Value := [.string ⟨l.toArray⟩]
@[simp] theorem sv_len (l : List UInt8) : (sv l).length = 1 := rfl
theorem sv_one (l : List UInt8) : ∀ v ∈ sv l, v.oneCell' = true := by simp [sv, Value.oneCell']
@[simp] theorem encs_sv_length (l : List (List UInt8)) : (encs sv l).length = l.length := by rw [encs_length sv_len, Nat.mul_one]
theorem join_b (R : List (List UInt8)) (n : Nat) (hR : R.length = n) (hn : n ≤ 2000000) (sep : List UInt8) (hlen : (Lib.join R sep).length ≤ 140737488355328) (g c : Nat) (hc : n ≤ c) (w : World) (cs : List Value) (T : TypeId) (hb : Blk w g (encs sv R ++ cs) T) :
    Calls Tryz.prog 35 #[.slice (some ⟨g, 0, none⟩) n c, .string ⟨sep.toArray⟩] w fun e w' => e = .returned (.string ⟨(Lib.join R sep).toArray⟩) ∧ Keep [] w w' := by
  subst hR
  have hm : (R.map fun l => (⟨l.toArray⟩ : ByteArray)).map (fun x => x.data.toList) = R := by rw [List.map_map]; simp [Function.comp_def]
  have hl : (R.map fun l => (⟨l.toArray⟩ : ByteArray)).length = R.length := by simp
  have h := Any.strings_Join sh156 shX g 0 c (R.map fun l => (⟨l.toArray⟩ : ByteArray)) ⟨sep.toArray⟩ w (fun j x hj => by
    rw [List.getElem?_map] at hj
    obtain ⟨l, hl, rfl⟩ := Option.map_eq_some_iff.1 hj
    obtain ⟨hjl, e⟩ := List.getElem?_eq_some_iff.1 hl
    have := encs_getA sv_len R cs j hjl 0 (by omega)
    rw [Nat.mul_one, Nat.add_zero, e] at this
    rw [Nat.zero_add]
    exact hb.cellv this) hb.lt (by rw [hl]; omega) (by rw [hl]; exact hc) (by rw [hm]; exact hlen)
  rw [hl, hm] at h
  exact h.mono fun e w' ⟨h1, h2⟩ => ⟨h1, Keep.of_below h2⟩
def bkT (B : List Fm) : List UInt8 := if bkB B = true then btxt B else []
def tks (B : List Fm) (k : Nat) : List (List UInt8) := (B.take k).map fun b => txt b.1
theorem tks_length {B : List Fm} {k n : Nat} (hB : B.length = n) (hk : k ≤ n) : (tks B k).length = k := by unfold tks; rw [List.length_map, List.length_take]; omega
theorem tks_step {B : List Fm} {k : Nat} (hk : k < B.length) : tks B k ++ [txt B[k].1] = tks B (k + 1) := by unfold tks; rw [List.take_succ_eq_append_getElem hk, List.map_append]; rfl
end Go.Proofs.YtlljflmbnbjccaaGreatDoor
/- The decimal texts of small numbers: the reference's, the program's; no condition. -/
namespace Go.Proofs.YtlljflmbnbjccaaGreatDoor
open Go.RowKit
set_option linter.unusedSimpArgs false
set_option linter.unusedVariables false
/-- The decimal text of a number below a hundred. -/
def dec (n : Nat) : List UInt8 := if n < 10 then [UInt8.ofNat (48 + n)] else [UInt8.ofNat (48 + n / 10), UInt8.ofNat (48 + n % 10)]
theorem dec_len (n : Nat) : (dec n).length ≤ 2 := by unfold dec; split <;> simp
def by1 (n : Int) : List Value := [.int .u8 n]
instance : IntC Tryz.prog 5 .u8 := ⟨Tryz.underlying5⟩
instance : SlcC Tryz.prog 22 5 1 1 [.int .u8 0] := ⟨slcT_of Tryz.underlying22 (.int .u8 0) (by kernel_rfl) rfl (by decide) rfl⟩
/-- One byte made a string. -/
theorem convert1 {w : World} {b : Nat} {c : UInt8} {T : TypeId} (h : Blk w b [.int .u8 (c.toNat : Nat)] T) : (convert 22 9 (.slice (some ⟨b, 0, none⟩) 1 1)).run Tryz.prog w = .ok (.string ⟨[c].toArray⟩) w := by
  have hc : Lib.Bytes w b 0 ⟨[c].toArray⟩ := fun i hi => by
    have h0 : i = 0 := by have : i < 1 := hi; omega
    subst h0
    exact h.cellv rfl
  exact Lib.run_convert_whole w 22 5 9 Tryz.underlying22 Tryz.underlying5 Tryz.underlying9 b 0 ⟨[c].toArray⟩ hc 1
theorem u8_in {n : Int} (h1 : 0 ≤ n) (h2 : n < 256) : IntKind.wrap .u8 n = n := by
  show n % 256 = n
  omega
theorem run_rem64 {P : Program} {T : TypeId} {n d r : Int} (hd : d ≠ 0) (h : n.tmod d = r) (h1 : -9223372036854775808 ≤ r) (h2 : r ≤ 9223372036854775807) (w : World) : (binOp .rem T (.int .i64 n) (.int .i64 d)).run P w = .ok (.int .i64 r) w := by
  subst h
  have e := IntWalk.i64_in _ ⟨h1, h2⟩
  go_simp
theorem run_quo64 {P : Program} {T : TypeId} {n d r : Int} (hd : d ≠ 0) (h : n.tdiv d = r) (h1 : -9223372036854775808 ≤ r) (h2 : r ≤ 9223372036854775807) (w : World) : (binOp .quo T (.int .i64 n) (.int .i64 d)).run P w = .ok (.int .i64 r) w := by
  subst h
  have e := IntWalk.i64_in _ ⟨h1, h2⟩
  go_simp
section
variable {ops : Array Oper} {rest : List Oper} {o : Oper} {a : Act} {w w0 : World} {Q : Exit → Act → World → Prop} {M : List Nat} {L : List (Nat × List Value × TypeId)}
theorem gate_cnv {S D : TypeId} {x : Operand} {P : Program} (_ho : o.op = .convert S D x) (h : wpList P ops Q (o :: rest) a w) : wpList P ops Q (o :: rest) a w := h
theorem ia_cnv1 {x : Operand} {b : Nat} {c : UInt8} {T : TypeId} (hb : Blk w b [.int .u8 (c.toNat : Nat)] T) (hgd : o.guard = none) (ho : o.op = .convert 22 9 x) (hx : a.eval x = .slice (some ⟨b, 0, none⟩) 1 1)
    (h : wpList Tryz.prog ops Q rest (a.put o.dst (.string ⟨[c].toArray⟩)) w) : wpList Tryz.prog ops Q (o :: rest) a w :=
  wpl_val hgd _ (by
    have hr := convert1 hb
    unfold execOp
    simp only [ho, hx, Sem.run_bind, Sem.run_pure, Result.andThen_ok, hr]) h
end
theorem decDigits_dec {n : Nat} (hn : n < 100) : Lib.decDigits n = dec n := by
  unfold dec
  split
  · rename_i h; exact Lib.decDigits_one h
  · rename_i h; exact Lib.decDigits_two h hn
theorem FormatInt_c (n : Nat) (hn : n < 100) (w : World) : Calls Tryz.prog 58 #[.int .i64 n, .int .i64 10] w fun e w' => e = .returned (.string ⟨(dec n).toArray⟩) ∧ Keep [] w w' := by
  rw [← decDigits_dec hn]
  exact (Any.strconv_FormatInt_10_small sh173 n hn w).mono fun e w' ⟨h1, h2⟩ => ⟨h1, by rw [h2]; exact Keep.refl [] w⟩
theorem decimal_c (n : Nat) (hn : n < 100) (w : World) : Calls Tryz.prog 34 #[.int .i64 n] w fun e w' => e = .returned (.string ⟨(dec n).toArray⟩) ∧ Keep [] w w' := by
  have st := St.start w
  have HF := hid (FormatInt_c n hn)
  obtain ⟨D, hD⟩ : ∃ D, dec n = D := ⟨_, rfl⟩
  rw [hD] at HF ⊢
  clear hD
  go_enter Tryz.func34, Tryz.ntmps34
  go_wp2_with (first | (go_at_call 58; refine (HF.out _).mono ?_; rintro _ _ ⟨rfl, hk⟩; replace st := st.call hk; clear hk))
  go_ret
  exact ⟨rfl, st.keep⟩
end Go.Proofs.YtlljflmbnbjccaaGreatDoor
/- Texts cut at a letter: plain mathematics; no condition. -/
namespace Go.Proofs.YtlljflmbnbjccaaGreatDoor
open Go.RowKit
set_option linter.unusedSimpArgs false
set_option linter.unusedVariables false
def consH (b : UInt8) : List (List UInt8) → List (List UInt8)
  | [] => [[b]]
  | x :: r => (b :: x) :: r
/-- A text cut at each letter c. -/
def wds (c : UInt8) : List UInt8 → List (List UInt8)
  | [] => [[]]
  | b :: l => if b = c then [] :: wds c l else consH b (wds c l)
theorem wds_ne (c : UInt8) (l : List UInt8) : wds c l ≠ [] := by
  cases l with
  | nil => simp [wds]
  | cons b l =>
    unfold wds
    split
    · simp
    · cases wds c l <;> simp [consH]
theorem index_one (b c : UInt8) (l : List UInt8) : Lib.index (b :: l) [c] = if b = c then 0 else if Lib.index l [c] == -1 then -1 else Lib.index l [c] + 1 := by
  rw [Lib.index]
  by_cases h : b = c
  · subst h; simp [List.isPrefixOf]
  · have h2 : (c == b) = false := by rw [beq_eq_false_iff_ne]; exact fun e => h e.symm
    simp [List.isPrefixOf, h2, h]
theorem split_wds (c : UInt8) : ∀ l, Lib.splitK [c] 0 (Lib.count l [c]) l = wds c l
  | [] => by
    have : Lib.count [] [c] = 0 := by rw [Lib.count_one]; rfl
    rw [this]; rfl
  | b :: l => by
    have ih := split_wds c l
    unfold wds
    by_cases h : b = c
    · subst h
      rw [if_pos rfl, Lib.count_cons_eq, Nat.add_comm, Lib.splitK, index_one, if_pos rfl, if_neg (by decide), ← ih]
      simp
    · rw [if_neg h, Lib.count_cons_ne _ _ _ h, ← ih]
      cases hk : Lib.count l [c] with
      | zero => rfl
      | succ k =>
        rw [Lib.splitK, Lib.splitK, index_one, if_neg h]
        by_cases hi : (Lib.index l [c] == -1) = true
        · rw [if_pos hi, if_pos hi]; rfl
        · rw [if_neg hi, if_neg hi]
          have hge := Lib.index_ge l [c]
          have hne : Lib.index l [c] ≠ -1 := fun e => hi (by rw [e]; rfl)
          obtain ⟨i, e⟩ := Int.eq_ofNat_of_zero_le (show 0 ≤ Lib.index l [c] by omega)
          rw [e, if_neg (by intro e2; have := beq_iff_eq.1 e2; omega)]
          have e3 : ((i : Int) + 1).toNat = i + 1 := by omega
          rw [e3]
          simp [consH]
/-- Cut at the first. -/
theorem cut_wds (c : UInt8) : ∀ l, (∃ p q, Lib.cut l [c] = (p, q, true) ∧ wds c l = p :: wds c q ∧ l = p ++ c :: q ∧ c ∉ p) ∨ (Lib.cut l [c] = (l, [], false) ∧ wds c l = [l] ∧ c ∉ l)
  | [] => Or.inr ⟨rfl, rfl, by simp⟩
  | b :: l => by
    by_cases h : b = c
    · subst h
      refine Or.inl ⟨[], l, ?_, ?_, rfl, by simp⟩
      · unfold Lib.cut; rw [index_one, if_pos rfl]; simp
      · rw [wds, if_pos rfl]
    · rcases cut_wds c l with ⟨p, q, h1, h2, h3, h4⟩ | ⟨h1, h2, h3⟩
      · refine Or.inl ⟨b :: p, q, ?_, ?_, by rw [h3]; rfl, by simp [h4]; exact fun e => h e.symm⟩
        · unfold Lib.cut at h1 ⊢
          have hge := Lib.index_ge l [c]
          by_cases h0 : 0 ≤ Lib.index l [c]
          · rw [if_pos h0] at h1
            obtain ⟨i, e⟩ := Int.eq_ofNat_of_zero_le h0
            have e1 : Lib.index (b :: l) [c] = (i : Int) + 1 := by rw [index_one, if_neg h, e]; exact if_neg (by intro e2; have := beq_iff_eq.1 e2; omega)
            rw [e1, if_pos (by omega)]
            rw [e] at h1
            have e3 : ((i : Int) + 1).toNat = i + 1 := by omega
            rw [e3]
            simp only [Prod.mk.injEq] at h1 ⊢
            rw [← h1.1, ← h1.2.1]
            simp [Nat.add_right_comm]
          · rw [if_neg h0] at h1; simp at h1
        · rw [wds, if_neg h, h2]; rfl
      · refine Or.inr ⟨?_, by rw [wds, if_neg h, h2]; rfl, by simp [h3]; exact fun e => h e.symm⟩
        unfold Lib.cut at h1 ⊢
        have hge := Lib.index_ge l [c]
        by_cases h0 : 0 ≤ Lib.index l [c]
        · rw [if_pos h0] at h1; simp at h1
        · have e : Lib.index l [c] = -1 := by omega
          rw [index_one, if_neg h, e]; rfl
/-- Where the piece begins in which letter i stands; the pieces that have ended below letter i. -/
def pcB (c : UInt8) (l : List UInt8) : Nat → Nat
  | 0 => 0
  | i + 1 => if l.getD i 0 = c then i + 1 else pcB c l i
def pcL (c : UInt8) (l : List UInt8) : Nat → List (List UInt8)
  | 0 => []
  | i + 1 => if l.getD i 0 = c then pcL c l i ++ [(l.drop (pcB c l i)).take (i - pcB c l i)] else pcL c l i
theorem pcB_le (c : UInt8) (l : List UInt8) : ∀ i, pcB c l i ≤ i
  | 0 => Nat.le_refl _
  | i + 1 => by have := pcB_le c l i; unfold pcB; split <;> omega
theorem pcL_le (c : UInt8) (l : List UInt8) : ∀ i, (pcL c l i).length ≤ i
  | 0 => Nat.le_refl _
  | i + 1 => by
    have := pcL_le c l i
    unfold pcL
    split
    · rw [List.length_append, List.length_singleton]; omega
    · omega
def consP (x : List UInt8) : List (List UInt8) → List (List UInt8)
  | [] => [x]
  | y :: r => (x ++ y) :: r
theorem pc_inv (c : UInt8) (l : List UInt8) : ∀ k, k ≤ l.length → wds c l = pcL c l k ++ consP ((l.drop (pcB c l k)).take (k - pcB c l k)) (wds c (l.drop k))
  | 0, _ => by
    simp only [pcL, pcB, List.nil_append, List.drop_zero, Nat.sub_self, List.take_zero]
    cases h : wds c l with
    | nil => exact absurd h (wds_ne c l)
    | cons y r => rfl
  | k + 1, hk => by
    have ih := pc_inv c l k (by omega)
    have hb := pcB_le c l k
    have e0 : l.drop k = l[k] :: l.drop (k + 1) := (List.drop_eq_getElem_cons (by omega))
    have eg : l.getD k 0 = l[k] := by rw [List.getD_eq_getElem?_getD, List.getElem?_eq_getElem (by omega)]; rfl
    rw [e0] at ih
    rw [show wds c (l[k] :: l.drop (k + 1)) = if l[k] = c then [] :: wds c (l.drop (k + 1)) else consH l[k] (wds c (l.drop (k + 1))) from rfl] at ih
    rw [show pcL c l (k + 1) = if l.getD k 0 = c then pcL c l k ++ [(l.drop (pcB c l k)).take (k - pcB c l k)] else pcL c l k from rfl, show pcB c l (k + 1) = if l.getD k 0 = c then k + 1 else pcB c l k from rfl]
    rw [eg]
    by_cases h : l[k] = c
    · rw [if_pos h] at ih
      rw [if_pos h, if_pos h, ih]
      rw [Nat.sub_self, List.take_zero]
      cases hw : wds c (l.drop (k + 1)) with
      | nil => exact absurd hw (wds_ne c _)
      | cons y r => simp [consP]
    · rw [if_neg h] at ih
      rw [if_neg h, if_neg h, ih]
      have e2 : (l.drop (pcB c l k)).take (k + 1 - pcB c l k) = (l.drop (pcB c l k)).take (k - pcB c l k) ++ [l[k]] := by
        rw [show k + 1 - pcB c l k = (k - pcB c l k) + 1 by omega, List.take_succ_eq_append_getElem (by rw [List.length_drop]; omega), List.getElem_drop]
        simp only [show pcB c l k + (k - pcB c l k) = k by omega]
      rw [e2]
      cases hw : wds c (l.drop (k + 1)) with
      | nil => exact absurd hw (wds_ne c _)
      | cons y r => simp [consP, consH]
theorem pc_wds (c : UInt8) (l : List UInt8) : pcL c l l.length ++ [l.drop (pcB c l l.length)] = wds c l := by
  have hb := pcB_le c l l.length
  rw [pc_inv c l l.length (Nat.le_refl _), List.drop_length]
  have e : (l.drop (pcB c l l.length)).take (l.length - pcB c l l.length) = l.drop (pcB c l l.length) := List.take_of_length_le (by rw [List.length_drop]; omega)
  rw [e]
  simp [wds, consP]
theorem pcL_step {c : UInt8} {l : List UInt8} {k : Nat} (h : l.getD k 0 = c) : pcB c l (k + 1) = k + 1 ∧ pcL c l (k + 1) = pcL c l k ++ [(l.drop (pcB c l k)).take (k - pcB c l k)] := by
  rw [pcB, pcL, if_pos h, if_pos h]; exact ⟨rfl, rfl⟩
theorem pcL_stay {c : UInt8} {l : List UInt8} {k : Nat} (h : l.getD k 0 ≠ c) : pcB c l (k + 1) = pcB c l k ∧ pcL c l (k + 1) = pcL c l k := by
  rw [pcB, pcL, if_neg h, if_neg h]; exact ⟨rfl, rfl⟩
theorem wds_len (c : UInt8) : ∀ l, (wds c l).length ≤ l.length + 1
  | [] => by simp [wds]
  | b :: l => by
    have := wds_len c l
    unfold wds
    split
    · simp; omega
    · cases hw : wds c l with
      | nil => simp [consH]
      | cons x r => rw [hw] at this; simp [consH] at this ⊢; omega
theorem wds_el (c : UInt8) : ∀ l, ∀ x ∈ wds c l, x.length ≤ l.length
  | [] => by simp [wds]
  | b :: l => by
    have ih := wds_el c l
    unfold wds
    split
    · intro x hx
      rcases List.mem_cons.1 hx with rfl | hx
      · simp
      · have := ih x hx; simp; omega
    · cases hw : wds c l with
      | nil => exact absurd hw (wds_ne c l)
      | cons y r =>
        rw [hw] at ih
        intro x hx
        simp only [consH] at hx
        rcases List.mem_cons.1 hx with rfl | hx
        · have := ih y (by simp); simp; omega
        · have := ih x (by simp [hx]); simp; omega
end Go.Proofs.YtlljflmbnbjccaaGreatDoor
/- Texts cut at a letter, numbers below a hundred, words of sheets: plain mathematics; no condition. -/
namespace Go.Proofs.YtlljflmbnbjccaaGreatDoor
open Go.RowKit
set_option linter.unusedSimpArgs false
set_option linter.unusedVariables false
/-! Numbers below a hundred. -/
def und (s : List UInt8) : Option Nat := (List.range 100).find? fun n => decide (dec n = s)
theorem und_dec {n : Nat} (h : n < 100) : und (dec n) = some n := by
  have : ∀ n ∈ List.range 100, und (dec n) = some n := by decide +kernel
  exact this n (List.mem_range.2 h)
theorem und_some {s : List UInt8} {n : Nat} (h : und s = some n) : n < 100 ∧ s = dec n := by
  unfold und at h
  have h1 := List.mem_of_find?_eq_some h
  have h2 := List.find?_some h
  simp at h1 h2
  exact ⟨h1, h2.symm⟩
theorem und_none {s : List UInt8} (h : und s = none) : ∀ n, n < 100 → s ≠ dec n := by
  intro n hn e
  rw [e, und_dec hn] at h
  cases h
theorem dec_no {n : Nat} (h : n < 100) : (120 : UInt8) ∉ dec n := by
  have : ∀ n ∈ List.range 100, (120 : UInt8) ∉ dec n := by decide +kernel
  exact this n (List.mem_range.2 h)
/-- The number that a text of digits spells. -/
def numv (a : Nat) (l : List UInt8) : Nat := l.foldl (fun a c => 10 * a + (c.toNat - 48)) a
theorem numv_nil (a : Nat) : numv a [] = a := rfl
theorem numv_cons (a : Nat) (c : UInt8) (l : List UInt8) : numv a (c :: l) = numv (10 * a + (c.toNat - 48)) l := by unfold numv; rw [List.foldl_cons]
def dig (c : UInt8) : Bool := decide (48 ≤ c.toNat ∧ c.toNat ≤ 57)
theorem numv_ge : ∀ (l : List UInt8) (a : Nat), a * 10 ^ l.length ≤ numv a l
  | [], a => by simp [numv_nil, numv_cons]
  | c :: l, a => by
    have := numv_ge l (10 * a + (c.toNat - 48))
    rw [numv_cons, List.length_cons, Nat.pow_succ]
    refine Nat.le_trans ?_ this
    rw [← Nat.mul_assoc, Nat.mul_right_comm]
    exact Nat.mul_le_mul_right _ (by omega)
theorem numv_lt : ∀ (l : List UInt8) (a : Nat), (∀ c ∈ l, dig c = true) → numv a l < (a + 1) * 10 ^ l.length
  | [], a, _ => by simp [numv_nil, numv_cons]
  | c :: l, a, h => by
    have := numv_lt l (10 * a + (c.toNat - 48)) (fun x hx => h x (List.mem_cons_of_mem _ hx))
    have hc := h c List.mem_cons_self
    unfold dig at hc
    simp at hc
    rw [numv_cons, List.length_cons, Nat.pow_succ]
    refine Nat.lt_of_lt_of_le this ?_
    rw [Nat.mul_comm (10 ^ l.length) 10, ← Nat.mul_assoc]
    exact Nat.mul_le_mul_right _ (by omega)
/-- A number's text, as the reference reads one. -/
def numok (s : List UInt8) : Bool := !(decide (s = []) || decide (10 < s.length) || (decide (s.getD 0 0 = 48) && decide (1 < s.length))) && s.all dig
theorem num_und {s : List UInt8} (h : numok s = true) : (numv 0 s < 100 → s = dec (numv 0 s)) ∧ numv 0 s < 100000000000 := by
  unfold numok at h
  simp at h
  obtain ⟨⟨⟨h1, h2⟩, h3⟩, h4⟩ := h
  constructor
  · intro hv
    match s, h1, h2, h3, h4 with
    | [c], _, _, _, h4 =>
      have hc := h4 c (by simp)
      unfold dig at hc
      simp at hc
      have e : numv 0 [c] = c.toNat - 48 := by simp [numv_nil, numv_cons]
      rw [e]
      have hlt : c.toNat - 48 < 10 := by omega
      unfold dec
      rw [if_pos hlt]
      congr 1
      apply UInt8.toNat_inj.1
      rw [UInt8.toNat_ofNat']
      omega
    | [c, d], _, _, h3, h4 =>
      have hc := h4 c (by simp)
      have hd := h4 d (by simp)
      unfold dig at hc hd
      simp at hc hd h3
      have hc0 : c.toNat ≠ 48 := fun e => h3 (UInt8.toNat_inj.1 e)
      have e : numv 0 [c, d] = 10 * (c.toNat - 48) + (d.toNat - 48) := by simp [numv_nil, numv_cons]
      rw [e]
      unfold dec
      rw [if_neg (by omega)]
      have e1 : UInt8.ofNat (48 + (10 * (c.toNat - 48) + (d.toNat - 48)) / 10) = c := by
        apply UInt8.toNat_inj.1
        rw [UInt8.toNat_ofNat']
        omega
      have e2 : UInt8.ofNat (48 + (10 * (c.toNat - 48) + (d.toNat - 48)) % 10) = d := by
        apply UInt8.toNat_inj.1
        rw [UInt8.toNat_ofNat']
        omega
      rw [e1, e2]
    | c :: d :: f :: r, _, _, h3, h4 =>
      exfalso
      have hc := h4 c (by simp)
      unfold dig at hc
      simp at hc h3
      have hc0 : c.toNat ≠ 48 := fun e => h3 (UInt8.toNat_inj.1 e)
      have := numv_ge (d :: f :: r) (10 * 0 + (c.toNat - 48))
      rw [numv_cons] at hv
      have e : 10 ^ (d :: f :: r).length = 10 ^ r.length * 100 := by simp [Nat.pow_succ]; omega
      have p : 1 ≤ 10 ^ r.length := Nat.one_le_pow _ _ (by decide)
      rw [e] at this
      have : 1 * (1 * 100) ≤ (10 * 0 + (c.toNat - 48)) * (10 ^ r.length * 100) := Nat.mul_le_mul (by omega) (Nat.mul_le_mul_right _ p)
      omega
  · have := numv_lt s 0 h4
    have h5 : 10 ^ s.length ≤ 10 ^ 10 := Nat.pow_le_pow_right (by decide) h2
    omega
theorem num_no {s : List UInt8} (h : numok s = false) : und s = none := by
  cases hu : und s with
  | none => rfl
  | some n =>
    obtain ⟨h1, rfl⟩ := und_some hu
    have : ∀ n ∈ List.range 100, numok (dec n) = true := by decide +kernel
    rw [this n (List.mem_range.2 h1)] at h
    cases h
theorem num_dec {n : Nat} (h : n < 100) : numok (dec n) = true ∧ numv 0 (dec n) = n := by
  have : ∀ n ∈ List.range 100, numok (dec n) = true ∧ numv 0 (dec n) = n := by decide +kernel
  exact this n (List.mem_range.2 h)
end Go.Proofs.YtlljflmbnbjccaaGreatDoor
/- A text is cut at a letter (the reference's walk); no condition. -/
namespace Go.Proofs.YtlljflmbnbjccaaGreatDoor
open Go.RowKit
set_option linter.unusedSimpArgs false
set_option linter.unusedVariables false
def PcPost (c : UInt8) (l : List UInt8) (w : World) (e : Ending) (w' : World) : Prop := ∃ v, e = .returned v ∧ Gives 9 1 (wds c l).length (encs sv (wds c l)) w v w' ∧ Keep [] w w'
section
variable {P : Program} {ops : Array Oper} {rest : List Oper} {o : Oper} {a : Act} {w : World} {Q : Exit → Act → World → Prop}
theorem gate_sq {T U : TypeId} {x y : Operand} (_ho : o.op = .binOp .eql T x y U) (h : wpList P ops Q (o :: rest) a w) : wpList P ops Q (o :: rest) a w := h
theorem la_seq {T U : TypeId} {x y : Operand} {l m : List UInt8} {v : Bool} (hv : decide (l = m) = v) (hgd : o.guard = none) (ho : o.op = .binOp .eql T x y U) (hx : a.eval x = .string ⟨l.toArray⟩) (hy : a.eval y = .string ⟨m.toArray⟩)
    (h : wpList P ops Q rest (a.put o.dst (.bool v)) w) : wpList P ops Q (o :: rest) a w :=
  wpl_val hgd _ (by
    subst hv
    unfold execOp
    simp only [ho, hx, hy]
    by_cases e : l = m
    · subst e; go_simp
    · go_simp) h
end
theorem cell_keep {w w' : World} (hk : Keep [] w w') {b : Nat} {v : Value} (h : w.cell? ⟨b, 0, none⟩ = some v) : w'.cell? ⟨b, 0, none⟩ = some v := by
  have hlt : b < w.heap.size := by
    unfold World.cell? at h
    cases hh : w.heap[b]? with
    | none => simp [hh] at h
    | some o => exact (Array.getElem?_eq_some_iff.1 hh).1
  unfold World.cell? at h ⊢
  rw [hk.block b hlt (by simp)]
  exact h
theorem words_get {W : List (List UInt8)} {sp : List Value} {k : Nat} {x : List UInt8} (hk : k < W.length) (hx : W[k] = x) : (encs sv W ++ sp)[k]? = some (.string ⟨x.toArray⟩) := by
  have := encs_getA sv_len W sp k hk 0 (by omega)
  rw [Nat.mul_one, Nat.add_zero, hx] at this
  exact this
def allTo (f : List UInt8 → Bool) (W : List (List UInt8)) (k : Nat) : Prop := ∀ j (h : j < W.length), j < k → f W[j] = true
theorem allTo.step {f : List UInt8 → Bool} {W : List (List UInt8)} {k : Nat} (h : allTo f W k) (hk : k < W.length) (e : f W[k] = true) : allTo f W (k + 1) := fun j hj hjk => by
  by_cases e2 : j = k
  · subst e2; exact e
  · exact h j hj (by omega)
theorem allTo.all {f : List UInt8 → Bool} {W : List (List UInt8)} {k : Nat} (h : allTo f W k) (hk : W.length = k) : W.all f = true := by
  rw [List.all_eq_true]
  intro x hx
  obtain ⟨j, hj, rfl⟩ := List.mem_iff_getElem.1 hx
  exact h j hj (by omega)
theorem mapG_step {α : Type} {e : α → List Value} {f : List UInt8 → α} {W : List (List UInt8)} {k : Nat} (hk : k < W.length) : encs e ((W.take (k + 1)).map f) = encs e ((W.take k).map f) ++ e (f W[k]) := by
  rw [List.take_succ_eq_append_getElem hk, List.map_append, encs_append]
  simp [encs]
theorem mapG_len {α : Type} {e : α → List Value} {s : Nat} (hs : ∀ a, (e a).length = s) {f : List UInt8 → α} {W : List (List UInt8)} {k : Nat} (hk : k ≤ W.length) : (encs e ((W.take k).map f)).length = k * s := by
  rw [encs_length hs, List.length_map, List.length_take, Nat.min_eq_left hk]
section
variable {P : Program} {ops : Array Oper} {rest : List Oper} {o : Oper} {a : Act} {w : World} {Q : Exit → Act → World → Prop}
theorem gate_sn {T U : TypeId} {x y : Operand} (_ho : o.op = .binOp .neq T x y U) (h : wpList P ops Q (o :: rest) a w) : wpList P ops Q (o :: rest) a w := h
theorem la_sneq {T U : TypeId} {x y : Operand} {l m : List UInt8} {v : Bool} (hv : (!decide (l = m)) = v) (hgd : o.guard = none) (ho : o.op = .binOp .neq T x y U) (hx : a.eval x = .string ⟨l.toArray⟩) (hy : a.eval y = .string ⟨m.toArray⟩)
    (h : wpList P ops Q rest (a.put o.dst (.bool v)) w) : wpList P ops Q (o :: rest) a w :=
  wpl_val hgd _ (by
    subst hv
    unfold execOp
    simp only [ho, hx, hy]
    by_cases e : l = m
    · subst e; go_simp
    · go_simp) h
end
end Go.Proofs.YtlljflmbnbjccaaGreatDoor
/- The laws' own helpers on sheets: copied, compared, marked and looked at again; no condition. -/
namespace Go.Proofs.YtlljflmbnbjccaaGreatDoor
open Go.RowKit
set_option linter.unusedSimpArgs false
set_option linter.unusedVariables false
def shF : Int × Int := (-101, -101)
theorem built_shF : Tryz.prog.built 55 [(0, .int .i8 (-101)), (1, .int .i8 (-101))] = some (p8 shF).toArray := by kernel_rfl
/-- A copied book and the room behind it. -/
def shC (B : List (Int × Int)) : List (Int × Int) := B ++ List.replicate (roomN B.length) shF
theorem shC_length (B : List (Int × Int)) : (shC B).length = B.length + roomN B.length := by simp [shC]
/-- What a maker of books hands back: a block of its own. -/
def ShOut (B : List (Int × Int)) (n cap : Nat) (w : World) (e : Ending) (w' : World) : Prop := ∃ g, e = .returned (.slice (some ⟨g, 0, none⟩) n cap) ∧ w.heap.size ≤ g ∧ Blk w' g (encs p8 B) 55 ∧ Keep [] w w'
theorem Rd.sh {w : World} {g n : Nat} {B : List (Int × Int)} {T : TypeId} (h : Blk w g (encs p8 (shC B)) T) : Rd w (some ⟨g, 0, none⟩) n (encs p8 B) := by
  unfold shC at h
  rw [encs_append] at h
  exact .of h
/-- The mark of cell m. -/
def mkP (k0 m : Nat) : Value := .int .i8 (IntKind.i8.wrap ((k0 + m : Nat) : Int))
end Go.Proofs.YtlljflmbnbjccaaGreatDoor
/- Plain mathematics on lists: first places, distinct elements, greatest numbers, sums; no condition. -/
namespace Go.Proofs.YtlljflmbnbjccaaGreatDoor
set_option linter.unusedSimpArgs false
set_option linter.unusedVariables false

section
variable {α : Type} [DecidableEq α]
/-- The first place of x in a list; its length if there is none. -/
def fidx (x : α) : List α → Nat
  | [] => 0
  | y :: l => if x = y then 0 else fidx x l + 1
theorem fidx_le (x : α) : ∀ l : List α, fidx x l ≤ l.length
  | [] => Nat.le_refl _
  | y :: l => by unfold fidx; split <;> simp [fidx_le x l]
theorem fidx_append_mem {x : α} : ∀ {l m : List α}, x ∈ l → fidx x (l ++ m) = fidx x l
  | [], _, h => by cases h
  | y :: l, m, h => by
    rw [List.cons_append]
    unfold fidx
    split
    · rfl
    · rename_i hne
      rw [fidx_append_mem (l := l) (by rcases List.mem_cons.1 h with h | h; exact absurd h hne; exact h)]
theorem fidx_append_not {x : α} : ∀ {l m : List α}, x ∉ l → fidx x (l ++ m) = l.length + fidx x m
  | [], m, _ => by simp
  | y :: l, m, h => by
    have e : fidx x (y :: l ++ m) = fidx x (l ++ m) + 1 := by
      rw [List.cons_append, fidx, if_neg (fun e => h (by rw [e]; exact List.mem_cons_self))]
    rw [e, fidx_append_not (l := l) (fun hm => h (List.mem_cons_of_mem _ hm)), List.length_cons]
    omega
theorem fidx_lt {x : α} : ∀ {l : List α}, x ∈ l → fidx x l < l.length
  | [], h => by cases h
  | y :: l, h => by
    unfold fidx
    split
    · simp
    · rename_i hne
      have := fidx_lt (l := l) (by rcases List.mem_cons.1 h with h | h; exact absurd h hne; exact h)
      simp
      omega
theorem fidx_mem {x : α} {l : List α} (h : fidx x l < l.length) : x ∈ l := by
  induction l with
  | nil => simp at h
  | cons y l ih =>
    unfold fidx at h
    split at h
    · rename_i e; rw [e]; exact List.mem_cons_self
    · exact List.mem_cons_of_mem _ (ih (by simpa using h))
theorem fidx_iff {x : α} {l : List α} : fidx x l < l.length ↔ x ∈ l := ⟨fidx_mem, fidx_lt⟩
theorem fidx_get {x : α} : ∀ {l : List α} (h : fidx x l < l.length), l[fidx x l] = x
  | [], h => by simp at h
  | y :: l, h => by
    have hm : ∀ k, fidx x (y :: l) = k → ∀ hk : k < (y :: l).length, (y :: l)[k] = x := by
      intro k hk hlt
      unfold fidx at hk
      split at hk
      · rename_i e; subst hk; simpa using e.symm
      · subst hk
        simp only [List.getElem_cons_succ]
        exact fidx_get (by simpa using hlt)
    exact hm _ rfl h
theorem fidx_not {x : α} : ∀ {l : List α} {k : Nat} (h : k < l.length), k < fidx x l → x ≠ l[k]
  | [], _, h, _ => by simp at h
  | y :: l, k, h, hk => by
    unfold fidx at hk
    split at hk
    · omega
    · rename_i hne
      cases k with
      | zero => simpa using hne
      | succ k => simp only [List.getElem_cons_succ]; exact fidx_not (by simpa using h) (by omega)
/-- Found at k, and not before. -/
theorem fidx_at {x : α} {l : List α} {k : Nat} (hk : k < l.length) (h : x = l[k]) (h0 : k ≤ fidx x l) : fidx x l = k := by
  rcases Nat.lt_or_ge k (fidx x l) with h1 | h1
  · exact absurd h (fidx_not hk h1)
  · omega
theorem fidx_step {x : α} {l : List α} {k : Nat} (hk : k < l.length) (h : x ≠ l[k]) (h0 : k ≤ fidx x l) : k + 1 ≤ fidx x l := by
  rcases Nat.lt_or_ge k (fidx x l) with h1 | h1
  · exact h1
  · have e : fidx x l = k := by omega
    exact absurd (fidx_get (x := x) (l := l) (by omega)).symm (by simp only [e]; exact h)
theorem fidx_self {l : List α} {k : Nat} (hk : k < l.length) : fidx l[k] l ≤ k := by
  rcases Nat.lt_or_ge k (fidx l[k] l) with h1 | h1
  · exact absurd rfl (fidx_not hk h1)
  · exact h1
theorem fidx_none {x : α} {l : List α} (h : l.length ≤ fidx x l) : fidx x l = l.length := by
  have := fidx_le x l; omega

/-- The first places of all elements. -/
def repN (B : List α) : List Nat := B.map fun x => fidx x B
/-- One more element: the distinct ones so far, and where each is among them. -/
def dstep (s : List α × List Nat) (x : α) : List α × List Nat := (if fidx x s.1 < s.1.length then s.1 else s.1 ++ [x], s.2 ++ [fidx x s.1])
def dst (B : List α) : List α × List Nat := B.foldl dstep ([], [])
theorem dst_snoc (B : List α) (x : α) : dst (B ++ [x]) = dstep (dst B) x := by simp [dst]
theorem dst_take {B : List α} {k : Nat} (hk : k < B.length) : dst (B.take (k + 1)) = dstep (dst (B.take k)) B[k] := by
  rw [List.take_succ_eq_append_getElem hk, dst_snoc]
theorem dst_len (B : List α) : (dst B).2.length = B.length := by
  have : ∀ (B : List α) (s : List α × List Nat), (B.foldl dstep s).2.length = s.2.length + B.length := by
    intro B
    induction B with
    | nil => intro s; simp
    | cons x B ih => intro s; rw [List.foldl_cons, ih]; simp [dstep]; omega
  simpa [dst] using this B ([], [])
theorem dst_le (B : List α) : (dst B).1.length ≤ B.length := by
  have : ∀ (B : List α) (s : List α × List Nat), (B.foldl dstep s).1.length ≤ s.1.length + B.length := by
    intro B
    induction B with
    | nil => intro s; simp
    | cons x B ih =>
      intro s
      rw [List.foldl_cons]
      refine Nat.le_trans (ih _) ?_
      simp only [dstep]
      split <;> simp <;> omega
  simpa [dst] using this B ([], [])
theorem dst_mem {B : List α} {x : α} : x ∈ (dst B).1 ↔ x ∈ B := by
  have : ∀ (B : List α) (s : List α × List Nat), x ∈ (B.foldl dstep s).1 ↔ (x ∈ s.1 ∨ x ∈ B) := by
    intro B
    induction B with
    | nil => intro s; simp
    | cons y B ih =>
      intro s
      rw [List.foldl_cons, ih]
      simp only [dstep]
      split
      · rename_i h
        have hy := fidx_mem h
        constructor
        · rintro (h | h)
          · exact Or.inl h
          · exact Or.inr (List.mem_cons_of_mem _ h)
        · rintro (h | h)
          · exact Or.inl h
          · rcases List.mem_cons.1 h with rfl | h
            · exact Or.inl hy
            · exact Or.inr h
      · rw [List.mem_append, List.mem_singleton, List.mem_cons]
        constructor
        · rintro ((h | h) | h)
          · exact Or.inl h
          · exact Or.inr (Or.inl h)
          · exact Or.inr (Or.inr h)
        · rintro (h | h | h)
          · exact Or.inl (Or.inl h)
          · exact Or.inl (Or.inr h)
          · exact Or.inr h
  simpa [dst] using this B ([], [])
/-- The places so far tell where each element is among the distinct ones. -/
theorem dst_place {B : List α} : ∀ (k : Nat) (hk : k < B.length), (dst B).2[k]? = some (fidx B[k] (dst B).1) := by
  have key : ∀ (B : List α), (∀ k (hk : k < B.length), (dst B).2[k]? = some (fidx B[k] (dst B).1)) := by
    intro B
    have hind : ∀ n, n ≤ B.length → ∀ k (hk : k < B.length), k < n → (dst (B.take n)).2[k]? = some (fidx B[k] (dst (B.take n)).1) := by
      intro n
      induction n with
      | zero => intro _ k _ h; omega
      | succ n ih =>
        intro hn k hk hkn
        have hnl : n < B.length := by omega
        rw [dst_take hnl]
        have hlen : (dst (B.take n)).2.length = n := by rw [dst_len, List.length_take]; omega
        by_cases hkn' : k < n
        · have h := ih (by omega) k hk hkn'
          simp only [dstep]
          rw [List.getElem?_append_left (by omega), h]
          split
          · rfl
          · have hm : B[k] ∈ (dst (B.take n)).1 := by
              rw [dst_mem, List.mem_take_iff_getElem]
              exact ⟨k, by omega, rfl⟩
            rw [fidx_append_mem hm]
        · have e : k = n := by omega
          subst e
          simp only [dstep]
          rw [List.getElem?_append_right (by omega), hlen, Nat.sub_self, List.getElem?_cons_zero]
          congr 1
          split
          · rfl
          · rename_i h
            have hno : B[k] ∉ (dst (B.take k)).1 := fun hm => h (fidx_lt hm)
            rw [fidx_append_not hno]
            have := fidx_le B[k] (dst (B.take k)).1
            simp [fidx]
            omega
    intro k hk
    have := hind B.length (Nat.le_refl _) k hk hk
    rwa [List.take_length] at this
  exact key B
/-- What the reference does with the first places. -/
theorem dst_new {B : List α} {k : Nat} (hk : k < B.length) (h : fidx B[k] B = k) : dst (B.take (k + 1)) = ((dst (B.take k)).1 ++ [B[k]], (dst (B.take k)).2 ++ [(dst (B.take k)).1.length]) := by
  have hno : B[k] ∉ (dst (B.take k)).1 := by
    rw [dst_mem, List.mem_take_iff_getElem]
    rintro ⟨j, hj, e⟩
    have hj2 : j < B.length := by omega
    have := fidx_not (x := B[k]) hj2 (by omega)
    exact this e.symm
  have hf : fidx B[k] (dst (B.take k)).1 = (dst (B.take k)).1.length := fidx_none (by
    rcases Nat.lt_or_ge (fidx B[k] (dst (B.take k)).1) (dst (B.take k)).1.length with h1 | h1
    · exact absurd (fidx_mem h1) hno
    · exact h1)
  rw [dst_take hk]
  simp only [dstep]
  rw [hf, if_neg (Nat.lt_irrefl _)]
theorem dst_old {B : List α} {k : Nat} (hk : k < B.length) (h : fidx B[k] B ≠ k) : fidx B[k] B < k ∧ ∃ p, (dst (B.take k)).2[fidx B[k] B]? = some p ∧ dst (B.take (k + 1)) = ((dst (B.take k)).1, (dst (B.take k)).2 ++ [p]) := by
  have hle := fidx_self hk
  have hlt : fidx B[k] B < k := by omega
  have hfl : fidx B[k] B < B.length := by omega
  have hg := fidx_get hfl
  refine ⟨hlt, fidx B[k] (dst (B.take k)).1, ?_, ?_⟩
  · have := dst_place (B := B.take k) (fidx B[k] B) (by rw [List.length_take]; omega)
    rw [this]
    rw [List.getElem_take, hg]
  · rw [dst_take hk]
    simp only [dstep]
    have hm : B[k] ∈ (dst (B.take k)).1 := by
      rw [dst_mem, List.mem_take_iff_getElem]
      exact ⟨_, by omega, hg⟩
    rw [if_pos (fidx_lt hm)]
end

/-! ### The greatest of some numbers -/
def mxL (m : Int) (l : List Int) : Int := l.foldl (fun a b => max a b) m
theorem mxL_snoc (m : Int) (l : List Int) (x : Int) : mxL m (l ++ [x]) = max (mxL m l) x := by simp [mxL]
/-- a is the first place of the greatest of the first k. -/
def ArgMax (l : List Int) (k a : Nat) : Prop := a < k ∧ (∀ j, j < k → l.getD j 0 ≤ l.getD a 0) ∧ ∀ j, j < a → l.getD j 0 < l.getD a 0
theorem ArgMax.one (l : List Int) : ArgMax l 1 0 := ⟨by omega, fun j hj => by rw [show j = 0 by omega]; exact Int.le_refl _, fun j hj => by omega⟩
theorem ArgMax.up {l : List Int} {k a : Nat} (h : ArgMax l k a) (hx : l.getD a 0 < l.getD k 0) : ArgMax l (k + 1) k := by
  refine ⟨by omega, fun j hj => ?_, fun j hj => ?_⟩
  · by_cases e : j = k
    · subst e; exact Int.le_refl _
    · have := h.2.1 j (by omega); omega
  · have := h.2.1 j (by omega); omega
theorem ArgMax.stay {l : List Int} {k a : Nat} (h : ArgMax l k a) (hx : ¬ l.getD a 0 < l.getD k 0) : ArgMax l (k + 1) a := by
  refine ⟨by have := h.1; omega, fun j hj => ?_, h.2.2⟩
  by_cases e : j = k
  · subst e; omega
  · exact h.2.1 j (by omega)
theorem ArgMax.uniq {l : List Int} {k a b : Nat} (h : ArgMax l k a) (h' : ArgMax l k b) : a = b := by
  rcases Nat.lt_trichotomy a b with h1 | h1 | h1
  · have := h'.2.2 a h1
    have := h.2.1 b h'.1
    omega
  · exact h1
  · have := h.2.2 b h1
    have := h'.2.1 a h.1
    omega
/-- The greatest of the first k. -/
def MaxTo (l : List Int) (k : Nat) (m : Int) : Prop := (∀ j, j < k → l.getD j 0 ≤ m) ∧ ∃ j, j < k ∧ l.getD j 0 = m
theorem MaxTo.one (l : List Int) : MaxTo l 1 (l.getD 0 0) := ⟨fun j hj => by rw [show j = 0 by omega]; exact Int.le_refl _, 0, by omega, rfl⟩
theorem MaxTo.step {l : List Int} {k : Nat} {m : Int} (h : MaxTo l k m) : MaxTo l (k + 1) (max m (l.getD k 0)) := by
  obtain ⟨h1, j, h2, h3⟩ := h
  refine ⟨fun i hi => ?_, ?_⟩
  · by_cases e : i = k
    · subst e; exact Int.le_max_right _ _
    · exact Int.le_trans (h1 i (by omega)) (Int.le_max_left _ _)
  · rcases Int.le_total m (l.getD k 0) with h | h
    · exact ⟨k, by omega, by rw [Int.max_eq_right h]⟩
    · exact ⟨j, by omega, by rw [Int.max_eq_left h, h3]⟩
theorem ArgMax.of_max {l : List Int} {m : Int} (h : MaxTo l l.length m) : ArgMax l l.length (fidx m l) ∧ l.getD (fidx m l) 0 = m := by
  obtain ⟨h1, j, h2, h3⟩ := h
  have hm : m ∈ l := by
    rw [List.getD_eq_getElem?_getD, List.getElem?_eq_getElem h2] at h3
    exact List.mem_iff_getElem.2 ⟨j, h2, h3⟩
  have hlt := fidx_lt hm
  have hg : l.getD (fidx m l) 0 = m := by rw [List.getD_eq_getElem?_getD, List.getElem?_eq_getElem hlt]; exact fidx_get hlt
  refine ⟨⟨hlt, fun i hi => by rw [hg]; exact h1 i hi, fun i hi => ?_⟩, hg⟩
  have h4 := h1 i (by omega)
  have h5 : m ≠ l.getD i 0 := by
    rw [List.getD_eq_getElem?_getD, List.getElem?_eq_getElem (show i < l.length by omega)]
    exact fidx_not (by omega) hi
  rw [hg]
  omega

/-! ### Sums -/
def sumI (l : List Int) : Int := l.foldl (· + ·) 0
theorem sumI_snoc (l : List Int) (x : Int) : sumI (l ++ [x]) = sumI l + x := by simp [sumI]
theorem sumI_take {l : List Int} {k : Nat} (hk : k < l.length) : sumI (l.take (k + 1)) = sumI (l.take k) + l[k] := by rw [List.take_succ_eq_append_getElem hk, sumI_snoc]
theorem sumI_le {l : List Int} {c : Int} (hc : 0 ≤ c) (h : ∀ x ∈ l, 0 ≤ x ∧ x ≤ c) : 0 ≤ sumI l ∧ sumI l ≤ c * l.length := by
  have : ∀ (l : List Int) (s : Int), (∀ x ∈ l, 0 ≤ x ∧ x ≤ c) → s ≤ l.foldl (· + ·) s ∧ l.foldl (· + ·) s ≤ s + c * l.length := by
    intro l
    induction l with
    | nil => intro s _; simp
    | cons x l ih =>
      intro s h
      have hx := h x (List.mem_cons_self)
      have := ih (s + x) (fun y hy => h y (List.mem_cons_of_mem _ hy))
      rw [List.foldl_cons]
      have e : c * ((x :: l).length : Nat) = c * (l.length : Nat) + c := by rw [List.length_cons, Int.natCast_add, Int.mul_add]; simp
      rw [e]
      omega
  have := this l 0 h
  unfold sumI
  omega
end Go.Proofs.YtlljflmbnbjccaaGreatDoor
/- Plain mathematics on sheets: shots, the pages at all ticks, short sheets, how long pages are shown; no condition. -/
namespace Go.Proofs.YtlljflmbnbjccaaGreatDoor
set_option linter.unusedSimpArgs false
set_option linter.unusedVariables false
abbrev Sh : Type := Int × Int
/-- A shot for a book of n pages. -/
def shB (n : Int) (s : Sh) : Bool := decide (0 ≤ s.1 ∧ s.1 ≤ n - 1) && decide (1 ≤ s.2 ∧ s.2 ≤ 24)
theorem shB_iff {n : Int} {s : Sh} : shB n s = true ↔ (0 ≤ s.1 ∧ s.1 ≤ n - 1) ∧ (1 ≤ s.2 ∧ s.2 ≤ 24) := by simp [shB]
def allSh (n : Int) (S : List Sh) : Bool := S.all (shB n)
theorem allSh_get {n : Int} {S : List Sh} (h : allSh n S = true) {k : Nat} (hk : k < S.length) : shB n S[k] = true := List.all_eq_true.1 h _ (List.getElem_mem hk)
theorem allSh_no {n : Int} {S : List Sh} {k : Nat} (hk : k < S.length) (h : shB n S[k] = false) : allSh n S = false := by
  unfold allSh
  rw [List.all_eq_false]
  exact ⟨S[k], List.getElem_mem hk, by simp [h]⟩
def ShTo (n : Int) (S : List Sh) (k : Nat) : Prop := ∀ j (h1 : j < S.length), j < k → shB n S[j] = true
theorem ShTo.step {n : Int} {S : List Sh} {k : Nat} (h : ShTo n S k) (hk : k < S.length) (e : shB n S[k] = true) : ShTo n S (k + 1) := fun j h1 hj => by
  by_cases hjk : j = k
  · subst hjk; exact e
  · exact h j h1 (by omega)
theorem ShTo.all {n : Int} {S : List Sh} {m : Nat} (h : ShTo n S m) (hm : S.length = m) : allSh n S = true := by
  unfold allSh
  rw [List.all_eq_true]
  intro a ha
  obtain ⟨j, hj, rfl⟩ := List.mem_iff_getElem.1 ha
  exact h j hj (by omega)
/-- The pages at all ticks. -/
def tkS (S : List Sh) : List Int := S.flatMap fun s => List.replicate s.2.toNat s.1
theorem tkS_snoc (S : List Sh) (s : Sh) : tkS (S ++ [s]) = tkS S ++ List.replicate s.2.toNat s.1 := by simp [tkS]
theorem tkS_take {S : List Sh} {k : Nat} (hk : k < S.length) : tkS (S.take (k + 1)) = tkS (S.take k) ++ List.replicate S[k].2.toNat S[k].1 := by rw [List.take_succ_eq_append_getElem hk, tkS_snoc]
theorem tkS_all {S : List Sh} {n : Nat} (hn : S.length = n) : tkS (S.take n) = tkS S := by rw [List.take_of_length_le (by omega)]
theorem tkS_length {n : Int} : ∀ {S : List Sh}, allSh n S = true → (tkS S).length ≤ 24 * S.length
  | [], _ => by simp [tkS]
  | s :: S, h => by
    unfold allSh at h
    rw [List.all_cons, Bool.and_eq_true] at h
    have h1 := (shB_iff.1 h.1).2
    have h2 := tkS_length (n := n) (S := S) h.2
    unfold tkS at h2 ⊢
    rw [List.flatMap_cons, List.length_append, List.length_replicate, List.length_cons]
    omega
theorem allSh_take {n : Int} {S : List Sh} (h : allSh n S = true) (k : Nat) : allSh n (S.take k) = true := by
  unfold allSh at h ⊢
  rw [List.all_eq_true] at h ⊢
  intro x hx
  exact h x (List.mem_of_mem_take hx)
theorem tkS_len_take {n : Int} {S : List Sh} (h : allSh n S = true) (k : Nat) : (tkS (S.take k)).length ≤ 24 * S.length := by
  have h1 := tkS_length (allSh_take h k)
  have h2 : (S.take k).length ≤ S.length := by rw [List.length_take]; omega
  omega
theorem tkS_range {n : Int} {S : List Sh} (h : allSh n S = true) : ∀ x ∈ tkS S, 0 ≤ x ∧ x ≤ n - 1 := by
  intro x hx
  obtain ⟨s, hs, hx2⟩ := List.mem_flatMap.1 hx
  have h1 := (shB_iff.1 (List.all_eq_true.1 h s hs)).1
  obtain ⟨_, rfl⟩ := List.mem_replicate.1 hx2
  exact h1

/-! ### Short sheets -/
def lastS (l : List Sh) : Sh := l.getLastD (0, 0)
theorem lastS_snoc (O : List Sh) (s : Sh) : lastS (O ++ [s]) = s := by simp [lastS]
def bump (l : List Sh) : List Sh := l.dropLast ++ [((lastS l).1, (lastS l).2 + 1)]
theorem bump_snoc (O : List Sh) (p h : Int) : bump (O ++ [(p, h)]) = O ++ [(p, h + 1)] := by simp [bump, lastS_snoc]
/-- One tick more. -/
def shSt (out : List Sh) (page : Int) : List Sh := if out ≠ [] ∧ (lastS out).1 = page ∧ (lastS out).2 < 24 then bump out else out ++ [(page, 1)]
def shortL (T : List Int) : List Sh := T.foldl shSt []
theorem shortL_take {T : List Int} {k : Nat} (hk : k < T.length) : shortL (T.take (k + 1)) = shSt (shortL (T.take k)) T[k] := by
  unfold shortL; rw [List.take_succ_eq_append_getElem hk, List.foldl_append]; rfl
theorem shSt_nil (page : Int) : shSt [] page = [(page, 1)] := by simp [shSt]
theorem shSt_bump {O : List Sh} {p h : Int} (hh : h < 24) : shSt (O ++ [(p, h)]) p = O ++ [(p, h + 1)] := by
  unfold shSt
  rw [if_pos ⟨by simp, by rw [lastS_snoc], by rw [lastS_snoc]; exact hh⟩, bump_snoc]
theorem shSt_new {O : List Sh} {p h page : Int} (hh : p ≠ page ∨ ¬ h < 24) : shSt (O ++ [(p, h)]) page = O ++ [(p, h)] ++ [(page, 1)] := by
  unfold shSt
  rw [if_neg]
  rintro ⟨_, h2, h3⟩
  rw [lastS_snoc] at h2 h3
  rcases hh with hh | hh
  · exact hh h2
  · exact hh h3
/-- What lies behind k ticks. -/
theorem shortL_last {T : List Int} : ∀ {k : Nat}, 0 < k → k ≤ T.length → ∃ O p h, shortL (T.take k) = O ++ [(p, h)] ∧ p = T.getD (k - 1) 0 ∧ 1 ≤ h ∧ h ≤ 24 ∧ O.length + 1 ≤ k := by
  intro k
  induction k with
  | zero => intro h; omega
  | succ k ih =>
    intro _ hk
    have hkl : k < T.length := by omega
    rw [shortL_take hkl]
    have hg : T[k] = T.getD k 0 := by rw [List.getD_eq_getElem?_getD, List.getElem?_eq_getElem hkl]; rfl
    rcases Nat.eq_zero_or_pos k with h0 | hpos
    · subst h0
      rw [List.take_zero]
      refine ⟨[], T[0], 1, ?_, ?_, by omega, by omega, by simp⟩
      · show shSt [] T[0] = _
        rw [shSt_nil]; rfl
      · rw [hg]
    · obtain ⟨O, p, h, e, hp, h1, h2, h3⟩ := ih hpos (by omega)
      rw [e]
      by_cases hc : p = T[k] ∧ h < 24
      · rw [← hc.1, shSt_bump hc.2]
        exact ⟨O, p, h + 1, rfl, by rw [show k + 1 - 1 = k by omega, ← hg, hc.1], by omega, by omega, by omega⟩
      · rw [shSt_new (Decidable.or_iff_not_not_and_not.2 fun hx => hc ⟨Decidable.not_not.1 hx.1, Decidable.not_not.1 hx.2⟩)]
        exact ⟨O ++ [(p, h)], T[k], 1, rfl, by rw [show k + 1 - 1 = k by omega, ← hg], by omega, by omega, by simp; omega⟩
/-- The sheet of some places: none where a hold would be too long. -/
def soSt (o : Option (List Sh)) (page : Int) : Option (List Sh) := o.bind fun out => if out ≠ [] ∧ (lastS out).1 = page then (if (lastS out).2 < 24 then some (bump out) else none) else some (out ++ [(page, 1)])
def soL (T : List Int) : Option (List Sh) := T.foldl soSt (some [])
theorem soL_take {T : List Int} {k : Nat} (hk : k < T.length) : soL (T.take (k + 1)) = soSt (soL (T.take k)) T[k] := by
  unfold soL; rw [List.take_succ_eq_append_getElem hk, List.foldl_append]; rfl
theorem soSt_none (l : List Int) : l.foldl soSt none = none := by induction l with | nil => rfl | cons x l ih => rw [List.foldl_cons]; exact ih
/-- Once it is too long it stays so. -/
theorem soL_none {T : List Int} {k : Nat} (h : soL (T.take k) = none) : soL T = none := by
  have e : T.take k ++ T.drop k = T := List.take_append_drop k T
  unfold soL at h ⊢
  rw [← e, List.foldl_append, h, soSt_none]
theorem soSt_nil (page : Int) : soSt (some []) page = some [(page, 1)] := by simp [soSt]
theorem soSt_bump {O : List Sh} {p h : Int} (hh : h < 24) : soSt (some (O ++ [(p, h)])) p = some (O ++ [(p, h + 1)]) := by
  unfold soSt
  rw [Option.bind_some, if_pos ⟨by simp, by rw [lastS_snoc]⟩, if_pos (by rw [lastS_snoc]; exact hh), bump_snoc]
theorem soSt_full {O : List Sh} {p h : Int} (hh : ¬ h < 24) : soSt (some (O ++ [(p, h)])) p = none := by
  unfold soSt
  rw [Option.bind_some, if_pos ⟨by simp, by rw [lastS_snoc]⟩, if_neg (by rw [lastS_snoc]; exact hh)]
theorem soSt_new {O : List Sh} {p h page : Int} (hh : p ≠ page) : soSt (some (O ++ [(p, h)])) page = some (O ++ [(p, h)] ++ [(page, 1)]) := by
  unfold soSt
  rw [Option.bind_some, if_neg]
  rintro ⟨_, h2⟩
  rw [lastS_snoc] at h2
  exact hh h2
theorem soL_last {T : List Int} : ∀ {k : Nat} {out : List Sh}, 0 < k → k ≤ T.length → soL (T.take k) = some out → ∃ O p h, out = O ++ [(p, h)] ∧ p = T.getD (k - 1) 0 ∧ 1 ≤ h ∧ h ≤ 24 ∧ O.length + 1 ≤ k := by
  intro k
  induction k with
  | zero => intro _ h; omega
  | succ k ih =>
    intro out _ hk ho
    have hkl : k < T.length := by omega
    rw [soL_take hkl] at ho
    have hg : T[k] = T.getD k 0 := by rw [List.getD_eq_getElem?_getD, List.getElem?_eq_getElem hkl]; rfl
    cases hs : soL (T.take k) with
    | none => rw [hs] at ho; cases ho
    | some o =>
      rw [hs] at ho
      rcases Nat.eq_zero_or_pos k with h0 | hpos
      · subst h0
        have : o = [] := by rw [List.take_zero] at hs; simpa [soL] using hs.symm
        subst this
        rw [soSt_nil] at ho
        injection ho with ho
        exact ⟨[], T[0], 1, ho.symm, by rw [hg], by omega, by omega, by simp⟩
      · obtain ⟨O, p, h, e, hp, h1, h2, h3⟩ := ih hpos (by omega) hs
        subst e
        by_cases e1 : p = T[k]
        · rw [← e1] at ho
          by_cases hh : h < 24
          · rw [soSt_bump hh] at ho
            injection ho with ho
            exact ⟨O, p, h + 1, ho.symm, by rw [show k + 1 - 1 = k by omega, ← hg, e1], by omega, by omega, by omega⟩
          · rw [soSt_full hh] at ho; cases ho
        · rw [soSt_new e1] at ho
          injection ho with ho
          exact ⟨O ++ [(p, h)], T[k], 1, ho.symm, by rw [show k + 1 - 1 = k by omega, ← hg], by omega, by omega, by simp; omega⟩

/-! ### How long pages are shown -/
def addAt (l : List Int) (j : Nat) (d : Int) : List Int := l.set j (l.getD j 0 + d)
@[simp] theorem addAt_length (l : List Int) (j : Nat) (d : Int) : (addAt l j d).length = l.length := by simp [addAt]
theorem addAt_zero (l : List Int) (j : Nat) : addAt l j 0 = l := by
  unfold addAt
  apply List.ext_getElem?
  intro i
  rw [List.getElem?_set]
  split
  · rename_i e; subst e
    split
    · rename_i h; rw [List.getD_eq_getElem?_getD, List.getElem?_eq_getElem h]; simp
    · rename_i h; rw [List.getElem?_eq_none (by omega)]
  · rfl
theorem addAt_add {l : List Int} {j : Nat} (hj : j < l.length) (d e : Int) : addAt (addAt l j d) j e = addAt l j (d + e) := by
  unfold addAt
  rw [List.set_set, List.getD_eq_getElem?_getD, List.getElem?_set_self hj]
  simp [Int.add_assoc]
/-- One tick after the other. -/
def shownT (n : Nat) (T : List Int) : List Int := T.foldl (fun l p => addAt l p.toNat 1) (List.replicate n 0)
/-- One shot after the other. -/
def shownS (n : Nat) (S : List Sh) : List Int := S.foldl (fun l s => addAt l s.1.toNat s.2) (List.replicate n 0)
theorem shownT_take {n : Nat} {T : List Int} {k : Nat} (hk : k < T.length) : shownT n (T.take (k + 1)) = addAt (shownT n (T.take k)) T[k].toNat 1 := by
  unfold shownT; rw [List.take_succ_eq_append_getElem hk, List.foldl_append]; rfl
theorem shownS_take {n : Nat} {S : List Sh} {k : Nat} (hk : k < S.length) : shownS n (S.take (k + 1)) = addAt (shownS n (S.take k)) S[k].1.toNat S[k].2 := by
  unfold shownS; rw [List.take_succ_eq_append_getElem hk, List.foldl_append]; rfl
theorem shownT_length (n : Nat) (T : List Int) : (shownT n T).length = n := by
  have : ∀ (T : List Int) (l : List Int), (T.foldl (fun l p => addAt l p.toNat 1) l).length = l.length := by
    intro T
    induction T with
    | nil => intro l; rfl
    | cons x T ih => intro l; rw [List.foldl_cons, ih, addAt_length]
  unfold shownT
  rw [this, List.length_replicate]
theorem shown_rep {l : List Int} {j : Nat} (hj : j < l.length) (p : Int) (hp : p.toNat = j) : ∀ h : Nat, (List.replicate h p).foldl (fun l p => addAt l p.toNat 1) l = addAt l j (h : Nat)
  | 0 => by rw [List.replicate_zero, List.foldl_nil]; exact (addAt_zero l j).symm
  | h + 1 => by
    rw [List.replicate_succ', List.foldl_append, shown_rep hj p hp h, List.foldl_cons, List.foldl_nil, hp, addAt_add hj]
    congr 1
theorem shown_same {n : Nat} {S : List Sh} (h : allSh n S = true) : shownT n (tkS S) = shownS n S := by
  have : ∀ (S : List Sh) (l : List Int), l.length = n → allSh n S = true → (tkS S).foldl (fun l p => addAt l p.toNat 1) l = S.foldl (fun l s => addAt l s.1.toNat s.2) l := by
    intro S
    induction S with
    | nil => intro l _ _; rfl
    | cons s S ih =>
      intro l hl h
      unfold allSh at h
      rw [List.all_cons, Bool.and_eq_true] at h
      obtain ⟨⟨h1, h2⟩, h3, h4⟩ := shB_iff.1 h.1
      have e : tkS (s :: S) = List.replicate s.2.toNat s.1 ++ tkS S := by simp [tkS]
      rw [e, List.foldl_append, shown_rep (j := s.1.toNat) (by omega) s.1 rfl, ih _ (by rw [addAt_length]; exact hl) h.2, List.foldl_cons]
      rw [show ((s.2.toNat : Nat) : Int) = s.2 by omega]
  exact this S _ (by simp) h
/-- Each is at most the number of ticks. -/
theorem shownT_range (n : Nat) (T : List Int) : ∀ x ∈ shownT n T, 0 ≤ x ∧ x ≤ T.length := by
  have : ∀ (T : List Int) (l : List Int) (c : Int), 0 ≤ c → (∀ x ∈ l, 0 ≤ x ∧ x ≤ c) → ∀ x ∈ T.foldl (fun l p => addAt l p.toNat 1) l, 0 ≤ x ∧ x ≤ c + T.length := by
    intro T
    induction T with
    | nil => intro l c hc h x hx; have := h x hx; simp; omega
    | cons p T ih =>
      intro l c hc h x hx
      rw [List.foldl_cons] at hx
      have := ih (addAt l p.toNat 1) (c + 1) (by omega) (fun y hy => by
        unfold addAt at hy
        rcases List.mem_or_eq_of_mem_set hy with hy | hy
        · have := h y hy; omega
        · subst hy
          rcases Nat.lt_or_ge p.toNat l.length with hl | hl
          · have := h _ (List.getElem_mem hl)
            rw [List.getD_eq_getElem?_getD, List.getElem?_eq_getElem hl]
            simp; omega
          · rw [List.getD_eq_getElem?_getD, List.getElem?_eq_none hl]; simp; omega) x hx
      rw [List.length_cons]
      omega
  intro x hx
  have := this T (List.replicate n 0) 0 (by omega) (fun y hy => by obtain ⟨_, rfl⟩ := List.mem_replicate.1 hy; omega) x hx
  omega

/-! ### Stretched -/
def strH (h num den : Int) : Int := max 1 (h * num / den)
end Go.Proofs.YtlljflmbnbjccaaGreatDoor
/- Valid sheets: the reference and the program; no condition. -/
namespace Go.Proofs.YtlljflmbnbjccaaGreatDoor
open Go.RowKit
set_option linter.unusedSimpArgs false
set_option linter.unusedVariables false
/-- Two numbers of 8 bits. -/
def I8 (x : Int × Int) : Prop := (-128 ≤ x.1 ∧ x.1 ≤ 127) ∧ (-128 ≤ x.2 ∧ x.2 ≤ 127)
def R8 (S : List (Int × Int)) : Prop := ∀ s ∈ S, I8 s
theorem R8.get {S : List (Int × Int)} (h : R8 S) {k : Nat} (hk : k < S.length) : I8 S[k] := h _ (List.getElem_mem hk)
theorem shB_inB (n : Int) (a b : Int) : shB n (a, b) = (inB a 0 (n - 1) && inB b 1 24) := rfl
set_option maxRecDepth 100000 in
theorem areShots1_c (a d : Int) (hx : I8 (a, d)) (n : Nat) (hn : n ≤ 4000000) (b : Nat) (T : TypeId) (w : World) (hb0 : Blk w b [.int .i64 n] T) :
    Calls Tryz.prog 57 #[.agg (p8 (a, d)).toArray, .pointer (some ⟨b, 0, none⟩)] w fun e w' => e = .returned (.bool (!shB n (a, d))) ∧ Keep [] w w' := by
  have st := St.start w
  obtain ⟨⟨h1, h2⟩, h3, h4⟩ := hx
  simp only at h1 h2 h3 h4
  rw [shB_inB]
  have HA := hid (inRange_c a 0 ((n : Int) - 1))
  have HD := hid (inRange_c d 1 24)
  have N0 : Hid (([.int .i64 (n : Int)] : List Value)[0]? = some (.int .i64 n)) := hid rfl
  have hb1 := hb0
  rcases Bool.eq_false_or_eq_true (inB a 0 ((n : Int) - 1)) with q1 | q1
  · rcases Bool.eq_false_or_eq_true (inB d 1 24) with q2 | q2
    all_goals
      rw [q1, q2]
      rw [q1] at HA
      rw [q2] at HD
      go_enter Tryz.func57, Tryz.ntmps57
      go_wp2_with (first | (go_at_call 42; (first | (with_reducible refine (HA.out _).mono ?_) | (with_reducible refine (HD.out _).mono ?_)); rintro _ _ ⟨rfl, hk⟩; replace st := st.call hk; clear hk) | ((with_reducible refine gate_lst ?_); (first | ((with_reducible refine' wpl_ung ?_ ?_ ?_); rotate_left 1; (focus exact rfl); (focus exact rfl)) | ((with_reducible refine gate_box rfl ?_); (first | (refine ia_box (sl := 2) st rfl rfl rfl rfl rfl ?_; clear st; intro B2 _ st))) | ((with_reducible refine gate_load rfl ?_); (first | (refine' ia_load1 st rfl rfl rfl ?_ ?_; rotate_left 1; (focus (first | exact N0.out | exact N1.out | exact N2.out | exact N3.out | exact N4.out | exact N5.out | exact G2.out | exact G3.out | exact G4.out | exact G0.out | exact G1.out | (refine frv_get _ _ ?_; (first | omega | (simp; done) | (simp; omega) | (simp [*]; omega))) | exact rfl))) | (refine' ia_load1Z (hb.keep st.keep (by simp)) rfl rfl rfl ?_ ?_; rotate_left 1; (focus exact rfl)) | (refine' ia_load1Z (hb'.keep st.keep (by simp)) rfl rfl rfl ?_ ?_; rotate_left 1; (focus exact rfl)) | (refine' ia_load1C (hb.keep st.keep (by simp)) rfl rfl rfl ?_ ?_; rotate_left 1; (focus (first | exact N0.out | exact N1.out | exact N2.out | exact N3.out | exact N4.out | exact N5.out | exact G2.out | exact G3.out | exact G4.out | exact G0.out | exact G1.out | (refine frv_get _ _ ?_; (first | omega | (simp; done) | (simp; omega) | (simp [*]; omega))) | exact rfl))) | (refine' ia_load1C (hb'.keep st.keep (by simp)) rfl rfl rfl ?_ ?_; rotate_left 1; (focus (first | exact N0.out | exact N1.out | exact N2.out | exact N3.out | exact N4.out | exact N5.out | exact G2.out | exact G3.out | exact G4.out | exact G0.out | exact G1.out | (refine frv_get _ _ ?_; (first | omega | (simp; done) | (simp; omega) | (simp [*]; omega))) | exact rfl))) | (refine' ia_load1B (hb1.keep st.keep (by simp)) rfl rfl rfl ?_ ?_; rotate_left 1; (focus (first | exact N0.out | exact N1.out | exact N2.out | exact N3.out | exact N4.out | exact N5.out | exact G2.out | exact G3.out | exact G4.out | exact G0.out | exact G1.out | (refine frv_get _ _ ?_; (first | omega | (simp; done) | (simp; omega) | (simp [*]; omega))) | exact rfl))) | (refine' ia_load1B (hb2.keep st.keep (by simp)) rfl rfl rfl ?_ ?_; rotate_left 1; (focus (first | exact N0.out | exact N1.out | exact N2.out | exact N3.out | exact N4.out | exact N5.out | exact G2.out | exact G3.out | exact G4.out | exact G0.out | exact G1.out | (refine frv_get _ _ ?_; (first | omega | (simp; done) | (simp; omega) | (simp [*]; omega))) | exact rfl))))))))
      go_ret
      exact ⟨rfl, st.keep⟩
  · rw [q1, Bool.false_and]
    rw [q1] at HA
    go_enter Tryz.func57, Tryz.ntmps57
    go_wp2_with (first | (go_at_call 42; (first | (with_reducible refine (HA.out _).mono ?_) | (with_reducible refine (HD.out _).mono ?_)); rintro _ _ ⟨rfl, hk⟩; replace st := st.call hk; clear hk) | ((with_reducible refine gate_lst ?_); (first | ((with_reducible refine' wpl_ung ?_ ?_ ?_); rotate_left 1; (focus exact rfl); (focus exact rfl)) | ((with_reducible refine gate_box rfl ?_); (first | (refine ia_box (sl := 2) st rfl rfl rfl rfl rfl ?_; clear st; intro B2 _ st))) | ((with_reducible refine gate_load rfl ?_); (first | (refine' ia_load1 st rfl rfl rfl ?_ ?_; rotate_left 1; (focus (first | exact N0.out | exact N1.out | exact N2.out | exact N3.out | exact N4.out | exact N5.out | exact G2.out | exact G3.out | exact G4.out | exact G0.out | exact G1.out | (refine frv_get _ _ ?_; (first | omega | (simp; done) | (simp; omega) | (simp [*]; omega))) | exact rfl))) | (refine' ia_load1Z (hb.keep st.keep (by simp)) rfl rfl rfl ?_ ?_; rotate_left 1; (focus exact rfl)) | (refine' ia_load1Z (hb'.keep st.keep (by simp)) rfl rfl rfl ?_ ?_; rotate_left 1; (focus exact rfl)) | (refine' ia_load1C (hb.keep st.keep (by simp)) rfl rfl rfl ?_ ?_; rotate_left 1; (focus (first | exact N0.out | exact N1.out | exact N2.out | exact N3.out | exact N4.out | exact N5.out | exact G2.out | exact G3.out | exact G4.out | exact G0.out | exact G1.out | (refine frv_get _ _ ?_; (first | omega | (simp; done) | (simp; omega) | (simp [*]; omega))) | exact rfl))) | (refine' ia_load1C (hb'.keep st.keep (by simp)) rfl rfl rfl ?_ ?_; rotate_left 1; (focus (first | exact N0.out | exact N1.out | exact N2.out | exact N3.out | exact N4.out | exact N5.out | exact G2.out | exact G3.out | exact G4.out | exact G0.out | exact G1.out | (refine frv_get _ _ ?_; (first | omega | (simp; done) | (simp; omega) | (simp [*]; omega))) | exact rfl))) | (refine' ia_load1B (hb1.keep st.keep (by simp)) rfl rfl rfl ?_ ?_; rotate_left 1; (focus (first | exact N0.out | exact N1.out | exact N2.out | exact N3.out | exact N4.out | exact N5.out | exact G2.out | exact G3.out | exact G4.out | exact G0.out | exact G1.out | (refine frv_get _ _ ?_; (first | omega | (simp; done) | (simp; omega) | (simp [*]; omega))) | exact rfl))) | (refine' ia_load1B (hb2.keep st.keep (by simp)) rfl rfl rfl ?_ ?_; rotate_left 1; (focus (first | exact N0.out | exact N1.out | exact N2.out | exact N3.out | exact N4.out | exact N5.out | exact G2.out | exact G3.out | exact G4.out | exact G0.out | exact G1.out | (refine frv_get _ _ ?_; (first | omega | (simp; done) | (simp; omega) | (simp [*]; omega))) | exact rfl))))))))
    go_ret
    exact ⟨rfl, st.keep⟩
def IdxSPost (n : Int) (S : List Sh) (w : World) (e : Ending) (w' : World) : Prop := ∃ i : Int, e = .returned (.int .i64 i) ∧ (allSh n S = true → i = -1) ∧ (allSh n S = false → 0 ≤ i) ∧ Keep [] w w'
set_option maxHeartbeats 1000000 in
set_option maxRecDepth 100000 in
theorem indexFuncS_c (S : List Sh) (m : Nat) (hS : S.length = m) (hm : m ≤ 4000000) (h8 : R8 S) (n : Nat) (hn : n ≤ 4000000) (g : Nat) (T : TypeId) (p : Option Addr) (c : Nat) (w : World) (hb0 : Blk w g [.int .i64 n] T) (hr : Rd w p m (encs p8 S)) :
    Calls Tryz.prog 73 #[.slice p m c, .func (.func 57) #[] #[.pointer (some ⟨g, 0, none⟩)]] w (IdxSPost n S w) := by
  have st := St.start w
  have H8 := hid h8
  replace hS := hid hS
  clear h8
  go_enter Tryz.func73, Tryz.ntmps73
  go_wp2_with (first | ((with_reducible refine gate_lst ?_); (first | ((with_reducible refine gate_load rfl ?_); (first | (refine ia_loadAll st rfl rfl rfl ?_ ?_; (focus (first | rfl | (simp; done) | (simp; assumption) | (simp; omega) | (simp [*]; done)))) | (refine ia_loadC (hb.keep st.keep (by simp)) rfl rfl rfl ?_ ?_; (focus (first | rfl | (simp; done) | (simp; assumption) | (simp; omega) | (simp [*]; done)))) | (refine ia_loadC (hb'.keep st.keep (by simp)) rfl rfl rfl ?_ ?_; (focus (first | rfl | (simp; done) | (simp; assumption) | (simp; omega) | (simp [*]; done)))) | (refine ia_loadC (Cl.of (hb1.keep st.keep (by simp))) rfl rfl rfl ?_ ?_; (focus (first | rfl | (simp; done) | (simp; assumption) | (simp; omega) | (simp [*]; done)))) | (refine ia_loadC (Cl.of (hb2.keep st.keep (by simp))) rfl rfl rfl ?_ ?_; (focus (first | rfl | (simp; done) | (simp; assumption) | (simp; omega) | (simp [*]; done)))))) | ((with_reducible refine gate_addr rfl ?_); (first | (refine' ia_slcP HP.out rfl rfl rfl rfl ?_ ?_ ?_) | (refine' ia_slcP HP2.out rfl rfl rfl rfl ?_ ?_ ?_)); rotate_left 1; (focus (first | exact (rfl : (0 : Int) = ((0 : Nat) : Int)) | exact (rfl : (1 : Int) = ((1 : Nat) : Int)) | exact rfl | exact HE1.out | exact HE2.out)); (focus (first | omega | (simp; done) | (simp; omega) | (simp [*]; omega)))))))
  go_loopw [8] (fun i wr => ∃ k : Nat, k ≤ m ∧ i = .int .i64 k ∧ ShTo n S k ∧ St [] w wr []) (fun i _ => m - (intOf i).toNat)
  case atStart => exact ⟨0, by omega, rfl, fun _ _ h => absurd h (by omega), st⟩
  case round =>
    clear st
    obtain ⟨k, hk, rfl, hs, st⟩ := hrel
    replace hs := hid hs
    by_cases hlt : k < m
    · have hd : decide ((k : Int) < (m : Int)) = true := by simpa using hlt
      obtain ⟨b, f, hp, hcl⟩ := hr (by omega)
      have HP := hid hp
      have hkB : k < S.length := by rw [hS.out]; exact hlt
      have hb := hcl.seg p8_len hkB
      have HSS := hid (hs.out.step hkB)
      have HN := hid (allSh_no (n := n) hkB)
      have HX := hid (H8.out.get hkB)
      obtain ⟨x, hx⟩ : ∃ x, S[k] = x := ⟨_, rfl⟩
      rw [hx] at hb HSS HN HX
      clear hx hp hcl hkB
      obtain ⟨x0, x1⟩ := x
      have HC := hid (fun w' (hk : Keep [] w w') => areShots1_c x0 x1 HX.out n hn g T w' (hb0.keep0 hk))
      go_wp2_with (first | (go_at_call 57; refine (Calls.splitB (HC.out _ st.keep)).mono ?_; rintro _ _ (⟨hB_1, rfl, hk⟩ | ⟨hB_1, rfl, hk⟩) <;> (replace st := st.call hk; clear hk)) | ((with_reducible refine gate_lst ?_); (first | ((with_reducible refine gate_load rfl ?_); (first | (refine ia_loadAll st rfl rfl rfl ?_ ?_; (focus (first | rfl | (simp; done) | (simp; assumption) | (simp; omega) | (simp [*]; done)))) | (refine ia_loadC (hb.keep st.keep (by simp)) rfl rfl rfl ?_ ?_; (focus (first | rfl | (simp; done) | (simp; assumption) | (simp; omega) | (simp [*]; done)))) | (refine ia_loadC (hb'.keep st.keep (by simp)) rfl rfl rfl ?_ ?_; (focus (first | rfl | (simp; done) | (simp; assumption) | (simp; omega) | (simp [*]; done)))) | (refine ia_loadC (Cl.of (hb1.keep st.keep (by simp))) rfl rfl rfl ?_ ?_; (focus (first | rfl | (simp; done) | (simp; assumption) | (simp; omega) | (simp [*]; done)))) | (refine ia_loadC (Cl.of (hb2.keep st.keep (by simp))) rfl rfl rfl ?_ ?_; (focus (first | rfl | (simp; done) | (simp; assumption) | (simp; omega) | (simp [*]; done)))))) | ((with_reducible refine gate_addr rfl ?_); (first | (refine' ia_slcP HP.out rfl rfl rfl rfl ?_ ?_ ?_) | (refine' ia_slcP HP2.out rfl rfl rfl rfl ?_ ?_ ?_)); rotate_left 1; (focus (first | exact (rfl : (0 : Int) = ((0 : Nat) : Int)) | exact (rfl : (1 : Int) = ((1 : Nat) : Int)) | exact rfl | exact HE1.out | exact HE2.out)); (focus (first | omega | (simp; done) | (simp; omega) | (simp [*]; omega)))))))
      · go_ret
        exact ⟨k, rfl, fun h => (by rw [HN.out (by simpa using hB_1)] at h; cases h), fun _ => (by omega), st.keep⟩
      · go_roundw
        case rel => exact ⟨k + 1, by omega, by go_num, HSS.out (by simpa using hB_1), st⟩
        case measure => simp [intOf]; omega
    · obtain rfl : k = m := by omega
      have h1 := hid (hs.out.all hS.out)
      go_wp2_with (first | ((with_reducible refine gate_lst ?_); (first | ((with_reducible refine gate_load rfl ?_); (first | (refine ia_loadAll st rfl rfl rfl ?_ ?_; (focus (first | rfl | (simp; done) | (simp; assumption) | (simp; omega) | (simp [*]; done)))) | (refine ia_loadC (hb.keep st.keep (by simp)) rfl rfl rfl ?_ ?_; (focus (first | rfl | (simp; done) | (simp; assumption) | (simp; omega) | (simp [*]; done)))) | (refine ia_loadC (hb'.keep st.keep (by simp)) rfl rfl rfl ?_ ?_; (focus (first | rfl | (simp; done) | (simp; assumption) | (simp; omega) | (simp [*]; done)))) | (refine ia_loadC (Cl.of (hb1.keep st.keep (by simp))) rfl rfl rfl ?_ ?_; (focus (first | rfl | (simp; done) | (simp; assumption) | (simp; omega) | (simp [*]; done)))) | (refine ia_loadC (Cl.of (hb2.keep st.keep (by simp))) rfl rfl rfl ?_ ?_; (focus (first | rfl | (simp; done) | (simp; assumption) | (simp; omega) | (simp [*]; done)))))) | ((with_reducible refine gate_addr rfl ?_); (first | (refine' ia_slcP HP.out rfl rfl rfl rfl ?_ ?_ ?_) | (refine' ia_slcP HP2.out rfl rfl rfl rfl ?_ ?_ ?_)); rotate_left 1; (focus (first | exact (rfl : (0 : Int) = ((0 : Nat) : Int)) | exact (rfl : (1 : Int) = ((1 : Nat) : Int)) | exact rfl | exact HE1.out | exact HE2.out)); (focus (first | omega | (simp; done) | (simp; omega) | (simp [*]; omega)))))))
      go_ret
      exact ⟨-1, rfl, fun _ => rfl, fun h => (by rw [h1.out] at h; cases h), st.keep⟩
theorem containsS_c (S : List Sh) (m : Nat) (hS : S.length = m) (hm : m ≤ 4000000) (h8 : R8 S) (n : Nat) (hn : n ≤ 4000000) (g : Nat) (T : TypeId) (p : Option Addr) (c : Nat) (w : World) (hb0 : Blk w g [.int .i64 n] T) (hr : Rd w p m (encs p8 S)) :
    Calls Tryz.prog 56 #[.slice p m c, .func (.func 57) #[] #[.pointer (some ⟨g, 0, none⟩)]] w fun e w' => e = .returned (.bool (!allSh n S)) ∧ Keep [] w w' := by
  have st := St.start w
  have HI := hid (fun w' (hk : Keep [] w w') => indexFuncS_c S m hS hm h8 n hn g T p c w' (hb0.keep0 hk) (hr.keep hk))
  rcases Bool.eq_false_or_eq_true (allSh n S) with h | h
  · rw [h]
    go_enter Tryz.func56, Tryz.ntmps56
    go_wp2_with (go_at_call 73; refine (HI.out _ st.keep).mono ?_; rintro _ _ ⟨i, rfl, h1, h2, hk⟩; replace st := st.call hk; obtain rfl := h1 h; clear h1 h2 hk)
    go_ret
    exact ⟨rfl, st.keep⟩
  · rw [h]
    go_enter Tryz.func56, Tryz.ntmps56
    go_wp2_with (go_at_call 73; refine (HI.out _ st.keep).mono ?_; rintro _ _ ⟨i, rfl, h1, h2, hk⟩; replace st := st.call hk; have h3 := h2 h; clear h1 h2 hk)
    go_ret
    exact ⟨by simp [*], st.keep⟩
/-- A sheet that has at most 80 shots, each for a book of n pages. -/
def shotsB (n : Int) (S : List Sh) : Bool := decide (S.length ≤ 80) && allSh n S
set_option maxRecDepth 100000 in
theorem areShots_c (S : List Sh) (m : Nat) (hS : S.length = m) (hm : m ≤ 4000000) (h8 : R8 S) (n : Nat) (hn : n ≤ 4000000) (p : Option Addr) (c : Nat) (w : World) (hr : Rd w p m (encs p8 S)) :
    Calls Tryz.prog 33 #[.slice p m c, .int .i64 n] w fun e w' => e = .returned (.bool (shotsB n S)) ∧ Keep [] w w' := by
  have st := St.start w
  unfold shotsB
  rw [hS]
  have HC := hid (fun g T w' hb0 (hk : Keep [] w w') => containsS_c S m hS hm h8 n hn g T p c w' hb0 (hr.keep hk))
  by_cases h : m ≤ 80
  · have h1 : decide ((m : Int) ≤ 80) = true := by simp; omega
    have hd : decide (m ≤ 80) = true := by simpa using h
    rw [hd, Bool.true_and]
    rcases Bool.eq_false_or_eq_true (allSh n S) with q | q
    all_goals
      rw [q]
      rw [q] at HC
      go_enter Tryz.func33, Tryz.ntmps33
      go_wp2_with (first | (go_at_call 56; refine (HC.out _ _ _ (st.get (by repeat (first | exact At.here | apply At.there))) st.keep).mono ?_; rintro _ _ ⟨rfl, hk⟩; replace st := st.call hk; clear hk) | ((with_reducible refine gate_lst ?_); (first | ((with_reducible refine' wpl_ung ?_ ?_ ?_); rotate_left 1; (focus exact rfl); (focus exact rfl)) | ((with_reducible refine gate_box rfl ?_); (first | (refine ia_box (sl := 3) st rfl rfl rfl rfl rfl ?_; clear st; intro B3 _ st))))))
      go_ret
      exact ⟨rfl, st.keep⟩
  · have h1 : decide ((m : Int) ≤ 80) = false := by simp; omega
    have hd : decide (m ≤ 80) = false := by simpa using h
    rw [hd, Bool.false_and]
    go_enter Tryz.func33, Tryz.ntmps33
    go_wp2_with (first | ((with_reducible refine gate_lst ?_); (first | ((with_reducible refine' wpl_ung ?_ ?_ ?_); rotate_left 1; (focus exact rfl); (focus exact rfl)) | ((with_reducible refine gate_box rfl ?_); (first | (refine ia_box (sl := 3) st rfl rfl rfl rfl rfl ?_; clear st; intro B3 _ st))))))
    go_ret
    exact ⟨rfl, st.keep⟩
def shtB (B : List Fm) (S : List Sh) : Bool := bkB B && shotsB B.length S
set_option maxRecDepth 100000 in
theorem ValidSheet_c (B : List Fm) (n : Nat) (hB : B.length = n) (hn : n ≤ 1000000) (p : Option Addr) (c : Nat) (S : List Sh) (m : Nat) (hS : S.length = m) (hm : m ≤ 1000000) (h8 : R8 S) (p' : Option Addr) (c' : Nat) (w : World) (hr : Rd w p n (encs fv B)) (hr' : Rd w p' m (encs p8 S)) :
    Calls Tryz.prog 15 #[.slice p n c, .slice p' m c'] w fun e w' => e = .returned (.bool (shtB B S)) ∧ Keep [] w w' := by
  have st := St.start w
  unfold shtB
  rw [hB]
  have HV := hid (fun w' (hk : Keep [] w w') => ValidBook_c B n hB (by omega) p c w' (hr.keep hk))
  have HA := hid (fun w' (hk : Keep [] w w') => areShots_c S m hS (by omega) h8 n (by omega) p' c' w' (hr'.keep hk))
  rcases Bool.eq_false_or_eq_true (bkB B) with q | q
  all_goals
    rw [q]
    rw [q] at HV
    simp only [Bool.true_and, Bool.false_and]
    go_enter Tryz.func15, Tryz.ntmps15
    go_wp2_with (first | (go_at_call 40; refine (HV.out _ st.keep).mono ?_; rintro _ _ ⟨rfl, hk⟩; replace st := st.call hk; clear hk) | (go_at_call 33; refine (HA.out _ st.keep).mono ?_; rintro _ _ ⟨rfl, hk⟩; replace st := st.call hk; clear hk) | ((with_reducible refine gate_lst ?_); (first | ((with_reducible refine' wpl_ung ?_ ?_ ?_); rotate_left 1; (focus exact rfl); (focus exact rfl)))))
    go_ret
    exact ⟨rfl, st.keep⟩
set_option maxHeartbeats 2000000 in
set_option maxRecDepth 100000 in
theorem l02Sheet_c (B : List Fm) (n : Nat) (hB : B.length = n) (hn : n ≤ 1000000) (p : Option Addr) (c : Nat) (S : List Sh) (m : Nat) (hS : S.length = m) (hm : m ≤ 1000000) (h8 : R8 S) (p' : Option Addr) (c' : Nat) (w : World) (hr : Rd w p n (encs fv B)) (hr' : Rd w p' m (encs p8 S)) :
    Calls Tryz.prog 38 #[.slice p n c, .slice p' m c'] w fun e w' => e = .returned (.bool (shtB B S)) ∧ Keep [] w w' := by
  have st := St.start w
  unfold shtB shotsB
  rw [hB, hS]
  have HV := hid (fun w' (hk : Keep [] w w') => l02Ok_c B n hB (by omega) p c w' (hr.keep hk))
  have H8 := hid h8
  replace hS := hid hS
  clear h8 hr hB
  rcases Bool.eq_false_or_eq_true (bkB B) with q | q
  · rw [q]
    rw [q] at HV
    by_cases h : m ≤ 80
    · have h1 : decide ((80 : Int) < (m : Int)) = false := by simp; omega
      have hd : decide (m ≤ 80) = true := by simpa using h
      rw [hd, Bool.true_and, Bool.true_and]
      go_enter Tryz.func38, Tryz.ntmps38
      go_wp2_with (first | (go_at_call 48; refine (HV.out _ st.keep).mono ?_; rintro _ _ ⟨rfl, hk⟩; replace st := st.call hk; clear hk) | ((with_reducible refine gate_lst ?_); (first | ((with_reducible refine' wpl_ung ?_ ?_ ?_); rotate_left 1; (focus exact rfl); (focus exact rfl)) | ((with_reducible refine gate_load rfl ?_); (first | (refine' ia_load1 st rfl rfl rfl ?_ ?_; rotate_left 1; (focus (first | exact N0.out | exact N1.out | exact N2.out | exact N3.out | exact N4.out | exact N5.out | exact G2.out | exact G3.out | exact G4.out | exact G0.out | exact G1.out | (refine frv_get _ _ ?_; (first | omega | (simp; done) | (simp; omega) | (simp [*]; omega))) | exact rfl))) | (refine' ia_load1Z (hb.keep st.keep (by simp)) rfl rfl rfl ?_ ?_; rotate_left 1; (focus exact rfl)) | (refine' ia_load1Z (hb'.keep st.keep (by simp)) rfl rfl rfl ?_ ?_; rotate_left 1; (focus exact rfl)) | (refine' ia_load1C (hb.keep st.keep (by simp)) rfl rfl rfl ?_ ?_; rotate_left 1; (focus (first | exact N0.out | exact N1.out | exact N2.out | exact N3.out | exact N4.out | exact N5.out | exact G2.out | exact G3.out | exact G4.out | exact G0.out | exact G1.out | (refine frv_get _ _ ?_; (first | omega | (simp; done) | (simp; omega) | (simp [*]; omega))) | exact rfl))) | (refine' ia_load1C (hb'.keep st.keep (by simp)) rfl rfl rfl ?_ ?_; rotate_left 1; (focus (first | exact N0.out | exact N1.out | exact N2.out | exact N3.out | exact N4.out | exact N5.out | exact G2.out | exact G3.out | exact G4.out | exact G0.out | exact G1.out | (refine frv_get _ _ ?_; (first | omega | (simp; done) | (simp; omega) | (simp [*]; omega))) | exact rfl))) | (refine' ia_load1B (hb1.keep st.keep (by simp)) rfl rfl rfl ?_ ?_; rotate_left 1; (focus (first | exact N0.out | exact N1.out | exact N2.out | exact N3.out | exact N4.out | exact N5.out | exact G2.out | exact G3.out | exact G4.out | exact G0.out | exact G1.out | (refine frv_get _ _ ?_; (first | omega | (simp; done) | (simp; omega) | (simp [*]; omega))) | exact rfl))) | (refine' ia_load1B (hb2.keep st.keep (by simp)) rfl rfl rfl ?_ ?_; rotate_left 1; (focus (first | exact N0.out | exact N1.out | exact N2.out | exact N3.out | exact N4.out | exact N5.out | exact G2.out | exact G3.out | exact G4.out | exact G0.out | exact G1.out | (refine frv_get _ _ ?_; (first | omega | (simp; done) | (simp; omega) | (simp [*]; omega))) | exact rfl))))) | ((with_reducible refine gate_addr rfl ?_); (first | (refine' ia_slcP HP.out rfl rfl rfl rfl ?_ ?_ ?_) | (refine' ia_slcP HP2.out rfl rfl rfl rfl ?_ ?_ ?_)); rotate_left 1; (focus (first | exact (rfl : (0 : Int) = ((0 : Nat) : Int)) | exact (rfl : (1 : Int) = ((1 : Nat) : Int)) | exact rfl | exact HE1.out | exact HE2.out)); (focus (first | omega | (simp; done) | (simp; omega) | (simp [*]; omega)))))))
      go_loopw [5] (fun i wr => ∃ k : Nat, k ≤ m ∧ i = .int .i64 k ∧ ShTo n S k ∧ St [] w wr []) (fun i _ => m - (intOf i).toNat)
      case atStart => exact ⟨0, by omega, rfl, fun _ _ h => absurd h (by omega), st⟩
      case round =>
        clear st
        obtain ⟨k, hk, rfl, hs, st⟩ := hrel
        replace hs := hid hs
        by_cases hlt : k < m
        · have hd : decide ((k : Int) < (m : Int)) = true := by simpa using hlt
          obtain ⟨b, f, hp, hcl⟩ := hr' (by omega)
          have HP := hid hp
          have hkB : k < S.length := by rw [hS.out]; exact hlt
          have hb := hcl.seg p8_len hkB
          have HSS := hid (hs.out.step hkB)
          have HN := hid (allSh_no (n := n) hkB)
          have HX := hid (H8.out.get hkB)
          obtain ⟨x, hx⟩ : ∃ x, S[k] = x := ⟨_, rfl⟩
          rw [hx] at hb HSS HN HX
          clear hx hp hcl hkB
          obtain ⟨a, d⟩ := x
          obtain ⟨⟨h1, h2⟩, h3, h4⟩ := HX.out
          simp only at h1 h2 h3 h4
          rw [shB_inB] at HSS HN
          have HA := hid (l00In_c a 0 ((n : Int) - 1))
          have HD := hid (l00In_c d 1 24)
          rcases Bool.eq_false_or_eq_true (inB a 0 ((n : Int) - 1)) with q1 | q1
          · rw [q1] at HA HSS HN
            rcases Bool.eq_false_or_eq_true (inB d 1 24) with q2 | q2
            · rw [q2] at HD HSS
              go_wp2_with (first | (go_at_call 45; (first | (with_reducible refine (HA.out _).mono ?_) | (with_reducible refine (HD.out _).mono ?_)); rintro _ _ ⟨rfl, hk⟩; replace st := st.call hk; clear hk) | ((with_reducible refine gate_lst ?_); (first | ((with_reducible refine' wpl_ung ?_ ?_ ?_); rotate_left 1; (focus exact rfl); (focus exact rfl)) | ((with_reducible refine gate_load rfl ?_); (first | (refine' ia_load1 st rfl rfl rfl ?_ ?_; rotate_left 1; (focus (first | exact N0.out | exact N1.out | exact N2.out | exact N3.out | exact N4.out | exact N5.out | exact G2.out | exact G3.out | exact G4.out | exact G0.out | exact G1.out | (refine frv_get _ _ ?_; (first | omega | (simp; done) | (simp; omega) | (simp [*]; omega))) | exact rfl))) | (refine' ia_load1Z (hb.keep st.keep (by simp)) rfl rfl rfl ?_ ?_; rotate_left 1; (focus exact rfl)) | (refine' ia_load1Z (hb'.keep st.keep (by simp)) rfl rfl rfl ?_ ?_; rotate_left 1; (focus exact rfl)) | (refine' ia_load1C (hb.keep st.keep (by simp)) rfl rfl rfl ?_ ?_; rotate_left 1; (focus (first | exact N0.out | exact N1.out | exact N2.out | exact N3.out | exact N4.out | exact N5.out | exact G2.out | exact G3.out | exact G4.out | exact G0.out | exact G1.out | (refine frv_get _ _ ?_; (first | omega | (simp; done) | (simp; omega) | (simp [*]; omega))) | exact rfl))) | (refine' ia_load1C (hb'.keep st.keep (by simp)) rfl rfl rfl ?_ ?_; rotate_left 1; (focus (first | exact N0.out | exact N1.out | exact N2.out | exact N3.out | exact N4.out | exact N5.out | exact G2.out | exact G3.out | exact G4.out | exact G0.out | exact G1.out | (refine frv_get _ _ ?_; (first | omega | (simp; done) | (simp; omega) | (simp [*]; omega))) | exact rfl))) | (refine' ia_load1B (hb1.keep st.keep (by simp)) rfl rfl rfl ?_ ?_; rotate_left 1; (focus (first | exact N0.out | exact N1.out | exact N2.out | exact N3.out | exact N4.out | exact N5.out | exact G2.out | exact G3.out | exact G4.out | exact G0.out | exact G1.out | (refine frv_get _ _ ?_; (first | omega | (simp; done) | (simp; omega) | (simp [*]; omega))) | exact rfl))) | (refine' ia_load1B (hb2.keep st.keep (by simp)) rfl rfl rfl ?_ ?_; rotate_left 1; (focus (first | exact N0.out | exact N1.out | exact N2.out | exact N3.out | exact N4.out | exact N5.out | exact G2.out | exact G3.out | exact G4.out | exact G0.out | exact G1.out | (refine frv_get _ _ ?_; (first | omega | (simp; done) | (simp; omega) | (simp [*]; omega))) | exact rfl))))) | ((with_reducible refine gate_addr rfl ?_); (first | (refine' ia_slcP HP.out rfl rfl rfl rfl ?_ ?_ ?_) | (refine' ia_slcP HP2.out rfl rfl rfl rfl ?_ ?_ ?_)); rotate_left 1; (focus (first | exact (rfl : (0 : Int) = ((0 : Nat) : Int)) | exact (rfl : (1 : Int) = ((1 : Nat) : Int)) | exact rfl | exact HE1.out | exact HE2.out)); (focus (first | omega | (simp; done) | (simp; omega) | (simp [*]; omega)))))))
              go_roundw
              case rel => exact ⟨k + 1, by omega, by go_num, HSS.out rfl, st⟩
              case measure => simp [intOf]; omega
            · rw [q2] at HD HN
              have HNN := hid (HN.out rfl)
              go_wp2_with (first | (go_at_call 45; (first | (with_reducible refine (HA.out _).mono ?_) | (with_reducible refine (HD.out _).mono ?_)); rintro _ _ ⟨rfl, hk⟩; replace st := st.call hk; clear hk) | ((with_reducible refine gate_lst ?_); (first | ((with_reducible refine' wpl_ung ?_ ?_ ?_); rotate_left 1; (focus exact rfl); (focus exact rfl)) | ((with_reducible refine gate_load rfl ?_); (first | (refine' ia_load1 st rfl rfl rfl ?_ ?_; rotate_left 1; (focus (first | exact N0.out | exact N1.out | exact N2.out | exact N3.out | exact N4.out | exact N5.out | exact G2.out | exact G3.out | exact G4.out | exact G0.out | exact G1.out | (refine frv_get _ _ ?_; (first | omega | (simp; done) | (simp; omega) | (simp [*]; omega))) | exact rfl))) | (refine' ia_load1Z (hb.keep st.keep (by simp)) rfl rfl rfl ?_ ?_; rotate_left 1; (focus exact rfl)) | (refine' ia_load1Z (hb'.keep st.keep (by simp)) rfl rfl rfl ?_ ?_; rotate_left 1; (focus exact rfl)) | (refine' ia_load1C (hb.keep st.keep (by simp)) rfl rfl rfl ?_ ?_; rotate_left 1; (focus (first | exact N0.out | exact N1.out | exact N2.out | exact N3.out | exact N4.out | exact N5.out | exact G2.out | exact G3.out | exact G4.out | exact G0.out | exact G1.out | (refine frv_get _ _ ?_; (first | omega | (simp; done) | (simp; omega) | (simp [*]; omega))) | exact rfl))) | (refine' ia_load1C (hb'.keep st.keep (by simp)) rfl rfl rfl ?_ ?_; rotate_left 1; (focus (first | exact N0.out | exact N1.out | exact N2.out | exact N3.out | exact N4.out | exact N5.out | exact G2.out | exact G3.out | exact G4.out | exact G0.out | exact G1.out | (refine frv_get _ _ ?_; (first | omega | (simp; done) | (simp; omega) | (simp [*]; omega))) | exact rfl))) | (refine' ia_load1B (hb1.keep st.keep (by simp)) rfl rfl rfl ?_ ?_; rotate_left 1; (focus (first | exact N0.out | exact N1.out | exact N2.out | exact N3.out | exact N4.out | exact N5.out | exact G2.out | exact G3.out | exact G4.out | exact G0.out | exact G1.out | (refine frv_get _ _ ?_; (first | omega | (simp; done) | (simp; omega) | (simp [*]; omega))) | exact rfl))) | (refine' ia_load1B (hb2.keep st.keep (by simp)) rfl rfl rfl ?_ ?_; rotate_left 1; (focus (first | exact N0.out | exact N1.out | exact N2.out | exact N3.out | exact N4.out | exact N5.out | exact G2.out | exact G3.out | exact G4.out | exact G0.out | exact G1.out | (refine frv_get _ _ ?_; (first | omega | (simp; done) | (simp; omega) | (simp [*]; omega))) | exact rfl))))) | ((with_reducible refine gate_addr rfl ?_); (first | (refine' ia_slcP HP.out rfl rfl rfl rfl ?_ ?_ ?_) | (refine' ia_slcP HP2.out rfl rfl rfl rfl ?_ ?_ ?_)); rotate_left 1; (focus (first | exact (rfl : (0 : Int) = ((0 : Nat) : Int)) | exact (rfl : (1 : Int) = ((1 : Nat) : Int)) | exact rfl | exact HE1.out | exact HE2.out)); (focus (first | omega | (simp; done) | (simp; omega) | (simp [*]; omega)))))))
              go_ret
              exact ⟨ret_bool HNN.out.symm, st.keep⟩
          · rw [q1, Bool.false_and] at HN
            rw [q1] at HA
            have HNN := hid (HN.out rfl)
            go_wp2_with (first | (go_at_call 45; (first | (with_reducible refine (HA.out _).mono ?_) | (with_reducible refine (HD.out _).mono ?_)); rintro _ _ ⟨rfl, hk⟩; replace st := st.call hk; clear hk) | ((with_reducible refine gate_lst ?_); (first | ((with_reducible refine' wpl_ung ?_ ?_ ?_); rotate_left 1; (focus exact rfl); (focus exact rfl)) | ((with_reducible refine gate_load rfl ?_); (first | (refine' ia_load1 st rfl rfl rfl ?_ ?_; rotate_left 1; (focus (first | exact N0.out | exact N1.out | exact N2.out | exact N3.out | exact N4.out | exact N5.out | exact G2.out | exact G3.out | exact G4.out | exact G0.out | exact G1.out | (refine frv_get _ _ ?_; (first | omega | (simp; done) | (simp; omega) | (simp [*]; omega))) | exact rfl))) | (refine' ia_load1Z (hb.keep st.keep (by simp)) rfl rfl rfl ?_ ?_; rotate_left 1; (focus exact rfl)) | (refine' ia_load1Z (hb'.keep st.keep (by simp)) rfl rfl rfl ?_ ?_; rotate_left 1; (focus exact rfl)) | (refine' ia_load1C (hb.keep st.keep (by simp)) rfl rfl rfl ?_ ?_; rotate_left 1; (focus (first | exact N0.out | exact N1.out | exact N2.out | exact N3.out | exact N4.out | exact N5.out | exact G2.out | exact G3.out | exact G4.out | exact G0.out | exact G1.out | (refine frv_get _ _ ?_; (first | omega | (simp; done) | (simp; omega) | (simp [*]; omega))) | exact rfl))) | (refine' ia_load1C (hb'.keep st.keep (by simp)) rfl rfl rfl ?_ ?_; rotate_left 1; (focus (first | exact N0.out | exact N1.out | exact N2.out | exact N3.out | exact N4.out | exact N5.out | exact G2.out | exact G3.out | exact G4.out | exact G0.out | exact G1.out | (refine frv_get _ _ ?_; (first | omega | (simp; done) | (simp; omega) | (simp [*]; omega))) | exact rfl))) | (refine' ia_load1B (hb1.keep st.keep (by simp)) rfl rfl rfl ?_ ?_; rotate_left 1; (focus (first | exact N0.out | exact N1.out | exact N2.out | exact N3.out | exact N4.out | exact N5.out | exact G2.out | exact G3.out | exact G4.out | exact G0.out | exact G1.out | (refine frv_get _ _ ?_; (first | omega | (simp; done) | (simp; omega) | (simp [*]; omega))) | exact rfl))) | (refine' ia_load1B (hb2.keep st.keep (by simp)) rfl rfl rfl ?_ ?_; rotate_left 1; (focus (first | exact N0.out | exact N1.out | exact N2.out | exact N3.out | exact N4.out | exact N5.out | exact G2.out | exact G3.out | exact G4.out | exact G0.out | exact G1.out | (refine frv_get _ _ ?_; (first | omega | (simp; done) | (simp; omega) | (simp [*]; omega))) | exact rfl))))) | ((with_reducible refine gate_addr rfl ?_); (first | (refine' ia_slcP HP.out rfl rfl rfl rfl ?_ ?_ ?_) | (refine' ia_slcP HP2.out rfl rfl rfl rfl ?_ ?_ ?_)); rotate_left 1; (focus (first | exact (rfl : (0 : Int) = ((0 : Nat) : Int)) | exact (rfl : (1 : Int) = ((1 : Nat) : Int)) | exact rfl | exact HE1.out | exact HE2.out)); (focus (first | omega | (simp; done) | (simp; omega) | (simp [*]; omega)))))))
            go_ret
            exact ⟨ret_bool HNN.out.symm, st.keep⟩
        · obtain rfl : k = m := by omega
          have hall := hid (hs.out.all hS.out)
          go_wp2_with (first | ((with_reducible refine gate_lst ?_); (first | ((with_reducible refine' wpl_ung ?_ ?_ ?_); rotate_left 1; (focus exact rfl); (focus exact rfl)) | ((with_reducible refine gate_load rfl ?_); (first | (refine' ia_load1 st rfl rfl rfl ?_ ?_; rotate_left 1; (focus (first | exact N0.out | exact N1.out | exact N2.out | exact N3.out | exact N4.out | exact N5.out | exact G2.out | exact G3.out | exact G4.out | exact G0.out | exact G1.out | (refine frv_get _ _ ?_; (first | omega | (simp; done) | (simp; omega) | (simp [*]; omega))) | exact rfl))) | (refine' ia_load1Z (hb.keep st.keep (by simp)) rfl rfl rfl ?_ ?_; rotate_left 1; (focus exact rfl)) | (refine' ia_load1Z (hb'.keep st.keep (by simp)) rfl rfl rfl ?_ ?_; rotate_left 1; (focus exact rfl)) | (refine' ia_load1C (hb.keep st.keep (by simp)) rfl rfl rfl ?_ ?_; rotate_left 1; (focus (first | exact N0.out | exact N1.out | exact N2.out | exact N3.out | exact N4.out | exact N5.out | exact G2.out | exact G3.out | exact G4.out | exact G0.out | exact G1.out | (refine frv_get _ _ ?_; (first | omega | (simp; done) | (simp; omega) | (simp [*]; omega))) | exact rfl))) | (refine' ia_load1C (hb'.keep st.keep (by simp)) rfl rfl rfl ?_ ?_; rotate_left 1; (focus (first | exact N0.out | exact N1.out | exact N2.out | exact N3.out | exact N4.out | exact N5.out | exact G2.out | exact G3.out | exact G4.out | exact G0.out | exact G1.out | (refine frv_get _ _ ?_; (first | omega | (simp; done) | (simp; omega) | (simp [*]; omega))) | exact rfl))) | (refine' ia_load1B (hb1.keep st.keep (by simp)) rfl rfl rfl ?_ ?_; rotate_left 1; (focus (first | exact N0.out | exact N1.out | exact N2.out | exact N3.out | exact N4.out | exact N5.out | exact G2.out | exact G3.out | exact G4.out | exact G0.out | exact G1.out | (refine frv_get _ _ ?_; (first | omega | (simp; done) | (simp; omega) | (simp [*]; omega))) | exact rfl))) | (refine' ia_load1B (hb2.keep st.keep (by simp)) rfl rfl rfl ?_ ?_; rotate_left 1; (focus (first | exact N0.out | exact N1.out | exact N2.out | exact N3.out | exact N4.out | exact N5.out | exact G2.out | exact G3.out | exact G4.out | exact G0.out | exact G1.out | (refine frv_get _ _ ?_; (first | omega | (simp; done) | (simp; omega) | (simp [*]; omega))) | exact rfl))))) | ((with_reducible refine gate_addr rfl ?_); (first | (refine' ia_slcP HP.out rfl rfl rfl rfl ?_ ?_ ?_) | (refine' ia_slcP HP2.out rfl rfl rfl rfl ?_ ?_ ?_)); rotate_left 1; (focus (first | exact (rfl : (0 : Int) = ((0 : Nat) : Int)) | exact (rfl : (1 : Int) = ((1 : Nat) : Int)) | exact rfl | exact HE1.out | exact HE2.out)); (focus (first | omega | (simp; done) | (simp; omega) | (simp [*]; omega)))))))
          go_ret
          exact ⟨ret_bool hall.out.symm, st.keep⟩
    · have h1 : decide ((80 : Int) < (m : Int)) = true := by simp; omega
      have hd : decide (m ≤ 80) = false := by simpa using h
      rw [hd, Bool.false_and, Bool.and_false]
      go_enter Tryz.func38, Tryz.ntmps38
      go_wp2_with (first | (go_at_call 48; refine (HV.out _ st.keep).mono ?_; rintro _ _ ⟨rfl, hk⟩; replace st := st.call hk; clear hk) | ((with_reducible refine gate_lst ?_); (first | ((with_reducible refine' wpl_ung ?_ ?_ ?_); rotate_left 1; (focus exact rfl); (focus exact rfl)) | ((with_reducible refine gate_load rfl ?_); (first | (refine' ia_load1 st rfl rfl rfl ?_ ?_; rotate_left 1; (focus (first | exact N0.out | exact N1.out | exact N2.out | exact N3.out | exact N4.out | exact N5.out | exact G2.out | exact G3.out | exact G4.out | exact G0.out | exact G1.out | (refine frv_get _ _ ?_; (first | omega | (simp; done) | (simp; omega) | (simp [*]; omega))) | exact rfl))) | (refine' ia_load1Z (hb.keep st.keep (by simp)) rfl rfl rfl ?_ ?_; rotate_left 1; (focus exact rfl)) | (refine' ia_load1Z (hb'.keep st.keep (by simp)) rfl rfl rfl ?_ ?_; rotate_left 1; (focus exact rfl)) | (refine' ia_load1C (hb.keep st.keep (by simp)) rfl rfl rfl ?_ ?_; rotate_left 1; (focus (first | exact N0.out | exact N1.out | exact N2.out | exact N3.out | exact N4.out | exact N5.out | exact G2.out | exact G3.out | exact G4.out | exact G0.out | exact G1.out | (refine frv_get _ _ ?_; (first | omega | (simp; done) | (simp; omega) | (simp [*]; omega))) | exact rfl))) | (refine' ia_load1C (hb'.keep st.keep (by simp)) rfl rfl rfl ?_ ?_; rotate_left 1; (focus (first | exact N0.out | exact N1.out | exact N2.out | exact N3.out | exact N4.out | exact N5.out | exact G2.out | exact G3.out | exact G4.out | exact G0.out | exact G1.out | (refine frv_get _ _ ?_; (first | omega | (simp; done) | (simp; omega) | (simp [*]; omega))) | exact rfl))) | (refine' ia_load1B (hb1.keep st.keep (by simp)) rfl rfl rfl ?_ ?_; rotate_left 1; (focus (first | exact N0.out | exact N1.out | exact N2.out | exact N3.out | exact N4.out | exact N5.out | exact G2.out | exact G3.out | exact G4.out | exact G0.out | exact G1.out | (refine frv_get _ _ ?_; (first | omega | (simp; done) | (simp; omega) | (simp [*]; omega))) | exact rfl))) | (refine' ia_load1B (hb2.keep st.keep (by simp)) rfl rfl rfl ?_ ?_; rotate_left 1; (focus (first | exact N0.out | exact N1.out | exact N2.out | exact N3.out | exact N4.out | exact N5.out | exact G2.out | exact G3.out | exact G4.out | exact G0.out | exact G1.out | (refine frv_get _ _ ?_; (first | omega | (simp; done) | (simp; omega) | (simp [*]; omega))) | exact rfl))))) | ((with_reducible refine gate_addr rfl ?_); (first | (refine' ia_slcP HP.out rfl rfl rfl rfl ?_ ?_ ?_) | (refine' ia_slcP HP2.out rfl rfl rfl rfl ?_ ?_ ?_)); rotate_left 1; (focus (first | exact (rfl : (0 : Int) = ((0 : Nat) : Int)) | exact (rfl : (1 : Int) = ((1 : Nat) : Int)) | exact rfl | exact HE1.out | exact HE2.out)); (focus (first | omega | (simp; done) | (simp; omega) | (simp [*]; omega)))))))
      go_ret
      exact ⟨rfl, st.keep⟩
  · rw [q, Bool.false_and]
    rw [q] at HV
    go_enter Tryz.func38, Tryz.ntmps38
    go_wp2_with (first | (go_at_call 48; refine (HV.out _ st.keep).mono ?_; rintro _ _ ⟨rfl, hk⟩; replace st := st.call hk; clear hk) | ((with_reducible refine gate_lst ?_); (first | ((with_reducible refine' wpl_ung ?_ ?_ ?_); rotate_left 1; (focus exact rfl); (focus exact rfl)) | ((with_reducible refine gate_load rfl ?_); (first | (refine' ia_load1 st rfl rfl rfl ?_ ?_; rotate_left 1; (focus (first | exact N0.out | exact N1.out | exact N2.out | exact N3.out | exact N4.out | exact N5.out | exact G2.out | exact G3.out | exact G4.out | exact G0.out | exact G1.out | (refine frv_get _ _ ?_; (first | omega | (simp; done) | (simp; omega) | (simp [*]; omega))) | exact rfl))) | (refine' ia_load1Z (hb.keep st.keep (by simp)) rfl rfl rfl ?_ ?_; rotate_left 1; (focus exact rfl)) | (refine' ia_load1Z (hb'.keep st.keep (by simp)) rfl rfl rfl ?_ ?_; rotate_left 1; (focus exact rfl)) | (refine' ia_load1C (hb.keep st.keep (by simp)) rfl rfl rfl ?_ ?_; rotate_left 1; (focus (first | exact N0.out | exact N1.out | exact N2.out | exact N3.out | exact N4.out | exact N5.out | exact G2.out | exact G3.out | exact G4.out | exact G0.out | exact G1.out | (refine frv_get _ _ ?_; (first | omega | (simp; done) | (simp; omega) | (simp [*]; omega))) | exact rfl))) | (refine' ia_load1C (hb'.keep st.keep (by simp)) rfl rfl rfl ?_ ?_; rotate_left 1; (focus (first | exact N0.out | exact N1.out | exact N2.out | exact N3.out | exact N4.out | exact N5.out | exact G2.out | exact G3.out | exact G4.out | exact G0.out | exact G1.out | (refine frv_get _ _ ?_; (first | omega | (simp; done) | (simp; omega) | (simp [*]; omega))) | exact rfl))) | (refine' ia_load1B (hb1.keep st.keep (by simp)) rfl rfl rfl ?_ ?_; rotate_left 1; (focus (first | exact N0.out | exact N1.out | exact N2.out | exact N3.out | exact N4.out | exact N5.out | exact G2.out | exact G3.out | exact G4.out | exact G0.out | exact G1.out | (refine frv_get _ _ ?_; (first | omega | (simp; done) | (simp; omega) | (simp [*]; omega))) | exact rfl))) | (refine' ia_load1B (hb2.keep st.keep (by simp)) rfl rfl rfl ?_ ?_; rotate_left 1; (focus (first | exact N0.out | exact N1.out | exact N2.out | exact N3.out | exact N4.out | exact N5.out | exact G2.out | exact G3.out | exact G4.out | exact G0.out | exact G1.out | (refine frv_get _ _ ?_; (first | omega | (simp; done) | (simp; omega) | (simp [*]; omega))) | exact rfl))))) | ((with_reducible refine gate_addr rfl ?_); (first | (refine' ia_slcP HP.out rfl rfl rfl rfl ?_ ?_ ?_) | (refine' ia_slcP HP2.out rfl rfl rfl rfl ?_ ?_ ?_)); rotate_left 1; (focus (first | exact (rfl : (0 : Int) = ((0 : Nat) : Int)) | exact (rfl : (1 : Int) = ((1 : Nat) : Int)) | exact rfl | exact HE1.out | exact HE2.out)); (focus (first | omega | (simp; done) | (simp; omega) | (simp [*]; omega)))))))
    go_ret
    exact ⟨rfl, st.keep⟩
end Go.Proofs.YtlljflmbnbjccaaGreatDoor
/- A region that draws its order, in two turns: what only reads is taken first, then what comes in one order; then both once more; no condition. -/
namespace Go.Proofs.YtlljflmbnbjccaaGreatDoor
open Go.RowKit
set_option linter.unusedSimpArgs false
set_option linter.unusedVariables false
section
variable {P : Program} {ops : Array Oper} {Q : Exit → Act → World → Prop} {S : World → Prop}
def loudKB (ops : Array Oper) : List Nat → Array Bool → Bool
  | [], _ => true
  | i :: r, listed => decide (Region.ready .any ops listed = [i]) && (match ops[i]? with | some o => o.guard.isNone | none => false) && loudKB ops r (listed.setIfInBounds i true)
def schedB2 (ops : Array Oper) (tk ld tk2 ld2 : List Nat) : Bool :=
  Region.noSelect ops && takeB ops tk (Array.replicate ops.size false) && loudKB ops ld (setAll tk (Array.replicate ops.size false)) && takeB ops tk2 (setAll ld (setAll tk (Array.replicate ops.size false))) &&
    loudB ops ld2 (setAll tk2 (setAll ld (setAll tk (Array.replicate ops.size false)))) && decide (tk.length + (ld.length + (tk2.length + ld2.length)) = ops.size)
def wpLoudK (P : Program) (ops : Array Oper) (S : World → Prop) (K : Act → World → Prop) : List Oper → Act → World → Prop
  | [], a, w => K a w
  | o :: r, a, w => wpList P ops (AftS S (wpLoudK P ops S K r)) [o] a w
theorem wpAnyH_loudK {g : Nat} {K : Act → World → Prop} : ∀ (ld : List Nat) (l : List Oper) (listed : Array Bool) (a : Act) (w : World), l.toArray = ops → loudKB ops ld listed = true → S w → wpLoudK P ops S K (sel l ld) a w →
    (∀ a w, S w → K a w → wpAnyH P .any ops (NormQ Q) S g (setAll ld listed) a w) → wpAnyH P .any ops (NormQ Q) S (ld.length + g) listed a w
  | [], l, listed, a, w, hl, hB, hS, h, hK => by rw [List.length_nil, Nat.zero_add]; exact hK a w hS h
  | i :: r, l, listed, a, w, hl, hB, hS, h, hK => by
    simp only [loudKB, Bool.and_eq_true, decide_eq_true_eq] at hB
    obtain ⟨⟨hr, hg⟩, hB'⟩ := hB
    cases ho : ops[i]? with
    | none => rw [ho] at hg; cases hg
    | some o =>
      rw [ho] at hg
      have hlo : l[i]? = some o := by rw [← hl] at ho; simpa using ho
      have hsel : sel l (i :: r) = o :: sel l r := by simp [sel, hlo]
      rw [hsel] at h
      rw [List.length_cons, show r.length + 1 + g = (r.length + g) + 1 by omega]
      refine ⟨fun h0 => (by rw [hr] at h0; cases h0), fun j hj => ?_⟩
      rw [hr] at hj
      obtain rfl : j = i := by simpa using hj
      have hg' : o.guard = none := by have hg2 : o.guard.isNone = true := hg; simpa using hg2
      have hw : ∀ ys, Region.wanted o ys = true := fun ys => by simp [Region.wanted, hg']
      have h1 : o.wp P a w (fun a w => S w ∧ wpLoudK P ops S K (sel l r) a w) (AftS S (wpLoudK P ops S K (sel l r))) ∨ (o.asks P a w ∧ LetsOut (AftS S (wpLoudK P ops S K (sel l r)))) := by
        have := h
        unfold wpLoudK wpList at this
        rw [if_pos (hw _)] at this
        exact this
      unfold wpOp
      simp only [ho, hw, if_true]
      rcases h1 with h1 | ⟨_, _, _, h2⟩
      · refine Or.inl ?_
        have h2 := upon_aftS (Q' := NormQ Q) h1
        exact Oper.wp_mono (fun a' w' hK' => ⟨hK'.1, wpAnyH_loudK r l _ a' w' hl hB' hK'.1 hK'.2 hK⟩) h2
      · exact h2.elim
end
section
variable {P : Program} {Q : Exit → Act → World → Prop} {a : Act} {w w0 : World} {M : List Nat} {L : List (Nat × List Value × TypeId)} {l : List Oper}
theorem wp_region_sched2_st {id : Nat} (st : St M w0 w L) (tk ld tk2 ld2 : List Nat) (L1 : List (Nat × List Value × TypeId)) (hL1 : ∀ w', St M w0 w' L → St M w0 w' L1) (hm : P.follows .mixedOrders = true) (hB : schedB2 l.toArray tk ld tk2 ld2 = true)
    (h : wpQuiet P l.toArray (fun w' => St M w0 w' L1) (fun a' => ∀ w', St M w0 w' L → wpLoudK P l.toArray (fun w' => St M w0 w' L1) (fun a2 w2 => wpQuiet P l.toArray (fun w' => St M w0 w' L1) (fun a3 => wpLoud P l.toArray (fun w' => St M w0 w' L1) Q (sel l ld2) a3 w2) (sel l tk2) a2) (sel l ld) a' w') (sel l tk) a) : (Code.region id l.toArray true).wp P Q a w := by
  simp only [schedB2, Bool.and_eq_true, decide_eq_true_eq] at hB
  obtain ⟨⟨⟨⟨⟨hs, ht⟩, hl⟩, ht2⟩, hl2⟩, hn⟩ := hB
  refine wp_region_any hm ?_
  have st1 := st.call (Keep.drew w)
  rw [← hn]
  refine wpAny_mono (Q := NormQ Q) (fun e a w h => by cases e <;> first | exact h | exact h.elim) _ _ _ _ ?_
  refine wpAny_of_held (S := fun w' => St M w0 w' L1) _ _ _ _ ?_
  rw [hn]
  have hk := wpAnyH_takes (P := P) (Q := NormQ Q) (S := fun w' => St M w0 w' L1) (g := ld.length + (tk2.length + ld2.length)) hs (fun c a d v w h => h.elim) tk l (Array.replicate l.toArray.size false) a w.drew rfl ht (hL1 _ st1)
    (wpQuiet_mono (fun a' ha => wpAnyH_loudK (g := tk2.length + ld2.length) ld l _ a' _ rfl hl (hL1 _ st1) (ha _ st1) (fun a2 w2 hS2 hK2 =>
      wpAnyH_takes (P := P) (Q := NormQ Q) (S := fun w' => St M w0 w' L1) (g := ld2.length) hs (fun c a d v w h => h.elim) tk2 l _ a2 w2 rfl ht2 hS2
        (wpQuiet_mono (fun a3 ha3 => wpAnyH_loud ld2 l _ a3 _ rfl hl2 ha3) _ _ hK2))) _ _ h)
  rw [hn] at hk
  exact hk
theorem loudK_go {S : World → Prop} {ops : Array Oper} {o : Oper} {r : List Oper} {K : Act → World → Prop} (h : wpList P ops (AftS S (wpLoudK P ops S K r)) [o] a w) : wpLoudK P ops S K (o :: r) a w := h
theorem loudK_nil {S : World → Prop} {ops : Array Oper} {K : Act → World → Prop} (h : K a w) : wpLoudK P ops S K [] a w := h
end
end Go.Proofs.YtlljflmbnbjccaaGreatDoor
