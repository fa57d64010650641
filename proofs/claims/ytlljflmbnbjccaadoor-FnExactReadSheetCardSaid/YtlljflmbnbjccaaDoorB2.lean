/- Dots put, joined and told: the small functions on frames that write; no condition. -/
import Derived.Test.YtlljflmbnbjccaaDoorB1
import Derived.Test.YtlljflmbnbjccaaDoorTail
namespace Go.Proofs.YtlljflmbnbjccaaDoor
open Go.RowKit
set_option linter.unusedSimpArgs false
set_option linter.unusedVariables false

theorem u16_wrap {n : Int} (h0 : 0 ≤ n) (h1 : n < 65536) : IntKind.u16.wrap n = n := by
  simp [IntKind.wrap, IntKind.bits, IntKind.signed]; omega
theorem bits_u16 (op : BinOp) (a b : Nat) (ha : a < 65536) (hb : b < 65536) (r : Nat) (hr : r < 65536)
    (h : (match op with | .and => BitVec.ofNat 16 a &&& BitVec.ofNat 16 b | .or => BitVec.ofNat 16 a ||| BitVec.ofNat 16 b | .xor => BitVec.ofNat 16 a ^^^ BitVec.ofNat 16 b | _ => BitVec.ofNat 16 a &&& ~~~BitVec.ofNat 16 b).toNat = r) : bits op .u16 a b = r := by
  have e1 : BitVec.ofInt IntKind.u16.bits (a : Int) = BitVec.ofNat 16 a := by simp [IntKind.bits]
  have e2 : BitVec.ofInt IntKind.u16.bits (b : Int) = BitVec.ofNat 16 b := by simp [IntKind.bits]
  unfold bits
  simp only [e1, e2]
  exact (congrArg (fun n : Nat => IntKind.u16.wrap (n : Int)) h).trans (u16_wrap (by omega) (by omega))
theorem or_u16 (a b : Nat) (ha : a < 65536) (hb : b < 65536) : bits .or .u16 a b = ((a ||| b : Nat) : Int) :=
  bits_u16 .or a b ha hb _ (Nat.or_lt_two_pow (n := 16) ha hb) (by simp [Nat.mod_eq_of_lt ha, Nat.mod_eq_of_lt hb])
theorem and_u16 (a b : Nat) (ha : a < 65536) (hb : b < 65536) : bits .and .u16 a b = ((a &&& b : Nat) : Int) :=
  bits_u16 .and a b ha hb _ (Nat.and_lt_two_pow (n := 16) a hb) (by simp [Nat.mod_eq_of_lt ha, Nat.mod_eq_of_lt hb])
theorem xor_u16 (a b : Nat) (ha : a < 65536) (hb : b < 65536) : bits .xor .u16 a b = ((a ^^^ b : Nat) : Int) :=
  bits_u16 .xor a b ha hb _ (Nat.xor_lt_two_pow (n := 16) ha hb) (by simp [Nat.mod_eq_of_lt ha, Nat.mod_eq_of_lt hb])
/-- a without the bits of b. -/
def andNot (a b : Nat) : Nat := a &&& (65535 - b)
theorem andNot_lt (a b : Nat) : andNot a b < 65536 := Nat.and_lt_two_pow (n := 16) a (by omega)
theorem andNot_u16 (a b : Nat) (ha : a < 65536) (hb : b < 65536) : bits .andNot .u16 a b = ((andNot a b : Nat) : Int) :=
  bits_u16 .andNot a b ha hb _ (andNot_lt a b) (by simp [andNot, Nat.mod_eq_of_lt ha, Nat.mod_eq_of_lt hb, BitVec.toNat_not])
theorem testBit_andNot (a b i : Nat) (hb : b < 65536) (hi : i < 16) : (andNot a b).testBit i = (a.testBit i && !b.testBit i) := by
  unfold andNot
  rw [Nat.testBit_and]
  congr 1
  have := Nat.testBit_two_pow_sub_succ (n := 16) hb i
  rw [show (2 : Nat) ^ 16 - (b + 1) = 65535 - b by omega] at this
  rw [this]; simp [hi]

theorem shl_one {x : Nat} (hx : x < 12) : IntKind.u16.wrap (1 * 2 ^ x) = ((2 ^ x : Nat) : Int) := by
  rw [Int.one_mul]
  have h : (2 : Nat) ^ x ≤ 2 ^ 11 := Nat.pow_le_pow_right (by omega) (by omega)
  have e : ((2 : Int) ^ x) = ((2 ^ x : Nat) : Int) := by simp
  rw [e]
  generalize 2 ^ x = n at h ⊢
  exact u16_wrap (by omega) (by omega)
theorem two_pow_lt {x : Nat} (hx : x < 12) : 2 ^ x < 65536 := by
  have h : (2 : Nat) ^ x ≤ 2 ^ 11 := Nat.pow_le_pow_right (by omega) (by omega)
  omega
theorem conv_u64 {x : Nat} (hx : x < 12) : IntKind.u64.wrap (x : Int) = (x : Int) := by
  simp [IntKind.wrap, IntKind.bits, IntKind.signed]; omega

section
variable {P : Program} {T : TypeId}
theorem run_shl1 {k : IntKind} {x : Nat} (hx : x < 12) (w : World) : (binOp .shl T (.int .u16 1) (.int k (x : Int))).run P w = .ok (.int .u16 ((2 ^ x : Nat) : Int)) w := by
  rw [binOp_shl, shift_shl_u16 k 1 (x : Int) (by omega) (by omega), Int.toNat_natCast, shl_one hx]; rfl
theorem run_or {a b : Nat} (ha : a < 65536) (hb : b < 65536) (w : World) : (binOp .or T (.int .u16 a) (.int .u16 b)).run P w = .ok (.int .u16 ((a ||| b : Nat) : Int)) w := by
  rw [binOp_or, intBits_or, or_u16 a b ha hb]; rfl
theorem run_and {a b : Nat} (ha : a < 65536) (hb : b < 65536) (w : World) : (binOp .and T (.int .u16 a) (.int .u16 b)).run P w = .ok (.int .u16 ((a &&& b : Nat) : Int)) w := by
  rw [binOp_and, intBits_and, and_u16 a b ha hb]; rfl
theorem run_xor {a b : Nat} (ha : a < 65536) (hb : b < 65536) (w : World) : (binOp .xor T (.int .u16 a) (.int .u16 b)).run P w = .ok (.int .u16 ((a ^^^ b : Nat) : Int)) w := by
  rw [binOp_xor, intBits_xor, xor_u16 a b ha hb]; rfl
theorem run_andNot {a b : Nat} (ha : a < 65536) (hb : b < 65536) (w : World) : (binOp .andNot T (.int .u16 a) (.int .u16 b)).run P w = .ok (.int .u16 ((andNot a b : Nat) : Int)) w := by
  rw [binOp_andNot, intBits_andNot, andNot_u16 a b ha hb]; rfl
end

theorem placeB_nat {x y : Nat} (hx : x < 12) (hy : y < 12) : placeB x y = true := by
  simp [placeB, inB]; omega
theorem placeB_iff {x y : Int} : placeB x y = true ↔ 0 ≤ x ∧ x < 12 ∧ 0 ≤ y ∧ y < 12 := by
  simp [placeB, inB]; omega
/-- A dot is put, if there is such a place. -/
def putI (f : List Nat) (x y : Int) : List Nat := if placeB x y = true then withD f x.toNat y.toNat else f
theorem ret_bool {a b : Bool} (h : a = b) : Ending.returned (.bool a) = .returned (.bool b) := by rw [h]
theorem ret_int {k : IntKind} {a b : Int} (h : a = b) : Ending.returned (.int k a) = .returned (.int k b) := by rw [h]
theorem hasI_yes (f : List Nat) {x y : Nat} (hx : x < 12) (hy : y < 12) : hasI f x y = (ro f y).testBit x := by
  rw [hasI_nat, hasD_in f hx hy]
theorem hasI_no (f : List Nat) {x y : Int} (h : placeB x y = false) : hasI f x y = false := by
  have : ¬ (0 ≤ x ∧ x < 12 ∧ 0 ≤ y ∧ y < 12) := fun h' => by rw [placeB_iff.2 h'] at h; cases h
  simp [hasI, this]
theorem has_rem (r x : Nat) : (((r : Int) / 2 ^ x).tmod 2 == 1) = r.testBit x := by
  have e : ((r : Int) / 2 ^ x) = ((r / 2 ^ x : Nat) : Int) := by simp
  rw [e, Int.tmod_eq_emod_of_nonneg (Int.natCast_nonneg _), Nat.testBit_eq_decide_div_mod_eq]
  rw [Bool.eq_iff_iff]; simp; omega
theorem has_and (r x : Nat) (hr : r < 65536) : (bits .and .u16 ((r : Int) / 2 ^ x) 1 == 1) = r.testBit x := by
  have e : ((r : Int) / 2 ^ x) = ((r / 2 ^ x : Nat) : Int) := by simp
  have h1 : r / 2 ^ x < 65536 := Nat.lt_of_le_of_lt (Nat.div_le_self _ _) hr
  have h2 := and_u16 (r / 2 ^ x) 1 h1 (by omega)
  rw [e, show ((1 : Int)) = ((1 : Nat) : Int) from rfl, h2, Nat.and_one_is_mod, Nat.testBit_eq_decide_div_mod_eq]
  rw [Bool.eq_iff_iff]; simp; omega
/-- A closure that tells of each place whether p is true there, in every world that keeps what w holds. -/
def Tells (fv : Value) (p : Nat → Nat → Bool) (w : World) : Prop :=
  ∃ (F : FuncId) (fn : Func) (cap : Array Value), fv = .func (.func F) #[] cap ∧ Tryd.prog.funcs[F]? = some fn ∧ (fn.name == "runtime.NumGoroutine") = false ∧ fn.body.isNone = false ∧
    ∀ (x y : Nat) (w1 : World), x < 12 → y < 12 → Keep [] w w1 → Calls Tryd.prog F (#[.int .i64 x, .int .i64 y] ++ cap) w1 fun e w' => e = .returned (.bool (p x y)) ∧ Keep [] w1 w'
end Go.Proofs.YtlljflmbnbjccaaDoor
