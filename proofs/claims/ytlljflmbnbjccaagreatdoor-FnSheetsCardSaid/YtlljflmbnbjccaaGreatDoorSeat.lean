/- Closed facts on this seat's cut; no condition. -/
import Derived.Test.YtlljflmbnbjccaaGreatDoorRows
import Derived.JoinedOf
import Derived.KernelRfl
namespace Go.Proofs.YtlljflmbnbjccaaGreatDoor
/-- The head word's letters. -/
theorem headLetters : Tryz.prog.initOrder.toList = List.map Char.ofNat [104, 97, 114, 110, 101, 115, 115, 32, 54, 51, 49, 54, 53, 54, 101, 101, 57, 53, 100, 100, 49, 102, 97, 50, 99, 55, 55, 99, 97, 50, 102, 98, 57, 55, 54, 56, 56, 50, 97, 49, 97, 56, 98, 53, 50, 50, 50, 50, 50, 54, 52, 102, 55, 56, 53, 53, 51, 57, 97, 98, 98, 49, 52, 99, 56, 100, 97, 53, 49, 54, 50, 100, 32, 99, 117, 116, 32, 97, 116, 32, 108, 111, 111, 112, 46, 101, 120, 97, 109, 112, 108, 101, 47, 103, 48, 49, 51, 52, 48, 47, 108, 97, 119, 115, 46, 70, 110, 83, 104, 101, 101, 116, 115] := by
  rw [show Tryz.prog.initOrder = String.ofList (List.map Char.ofNat [104, 97, 114, 110, 101, 115, 115, 32, 54, 51, 49, 54, 53, 54, 101, 101, 57, 53, 100, 100, 49, 102, 97, 50, 99, 55, 55, 99, 97, 50, 102, 98, 57, 55, 54, 56, 56, 50, 97, 49, 97, 56, 98, 53, 50, 50, 50, 50, 50, 54, 52, 102, 55, 56, 53, 53, 51, 57, 97, 98, 98, 49, 52, 99, 56, 100, 97, 53, 49, 54, 50, 100, 32, 99, 117, 116, 32, 97, 116, 32, 108, 111, 111, 112, 46, 101, 120, 97, 109, 112, 108, 101, 47, 103, 48, 49, 51, 52, 48, 47, 108, 97, 119, 115, 46, 70, 110, 83, 104, 101, 101, 116, 115]) from by kernel_rfl]
  exact String.toList_ofList
/-- Its words. -/
theorem headWords : wordsSigns Tryz.prog.initOrder.toList = List.map (List.map Char.ofNat) [[104, 97, 114, 110, 101, 115, 115], [54, 51, 49, 54, 53, 54, 101, 101, 57, 53, 100, 100, 49, 102, 97, 50, 99, 55, 55, 99, 97, 50, 102, 98, 57, 55, 54, 56, 56, 50, 97, 49, 97, 56, 98, 53, 50, 50, 50, 50, 50, 54, 52, 102, 55, 56, 53, 53, 51, 57, 97, 98, 98, 49, 52, 99, 56, 100, 97, 53, 49, 54, 50, 100], [99, 117, 116], [97, 116], [108, 111, 111, 112, 46, 101, 120, 97, 109, 112, 108, 101, 47, 103, 48, 49, 51, 52, 48, 47, 108, 97, 119, 115, 46, 70, 110, 83, 104, 101, 101, 116, 115]] := by
  rw [headLetters]
  kernel_rfl
theorem laysLater_ : Tryz.prog.laysLater = false := by kernel_rfl
theorem bearsReflect_ : Tryz.prog.bearsReflect = false := by kernel_rfl
theorem lifts_ : stripLifts liftWords (behindMainWord (wordsSigns Tryz.prog.initOrder.toList)) = ([], List.map (List.map Char.ofNat) [[99, 117, 116], [97, 116], [108, 111, 111, 112, 46, 101, 120, 97, 109, 112, 108, 101, 47, 103, 48, 49, 51, 52, 48, 47, 108, 97, 119, 115, 46, 70, 110, 83, 104, 101, 101, 116, 115]]) := by
  rw [headWords]
  kernel_rfl
theorem behind_ : behindMainWord (wordsSigns Tryz.prog.initOrder.toList) = List.map (List.map Char.ofNat) [[99, 117, 116], [97, 116], [108, 111, 111, 112, 46, 101, 120, 97, 109, 112, 108, 101, 47, 103, 48, 49, 51, 52, 48, 47, 108, 97, 119, 115, 46, 70, 110, 83, 104, 101, 101, 116, 115]] := by
  rw [headWords]
  kernel_rfl
theorem doorFits_ : Tryz.prog.doorFits [] = true := by kernel_rfl
theorem make_of {P : Program} {c : List Char} {rest : List (List Char)} (h : behindMainWord (wordsSigns P.initOrder.toList) = c :: rest) (h1 : (c == "gc".toList || c == "spec".toList) = false) (h2 : (c == "cut".toList) = true) : P.make = some .cut := by
  unfold Program.make
  rw [h]
  simp only [h1, h2, Bool.true_or, if_true, Bool.false_eq_true, if_false]
theorem enter_of {P : Program} {c : List Char} {rest : List (List Char)} (h : behindMainWord (wordsSigns P.initOrder.toList) = c :: rest) (h1 : (c == "gc".toList || c == "spec".toList) = false) (h2 : (c == "cut".toList) = true)
    (h3 : (c == "carried".toList) = false) (h4 : stripLifts liftWords (behindMainWord (wordsSigns P.initOrder.toList)) = ([], c :: rest)) (h5 : P.laysLater = false) (h6 : P.bearsReflect = false) (h7 : P.doorFits [] = true) : P.mayEnter = true := by
  unfold Program.mayEnter
  rw [h] at h4 ⊢
  have h8 : (some c == some "cut".toList) = true := by simpa using h2
  have hn1 : (([] : List String).contains "finals") = false := rfl
  have hn2 : (([] : List String).contains "reflectrows") = false := rfl
  have hn3 : (([] : List String).contains "leanrows") = false := rfl
  simp only [h1, h3, h4, h5, h6, h7, h8, hn1, hn2, hn3, List.head?_cons, Bool.false_and, Bool.false_or, Bool.not_false, Bool.and_true, Bool.or_true]
theorem head_of {P : Program} {ws : List (List Char)} (h4 : stripLifts liftWords (behindMainWord (wordsSigns P.initOrder.toList)) = ([], ws)) : P.headLifts = [] := by
  unfold Program.headLifts
  rw [h4]
  dsimp only
  split <;> rfl
theorem lifts_of {P : Program} {c : List Char} {rest : List (List Char)} (h : behindMainWord (wordsSigns P.initOrder.toList) = c :: rest)
    (h3 : (c == "carried".toList) = false) (h4 : stripLifts liftWords (behindMainWord (wordsSigns P.initOrder.toList)) = ([], c :: rest)) : P.liftsFinal = false := by
  unfold Program.liftsFinal
  rw [head_of h4, h]
  have h5 : (some c == some "carried".toList) = false := by simpa using h3
  simp only [h5, List.head?_cons, Bool.false_and, Bool.false_or]
  rfl
theorem c1 : (List.map Char.ofNat [99, 117, 116] == "gc".toList || List.map Char.ofNat [99, 117, 116] == "spec".toList) = false := by kernel_rfl
theorem c2 : (List.map Char.ofNat [99, 117, 116] == "cut".toList) = true := by kernel_rfl
theorem c3 : (List.map Char.ofNat [99, 117, 116] == "carried".toList) = false := by kernel_rfl
theorem make_ : Tryz.prog.make = some .cut := make_of behind_ c1 c2
theorem mayEnter_ : Tryz.prog.mayEnter = true := enter_of behind_ c1 c2 c3 lifts_ laysLater_ bearsReflect_ doorFits_
theorem liftsFinal_ : Tryz.prog.liftsFinal = false := lifts_of behind_ c3 lifts_
theorem laidOut : laidOutB Tryz.prog = true := by kernel_rfl
theorem and_t {a b : Bool} (h1 : a = true) (h2 : b = true) : (a && b) = true := by rw [h1, h2]; rfl
theorem beq_t {α : Type} [BEq α] [LawfulBEq α] {a b : α} (h : a = b) : (a == b) = true := by rw [h]; exact beq_self_eq_true b
theorem mapsRowed_ : mapsRowed Tryz.prog = true := by kernel_rfl
theorem plainKeys_ : Tryz.prog.plainKeys = true := by kernel_rfl
theorem stopsHeard_ : Tryz.prog.stopsHeard = true := by kernel_rfl
end Go.Proofs.YtlljflmbnbjccaaGreatDoor
