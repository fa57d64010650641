/- How slices of bytes among a law's arguments are read; no condition. -/
import Derived.Test.YtmndbmapepenjaaOpenV
import Derived.Test.YtmndbmapepenjaaEncs
namespace Go.Proofs.Ytmndbmapepenjaa
open Go.RowKit Go.ChangeShapes Go.WideShapes
section
variable {H : Type} {enc : TypeId × Value → H} {P : Program} {w : World} {base : Nat} {spare : Nat → Bool} {held : Bool} {t te e e2 : TypeId}
def u1 (n : Int) : List Value := [.int .u8 n]
theorem u8_wf {n : Int} (h : (Lit.int .u8 n).wf = true) : 0 ≤ n ∧ n ≤ 255 := by
  simp [Lit.wf, IntKind.min, IntKind.max, IntKind.signed, IntKind.bits] at h; omega
theorem encs_subB {α : Type} {p : α → Prop} (f : α → List Value) (B : List {a : α // p a}) : encs (fun s : {a : α // p a} => f s.1) B = encs f (B.map Subtype.val) := by
  unfold encs
  rw [List.flatMap_map]
theorem open_bytes (ht : P.underlying t = some (.slice te)) (he : P.underlying te = some (.int .u8)) (hct : P.cellsOf te = 1)
    {r : Reach} {b0 : Nat} {v : Value} {d : DataW H} {ps : List MemPlace} (hval : Value.okWide P w r b0 t v) (hd : DataW.Trod enc P w base spare held t v d ps) :
    ∃ (B : List Int) (p : Option Addr) (n c : Nat), B.length = n ∧ v = .slice p n c ∧ n ≤ 9223372036854775807 ∧ Rd w p n (encs u1 B) ∧ ∀ s ∈ B, 0 ≤ s ∧ s ≤ 255 := by
  obtain ⟨B, p, n, c, hB, hv, hn, hr⟩ := open_vec (α := {a : Int // 0 ≤ a ∧ a ≤ 255}) (s := 1) (fun a => u1 a.1) (by decide) (fun a => rfl) ht hct (fun fuel cs x h => by
    obtain ⟨n, e0, _, wf⟩ := DataW.trod_int he h
    exact ⟨⟨n, u8_wf wf⟩, e0⟩) hval hd
  refine ⟨B.map Subtype.val, p, n, c, by simpa using hB, hv, hn, by rw [← encs_subB]; exact hr, fun s hs => ?_⟩
  obtain ⟨a, _, rfl⟩ := List.mem_map.1 hs
  exact a.2
end
end Go.Proofs.Ytmndbmapepenjaa
