/- How slices of pairs and triples among a law's arguments are read; no condition. -/
import Derived.Test.YtlljflmbnbjccaaDoorOpenV
import Derived.Test.YtlljflmbnbjccaaDoorEncs
namespace Go.Proofs.YtlljflmbnbjccaaDoor
open Go.RowKit Go.ChangeShapes Go.WideShapes
section
variable {H : Type} {enc : TypeId × Value → H} {P : Program} {w : World} {base : Nat} {spare : Nat → Bool} {held : Bool} {t te e e2 : TypeId}
theorem i8_wf {n : Int} (h : (Lit.int .i8 n).wf = true) : -128 ≤ n ∧ n ≤ 127 := by
  simp [Lit.wf, IntKind.min, IntKind.max, IntKind.signed, IntKind.bits] at h; omega
theorem i16_wf {n : Int} (h : (Lit.int .i16 n).wf = true) : -32768 ≤ n ∧ n ≤ 32767 := by
  simp [Lit.wf, IntKind.min, IntKind.max, IntKind.signed, IntKind.bits] at h; omega
def In8 (x : Int × Int) : Prop := (-128 ≤ x.1 ∧ x.1 ≤ 127) ∧ (-128 ≤ x.2 ∧ x.2 ≤ 127)
def In168 (x : Int × Int × Int) : Prop := (-32768 ≤ x.1 ∧ x.1 ≤ 32767) ∧ (-128 ≤ x.2.1 ∧ x.2.1 ≤ 127) ∧ (-128 ≤ x.2.2 ∧ x.2.2 ≤ 127)
theorem encs_sub {α : Type} {p : α → Prop} (f : α → List Value) (B : List {a : α // p a}) : encs (fun s : {a : α // p a} => f s.1) B = encs f (B.map Subtype.val) := by
  unfold encs
  rw [List.flatMap_map]
theorem pair_cells {fuel : Nat} {cs : List Value} {x : DataW H × List MemPlace} {f0 f1 : Field} (ht : P.underlying t = some (.struct #[f0, f1])) (ho : f0.offset = 0 ∧ f1.offset = 1) (hty : f0.type = e ∧ f1.type = e)
    (he : P.underlying e = some (.int .i8)) (hce : P.cellsOf e = 1) (hct : P.cellsOf t = 2)
    (h : DataW.trod enc P w base spare held fuel t cs = some x) : ∃ a : Int × Int, In8 a ∧ cs = p8 a := by
  obtain ⟨xs, n, _, hx, hl, hlen, hx2⟩ := DataW.trod_struct ht h
  obtain ⟨o0, o1⟩ := ho
  obtain ⟨t0, t1⟩ := hty
  match xs, hlen with
  | [y0, y1], _ =>
    have g0 := hx2 0 f0 rfl
    have g1 := hx2 1 f1 rfl
    rw [t0, o0, hce] at g0
    rw [t1, o1, hce] at g1
    obtain ⟨n0, e0, hy0, w0⟩ := DataW.trod_int he g0
    obtain ⟨n1, e1, hy1, w1⟩ := DataW.trod_int he g1
    refine ⟨(n0, n1), ⟨i8_wf w0, i8_wf w1⟩, ?_⟩
    rw [hct] at hl
    match cs, hl with
    | [c0, c1], _ =>
      simp at e0 e1
      rw [e0, e1]; rfl
theorem open_pairs {f0 f1 : Field} (ht : P.underlying t = some (.slice te)) (hs : P.underlying te = some (.struct #[f0, f1])) (ho : f0.offset = 0 ∧ f1.offset = 1) (hty : f0.type = e ∧ f1.type = e) (he : P.underlying e = some (.int .i8)) (hce : P.cellsOf e = 1) (hct : P.cellsOf te = 2)
    {r : Reach} {b0 : Nat} {v : Value} {d : DataW H} {ps : List MemPlace} (hval : Value.okWide P w r b0 t v) (hd : DataW.Trod enc P w base spare held t v d ps) :
    ∃ (B : List (Int × Int)) (p : Option Addr) (n c : Nat), B.length = n ∧ v = .slice p n c ∧ n ≤ 9223372036854775807 ∧ Rd w p n (encs p8 B) ∧ ∀ s ∈ B, In8 s := by
  obtain ⟨B, p, n, c, hB, hv, hn, hr⟩ := open_vec (α := {a : Int × Int // In8 a}) (s := 2) (fun a => p8 a.1) (by decide) (fun a => p8_len _) ht hct (fun fuel cs x h => by
    obtain ⟨a, ha, e1⟩ := pair_cells hs ho hty he hce hct h
    exact ⟨⟨a, ha⟩, e1⟩) hval hd
  refine ⟨B.map Subtype.val, p, n, c, by simpa using hB, hv, hn, by rw [← encs_sub]; exact hr, fun s hs => ?_⟩
  obtain ⟨a, _, rfl⟩ := List.mem_map.1 hs
  exact a.2
theorem key_cells {fuel : Nat} {cs : List Value} {x : DataW H × List MemPlace} {f0 f1 f2 : Field} (ht : P.underlying t = some (.struct #[f0, f1, f2])) (ho : f0.offset = 0 ∧ f1.offset = 1 ∧ f2.offset = 2) (h0 : f0.type = e2) (hty : f1.type = e ∧ f2.type = e)
    (he2 : P.underlying e2 = some (.int .i16)) (he : P.underlying e = some (.int .i8)) (hce2 : P.cellsOf e2 = 1) (hce : P.cellsOf e = 1) (hct : P.cellsOf t = 3)
    (h : DataW.trod enc P w base spare held fuel t cs = some x) : ∃ a : Int × Int × Int, In168 a ∧ cs = k3 a := by
  obtain ⟨xs, n, _, hx, hl, hlen, hx2⟩ := DataW.trod_struct ht h
  obtain ⟨o0, o1, o2⟩ := ho
  obtain ⟨t1, t2⟩ := hty
  match xs, hlen with
  | [y0, y1, y2], _ =>
    have g0 := hx2 0 f0 rfl
    have g1 := hx2 1 f1 rfl
    have g2 := hx2 2 f2 rfl
    rw [h0, o0, hce2] at g0
    rw [t1, o1, hce] at g1
    rw [t2, o2, hce] at g2
    obtain ⟨n0, e0, hy0, w0⟩ := DataW.trod_int he2 g0
    obtain ⟨n1, e1, hy1, w1⟩ := DataW.trod_int he g1
    obtain ⟨n2, e3, hy2, w2⟩ := DataW.trod_int he g2
    refine ⟨(n0, n1, n2), ⟨i16_wf w0, i8_wf w1, i8_wf w2⟩, ?_⟩
    rw [hct] at hl
    match cs, hl with
    | [c0, c1, c2], _ =>
      simp at e0 e1 e3
      rw [e0, e1, e3]; rfl
theorem open_keys {f0 f1 f2 : Field} (ht : P.underlying t = some (.slice te)) (hs : P.underlying te = some (.struct #[f0, f1, f2])) (ho : f0.offset = 0 ∧ f1.offset = 1 ∧ f2.offset = 2) (h0 : f0.type = e2) (hty : f1.type = e ∧ f2.type = e) (he2 : P.underlying e2 = some (.int .i16)) (he : P.underlying e = some (.int .i8)) (hce2 : P.cellsOf e2 = 1) (hce : P.cellsOf e = 1) (hct : P.cellsOf te = 3)
    {r : Reach} {b0 : Nat} {v : Value} {d : DataW H} {ps : List MemPlace} (hval : Value.okWide P w r b0 t v) (hd : DataW.Trod enc P w base spare held t v d ps) :
    ∃ (B : List (Int × Int × Int)) (p : Option Addr) (n c : Nat), B.length = n ∧ v = .slice p n c ∧ n ≤ 9223372036854775807 ∧ Rd w p n (encs k3 B) ∧ ∀ s ∈ B, In168 s := by
  obtain ⟨B, p, n, c, hB, hv, hn, hr⟩ := open_vec (α := {a : Int × Int × Int // In168 a}) (s := 3) (fun a => k3 a.1) (by decide) (fun a => rfl) ht hct (fun fuel cs x h => by
    obtain ⟨a, ha, e1⟩ := key_cells hs ho h0 hty he2 he hce2 hce hct h
    exact ⟨⟨a, ha⟩, e1⟩) hval hd
  refine ⟨B.map Subtype.val, p, n, c, by simpa using hB, hv, hn, by rw [← encs_sub]; exact hr, fun s hs => ?_⟩
  obtain ⟨a, _, rfl⟩ := List.mem_map.1 hs
  exact a.2
end
end Go.Proofs.YtlljflmbnbjccaaDoor
