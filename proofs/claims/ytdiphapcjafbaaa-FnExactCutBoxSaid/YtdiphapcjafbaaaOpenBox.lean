/- How a box among a law's arguments is read; no condition. -/
import Derived.Test.YtdiphapcjafbaaaOpen
import Derived.Test.YtdiphapcjafbaaaCut
namespace Go.Proofs.Ytdiphapcjafbaaa
open Go.RowKit Go.ChangeShapes Go.WideShapes
section
variable {H : Type} {enc : TypeId × Value → H} {P : Program} {w : World} {base : Nat} {spare : Nat → Bool} {held : Bool} {t e : TypeId}
theorem okWide_struct {r : Reach} {b0 : Nat} {fs : Array Field} {v : Value} (ht : P.underlying t = some (.struct fs)) (h : Value.okWide P w r b0 t v) : ∃ cs, v = .agg cs ∧ cs.size = P.cellsOf t := by
  simp only [Value.okWide, ht] at h
  obtain ⟨cs, h1, h2, _⟩ := h
  exact ⟨cs, h1, h2⟩
theorem i8_of_wf {n : Int} (h : (Lit.int .i8 n).wf = true) : -128 ≤ n ∧ n < 128 := by
  simp [Lit.wf, IntKind.min, IntKind.max, IntKind.signed, IntKind.bits] at h; omega
theorem open_box {r : Reach} {b0 : Nat} {v : Value} {d : DataW H} {ps : List MemPlace} {f0 f1 f2 f3 : Field} (ht : P.underlying t = some (.struct #[f0, f1, f2, f3])) (ho : f0.offset = 0 ∧ f1.offset = 1 ∧ f2.offset = 2 ∧ f3.offset = 3) (hty : f0.type = e ∧ f1.type = e ∧ f2.type = e ∧ f3.type = e)
    (he : P.underlying e = some (.int .i8)) (hce : P.cellsOf e = 1) (hct : P.cellsOf t = 4)
    (hval : Value.okWide P w r b0 t v) (hd : DataW.Trod enc P w base spare held t v d ps) : ∃ b : Int × Int × Int × Int, BxOk b ∧ v = .agg (bxv b).toArray ∧ ps = [] := by
  obtain ⟨cs, rfl, hs⟩ := okWide_struct ht hval
  obtain ⟨fuel, hf⟩ := hd
  obtain ⟨xs, n, _, hx, hl, hlen, hx2⟩ := DataW.trod_struct ht hf
  obtain ⟨o0, o1, o2, o3⟩ := ho
  obtain ⟨t0, t1, t2, t3⟩ := hty
  match xs, hlen with
  | [y0, y1, y2, y3], _ =>
    have g0 := hx2 0 f0 rfl
    have g1 := hx2 1 f1 rfl
    have g2 := hx2 2 f2 rfl
    have g3 := hx2 3 f3 rfl
    rw [t0, o0, hce] at g0
    rw [t1, o1, hce] at g1
    rw [t2, o2, hce] at g2
    rw [t3, o3, hce] at g3
    simp only [Value.cells] at hl g0 g1 g2 g3
    obtain ⟨n0, e0, hy0, w0⟩ := DataW.trod_int he g0
    obtain ⟨n1, e1, hy1, w1⟩ := DataW.trod_int he g1
    obtain ⟨n2, e2, hy2, w2⟩ := DataW.trod_int he g2
    obtain ⟨n3, e3, hy3, w3⟩ := DataW.trod_int he g3
    refine ⟨(n0, n1, n2, n3), ⟨i8_of_wf w0, i8_of_wf w1, i8_of_wf w2, i8_of_wf w3⟩, ?_, ?_⟩
    · rw [hct] at hl
      match hcs : cs.toList, hl with
      | [c0, c1, c2, c3], _ =>
        rw [hcs] at e0 e1 e2 e3
        simp at e0 e1 e2 e3
        have : cs = #[c0, c1, c2, c3] := by rw [← Array.toArray_toList (xs := cs), hcs]
        rw [this, e0, e1, e2, e3]; rfl
    · have : ps = [y0, y1, y2, y3].flatMap (·.2) := by simpa using (congrArg Prod.snd hx)
      rw [this]
      subst hy0 hy1 hy2 hy3
      rfl
end
end Go.Proofs.Ytdiphapcjafbaaa
