/- Part of the proof: the runs of functions on the abstract machine. -/
import Derived.Test.YthcchjhieolflaaPam33
import Derived.Test.YthcchjhieolflaaFns
import Derived.Test.YthcchjhieolflaaDVe
namespace Go.Proofs.Ythcchjhieolflaa.M
open Go Go.Pam Go.RowKit Go.WideShapes
set_option maxRecDepth 4000
set_option linter.unusedVariables false
set_option linter.unusedSimpArgs false

structure Ok_Api_CSN (x : Api_CSN) : Prop where
  h0 : (Lit.int .i64 x.Time).wf = true
  h1 : (Lit.int .i64 x.Seq).wf = true
  h2 : (Lit.int .i64 x.Rep).wf = true
theorem opens_Api_CSN {H : Type} {enc : TypeId × Value → H} {w : World} {sp : Nat → Bool} {held : Bool} (hsp : ∀ b, sp b = true) : ∀ fuel, Opens enc Try.prog w sp held fuel 50 e_Api_CSN Ok_Api_CSN := by
  intro fuel
  induction fuel using Nat.strongRecOn with
  | ind fuel ih =>
  intro cs x h
  obtain ⟨xs, m, rfl, _, hl, hx, hf⟩ := DataW.trod_struct Try.underlying50 h
  have hl : cs.length = 3 := hl.trans (by kernel_rfl)
  have hx : xs.length = 3 := hx
  have c0 : ∃ y, DataW.trod enc Try.prog w 0 sp held m 2 ((cs.drop 0).take 1) = some y := by
    have h1 := hf 0 _ rfl
    have h2 : DataW.trod enc Try.prog w 0 sp held m 2 ((cs.drop 0).take (Try.prog.cellsOf 2)) = xs[0]? := h1
    rw [show Try.prog.cellsOf 2 = 1 from by kernel_rfl, List.getElem?_eq_getElem (by omega)] at h2
    exact ⟨_, h2⟩
  obtain ⟨y0, hy0⟩ := c0
  obtain ⟨a0, o0, v0⟩ := (fun m => opens_int Try.underlying2) m _ _ hy0
  have c1 : ∃ y, DataW.trod enc Try.prog w 0 sp held m 3 ((cs.drop 1).take 1) = some y := by
    have h1 := hf 1 _ rfl
    have h2 : DataW.trod enc Try.prog w 0 sp held m 3 ((cs.drop 1).take (Try.prog.cellsOf 3)) = xs[1]? := h1
    rw [show Try.prog.cellsOf 3 = 1 from by kernel_rfl, List.getElem?_eq_getElem (by omega)] at h2
    exact ⟨_, h2⟩
  obtain ⟨y1, hy1⟩ := c1
  obtain ⟨a1, o1, v1⟩ := (fun m => opens_int Try.underlying3) m _ _ hy1
  have c2 : ∃ y, DataW.trod enc Try.prog w 0 sp held m 3 ((cs.drop 2).take 1) = some y := by
    have h1 := hf 2 _ rfl
    have h2 : DataW.trod enc Try.prog w 0 sp held m 3 ((cs.drop 2).take (Try.prog.cellsOf 3)) = xs[2]? := h1
    rw [show Try.prog.cellsOf 3 = 1 from by kernel_rfl, List.getElem?_eq_getElem (by omega)] at h2
    exact ⟨_, h2⟩
  obtain ⟨y2, hy2⟩ := c2
  obtain ⟨a2, o2, v2⟩ := (fun m => opens_int Try.underlying3) m _ _ hy2
  refine ⟨⟨a0, a1, a2⟩, ⟨o0, o1, o2⟩, ?_⟩
  rw [e_Api_CSN_cells]
  have hc := CV.field v0 (CV.field v1 (CV.field v2 (CV.fin hl)))
  rw [List.drop_zero] at hc
  exact hc
end Go.Proofs.Ythcchjhieolflaa.M
