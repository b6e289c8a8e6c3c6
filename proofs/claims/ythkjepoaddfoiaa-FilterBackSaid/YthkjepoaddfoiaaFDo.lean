/- Part of the proof: the runs of functions on the abstract machine. -/
import Derived.Test.YthkjepoaddfoiaaPamM4
import Derived.Test.YthkjepoaddfoiaaFns
import Derived.Test.YthkjepoaddfoiaaFDe
namespace Go.Proofs.Ythkjepoaddfoiaa.M
open Go Go.Pam Go.RowKit Go.WideShapes
set_option maxRecDepth 4000
set_option linter.unusedVariables false
set_option linter.unusedSimpArgs false

inductive Ok_Api_Filter : Api_Filter → Prop
 | mk (x : Api_Filter) (h0 : (Lit.int .i64 x.Kind).wf = true) (h1 : x.Attr.length ≤ maxLen) (h2 : x.Value.length ≤ maxLen) (h3 : ((Sl.l x.Subs).length ≤ maxLen ∧ ∀ a ∈ Sl.l x.Subs, a.length ≤ maxLen)) (h4 : (Sl.l x.Kids).length ≤ maxLen) (g4 : ∀ a ∈ Sl.l x.Kids, Ok_Api_Filter a) : Ok_Api_Filter x
theorem opens_Api_Filter {H : Type} {enc : TypeId × Value → H} {w : World} {sp : Nat → Bool} {held : Bool} (hsp : ∀ b, sp b = true) : ∀ fuel, Opens enc Try.prog w sp held fuel 25 e_Api_Filter Ok_Api_Filter := by
 intro fuel
 induction fuel using Nat.strongRecOn with
 | ind fuel ih =>
 intro cs x h
 obtain ⟨xs, m, rfl, _, hl, hx, hf⟩ := DataW.trod_struct Try.underlying25 h
 have hl : cs.length = 5 := hl.trans (by kernel_rfl)
 have hx : xs.length = 5 := hx
 have c0 : ∃ y, DataW.trod enc Try.prog w 0 sp held m 3 ((cs.drop 0).take 1) = some y := by
  have h1 := hf 0 _ rfl
  have h2 : DataW.trod enc Try.prog w 0 sp held m 3 ((cs.drop 0).take (Try.prog.cellsOf 3)) = xs[0]? := h1
  rw [show Try.prog.cellsOf 3 = 1 from by kernel_rfl, List.getElem?_eq_getElem (by omega)] at h2
  exact ⟨_, h2⟩
 obtain ⟨y0, hy0⟩ := c0
 obtain ⟨a0, o0, v0⟩ := (fun m => opens_int Try.underlying3) m _ _ hy0
 have c1 : ∃ y, DataW.trod enc Try.prog w 0 sp held m 9 ((cs.drop 1).take 1) = some y := by
  have h1 := hf 1 _ rfl
  have h2 : DataW.trod enc Try.prog w 0 sp held m 9 ((cs.drop 1).take (Try.prog.cellsOf 9)) = xs[1]? := h1
  rw [show Try.prog.cellsOf 9 = 1 from by kernel_rfl, List.getElem?_eq_getElem (by omega)] at h2
  exact ⟨_, h2⟩
 obtain ⟨y1, hy1⟩ := c1
 obtain ⟨a1, o1, v1⟩ := (fun m => opens_str Try.underlying9) m _ _ hy1
 have c2 : ∃ y, DataW.trod enc Try.prog w 0 sp held m 9 ((cs.drop 2).take 1) = some y := by
  have h1 := hf 2 _ rfl
  have h2 : DataW.trod enc Try.prog w 0 sp held m 9 ((cs.drop 2).take (Try.prog.cellsOf 9)) = xs[2]? := h1
  rw [show Try.prog.cellsOf 9 = 1 from by kernel_rfl, List.getElem?_eq_getElem (by omega)] at h2
  exact ⟨_, h2⟩
 obtain ⟨y2, hy2⟩ := c2
 obtain ⟨a2, o2, v2⟩ := (fun m => opens_str Try.underlying9) m _ _ hy2
 have c3 : ∃ y, DataW.trod enc Try.prog w 0 sp held m 22 ((cs.drop 3).take 1) = some y := by
  have h1 := hf 3 _ rfl
  have h2 : DataW.trod enc Try.prog w 0 sp held m 22 ((cs.drop 3).take (Try.prog.cellsOf 22)) = xs[3]? := h1
  rw [show Try.prog.cellsOf 22 = 1 from by kernel_rfl, List.getElem?_eq_getElem (by omega)] at h2
  exact ⟨_, h2⟩
 obtain ⟨y3, hy3⟩ := c3
 obtain ⟨a3, o3, v3⟩ := (fun m => opens_slice (sz := 1) Try.underlying22 (by kernel_rfl) (by decide) (fun _ => rfl) hsp (fun n _ => (fun m => opens_str Try.underlying9) n)) m _ _ hy3
 have c4 : ∃ y, DataW.trod enc Try.prog w 0 sp held m 23 ((cs.drop 4).take 1) = some y := by
  have h1 := hf 4 _ rfl
  have h2 : DataW.trod enc Try.prog w 0 sp held m 23 ((cs.drop 4).take (Try.prog.cellsOf 23)) = xs[4]? := h1
  rw [show Try.prog.cellsOf 23 = 1 from by kernel_rfl, List.getElem?_eq_getElem (by omega)] at h2
  exact ⟨_, h2⟩
 obtain ⟨y4, hy4⟩ := c4
 obtain ⟨a4, o4, v4⟩ := (fun m => opens_slice (sz := 5) Try.underlying23 (by kernel_rfl) (by decide) (fun a => (e_Api_Filter_one a).2.1) hsp (fun n hn => ih n (by omega))) m _ _ hy4
 refine ⟨⟨a0, a1, a2, a3, a4⟩, .mk _ o0 o1 o2 o3 o4.1 o4.2, ?_⟩
 rw [e_Api_Filter_cells]
 have hc := CV.field v0 (CV.field v1 (CV.field v2 (CV.field v3 (CV.field v4 (CV.fin hl)))))
 rw [List.drop_zero] at hc
 rw [show (encSl eS a3).cells = [encSl eS a3] from (isSl_enc _ a3).one.2] at hc
 rw [show (encSl e_Api_Filter a4).cells = [encSl e_Api_Filter a4] from (isSl_enc _ a4).one.2] at hc
 exact hc
theorem Ok_Api_Filter.h0 {x : Api_Filter} (h : Ok_Api_Filter x) : (Lit.int .i64 x.Kind).wf = true := by cases h; first | assumption | exact ⟨‹_›, ‹_›⟩
theorem Ok_Api_Filter.h1 {x : Api_Filter} (h : Ok_Api_Filter x) : x.Attr.length ≤ maxLen := by cases h; first | assumption | exact ⟨‹_›, ‹_›⟩
theorem Ok_Api_Filter.h2 {x : Api_Filter} (h : Ok_Api_Filter x) : x.Value.length ≤ maxLen := by cases h; first | assumption | exact ⟨‹_›, ‹_›⟩
theorem Ok_Api_Filter.h3 {x : Api_Filter} (h : Ok_Api_Filter x) : ((Sl.l x.Subs).length ≤ maxLen ∧ ∀ a ∈ Sl.l x.Subs, a.length ≤ maxLen) := by cases h; first | assumption | exact ⟨‹_›, ‹_›⟩
theorem Ok_Api_Filter.h4 {x : Api_Filter} (h : Ok_Api_Filter x) : ((Sl.l x.Kids).length ≤ maxLen ∧ ∀ a ∈ Sl.l x.Kids, Ok_Api_Filter a) := by cases h; first | assumption | exact ⟨‹_›, ‹_›⟩
end Go.Proofs.Ythkjepoaddfoiaa.M
