/- FilterBytes: the four kinds of items with two bytes are read back. -/
import Derived.Test.YthkjepoaddfoiaaFilZb
import Derived.Test.YthkjepoaddfoiaaFDy
import Derived.Test.YthkjepoaddfoiaaFilK
namespace Go.Proofs.Ythkjepoaddfoiaa.M
open Go Go.Pam
set_option maxRecDepth 20000
set_option linter.unusedVariables false
set_option linter.unusedSimpArgs false

theorem tail7 {f : Fil} (hf : fewP 22 f) (hi : isS 22 f = true) (hc : cS 22 f ≤ 20) :
    (Option.bind (F13 300000 f) fun y270 =>
      Option.bind (F18 300000 y270) fun y271 =>
      Option.bind (F12 300000 f) fun y273 =>
      Option.bind (if y273 && (y271.2 == 0) then
      Option.bind (F17 300000 f y271.1) fun y280 =>
      some y280
      else
      some false) fun y279 =>
      some y279) = some true := by
  have hl := prS_len 22 f hi hc
  obtain ⟨q1, q2, q3⟩ := is_of (k := 300000) hf hi hc (by omega) (by omega)
  obtain ⟨g, g1, g2, _, _⟩ := back (k := 300000) hf hi hc (by omega) (by omega) (by omega)
  rw [bnd q2, bnd g1, bnd q1]
  simp only
  rw [if_pos (by simp), bnd g2]
  rfl

theorem two (a b : Int) : Str.of (some [a, b]) = [UInt8.ofNat a.toNat, UInt8.ofNat b.toNat] := rfl
theorem one (a : Int) : Str.of (some [a]) = [UInt8.ofNat a.toNat] := rfl

theorem leaf_ok (c d : UInt8) (kd : Int) (h : kd = 4 ∨ kd = 5 ∨ kd = 6) : fewP 22 (Api_Filter.mk kd [115, 110] [c, d] none none) ∧ isS 22 (Api_Filter.mk kd [115, 110] [c, d] none none) = true ∧ cS 22 (Api_Filter.mk kd [115, 110] [c, d] none none) ≤ 20 := by
  refine ⟨⟨by simp [Sl.l], by simp, by simp, by simp [Sl.l], (fun v hv => by cases hv), (fun g hg => by cases hg)⟩, ?_, ?_⟩
  · rcases h with rfl | rfl | rfl <;> rfl
  · rcases h with rfl | rfl | rfl <;> exact (by decide : (1 : Int) ≤ 20)

theorem parts_ok (c d : UInt8) : fewP 22 (Api_Filter.mk 8 [115, 110] [] (some [[c, d], [d], []]) none) ∧ isS 22 (Api_Filter.mk 8 [115, 110] [] (some [[c, d], [d], []]) none) = true ∧ cS 22 (Api_Filter.mk 8 [115, 110] [] (some [[c, d], [d], []]) none) ≤ 20 := by
  refine ⟨⟨by simp [Sl.l], by simp, by simp, by simp [Sl.l], (fun v hv => ?_), (fun g hg => by cases hg)⟩, rfl, (by decide : (1 : Int) ≤ 20)⟩
  simp only [Sl.l, Option.getD_some, List.mem_cons, List.not_mem_nil, or_false] at hv
  rcases hv with rfl | rfl | rfl <;> simp

theorem F7_true (a0 a1 a2 : Int) (h2 : 0 ≤ a2) : F7 300000 a0 a1 a2 = some true := by
  unfold F7
  rw [bnd known7, if_neg (by simp)]
  obtain ⟨z, _, hz⟩ := rem?_nat h2 (n := 4) (by omega)
  rw [bnd (show rem? a2 4 = some (z : Int) from hz)]
  simp only [two, one]
  by_cases h1 : ((z : Int) == 1) = true
  · obtain ⟨x, y, w⟩ := leaf_ok (UInt8.ofNat a0.toNat) (UInt8.ofNat a1.toNat) 5 (by omega)
    rw [if_pos h1, Option.bind_some]
    exact tail7 x y w
  · rw [if_neg h1]
    by_cases h2 : ((z : Int) == 2) = true
    · obtain ⟨x, y, w⟩ := leaf_ok (UInt8.ofNat a0.toNat) (UInt8.ofNat a1.toNat) 6 (by omega)
      rw [if_pos h2, Option.bind_some, Option.bind_some]
      exact tail7 x y w
    · rw [if_neg h2]
      by_cases h3 : ((z : Int) == 3) = true
      · obtain ⟨x, y, w⟩ := parts_ok (UInt8.ofNat a0.toNat) (UInt8.ofNat a1.toNat)
        rw [if_pos h3, Option.bind_some, Option.bind_some, Option.bind_some]
        exact tail7 x y w
      · obtain ⟨x, y, w⟩ := leaf_ok (UInt8.ofNat a0.toNat) (UInt8.ofNat a1.toNat) 4 (by omega)
        rw [if_neg h3, Option.bind_some, Option.bind_some, Option.bind_some]
        exact tail7 x y w

theorem filterBytes_true (a0 a1 a2 : Int) (o0 : (Lit.int .u8 a0).wf = true) (o1 : (Lit.int .u8 a1).wf = true) (o2 : (Lit.int .u8 a2).wf = true) : evw env 7 [.int .u8 a0, .int .u8 a1, .int .u8 a2] [] = some (.bool true, [], false) := by
  have h2 : 0 ≤ a2 := by
    have hb : 0 ≤ a2 ∧ a2 ≤ 255 := by simpa [Lit.wf, IntKind.min, IntKind.max, IntKind.signed, IntKind.bits] using o2
    exact hb.1
  refine s7 300000 (F7_true a0 a1 a2 h2) ?_ []
  rfl
end Go.Proofs.Ythkjepoaddfoiaa.M
