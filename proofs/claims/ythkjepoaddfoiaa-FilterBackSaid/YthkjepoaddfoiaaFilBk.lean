/- FilterBack: no text that is read is the beginning of another. -/
import Derived.Test.YthkjepoaddfoiaaFilZb
import Derived.Test.YthkjepoaddfoiaaFilW
import Derived.Test.YthkjepoaddfoiaaFilVb
import Derived.Test.YthkjepoaddfoiaaFDb
import Derived.Test.YthkjepoaddfoiaaFDo
namespace Go.Proofs.Ythkjepoaddfoiaa.M
open Go Go.Pam
set_option maxRecDepth 20000
set_option linter.unusedVariables false
set_option linter.unusedSimpArgs false

theorem prefixfree {f g : Fil} {rest : Str} (hf : isS 22 f = true) (hg : isS 22 g = true) (cf : cS 22 f ≤ 20) (cg : cS 22 g ≤ 20) (h : prS 22 f = prS 22 g ++ rest) (hl : (prS 22 f).length ≤ 160000) : rest = [] := by
 have h1 : At ⟨prS 22 f, 0, 20, false⟩ (prS 22 f ++ []) := ⟨rfl, Int.le_refl _, by simp⟩
 have h2 : At ⟨prS 22 f, 0, 20, false⟩ (prS 22 g ++ rest) := ⟨rfl, Int.le_refl _, by simp [h]⟩
 obtain ⟨x, x1, _⟩ := rb 22 300000 (by omega) f _ [] hf cf (Int.le_refl _) h1 hl
 obtain ⟨y, y1, _⟩ := rb 22 300000 (by omega) g _ rest hg cg (Int.le_refl _) h2 hl
 rw [x1] at y1
 injection y1 with y1
 injection y1 with y1 _
 have := congrArg (fun r : Rd => r.at_) y1
 simp only [fwdL] at this
 rw [h, List.length_append] at this
 exact List.eq_nil_of_length_eq_zero (by omega)

theorem f20_no {f : Fil} {s : Str} (hf : isS 22 f = true) (cf : cS 22 f ≤ 20) (hs : s.length ≤ 160000) (hl : (prS 22 f).length ≤ 160000) (h : ∃ rest, rest ≠ [] ∧ (prS 22 f = s ++ rest ∨ s = prS 22 f ++ rest)) : F20 300000 s = some false := by
 unfold F20
 rcases f18 hs (k := 300000) (by omega) (by omega) with e | ⟨g, e, g1, g2, g3, g4, g5⟩
 ·rw [bnd e]; rfl
 ·exfalso
  obtain ⟨rest, hr, hh⟩ := h
  rcases hh with hh | hh
  ·exact hr (prefixfree hf g2 cf g3 (by rw [g4]; exact hh) hl)
  ·exact hr (prefixfree g2 hf g3 cf (by rw [g4]; exact hh) (by rw [g4]; exact hs))

theorem F4_true (f : Fil) (a1 a2 : Int) (h1 : 0 ≤ a1 ∧ a1 ≤ 65535) : F4 300000 f a1 a2 = some true := by
 unfold F4
 rw [bnd known7, if_neg (by simp)]
 obtain ⟨b, hb, hfew⟩ := f9 13 300000 f 0 (by omega) (by omega)
 have hb' : F9 300000 f 0 = some b := hb
 rw [bnd hb']
 cases b with
 | false => rw [if_pos (by rfl), Option.bind_some, if_pos rfl]
 | true =>
  have hf : fewP 22 f := few_le (by omega) (hfew rfl)
  have e14 := f14 22 300000 f hf (by omega)
  have e23 := f23 22 300000 f hf (by omega) (by omega)
  have hI : F12 300000 f = some (decide (cS 22 f ≤ 20) && isS 22 f) := by
   unfold F12
   rw [bnd e14]
   cases decide (cS 22 f ≤ 20)
   ·rfl
   ·rw [if_pos rfl, bnd e23]; rfl
  rw [if_neg (by simp), bnd hI]
  by_cases hii : (decide (cS 22 f ≤ 20) && isS 22 f) = true
  ·rw [hii, Option.bind_some, if_neg (by simp)]
   rw [Bool.and_eq_true, decide_eq_true_eq] at hii
   obtain ⟨hc, hi⟩ := hii
   have hl := prS_len 22 f hi hc
   obtain ⟨q1, q2, q3⟩ := is_of (k := 300000) hf hi hc (by omega) (by omega)
   obtain ⟨g, g1, g2, _, _⟩ := back (k := 300000) hf hi hc (by omega) (by omega) (by omega)
   obtain ⟨p, hp⟩ := prS_head hi
   have hpos : 0 < (prS 22 f).length := by rw [hp]; simp
   rw [bnd q2, bnd g1]
   simp only
   rw [if_neg (by simp), bnd g2, Option.bind_some, if_neg (by rw [hp]; simp [Str.len]; omega)]
   have hcv : cv .i64 a1 = a1 := by
    have := ad64 (x := a1) (y := 0) (by omega)
    unfold ad at this
    rw [Int.add_zero] at this
    exact this
   obtain ⟨m, hm, hr⟩ := rem?_nat h1.1 (n := (prS 22 f).length) hpos
   rw [hcv, bnd (show rem? a1 (Str.len (prS 22 f)) = some (m : Int) from hr)]
   have hat : Sl.at? (Str.bytes (prS 22 f)) (m : Int) = some (((prS 22 f)[m].toNat : Nat) : Int) := by
    rw [Sl.at?_nat]
    simp [Str.bytes, Sl.l, hm]
   rw [bnd hat]
   have hset : (Str.of (Sl.set (Str.bytes (prS 22 f)) (m : Int) a2)).length = (prS 22 f).length := by
    simp [Str.of, Sl.set, Str.bytes, Sl.l]
   rw [bnd (f19 (k := 300000) (by rw [hset]; omega) (by omega) (by omega)), if_pos rfl]
   have happ : Str.app? (prS 22 f) (Str.of (some [a2])) = some (prS 22 f ++ Str.of (some [a2])) := app_ok (by rw [show (Str.of (some [a2])).length = 1 from rfl]; omega)
   rw [bnd happ, bnd (f19 (k := 300000) (by rw [List.length_append, show (Str.of (some [a2])).length = 1 from rfl]; omega) (by omega) (by omega)), Option.bind_some, if_pos rfl]
   have hsub : Str.sub? (prS 22 f) 0 (m : Int) = some ((prS 22 f).take m) := by
    unfold Str.sub?
    rw [if_pos ⟨Int.le_refl _, by omega, by omega⟩]
    simp
   have hn1 : F20 300000 ((prS 22 f).take m) = some false := f20_no hi hc (by rw [List.length_take]; omega) (by omega) ⟨(prS 22 f).drop m, by
    intro h0
    have := congrArg List.length h0
    rw [List.length_drop] at this
    simp at this
    omega, .inl (List.take_append_drop m _).symm⟩
   rw [bnd hsub, bnd hn1, Option.bind_some, if_pos (by rfl)]
   have happ2 : Str.app? (prS 22 f) [40, 41] = some (prS 22 f ++ [40, 41]) := app_ok (by simp; omega)
   have hn2 : F20 300000 (prS 22 f ++ [40, 41]) = some false := f20_no hi hc (by rw [List.length_append]; simp; omega) (by omega) ⟨[40, 41], by simp, .inr rfl⟩
   rw [bnd happ2, bnd hn2]
   rfl
  ·rw [show (decide (cS 22 f ≤ 20) && isS 22 f) = false by simpa using hii, Option.bind_some, if_pos (by rfl)]

theorem filterBack_true (a0 : Fil) (a1 a2 : Int) (o0 : Ok_Api_Filter a0) (o1 : (Lit.int .u16 a1).wf = true) (o2 : (Lit.int .u8 a2).wf = true) : evw env 4 [.agg [(.int .i64 a0.Kind), (.str a0.Attr), (.str a0.Value), (encSl eS a0.Subs), (encSl e_Api_Filter a0.Kids)], .int .u16 a1, .int .u8 a2] [] = some (.bool true, [], false) := by
 have hb : 0 ≤ a1 ∧ a1 ≤ 65535 := by simpa [Lit.wf, IntKind.min, IntKind.max, IntKind.signed, IntKind.bits] using o1
 refine s4 300000 (F4_true a0 a1 a2 hb) ?_ []
 simp only [List.map_cons, List.map_nil, st_agg, st1_int, st1_str, strip1_enc]
 rfl
end Go.Proofs.Ythkjepoaddfoiaa.M
