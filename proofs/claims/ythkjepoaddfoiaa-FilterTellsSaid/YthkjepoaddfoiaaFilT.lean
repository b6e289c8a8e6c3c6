/- FilterTells from its plain form. -/
import Derived.Test.YthkjepoaddfoiaaFilE
import Derived.Test.YthkjepoaddfoiaaFilK
import Derived.Test.YthkjepoaddfoiaaFDt
import Derived.Test.YthkjepoaddfoiaaFDo
namespace Go.Proofs.Ythkjepoaddfoiaa.M
open Go Go.Pam
set_option maxRecDepth 20000
set_option linter.unusedVariables false
set_option linter.unusedSimpArgs false

theorem F3_true (f g : Fil) : F3 200 f g = some true := by
  unfold F3
  rw [bnd known7, if_neg (by simp)]
  obtain ⟨b, hb, hb2⟩ := f9 13 200 f 0 (by omega) (by omega)
  obtain ⟨c, hc, hc2⟩ := f9 13 200 g 0 (by omega) (by omega)
  have hb' : F9 200 f 0 = some b := hb
  have hc' : F9 200 g 0 = some c := hc
  rw [bnd hb']
  cases b with
  | false => rfl
  | true =>
    rw [if_neg (by simp), bnd hc']
    cases c with
    | false => rfl
    | true =>
      have pf := hb2 rfl
      have pg := hc2 rfl
      have e14 := f14 13 200 f pf (by omega)
      have e15 := f15 13 200 f pf (by omega)
      have e23 := f23 13 200 f pf (by omega) (by omega)
      have e21 := f21 13 200 f pf (by omega) (by omega)
      have e16 := f16 13 200 f g pf pg (by omega) (by omega)
      have e17 := f17 13 200 f g pf pg (by omega) (by omega)
      have hIs : F12 200 f = some (decide (cS 13 f ≤ 20) && isS 13 f) := by
        unfold F12
        rw [bnd e14]
        cases decide (cS 13 f ≤ 20)
        · rfl
        · rw [if_pos rfl, bnd e23]; rfl
      have hIs2 : F10 200 f = some (decide (cS 13 f ≤ 20) && isS 13 f) := by
        unfold F10
        rw [bnd e15]
        cases decide (cS 13 f ≤ 20)
        · rfl
        · rw [if_pos rfl, bnd e21]; rfl
      simp only [Option.bind_some, Bool.not_true, Bool.false_eq_true, if_false]
      rw [bnd hIs2]
      by_cases hI : (decide (cS 13 f ≤ 20) && isS 13 f) = true
      · have h2 := hI
        rw [Bool.and_eq_true, decide_eq_true_eq] at h2
        have e24 := f24 13 200 f pf h2.2 h2.1 (by omega) (by omega)
        have e11 := f11 13 200 f pf h2.2 h2.1 (by omega) (by omega)
        have hP : F13 200 f = some (prS 13 f) := by
          unfold F13
          rw [bnd hIs, hI, if_neg (by simp), bnd e24]
        rw [hI, if_pos rfl]
        rw [hI] at hIs
        rw [bnd e11]
        simp only [Option.bind_some]
        rw [bnd hIs, if_pos (by simp), bnd hP]
        simp only [Option.bind_some, beq_self_eq_true, if_true]
        rw [bnd e14, bnd e15]
        simp only [Option.bind_some, beq_self_eq_true, if_true]
        rw [bnd e16, bnd e17]
        simp
      · have hI' : (decide (cS 13 f ≤ 20) && isS 13 f) = false := by simpa using hI
        have hP : F13 200 f = some [] := by
          unfold F13
          rw [bnd hIs, hI', if_pos (by simp)]
        rw [hI', if_neg (by simp)]
        rw [hI'] at hIs
        simp only [Option.bind_some]
        rw [bnd hIs, if_pos (by simp), bnd hP]
        simp only [Option.bind_some, beq_self_eq_true, if_true]
        rw [bnd e14, bnd e15]
        simp only [Option.bind_some, beq_self_eq_true, if_true]
        rw [bnd e16, bnd e17]
        simp

abbrev eF (f : Fil) : PV := .agg [(.int .i64 f.Kind), (.str f.Attr), (.str f.Value), (encSl eS f.Subs), (encSl e_Api_Filter f.Kids)]
theorem filterTells_true (a0 a1 : Fil) (o0 : Ok_Api_Filter a0) (o1 : Ok_Api_Filter a1) : evw env 3 [eF a0, eF a1] [] = some (.bool true, [], false) := by
  refine s3 200 (F3_true a0 a1) ?_ []
  simp only [List.map_cons, List.map_nil, st_agg, st1_int, st1_str, strip1_enc]
end Go.Proofs.Ythkjepoaddfoiaa.M
