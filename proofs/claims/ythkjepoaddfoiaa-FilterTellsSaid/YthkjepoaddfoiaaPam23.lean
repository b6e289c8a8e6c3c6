/- What a call that the store plays a part in leaves. -/
import Derived.Test.YthkjepoaddfoiaaPam22
namespace Go.Pam
set_option linter.unusedVariables false
set_option linter.unusedSimpArgs false

theorem take_of {S' T : List SObj} (h1 : T.length ≤ S'.length) (h2 : ∀ i, i < T.length → S'[i]? = T[i]?) : S'.take T.length = T := by
  apply List.ext_getElem?
  intro i
  rw [List.getElem?_take]
  by_cases hi : i < T.length
  · rw [if_pos hi]; exact h2 i hi
  · rw [if_neg hi, List.getElem?_eq_none (by omega)]

theorem leave_of {S S' T : List SObj} {v v' : PV} {e : Bool} (he : e = false) (hv : v.strip = v') (hc : v'.clean = true) (hn : T.length = S.length) (h1 : S.length ≤ S'.length) (h2 : ∀ i, i < S.length → S'[i]? = T[i]?) :
    leave S.length v S' e = (v', T, false) := by
  unfold leave
  rw [if_pos ⟨he, by rw [hv]; exact hc⟩, hv, ← hn, take_of (by omega) (by rw [hn]; exact h2)]
end Go.Pam
