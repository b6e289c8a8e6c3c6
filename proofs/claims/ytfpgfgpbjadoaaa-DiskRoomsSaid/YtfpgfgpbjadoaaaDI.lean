/- maps.Clone, disk.List: the seat has the library's bodies, so their laws hold. -/
import Derived.Test.YtfpgfgpbjadoaaaChecked
import Derived.Test.YtfpgfgpbjadoaaaPamM4
import Derived.Test.YtfpgfgpbjadoaaaDCl
import Derived.Test.YtfpgfgpbjadoaaaDLs
import Derived.Test.YtfpgfgpbjadoaaaDDe
namespace Go.Proofs.Ytfpgfgpbjadoaaa.M
set_option linter.unusedVariables false
set_option linter.unusedSimpArgs false
open Go Go.Pam Go.Proofs
set_option maxRecDepth 100000
theorem intr_ok : IntrOk Try.prog env := by
  intro f h hf
  by_cases x22 : f = 22
  · subst x22
    have hy : some cloneH = some h := hf
    obtain rfl := Option.some.inj hy
    exact fun args S v S' e h w g base bd cargs hR hgl hl hV => clone_ok (f := 22) ⟨Try.f22, Try.func22, by kernel_rfl, by decide +kernel⟩ A.clone_hit args S v S' e h w g base bd cargs hR hgl hl hV
  by_cases x16 : f = 16
  · subst x16
    have hy : some listH = some h := hf
    obtain rfl := Option.some.inj hy
    exact fun args S v S' e h w g base bd cargs hR hgl hl hV => list_ok (f := 16) ⟨Try.f16, Try.func16, by kernel_rfl, by decide +kernel⟩ A.list_hit args S v S' e h w g base bd cargs hR hgl hl hV
  simp [env, x22, x16] at hf
end Go.Proofs.Ytfpgfgpbjadoaaa.M
