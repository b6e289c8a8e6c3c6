/- Runs over a store, known: by evaluation. (Made by programs of mine.) -/
import Derived.Test.YtecimmaoilignaaGreatDoorST
namespace Go.Proofs.YtecimmaoilignaaGreatDoor.M
set_option linter.unusedVariables false
set_option linter.unusedSimpArgs false
open Go Go.Pam
set_option maxRecDepth 100000
def ia0 : LP := [Z6]
def is0 : LS := [(.map []), (.map []), Z112]
def iv0 : PV := .tup [.nilp, (I 23)]
def it0 : LS := Z281
theorem i0 : evw env 8 ia0 is0 = some (iv0, it0, true) := ro s10 (by kernel_rfl)
def ia1 : LP := [Z6, Z1, (I 3)]
def is1 : LS := Z281
def iv1 : PV := .tup [(.ptr 13 0), Z0]
def it1 : LS := Z338
theorem i1 : evw env 6 ia1 is1 = some (iv1, it1, true) := ro s10 (by kernel_rfl)
def ia2 : LP := [(.ptr 13 0), (I 5)]
def is2 : LS := Z338
def iv2 : PV := .tup [(C 5 0 1), Z0]
def it2 : LS := [Z334, Z334, Z117, Z99, Z99, Z61, Z99, Z29, Z53, Z135, Z21, Z97, Z45, Z266, Z7, Z333, Z30, .dead, Z55, Z46, Z46, Z46, Z242, Z242, Z161, Z32, Z104, Z55]
theorem i2 : evw env 7 ia2 is2 = some (iv2, it2, true) := ro s10 (by kernel_rfl)
def ia3 : LP := [(.ptr 13 0), Z208, Z17, .nils]
def is3 : LS := [Z334, Z334, Z117, Z99, Z99, Z61, Z99, Z29, Z53, Z135, Z21, Z97, Z45, Z266, Z7, Z333, Z30, .dead, Z55, Z46, Z46, Z46, Z242, Z242, Z161, Z32, Z104, Z55, Z46]
def iv3 : PV := Z0
def it3 : LS := Z339
theorem i3 : evw env 12 ia3 is3 = some (iv3, it3, true) := ro s10 (by kernel_rfl)
def ia4 : LP := [(.ptr 13 0), Z209, Z16, .nils]
def is4 : LS := Z339
def iv4 : PV := Z0
def it4 : LS := Z340
theorem i4 : evw env 12 ia4 is4 = some (iv4, it4, true) := ro s10 (by kernel_rfl)
def ia5 : LP := [(.ptr 13 0), (I 5)]
def is5 : LS := Z340
def iv5 : PV := .tup [(C 8 1 1), Z0]
def it5 : LS := [Z337, Z337, Z118, Z99, Z99, Z61, Z99, Z29, Z53, Z135, Z21, Z97, Z45, Z160, Z7, Z333, Z30, .dead, Z55, Z46, Z48, Z46, Z242, Z242, Z161, Z32, .dead, Z55, Z46, Z33, Z119, Z47, Z56, Z135, Z23, Z135, Z135, Z107, Z191, Z191, Z210, .dead, Z195, Z119, Z331, Z32, .dead, Z55, Z33, Z120, Z47, Z57, Z135, Z24, Z135, Z135, Z191, .dead, Z108, Z192, Z192, Z278, .dead, Z196, Z120, Z330, Z32, Z104, Z55, Z49, Z49, Z49]
theorem i5 : evw env 7 ia5 is5 = some (iv5, it5, true) := ro s10 (by kernel_rfl)
def ia6 : LP := [Z6]
def is6 : LS := [Z337, Z337, Z118, Z99, Z99, Z61, Z99, Z29, Z53, Z135, Z21, Z97, Z45, Z160, Z7, Z333, Z30, .dead, Z55, Z46, Z48, Z46, Z242, Z242, Z161, Z32, .dead, Z55, Z46, Z33, Z119, Z47, Z56, Z135, Z23, Z135, Z135, Z107, Z191, Z191, Z210, .dead, Z195, Z119, Z331, Z32, .dead, Z55, Z33, Z120, Z47, Z57, Z135, Z24, Z135, Z135, Z191, .dead, Z108, Z192, Z192, Z278, .dead, Z196, Z120, Z330, Z32, Z104, Z55, Z49, Z49, Z49, Z49]
def iv6 : PV := .tup [(.ptr 97 0), Z0]
def it6 : LS := [Z337, Z337, Z118, Z99, Z99, Z61, Z99, Z29, Z53, Z135, Z21, Z97, Z45, Z160, Z7, Z333, Z30, .dead, Z55, Z46, Z48, Z46, Z242, Z242, Z161, Z32, .dead, Z55, Z46, Z33, Z119, Z47, Z56, Z135, Z23, Z135, Z135, Z107, Z191, Z191, Z210, .dead, Z195, Z119, Z331, Z32, .dead, Z55, Z33, Z120, Z47, Z57, Z135, Z24, Z135, Z135, Z191, .dead, Z108, Z192, Z192, Z278, .dead, Z196, Z120, Z330, Z32, Z104, Z55, Z49, Z49, Z49, Z49, Z240, Z240, Z237, Z45, Z47, Z135, (.tip 1 10), Z47, (.map [(Z4, (.ptr 85 0))]), Z135, (.cells [(.map 81)]), Z135, Z135, (.cells [Z0, Z0, Z0, (.ptr 83 0), (.rsl 93 2), .nilp]), Z237, Z191, Z191, .dead, Z192, Z192, Z278, Z240, (.cells [.nilp]), (.cells [Z3, Z0, Z1]), (.cells [Z1, (I 3), (.ptr 86 0), Z194, Z3, Z0, Z1, Z6, (.ptr 96 0), Z3, Z0, Z1])]
theorem i6 : evw env 8 ia6 is6 = some (iv6, it6, true) := ro s10 (by kernel_rfl)
def tI : Tab := ⟨.nil, (.node (.node (.node .nil 6 [(ia1, is1, iv1, it1, true)] .nil) 7 [(ia2, is2, iv2, it2, true), (ia5, is5, iv5, it5, true)] .nil) 8 [(ia0, is0, iv0, it0, true), (ia6, is6, iv6, it6, true)] (.node .nil 12 [(ia3, is3, iv3, it3, true), (ia4, is4, iv4, it4, true)] .nil))⟩
theorem tIok : tI.Ok env := ⟨trivial, ⟨⟨⟨trivial, ⟨i1, trivial⟩, trivial⟩, ⟨i2, i5, trivial⟩, trivial⟩, ⟨i0, i6, trivial⟩, ⟨trivial, ⟨i3, i4, trivial⟩, trivial⟩⟩⟩
def cI : Call' := cup tI.call c10
theorem sI : Sub cI (evw env) := cup_sub tIok.sub s10
theorem known_true : PO 4 [] (.bool true) := po sI (by kernel_rfl)
end Go.Proofs.YtecimmaoilignaaGreatDoor.M
