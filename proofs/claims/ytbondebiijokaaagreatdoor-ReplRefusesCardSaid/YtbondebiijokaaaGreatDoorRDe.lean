/- Part of the proof: the runs of functions on the abstract machine. -/
import Derived.Test.YtbondebiijokaaaGreatDoorPamM4
import Derived.Test.YtbondebiijokaaaGreatDoorRE
namespace Go.Proofs.YtbondebiijokaaaGreatDoor.M
open Go Go.Pam Go.RowKit Go.WideShapes
set_option maxRecDepth 4000
set_option linter.unusedVariables false
set_option linter.unusedSimpArgs false
structure Api_CSN where
  Time : Int
  Seq : Int
  Rep : Int
  deriving DecidableEq
def e_Api_CSN (x : Api_CSN) : PV := .agg [(.int .i64 x.Time), (.int .i64 x.Seq), (.int .i64 x.Rep)]
theorem clean_Api_CSN (x : Api_CSN) : (e_Api_CSN x).clean = true := by simp [e_Api_CSN, PV.clean, cleanL]
theorem e_Api_CSN_cells (x : Api_CSN) : (e_Api_CSN x).cells = [(.int .i64 x.Time), (.int .i64 x.Seq), (.int .i64 x.Rep)] := rfl
theorem e_Api_CSN_one (x : Api_CSN) : (e_Api_CSN x).storable = true ∧ (e_Api_CSN x).cells.length = 3 ∧ (e_Api_CSN x).strip = e_Api_CSN x := ⟨rfl, rfl, by simp only [e_Api_CSN, st_int, st_bool, st_str, st_nils, st_lst, st_agg, st_tup, st_fn, st1_int, st1_bool, st1_str, st1_nils, st1_lst, st2_int, st2_bool, st2_str, st2_nils, st2_lst, st2_agg, List.map_cons, List.map_nil, tupled, strip_enc, strip1_enc, strip2_enc]⟩
end Go.Proofs.YtbondebiijokaaaGreatDoor.M
