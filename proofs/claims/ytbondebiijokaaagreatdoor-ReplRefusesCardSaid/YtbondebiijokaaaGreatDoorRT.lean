/- Runs whose arguments and answers are clean: by evaluation. (Made by a program of mine, memo.py.) -/
import Derived.Test.YtbondebiijokaaaGreatDoorPamM4
import Derived.Test.YtbondebiijokaaaGreatDoorRE
namespace Go.Proofs.YtbondebiijokaaaGreatDoor.M
set_option linter.unusedVariables false
set_option linter.unusedSimpArgs false
open Go Go.Pam
set_option maxRecDepth 100000
def T0 : Tab := ⟨.nil,
  .nil⟩
theorem T0ok : T0.Ok env := ⟨trivial,
  trivial⟩
def a0 : List PV := [(.int .i64 2)]
def v0 : PV := (.lst [(.agg [(.int .i64 0), (.int .i64 0), (.int .i64 0)]), (.agg [(.int .i64 0), (.int .i64 0), (.int .i64 1)])] .none)
theorem p0 : ∀ S, evw env 19 a0 S = some (v0, S, false) := pureOf T0ok.sub (k := 1000) (by kernel_rfl)
def a1 : List PV := [(.lst [(.agg [(.int .i64 0), (.int .i64 0), (.int .i64 0)])] .none), (.fn (.func 31) [] [])]
def v1 : PV := (.tup [])
theorem p1 : ∀ S, evw env 159 a1 S = some (v1, S, false) := pureOf T0ok.sub (k := 1000) (by kernel_rfl)
def a2 : List PV := [(.agg [(.int .i64 0), (.int .i64 0), (.int .i64 0), (.int .i64 0), (.int .i64 0), (.int .i64 0), .nils, .nils, (.int .i64 1), (.bool false)])]
def v2 : PV := (.agg [(.int .i64 0), (.int .i64 0), (.int .i64 0), (.int .i64 0), (.int .i64 0), (.int .i64 0), .nils, .nils, (.int .i64 1), (.bool false)])
theorem p2 : ∀ S, evw env 135 a2 S = some (v2, S, false) := pureOf T0ok.sub (k := 1000) (by kernel_rfl)
def a3 : List PV := [(.int .i64 0), (.int .i64 10)]
def v3 : PV := (.str [48])
theorem p3 : ∀ S, evw env 115 a3 S = some (v3, S, false) := pureOf T0ok.sub (k := 1000) (by kernel_rfl)
def a4 : List PV := [(.int .i64 0)]
def v4 : PV := (.str [48])
theorem p4 : ∀ S, evw env 59 a4 S = some (v4, S, false) := pureOf T0ok.sub (k := 1000) (by kernel_rfl)
def a6 : List PV := [(.int .i64 1)]
def v6 : PV := (.str [49])
theorem p6 : ∀ S, evw env 59 a6 S = some (v6, S, false) := pureOf T0ok.sub (k := 1000) (by kernel_rfl)
def a8 : List PV := [(.int .i64 6)]
def v8 : PV := (.str [54])
theorem p8 : ∀ S, evw env 59 a8 S = some (v8, S, false) := pureOf T0ok.sub (k := 1000) (by kernel_rfl)
def a9 : List PV := [(.int .i64 5)]
def v9 : PV := (.str [53])
theorem p9 : ∀ S, evw env 59 a9 S = some (v9, S, false) := pureOf T0ok.sub (k := 1000) (by kernel_rfl)
def a10 : List PV := [(.int .i64 2)]
def v10 : PV := (.str [50])
theorem p10 : ∀ S, evw env 59 a10 S = some (v10, S, false) := pureOf T0ok.sub (k := 1000) (by kernel_rfl)
def a16 : List PV := [(.int .i64 16)]
def v16 : PV := (.str [49, 54])
theorem p16 : ∀ S, evw env 114 a16 S = some (v16, S, false) := pureOf T0ok.sub (k := 1000) (by kernel_rfl)
def a20 : List PV := [(.int .i64 34)]
def v20 : PV := (.str [51, 52])
theorem p20 : ∀ S, evw env 114 a20 S = some (v20, S, false) := pureOf T0ok.sub (k := 1000) (by kernel_rfl)
def a23 : List PV := [(.int .i64 40)]
def v23 : PV := (.str [52, 48])
theorem p23 : ∀ S, evw env 114 a23 S = some (v23, S, false) := pureOf T0ok.sub (k := 1000) (by kernel_rfl)
def a25 : List PV := [(.int .i64 39)]
def v25 : PV := (.str [51, 57])
theorem p25 : ∀ S, evw env 114 a25 S = some (v25, S, false) := pureOf T0ok.sub (k := 1000) (by kernel_rfl)
def a28 : List PV := [(.str [101, 87, 54, 59, 49, 58, 48, 53, 58, 48, 46, 48, 46, 48, 52, 48, 58, 50, 59, 49, 54, 58, 50, 59, 53, 58, 48, 46, 48, 46, 48, 53, 58, 48, 46, 48, 46, 49, 49, 54, 58, 50, 59, 53, 58, 48, 46, 48, 46, 48, 53, 58, 48, 46, 48, 46, 49, 53, 58, 48, 46, 48, 46, 48, 51, 57, 58, 49, 59, 51, 52, 58, 54, 59, 53, 58, 48, 46, 48, 46, 48, 53, 58, 48, 46, 48, 46, 48, 49, 58, 49, 53, 58, 102, 97, 108, 115, 101, 50, 58, 48, 59, 50, 58, 48, 59, 50, 58, 48, 59])]
def v28 : PV := (.int .u32 301068337)
theorem p28 : ∀ S, evw env 143 a28 S = some (v28, S, false) := pureOf T0ok.sub (k := 1000) (by kernel_rfl)
def a33 : List PV := [(.str [101, 87, 54, 59, 49, 58, 49, 53, 58, 48, 46, 48, 46, 49, 52, 48, 58, 50, 59, 49, 54, 58, 50, 59, 53, 58, 48, 46, 48, 46, 48, 53, 58, 48, 46, 48, 46, 49, 49, 54, 58, 50, 59, 53, 58, 48, 46, 48, 46, 48, 53, 58, 48, 46, 48, 46, 49, 53, 58, 48, 46, 48, 46, 48, 51, 57, 58, 49, 59, 51, 52, 58, 54, 59, 53, 58, 48, 46, 48, 46, 48, 53, 58, 48, 46, 48, 46, 48, 49, 58, 49, 53, 58, 102, 97, 108, 115, 101, 50, 58, 48, 59, 50, 58, 48, 59, 50, 58, 48, 59])]
def v33 : PV := (.int .u32 2110964027)
theorem p33 : ∀ S, evw env 143 a33 S = some (v33, S, false) := pureOf T0ok.sub (k := 1000) (by kernel_rfl)
def a36 : List PV := [(.agg [(.int .i64 5), (.int .i64 0), (.int .i64 0)])]
def v36 : PV := (.bool true)
theorem p36 : ∀ S, evw env 73 a36 S = some (v36, S, false) := pureOf T0ok.sub (k := 1000) (by kernel_rfl)
def a37 : List PV := [(.agg [(.int .i64 0), (.int .i64 0), (.int .i64 0)])]
def v37 : PV := (.bool true)
theorem p37 : ∀ S, evw env 73 a37 S = some (v37, S, false) := pureOf T0ok.sub (k := 1000) (by kernel_rfl)
def a38 : List PV := [(.int .i64 0), (.int .i64 0)]
def v38 : PV := (.int .i64 0)
theorem p38 : ∀ S, evw env 80 a38 S = some (v38, S, false) := pureOf T0ok.sub (k := 1000) (by kernel_rfl)
def a40 : List PV := [(.str [99, 110])]
def v40 : PV := (.bool true)
theorem p40 : ∀ S, evw env 147 a40 S = some (v40, S, false) := pureOf T0ok.sub (k := 1000) (by kernel_rfl)
def a42 : List PV := [(.str [99, 110])]
def v42 : PV := (.str [99, 110])
theorem p42 : ∀ S, evw env 151 a42 S = some (v42, S, false) := pureOf T0ok.sub (k := 1000) (by kernel_rfl)
def a44 : List PV := [(.str [120]), (.str [32])]
def v44 : PV := (.str [120])
theorem p44 : ∀ S, evw env 168 a44 S = some (v44, S, false) := pureOf T0ok.sub (k := 1000) (by kernel_rfl)
def a52 : List PV := [.nils, (.fn (.func 155) [] [])]
def v52 : PV := (.tup [])
theorem p52 : ∀ S, evw env 154 a52 S = some (v52, S, false) := pureOf T0ok.sub (k := 1000) (by kernel_rfl)
def a54 : List PV := [(.int .i64 5), (.int .i64 0)]
def v54 : PV := (.int .i64 1)
theorem p54 : ∀ S, evw env 79 a54 S = some (v54, S, false) := pureOf T0ok.sub (k := 1000) (by kernel_rfl)
def a56 : List PV := [.nils, (.agg [(.int .i64 5), (.int .i64 0), (.int .i64 0)]), (.fn (.func 138) [] [])]
def v56 : PV := (.tup [(.int .i64 0), (.bool false)])
theorem p56 : ∀ S, evw env 137 a56 S = some (v56, S, false) := pureOf T0ok.sub (k := 1000) (by kernel_rfl)
def a57 : List PV := [(.agg [(.int .i64 5), (.int .i64 0), (.int .i64 0), (.int .i64 1), (.int .i64 5), (.int .i64 0), (.int .i64 0), (.int .i64 0), (.int .i64 0), (.int .i64 0), (.lst [(.agg [(.str [99, 110]), (.str [120])])] .none), (.bool false), .nils])]
def v57 : PV := (.agg [(.int .i64 5), (.int .i64 0), (.int .i64 0), (.int .i64 1), (.int .i64 5), (.int .i64 0), (.int .i64 0), (.int .i64 0), (.int .i64 0), (.int .i64 0), (.lst [(.agg [(.str [99, 110]), (.str [120])])] .none), (.bool false), .nils])
theorem p57 : ∀ S, evw env 84 a57 S = some (v57, S, false) := pureOf T0ok.sub (k := 1000) (by kernel_rfl)
def a58 : List PV := [(.agg [(.int .i64 0), (.int .i64 0), (.int .i64 1)])]
def v58 : PV := (.bool true)
theorem p58 : ∀ S, evw env 73 a58 S = some (v58, S, false) := pureOf T0ok.sub (k := 1000) (by kernel_rfl)
def a63 : List PV := [(.int .i64 5), (.int .i64 10)]
def v63 : PV := (.str [53])
theorem p63 : ∀ S, evw env 115 a63 S = some (v63, S, false) := pureOf T0ok.sub (k := 1000) (by kernel_rfl)
def a66 : List PV := [(.int .i64 7)]
def v66 : PV := (.str [55])
theorem p66 : ∀ S, evw env 59 a66 S = some (v66, S, false) := pureOf T0ok.sub (k := 1000) (by kernel_rfl)
def a67 : List PV := [(.int .i64 9)]
def v67 : PV := (.str [57])
theorem p67 : ∀ S, evw env 59 a67 S = some (v67, S, false) := pureOf T0ok.sub (k := 1000) (by kernel_rfl)
def a70 : List PV := [(.int .i64 48)]
def v70 : PV := (.str [52, 56])
theorem p70 : ∀ S, evw env 114 a70 S = some (v70, S, false) := pureOf T0ok.sub (k := 1000) (by kernel_rfl)
def a76 : List PV := [(.int .i64 53)]
def v76 : PV := (.str [53, 51])
theorem p76 : ∀ S, evw env 114 a76 S = some (v76, S, false) := pureOf T0ok.sub (k := 1000) (by kernel_rfl)
def a79 : List PV := [(.str [101, 75, 50, 59, 53, 51, 58, 49, 59, 52, 56, 58, 55, 59, 53, 58, 53, 46, 48, 46, 48, 53, 58, 53, 46, 48, 46, 48, 53, 58, 48, 46, 48, 46, 48, 49, 58, 49, 53, 58, 102, 97, 108, 115, 101, 57, 58, 50, 59, 50, 58, 99, 110, 49, 58, 120, 50, 58, 48, 59, 52, 48, 58, 50, 59, 49, 54, 58, 50, 59, 53, 58, 53, 46, 48, 46, 48, 53, 58, 48, 46, 48, 46, 49, 49, 54, 58, 50, 59, 53, 58, 48, 46, 48, 46, 48, 53, 58, 48, 46, 48, 46, 49])]
def v79 : PV := (.int .u32 1211851780)
theorem p79 : ∀ S, evw env 143 a79 S = some (v79, S, false) := pureOf T0ok.sub (k := 1000) (by kernel_rfl)
def a83 : List PV := [(.int .i64 5), (.int .i64 5)]
def v83 : PV := (.int .i64 0)
theorem p83 : ∀ S, evw env 79 a83 S = some (v83, S, false) := pureOf T0ok.sub (k := 1000) (by kernel_rfl)
def a84 : List PV := [(.lst [(.int .i64 0), (.int .i64 0), (.int .i64 0)] .full)]
def v84 : PV := (.int .i64 0)
theorem p84 : ∀ S, evw env 78 a84 S = some (v84, S, false) := pureOf T0ok.sub (k := 1000) (by kernel_rfl)
def a86 : List PV := [(.int .i64 0), (.int .i64 0)]
def v86 : PV := (.int .i64 0)
theorem p86 : ∀ S, evw env 79 a86 S = some (v86, S, false) := pureOf T0ok.sub (k := 1000) (by kernel_rfl)
def a87 : List PV := [(.int .i64 1), (.int .i64 1)]
def v87 : PV := (.int .i64 0)
theorem p87 : ∀ S, evw env 80 a87 S = some (v87, S, false) := pureOf T0ok.sub (k := 1000) (by kernel_rfl)
def a94 : List PV := [(.lst [(.agg [(.int .i64 0), (.int .i64 0), (.int .i64 0)]), (.agg [(.int .i64 0), (.int .i64 0), (.int .i64 1)])] .none), (.lst [(.agg [(.int .i64 0), (.int .i64 0), (.int .i64 0)]), (.agg [(.int .i64 0), (.int .i64 0), (.int .i64 1)])] .none), (.fn (.func 96) [] [])]
def v94 : PV := (.bool true)
theorem p94 : ∀ S, evw env 95 a94 S = some (v94, S, false) := pureOf T0ok.sub (k := 1000) (by kernel_rfl)
def a106 : List PV := [(.lst [(.agg [(.int .i64 5), (.int .i64 0), (.int .i64 0)]), (.agg [(.int .i64 0), (.int .i64 0), (.int .i64 1)])] .none), (.lst [(.agg [(.int .i64 5), (.int .i64 0), (.int .i64 0)]), (.agg [(.int .i64 0), (.int .i64 0), (.int .i64 1)])] .none), (.fn (.func 96) [] [])]
def v106 : PV := (.bool true)
theorem p106 : ∀ S, evw env 95 a106 S = some (v106, S, false) := pureOf T0ok.sub (k := 1000) (by kernel_rfl)
def a117 : List PV := [(.str [101, 75, 50, 59, 53, 51, 58, 49, 59, 52, 56, 58, 55, 59, 53, 58, 53, 46, 48, 46, 48, 53, 58, 53, 46, 48, 46, 48, 53, 58, 48, 46, 48, 46, 48, 49, 58, 49, 53, 58, 102, 97, 108, 115, 101, 57, 58, 50, 59, 50, 58, 99, 110, 49, 58, 120, 50, 58, 48, 59, 52, 48, 58, 50, 59, 49, 54, 58, 50, 59, 53, 58, 53, 46, 48, 46, 48, 53, 58, 48, 46, 48, 46, 49, 49, 54, 58, 50, 59, 53, 58, 53, 46, 48, 46, 48, 53, 58, 48, 46, 48, 46, 49])]
def v117 : PV := (.int .u32 3026683105)
theorem p117 : ∀ S, evw env 143 a117 S = some (v117, S, false) := pureOf T0ok.sub (k := 1000) (by kernel_rfl)
def a125 : List PV := [(.str [101, 75, 50, 59, 50, 58, 48, 59, 52, 48, 58, 50, 59, 49, 54, 58, 50, 59, 53, 58, 53, 46, 48, 46, 48, 53, 58, 48, 46, 48, 46, 49, 49, 54, 58, 50, 59, 53, 58, 53, 46, 48, 46, 48, 53, 58, 48, 46, 48, 46, 49])]
def v125 : PV := (.int .u32 4280896808)
theorem p125 : ∀ S, evw env 143 a125 S = some (v125, S, false) := pureOf T0ok.sub (k := 1000) (by kernel_rfl)
def a128 : List PV := [(.lst [(.agg [(.int .i64 0), (.int .i64 0), (.int .i64 0)]), (.agg [(.int .i64 0), (.int .i64 0), (.int .i64 1)])] .none), (.lst [(.agg [(.int .i64 0), (.int .i64 0), (.int .i64 0)]), (.agg [(.int .i64 0), (.int .i64 0), (.int .i64 1)])] .none)]
def v128 : PV := (.bool true)
theorem p128 : ∀ S, evw env 49 a128 S = some (v128, S, false) := pureOf T0ok.sub (k := 1000) (by kernel_rfl)
def T1 : Tab := ⟨(.node (.node (.node (.node (.node .nil 19 [(a0, v0)] .nil) 49 [(a128, v128)] .nil) 59 [(a4, v4), (a6, v6), (a8, v8), (a9, v9), (a10, v10), (a66, v66), (a67, v67)] (.node .nil 73 [(a36, v36), (a37, v37), (a58, v58)] .nil)) 78 [(a84, v84)] (.node (.node (.node .nil 79 [(a54, v54), (a83, v83), (a86, v86)] .nil) 80 [(a38, v38), (a87, v87)] .nil) 84 [(a57, v57)] (.node .nil 95 [(a94, v94), (a106, v106)] .nil))) 114 [(a16, v16), (a20, v20), (a23, v23), (a25, v25), (a70, v70), (a76, v76)] (.node (.node (.node (.node .nil 115 [(a3, v3), (a63, v63)] .nil) 135 [(a2, v2)] .nil) 137 [(a56, v56)] (.node .nil 143 [(a28, v28), (a33, v33), (a79, v79), (a117, v117), (a125, v125)] .nil)) 147 [(a40, v40)] (.node (.node (.node .nil 151 [(a42, v42)] .nil) 154 [(a52, v52)] .nil) 159 [(a1, v1)] (.node .nil 168 [(a44, v44)] .nil)))),
  .nil⟩
theorem T1ok : T1.Ok env := ⟨⟨⟨⟨⟨⟨trivial, ⟨p0, trivial⟩, trivial⟩, ⟨p128, trivial⟩, trivial⟩, ⟨p4, p6, p8, p9, p10, p66, p67, trivial⟩, ⟨trivial, ⟨p36, p37, p58, trivial⟩, trivial⟩⟩, ⟨p84, trivial⟩, ⟨⟨⟨trivial, ⟨p54, p83, p86, trivial⟩, trivial⟩, ⟨p38, p87, trivial⟩, trivial⟩, ⟨p57, trivial⟩, ⟨trivial, ⟨p94, p106, trivial⟩, trivial⟩⟩⟩, ⟨p16, p20, p23, p25, p70, p76, trivial⟩, ⟨⟨⟨⟨trivial, ⟨p3, p63, trivial⟩, trivial⟩, ⟨p2, trivial⟩, trivial⟩, ⟨p56, trivial⟩, ⟨trivial, ⟨p28, p33, p79, p117, p125, trivial⟩, trivial⟩⟩, ⟨p40, trivial⟩, ⟨⟨⟨trivial, ⟨p42, trivial⟩, trivial⟩, ⟨p52, trivial⟩, trivial⟩, ⟨p1, trivial⟩, ⟨trivial, ⟨p44, trivial⟩, trivial⟩⟩⟩⟩,
  trivial⟩
def a5 : List PV := [(.agg [(.int .i64 0), (.int .i64 0), (.int .i64 0)])]
def v5 : PV := (.str [48, 46, 48, 46, 48])
theorem p5 : ∀ S, evw env 60 a5 S = some (v5, S, false) := pureOf T1ok.sub (k := 1000) (by kernel_rfl)
def a7 : List PV := [.nils]
def v7 : PV := (.str [48, 59])
theorem p7 : ∀ S, evw env 58 a7 S = some (v7, S, false) := pureOf T1ok.sub (k := 1000) (by kernel_rfl)
def a11 : List PV := [(.lst [(.str [48, 46, 48, 46, 48]), (.str [48, 46, 48, 46, 48]), (.str [49]), (.str [102, 97, 108, 115, 101]), (.str [48, 59]), (.str [48, 59])] .full)]
def v11 : PV := (.str [54, 59, 53, 58, 48, 46, 48, 46, 48, 53, 58, 48, 46, 48, 46, 48, 49, 58, 49, 53, 58, 102, 97, 108, 115, 101, 50, 58, 48, 59, 50, 58, 48, 59])
theorem p11 : ∀ S, evw env 58 a11 S = some (v11, S, false) := pureOf T1ok.sub (k := 1000) (by kernel_rfl)
def a13 : List PV := [(.agg [(.int .i64 0), (.int .i64 0), (.int .i64 1)])]
def v13 : PV := (.str [48, 46, 48, 46, 49])
theorem p13 : ∀ S, evw env 60 a13 S = some (v13, S, false) := pureOf T1ok.sub (k := 1000) (by kernel_rfl)
def a14 : List PV := [(.lst [(.str [48, 46, 48, 46, 48]), (.str [48, 46, 48, 46, 49])] (.tip 1))]
def v14 : PV := (.str [50, 59, 53, 58, 48, 46, 48, 46, 48, 53, 58, 48, 46, 48, 46, 49])
theorem p14 : ∀ S, evw env 58 a14 S = some (v14, S, false) := pureOf T1ok.sub (k := 1000) (by kernel_rfl)
def a15 : List PV := [(.lst [(.str [48, 46, 48, 46, 48]), (.str [48, 46, 48, 46, 49])] (.tip 5))]
def v15 : PV := (.str [50, 59, 53, 58, 48, 46, 48, 46, 48, 53, 58, 48, 46, 48, 46, 49])
theorem p15 : ∀ S, evw env 58 a15 S = some (v15, S, false) := pureOf T1ok.sub (k := 1000) (by kernel_rfl)
def a17 : List PV := [(.int .i64 16)]
def v17 : PV := (.str [49, 54])
theorem p17 : ∀ S, evw env 59 a17 S = some (v17, S, false) := pureOf T1ok.sub (k := 1000) (by kernel_rfl)
def a21 : List PV := [(.int .i64 34)]
def v21 : PV := (.str [51, 52])
theorem p21 : ∀ S, evw env 59 a21 S = some (v21, S, false) := pureOf T1ok.sub (k := 1000) (by kernel_rfl)
def a24 : List PV := [(.int .i64 40)]
def v24 : PV := (.str [52, 48])
theorem p24 : ∀ S, evw env 59 a24 S = some (v24, S, false) := pureOf T1ok.sub (k := 1000) (by kernel_rfl)
def a26 : List PV := [(.int .i64 39)]
def v26 : PV := (.str [51, 57])
theorem p26 : ∀ S, evw env 59 a26 S = some (v26, S, false) := pureOf T1ok.sub (k := 1000) (by kernel_rfl)
def a29 : List PV := [(.str [101, 87, 54, 59, 49, 58, 48, 53, 58, 48, 46, 48, 46, 48, 52, 48, 58, 50, 59, 49, 54, 58, 50, 59, 53, 58, 48, 46, 48, 46, 48, 53, 58, 48, 46, 48, 46, 49, 49, 54, 58, 50, 59, 53, 58, 48, 46, 48, 46, 48, 53, 58, 48, 46, 48, 46, 49, 53, 58, 48, 46, 48, 46, 48, 51, 57, 58, 49, 59, 51, 52, 58, 54, 59, 53, 58, 48, 46, 48, 46, 48, 53, 58, 48, 46, 48, 46, 48, 49, 58, 49, 53, 58, 102, 97, 108, 115, 101, 50, 58, 48, 59, 50, 58, 48, 59, 50, 58, 48, 59])]
def v29 : PV := (.str [0, 110, 17, 241, 240, 49, 101, 87, 54, 59, 49, 58, 48, 53, 58, 48, 46, 48, 46, 48, 52, 48, 58, 50, 59, 49, 54, 58, 50, 59, 53, 58, 48, 46, 48, 46, 48, 53, 58, 48, 46, 48, 46, 49, 49, 54, 58, 50, 59, 53, 58, 48, 46, 48, 46, 48, 53, 58, 48, 46, 48, 46, 49, 53, 58, 48, 46, 48, 46, 48, 51, 57, 58, 49, 59, 51, 52, 58, 54, 59, 53, 58, 48, 46, 48, 46, 48, 53, 58, 48, 46, 48, 46, 48, 49, 58, 49, 53, 58, 102, 97, 108, 115, 101, 50, 58, 48, 59, 50, 58, 48, 59, 50, 58, 48, 59])
theorem p29 : ∀ S, evw env 107 a29 S = some (v29, S, false) := pureOf T1ok.sub (k := 1000) (by kernel_rfl)
def a34 : List PV := [(.str [101, 87, 54, 59, 49, 58, 49, 53, 58, 48, 46, 48, 46, 49, 52, 48, 58, 50, 59, 49, 54, 58, 50, 59, 53, 58, 48, 46, 48, 46, 48, 53, 58, 48, 46, 48, 46, 49, 49, 54, 58, 50, 59, 53, 58, 48, 46, 48, 46, 48, 53, 58, 48, 46, 48, 46, 49, 53, 58, 48, 46, 48, 46, 48, 51, 57, 58, 49, 59, 51, 52, 58, 54, 59, 53, 58, 48, 46, 48, 46, 48, 53, 58, 48, 46, 48, 46, 48, 49, 58, 49, 53, 58, 102, 97, 108, 115, 101, 50, 58, 48, 59, 50, 58, 48, 59, 50, 58, 48, 59])]
def v34 : PV := (.str [0, 110, 125, 210, 193, 59, 101, 87, 54, 59, 49, 58, 49, 53, 58, 48, 46, 48, 46, 49, 52, 48, 58, 50, 59, 49, 54, 58, 50, 59, 53, 58, 48, 46, 48, 46, 48, 53, 58, 48, 46, 48, 46, 49, 49, 54, 58, 50, 59, 53, 58, 48, 46, 48, 46, 48, 53, 58, 48, 46, 48, 46, 49, 53, 58, 48, 46, 48, 46, 48, 51, 57, 58, 49, 59, 51, 52, 58, 54, 59, 53, 58, 48, 46, 48, 46, 48, 53, 58, 48, 46, 48, 46, 48, 49, 58, 49, 53, 58, 102, 97, 108, 115, 101, 50, 58, 48, 59, 50, 58, 48, 59, 50, 58, 48, 59])
theorem p34 : ∀ S, evw env 107 a34 S = some (v34, S, false) := pureOf T1ok.sub (k := 1000) (by kernel_rfl)
def a39 : List PV := [(.agg [(.int .i64 0), (.int .i64 0), (.int .i64 0)]), (.agg [(.int .i64 5), (.int .i64 0), (.int .i64 0)])]
def v39 : PV := (.int .i64 (-1))
theorem p39 : ∀ S, evw env 31 a39 S = some (v39, S, false) := pureOf T1ok.sub (k := 1000) (by kernel_rfl)
def a41 : List PV := [(.lst [(.agg [(.str [99, 110]), (.str [120])])] .none)]
def v41 : PV := (.bool true)
theorem p41 : ∀ S, evw env 118 a41 S = some (v41, S, false) := pureOf T1ok.sub (k := 1000) (by kernel_rfl)
def a43 : List PV := [(.str [99, 110])]
def v43 : PV := (.tup [(.agg [(.str [99, 110]), (.int .i64 1), (.bool false)]), (.bool true)])
theorem p43 : ∀ S, evw env 122 a43 S = some (v43, S, false) := pureOf T1ok.sub (k := 1000) (by kernel_rfl)
def a45 : List PV := [(.int .i64 1), (.str [120])]
def v45 : PV := (.bool true)
theorem p45 : ∀ S, evw env 150 a45 S = some (v45, S, false) := pureOf T1ok.sub (k := 1000) (by kernel_rfl)
def a53 : List PV := [.nils]
def v53 : PV := .nils
theorem p53 : ∀ S, evw env 132 a53 S = some (v53, S, false) := pureOf T1ok.sub (k := 1000) (by kernel_rfl)
def a55 : List PV := [(.agg [(.int .i64 5), (.int .i64 0), (.int .i64 0)]), (.agg [(.int .i64 0), (.int .i64 0), (.int .i64 0)])]
def v55 : PV := (.int .i64 1)
theorem p55 : ∀ S, evw env 31 a55 S = some (v55, S, false) := pureOf T1ok.sub (k := 1000) (by kernel_rfl)
def a59 : List PV := [(.lst [(.agg [(.int .i64 0), (.int .i64 0), (.int .i64 0)]), (.agg [(.int .i64 0), (.int .i64 0), (.int .i64 1)])] .none)]
def v59 : PV := (.bool true)
theorem p59 : ∀ S, evw env 83 a59 S = some (v59, S, false) := pureOf T1ok.sub (k := 1000) (by kernel_rfl)
def a64 : List PV := [(.agg [(.int .i64 5), (.int .i64 0), (.int .i64 0)])]
def v64 : PV := (.str [53, 46, 48, 46, 48])
theorem p64 : ∀ S, evw env 60 a64 S = some (v64, S, false) := pureOf T1ok.sub (k := 1000) (by kernel_rfl)
def a65 : List PV := [(.lst [(.str [99, 110]), (.str [120])] (.tip 2))]
def v65 : PV := (.str [50, 59, 50, 58, 99, 110, 49, 58, 120])
theorem p65 : ∀ S, evw env 58 a65 S = some (v65, S, false) := pureOf T1ok.sub (k := 1000) (by kernel_rfl)
def a68 : List PV := [(.lst [(.str [53, 46, 48, 46, 48]), (.str [53, 46, 48, 46, 48]), (.str [48, 46, 48, 46, 48]), (.str [49]), (.str [102, 97, 108, 115, 101]), (.str [50, 59, 50, 58, 99, 110, 49, 58, 120]), (.str [48, 59])] .full)]
def v68 : PV := (.str [55, 59, 53, 58, 53, 46, 48, 46, 48, 53, 58, 53, 46, 48, 46, 48, 53, 58, 48, 46, 48, 46, 48, 49, 58, 49, 53, 58, 102, 97, 108, 115, 101, 57, 58, 50, 59, 50, 58, 99, 110, 49, 58, 120, 50, 58, 48, 59])
theorem p68 : ∀ S, evw env 58 a68 S = some (v68, S, false) := pureOf T1ok.sub (k := 1000) (by kernel_rfl)
def a71 : List PV := [(.int .i64 48)]
def v71 : PV := (.str [52, 56])
theorem p71 : ∀ S, evw env 59 a71 S = some (v71, S, false) := pureOf T1ok.sub (k := 1000) (by kernel_rfl)
def a74 : List PV := [(.lst [(.str [53, 46, 48, 46, 48]), (.str [48, 46, 48, 46, 49])] (.tip 1))]
def v74 : PV := (.str [50, 59, 53, 58, 53, 46, 48, 46, 48, 53, 58, 48, 46, 48, 46, 49])
theorem p74 : ∀ S, evw env 58 a74 S = some (v74, S, false) := pureOf T1ok.sub (k := 1000) (by kernel_rfl)
def a77 : List PV := [(.int .i64 53)]
def v77 : PV := (.str [53, 51])
theorem p77 : ∀ S, evw env 59 a77 S = some (v77, S, false) := pureOf T1ok.sub (k := 1000) (by kernel_rfl)
def a80 : List PV := [(.str [101, 75, 50, 59, 53, 51, 58, 49, 59, 52, 56, 58, 55, 59, 53, 58, 53, 46, 48, 46, 48, 53, 58, 53, 46, 48, 46, 48, 53, 58, 48, 46, 48, 46, 48, 49, 58, 49, 53, 58, 102, 97, 108, 115, 101, 57, 58, 50, 59, 50, 58, 99, 110, 49, 58, 120, 50, 58, 48, 59, 52, 48, 58, 50, 59, 49, 54, 58, 50, 59, 53, 58, 53, 46, 48, 46, 48, 53, 58, 48, 46, 48, 46, 49, 49, 54, 58, 50, 59, 53, 58, 48, 46, 48, 46, 48, 53, 58, 48, 46, 48, 46, 49])]
def v80 : PV := (.str [0, 103, 72, 59, 100, 4, 101, 75, 50, 59, 53, 51, 58, 49, 59, 52, 56, 58, 55, 59, 53, 58, 53, 46, 48, 46, 48, 53, 58, 53, 46, 48, 46, 48, 53, 58, 48, 46, 48, 46, 48, 49, 58, 49, 53, 58, 102, 97, 108, 115, 101, 57, 58, 50, 59, 50, 58, 99, 110, 49, 58, 120, 50, 58, 48, 59, 52, 48, 58, 50, 59, 49, 54, 58, 50, 59, 53, 58, 53, 46, 48, 46, 48, 53, 58, 48, 46, 48, 46, 49, 49, 54, 58, 50, 59, 53, 58, 48, 46, 48, 46, 48, 53, 58, 48, 46, 48, 46, 49])
theorem p80 : ∀ S, evw env 107 a80 S = some (v80, S, false) := pureOf T1ok.sub (k := 1000) (by kernel_rfl)
def a82 : List PV := [(.lst [(.agg [(.int .i64 5), (.int .i64 0), (.int .i64 0), (.int .i64 1), (.int .i64 5), (.int .i64 0), (.int .i64 0), (.int .i64 0), (.int .i64 0), (.int .i64 0), (.lst [(.agg [(.str [99, 110]), (.str [120])])] .none), (.bool false), .nils])] .none)]
def v82 : PV := (.lst [(.agg [(.int .i64 5), (.int .i64 0), (.int .i64 0), (.int .i64 1), (.int .i64 5), (.int .i64 0), (.int .i64 0), (.int .i64 0), (.int .i64 0), (.int .i64 0), (.lst [(.agg [(.str [99, 110]), (.str [120])])] .none), (.bool false), .nils])] .none)
theorem p82 : ∀ S, evw env 33 a82 S = some (v82, S, false) := pureOf T1ok.sub (k := 1000) (by kernel_rfl)
def a85 : List PV := [(.agg [(.int .i64 5), (.int .i64 0), (.int .i64 0)]), (.agg [(.int .i64 5), (.int .i64 0), (.int .i64 0)])]
def v85 : PV := (.int .i64 0)
theorem p85 : ∀ S, evw env 31 a85 S = some (v85, S, false) := pureOf T1ok.sub (k := 1000) (by kernel_rfl)
def a88 : List PV := [(.agg [(.int .i64 0), (.int .i64 0), (.int .i64 1)]), (.agg [(.int .i64 0), (.int .i64 0), (.int .i64 1)])]
def v88 : PV := (.int .i64 0)
theorem p88 : ∀ S, evw env 31 a88 S = some (v88, S, false) := pureOf T1ok.sub (k := 1000) (by kernel_rfl)
def a91 : List PV := [(.agg [(.int .i64 0), (.int .i64 0), (.int .i64 0)]), (.agg [(.int .i64 0), (.int .i64 0), (.int .i64 0)])]
def v91 : PV := (.int .i64 0)
theorem p91 : ∀ S, evw env 31 a91 S = some (v91, S, false) := pureOf T1ok.sub (k := 1000) (by kernel_rfl)
def a99 : List PV := [(.lst [(.agg [(.int .i64 5), (.int .i64 0), (.int .i64 0)]), (.agg [(.int .i64 0), (.int .i64 0), (.int .i64 1)])] .none)]
def v99 : PV := (.bool true)
theorem p99 : ∀ S, evw env 83 a99 S = some (v99, S, false) := pureOf T1ok.sub (k := 1000) (by kernel_rfl)
def a113 : List PV := [(.lst [(.str [53, 46, 48, 46, 48]), (.str [48, 46, 48, 46, 49])] (.tip 5))]
def v113 : PV := (.str [50, 59, 53, 58, 53, 46, 48, 46, 48, 53, 58, 48, 46, 48, 46, 49])
theorem p113 : ∀ S, evw env 58 a113 S = some (v113, S, false) := pureOf T1ok.sub (k := 1000) (by kernel_rfl)
def a118 : List PV := [(.str [101, 75, 50, 59, 53, 51, 58, 49, 59, 52, 56, 58, 55, 59, 53, 58, 53, 46, 48, 46, 48, 53, 58, 53, 46, 48, 46, 48, 53, 58, 48, 46, 48, 46, 48, 49, 58, 49, 53, 58, 102, 97, 108, 115, 101, 57, 58, 50, 59, 50, 58, 99, 110, 49, 58, 120, 50, 58, 48, 59, 52, 48, 58, 50, 59, 49, 54, 58, 50, 59, 53, 58, 53, 46, 48, 46, 48, 53, 58, 48, 46, 48, 46, 49, 49, 54, 58, 50, 59, 53, 58, 53, 46, 48, 46, 48, 53, 58, 48, 46, 48, 46, 49])]
def v118 : PV := (.str [0, 103, 180, 103, 132, 225, 101, 75, 50, 59, 53, 51, 58, 49, 59, 52, 56, 58, 55, 59, 53, 58, 53, 46, 48, 46, 48, 53, 58, 53, 46, 48, 46, 48, 53, 58, 48, 46, 48, 46, 48, 49, 58, 49, 53, 58, 102, 97, 108, 115, 101, 57, 58, 50, 59, 50, 58, 99, 110, 49, 58, 120, 50, 58, 48, 59, 52, 48, 58, 50, 59, 49, 54, 58, 50, 59, 53, 58, 53, 46, 48, 46, 48, 53, 58, 48, 46, 48, 46, 49, 49, 54, 58, 50, 59, 53, 58, 53, 46, 48, 46, 48, 53, 58, 48, 46, 48, 46, 49])
theorem p118 : ∀ S, evw env 107 a118 S = some (v118, S, false) := pureOf T1ok.sub (k := 1000) (by kernel_rfl)
def a126 : List PV := [(.str [101, 75, 50, 59, 50, 58, 48, 59, 52, 48, 58, 50, 59, 49, 54, 58, 50, 59, 53, 58, 53, 46, 48, 46, 48, 53, 58, 48, 46, 48, 46, 49, 49, 54, 58, 50, 59, 53, 58, 53, 46, 48, 46, 48, 53, 58, 48, 46, 48, 46, 49])]
def v126 : PV := (.str [0, 51, 255, 41, 77, 40, 101, 75, 50, 59, 50, 58, 48, 59, 52, 48, 58, 50, 59, 49, 54, 58, 50, 59, 53, 58, 53, 46, 48, 46, 48, 53, 58, 48, 46, 48, 46, 49, 49, 54, 58, 50, 59, 53, 58, 53, 46, 48, 46, 48, 53, 58, 48, 46, 48, 46, 49])
theorem p126 : ∀ S, evw env 107 a126 S = some (v126, S, false) := pureOf T1ok.sub (k := 1000) (by kernel_rfl)
def a129 : List PV := [(.lst [(.agg [(.int .i64 0), (.int .i64 0), (.int .i64 0)]), (.agg [(.int .i64 0), (.int .i64 0), (.int .i64 1)])] .none), (.lst [(.agg [(.int .i64 0), (.int .i64 0), (.int .i64 0)]), (.agg [(.int .i64 0), (.int .i64 0), (.int .i64 1)])] .none)]
def v129 : PV := (.bool true)
theorem p129 : ∀ S, evw env 48 a129 S = some (v129, S, false) := pureOf T1ok.sub (k := 1000) (by kernel_rfl)
def T2 : Tab := ⟨(.node (.node (.node (.node (.node .nil 19 [(a0, v0)] .nil) 31 [(a39, v39), (a55, v55), (a85, v85), (a88, v88), (a91, v91)] (.node .nil 33 [(a82, v82)] .nil)) 48 [(a129, v129)] (.node (.node .nil 49 [(a128, v128)] .nil) 58 [(a7, v7), (a11, v11), (a14, v14), (a15, v15), (a65, v65), (a68, v68), (a74, v74), (a113, v113)] (.node .nil 59 [(a4, v4), (a6, v6), (a8, v8), (a9, v9), (a10, v10), (a17, v17), (a21, v21), (a24, v24), (a26, v26), (a66, v66), (a67, v67), (a71, v71), (a77, v77)] .nil))) 60 [(a5, v5), (a13, v13), (a64, v64)] (.node (.node (.node .nil 73 [(a36, v36), (a37, v37), (a58, v58)] .nil) 78 [(a84, v84)] (.node .nil 79 [(a54, v54), (a83, v83), (a86, v86)] .nil)) 80 [(a38, v38), (a87, v87)] (.node (.node .nil 83 [(a59, v59), (a99, v99)] .nil) 84 [(a57, v57)] (.node .nil 95 [(a94, v94), (a106, v106)] .nil)))) 107 [(a29, v29), (a34, v34), (a80, v80), (a118, v118), (a126, v126)] (.node (.node (.node (.node .nil 114 [(a16, v16), (a20, v20), (a23, v23), (a25, v25), (a70, v70), (a76, v76)] .nil) 115 [(a3, v3), (a63, v63)] (.node .nil 118 [(a41, v41)] .nil)) 122 [(a43, v43)] (.node (.node .nil 132 [(a53, v53)] .nil) 135 [(a2, v2)] (.node .nil 137 [(a56, v56)] .nil))) 143 [(a28, v28), (a33, v33), (a79, v79), (a117, v117), (a125, v125)] (.node (.node (.node .nil 147 [(a40, v40)] .nil) 150 [(a45, v45)] (.node .nil 151 [(a42, v42)] .nil)) 154 [(a52, v52)] (.node (.node .nil 159 [(a1, v1)] .nil) 168 [(a44, v44)] .nil)))),
  .nil⟩
theorem T2ok : T2.Ok env := ⟨⟨⟨⟨⟨⟨trivial, ⟨p0, trivial⟩, trivial⟩, ⟨p39, p55, p85, p88, p91, trivial⟩, ⟨trivial, ⟨p82, trivial⟩, trivial⟩⟩, ⟨p129, trivial⟩, ⟨⟨trivial, ⟨p128, trivial⟩, trivial⟩, ⟨p7, p11, p14, p15, p65, p68, p74, p113, trivial⟩, ⟨trivial, ⟨p4, p6, p8, p9, p10, p17, p21, p24, p26, p66, p67, p71, p77, trivial⟩, trivial⟩⟩⟩, ⟨p5, p13, p64, trivial⟩, ⟨⟨⟨trivial, ⟨p36, p37, p58, trivial⟩, trivial⟩, ⟨p84, trivial⟩, ⟨trivial, ⟨p54, p83, p86, trivial⟩, trivial⟩⟩, ⟨p38, p87, trivial⟩, ⟨⟨trivial, ⟨p59, p99, trivial⟩, trivial⟩, ⟨p57, trivial⟩, ⟨trivial, ⟨p94, p106, trivial⟩, trivial⟩⟩⟩⟩, ⟨p29, p34, p80, p118, p126, trivial⟩, ⟨⟨⟨⟨trivial, ⟨p16, p20, p23, p25, p70, p76, trivial⟩, trivial⟩, ⟨p3, p63, trivial⟩, ⟨trivial, ⟨p41, trivial⟩, trivial⟩⟩, ⟨p43, trivial⟩, ⟨⟨trivial, ⟨p53, trivial⟩, trivial⟩, ⟨p2, trivial⟩, ⟨trivial, ⟨p56, trivial⟩, trivial⟩⟩⟩, ⟨p28, p33, p79, p117, p125, trivial⟩, ⟨⟨⟨trivial, ⟨p40, trivial⟩, trivial⟩, ⟨p45, trivial⟩, ⟨trivial, ⟨p42, trivial⟩, trivial⟩⟩, ⟨p52, trivial⟩, ⟨⟨trivial, ⟨p1, trivial⟩, trivial⟩, ⟨p44, trivial⟩, trivial⟩⟩⟩⟩,
  trivial⟩
def a12 : List PV := [(.agg [(.int .i64 0), (.int .i64 0), (.int .i64 0), (.int .i64 0), (.int .i64 0), (.int .i64 0), .nils, .nils, (.int .i64 1), (.bool false)])]
def v12 : PV := (.str [54, 59, 53, 58, 48, 46, 48, 46, 48, 53, 58, 48, 46, 48, 46, 48, 49, 58, 49, 53, 58, 102, 97, 108, 115, 101, 50, 58, 48, 59, 50, 58, 48, 59])
theorem p12 : ∀ S, evw env 57 a12 S = some (v12, S, false) := pureOf T2ok.sub (k := 1000) (by kernel_rfl)
def a18 : List PV := [(.lst [(.str [50, 59, 53, 58, 48, 46, 48, 46, 48, 53, 58, 48, 46, 48, 46, 49]), (.str [50, 59, 53, 58, 48, 46, 48, 46, 48, 53, 58, 48, 46, 48, 46, 49])] (.tip 3))]
def v18 : PV := (.str [50, 59, 49, 54, 58, 50, 59, 53, 58, 48, 46, 48, 46, 48, 53, 58, 48, 46, 48, 46, 49, 49, 54, 58, 50, 59, 53, 58, 48, 46, 48, 46, 48, 53, 58, 48, 46, 48, 46, 49])
theorem p18 : ∀ S, evw env 58 a18 S = some (v18, S, false) := pureOf T2ok.sub (k := 1000) (by kernel_rfl)
def a22 : List PV := [.nils]
def v22 : PV := (.str [48, 59])
theorem p22 : ∀ S, evw env 63 a22 S = some (v22, S, false) := pureOf T2ok.sub (k := 1000) (by kernel_rfl)
def a27 : List PV := [(.lst [(.str [48]), (.str [48, 46, 48, 46, 48]), (.str [50, 59, 49, 54, 58, 50, 59, 53, 58, 48, 46, 48, 46, 48, 53, 58, 48, 46, 48, 46, 49, 49, 54, 58, 50, 59, 53, 58, 48, 46, 48, 46, 48, 53, 58, 48, 46, 48, 46, 49]), (.str [48, 46, 48, 46, 48]), (.str [49, 59, 51, 52, 58, 54, 59, 53, 58, 48, 46, 48, 46, 48, 53, 58, 48, 46, 48, 46, 48, 49, 58, 49, 53, 58, 102, 97, 108, 115, 101, 50, 58, 48, 59, 50, 58, 48, 59]), (.str [48, 59])] .full)]
def v27 : PV := (.str [54, 59, 49, 58, 48, 53, 58, 48, 46, 48, 46, 48, 52, 48, 58, 50, 59, 49, 54, 58, 50, 59, 53, 58, 48, 46, 48, 46, 48, 53, 58, 48, 46, 48, 46, 49, 49, 54, 58, 50, 59, 53, 58, 48, 46, 48, 46, 48, 53, 58, 48, 46, 48, 46, 49, 53, 58, 48, 46, 48, 46, 48, 51, 57, 58, 49, 59, 51, 52, 58, 54, 59, 53, 58, 48, 46, 48, 46, 48, 53, 58, 48, 46, 48, 46, 48, 49, 58, 49, 53, 58, 102, 97, 108, 115, 101, 50, 58, 48, 59, 50, 58, 48, 59, 50, 58, 48, 59])
theorem p27 : ∀ S, evw env 58 a27 S = some (v27, S, false) := pureOf T2ok.sub (k := 1000) (by kernel_rfl)
def a30 : List PV := [(.lst [(.str [101, 87, 54, 59, 49, 58, 48, 53, 58, 48, 46, 48, 46, 48, 52, 48, 58, 50, 59, 49, 54, 58, 50, 59, 53, 58, 48, 46, 48, 46, 48, 53, 58, 48, 46, 48, 46, 49, 49, 54, 58, 50, 59, 53, 58, 48, 46, 48, 46, 48, 53, 58, 48, 46, 48, 46, 49, 53, 58, 48, 46, 48, 46, 48, 51, 57, 58, 49, 59, 51, 52, 58, 54, 59, 53, 58, 48, 46, 48, 46, 48, 53, 58, 48, 46, 48, 46, 48, 49, 58, 49, 53, 58, 102, 97, 108, 115, 101, 50, 58, 48, 59, 50, 58, 48, 59, 50, 58, 48, 59])] .none)]
def v30 : PV := (.str [0, 110, 17, 241, 240, 49, 101, 87, 54, 59, 49, 58, 48, 53, 58, 48, 46, 48, 46, 48, 52, 48, 58, 50, 59, 49, 54, 58, 50, 59, 53, 58, 48, 46, 48, 46, 48, 53, 58, 48, 46, 48, 46, 49, 49, 54, 58, 50, 59, 53, 58, 48, 46, 48, 46, 48, 53, 58, 48, 46, 48, 46, 49, 53, 58, 48, 46, 48, 46, 48, 51, 57, 58, 49, 59, 51, 52, 58, 54, 59, 53, 58, 48, 46, 48, 46, 48, 53, 58, 48, 46, 48, 46, 48, 49, 58, 49, 53, 58, 102, 97, 108, 115, 101, 50, 58, 48, 59, 50, 58, 48, 59, 50, 58, 48, 59])
theorem p30 : ∀ S, evw env 54 a30 S = some (v30, S, false) := pureOf T2ok.sub (k := 1000) (by kernel_rfl)
def a32 : List PV := [(.lst [(.str [49]), (.str [48, 46, 48, 46, 49]), (.str [50, 59, 49, 54, 58, 50, 59, 53, 58, 48, 46, 48, 46, 48, 53, 58, 48, 46, 48, 46, 49, 49, 54, 58, 50, 59, 53, 58, 48, 46, 48, 46, 48, 53, 58, 48, 46, 48, 46, 49]), (.str [48, 46, 48, 46, 48]), (.str [49, 59, 51, 52, 58, 54, 59, 53, 58, 48, 46, 48, 46, 48, 53, 58, 48, 46, 48, 46, 48, 49, 58, 49, 53, 58, 102, 97, 108, 115, 101, 50, 58, 48, 59, 50, 58, 48, 59]), (.str [48, 59])] .full)]
def v32 : PV := (.str [54, 59, 49, 58, 49, 53, 58, 48, 46, 48, 46, 49, 52, 48, 58, 50, 59, 49, 54, 58, 50, 59, 53, 58, 48, 46, 48, 46, 48, 53, 58, 48, 46, 48, 46, 49, 49, 54, 58, 50, 59, 53, 58, 48, 46, 48, 46, 48, 53, 58, 48, 46, 48, 46, 49, 53, 58, 48, 46, 48, 46, 48, 51, 57, 58, 49, 59, 51, 52, 58, 54, 59, 53, 58, 48, 46, 48, 46, 48, 53, 58, 48, 46, 48, 46, 48, 49, 58, 49, 53, 58, 102, 97, 108, 115, 101, 50, 58, 48, 59, 50, 58, 48, 59, 50, 58, 48, 59])
theorem p32 : ∀ S, evw env 58 a32 S = some (v32, S, false) := pureOf T2ok.sub (k := 1000) (by kernel_rfl)
def a35 : List PV := [(.lst [(.str [101, 87, 54, 59, 49, 58, 49, 53, 58, 48, 46, 48, 46, 49, 52, 48, 58, 50, 59, 49, 54, 58, 50, 59, 53, 58, 48, 46, 48, 46, 48, 53, 58, 48, 46, 48, 46, 49, 49, 54, 58, 50, 59, 53, 58, 48, 46, 48, 46, 48, 53, 58, 48, 46, 48, 46, 49, 53, 58, 48, 46, 48, 46, 48, 51, 57, 58, 49, 59, 51, 52, 58, 54, 59, 53, 58, 48, 46, 48, 46, 48, 53, 58, 48, 46, 48, 46, 48, 49, 58, 49, 53, 58, 102, 97, 108, 115, 101, 50, 58, 48, 59, 50, 58, 48, 59, 50, 58, 48, 59])] .none)]
def v35 : PV := (.str [0, 110, 125, 210, 193, 59, 101, 87, 54, 59, 49, 58, 49, 53, 58, 48, 46, 48, 46, 49, 52, 48, 58, 50, 59, 49, 54, 58, 50, 59, 53, 58, 48, 46, 48, 46, 48, 53, 58, 48, 46, 48, 46, 49, 49, 54, 58, 50, 59, 53, 58, 48, 46, 48, 46, 48, 53, 58, 48, 46, 48, 46, 49, 53, 58, 48, 46, 48, 46, 48, 51, 57, 58, 49, 59, 51, 52, 58, 54, 59, 53, 58, 48, 46, 48, 46, 48, 53, 58, 48, 46, 48, 46, 48, 49, 58, 49, 53, 58, 102, 97, 108, 115, 101, 50, 58, 48, 59, 50, 58, 48, 59, 50, 58, 48, 59])
theorem p35 : ∀ S, evw env 54 a35 S = some (v35, S, false) := pureOf T2ok.sub (k := 1000) (by kernel_rfl)
def a46 : List PV := [(.str [99, 110]), (.str [120])]
def v46 : PV := (.int .i64 0)
theorem p46 : ∀ S, evw env 121 a46 S = some (v46, S, false) := pureOf T2ok.sub (k := 1000) (by kernel_rfl)
def a60 : List PV := [(.lst [(.agg [(.int .i64 0), (.int .i64 0), (.int .i64 0)]), (.agg [(.int .i64 0), (.int .i64 0), (.int .i64 1)])] .none)]
def v60 : PV := (.lst [(.agg [(.int .i64 0), (.int .i64 0), (.int .i64 0)]), (.agg [(.int .i64 0), (.int .i64 0), (.int .i64 1)])] .none)
theorem p60 : ∀ S, evw env 92 a60 S = some (v60, S, false) := pureOf T2ok.sub (k := 1000) (by kernel_rfl)
def a61 : List PV := [(.agg [(.int .i64 0), (.int .i64 0), (.int .i64 0)]), (.agg [(.int .i64 5), (.int .i64 0), (.int .i64 0)])]
def v61 : PV := (.agg [(.int .i64 5), (.int .i64 0), (.int .i64 0)])
theorem p61 : ∀ S, evw env 94 a61 S = some (v61, S, false) := pureOf T2ok.sub (k := 1000) (by kernel_rfl)
def a69 : List PV := [(.agg [(.int .i64 5), (.int .i64 0), (.int .i64 0), (.int .i64 1), (.int .i64 5), (.int .i64 0), (.int .i64 0), (.int .i64 0), (.int .i64 0), (.int .i64 0), (.lst [(.agg [(.str [99, 110]), (.str [120])])] .none), (.bool false), .nils])]
def v69 : PV := (.str [55, 59, 53, 58, 53, 46, 48, 46, 48, 53, 58, 53, 46, 48, 46, 48, 53, 58, 48, 46, 48, 46, 48, 49, 58, 49, 53, 58, 102, 97, 108, 115, 101, 57, 58, 50, 59, 50, 58, 99, 110, 49, 58, 120, 50, 58, 48, 59])
theorem p69 : ∀ S, evw env 116 a69 S = some (v69, S, false) := pureOf T2ok.sub (k := 1000) (by kernel_rfl)
def a72 : List PV := [(.lst [(.str [55, 59, 53, 58, 53, 46, 48, 46, 48, 53, 58, 53, 46, 48, 46, 48, 53, 58, 48, 46, 48, 46, 48, 49, 58, 49, 53, 58, 102, 97, 108, 115, 101, 57, 58, 50, 59, 50, 58, 99, 110, 49, 58, 120, 50, 58, 48, 59])] (.tip 1))]
def v72 : PV := (.str [49, 59, 52, 56, 58, 55, 59, 53, 58, 53, 46, 48, 46, 48, 53, 58, 53, 46, 48, 46, 48, 53, 58, 48, 46, 48, 46, 48, 49, 58, 49, 53, 58, 102, 97, 108, 115, 101, 57, 58, 50, 59, 50, 58, 99, 110, 49, 58, 120, 50, 58, 48, 59])
theorem p72 : ∀ S, evw env 58 a72 S = some (v72, S, false) := pureOf T2ok.sub (k := 1000) (by kernel_rfl)
def a75 : List PV := [(.lst [(.lst [(.agg [(.int .i64 5), (.int .i64 0), (.int .i64 0)]), (.agg [(.int .i64 0), (.int .i64 0), (.int .i64 1)])] .none), (.lst [(.agg [(.int .i64 0), (.int .i64 0), (.int .i64 0)]), (.agg [(.int .i64 0), (.int .i64 0), (.int .i64 1)])] .none)] .none)]
def v75 : PV := (.str [50, 59, 49, 54, 58, 50, 59, 53, 58, 53, 46, 48, 46, 48, 53, 58, 48, 46, 48, 46, 49, 49, 54, 58, 50, 59, 53, 58, 48, 46, 48, 46, 48, 53, 58, 48, 46, 48, 46, 49])
theorem p75 : ∀ S, evw env 61 a75 S = some (v75, S, false) := pureOf T2ok.sub (k := 1000) (by kernel_rfl)
def a81 : List PV := [(.lst [(.str [101, 75, 50, 59, 53, 51, 58, 49, 59, 52, 56, 58, 55, 59, 53, 58, 53, 46, 48, 46, 48, 53, 58, 53, 46, 48, 46, 48, 53, 58, 48, 46, 48, 46, 48, 49, 58, 49, 53, 58, 102, 97, 108, 115, 101, 57, 58, 50, 59, 50, 58, 99, 110, 49, 58, 120, 50, 58, 48, 59, 52, 48, 58, 50, 59, 49, 54, 58, 50, 59, 53, 58, 53, 46, 48, 46, 48, 53, 58, 48, 46, 48, 46, 49, 49, 54, 58, 50, 59, 53, 58, 48, 46, 48, 46, 48, 53, 58, 48, 46, 48, 46, 49])] .none)]
def v81 : PV := (.str [0, 103, 72, 59, 100, 4, 101, 75, 50, 59, 53, 51, 58, 49, 59, 52, 56, 58, 55, 59, 53, 58, 53, 46, 48, 46, 48, 53, 58, 53, 46, 48, 46, 48, 53, 58, 48, 46, 48, 46, 48, 49, 58, 49, 53, 58, 102, 97, 108, 115, 101, 57, 58, 50, 59, 50, 58, 99, 110, 49, 58, 120, 50, 58, 48, 59, 52, 48, 58, 50, 59, 49, 54, 58, 50, 59, 53, 58, 53, 46, 48, 46, 48, 53, 58, 48, 46, 48, 46, 49, 49, 54, 58, 50, 59, 53, 58, 48, 46, 48, 46, 48, 53, 58, 48, 46, 48, 46, 49])
theorem p81 : ∀ S, evw env 54 a81 S = some (v81, S, false) := pureOf T2ok.sub (k := 1000) (by kernel_rfl)
def a89 : List PV := [(.agg [(.int .i64 0), (.int .i64 0), (.int .i64 1)]), (.agg [(.int .i64 0), (.int .i64 0), (.int .i64 1)])]
def v89 : PV := (.agg [(.int .i64 0), (.int .i64 0), (.int .i64 1)])
theorem p89 : ∀ S, evw env 94 a89 S = some (v89, S, false) := pureOf T2ok.sub (k := 1000) (by kernel_rfl)
def a92 : List PV := [(.agg [(.int .i64 0), (.int .i64 0), (.int .i64 0)]), (.agg [(.int .i64 0), (.int .i64 0), (.int .i64 0)])]
def v92 : PV := (.agg [(.int .i64 0), (.int .i64 0), (.int .i64 0)])
theorem p92 : ∀ S, evw env 94 a92 S = some (v92, S, false) := pureOf T2ok.sub (k := 1000) (by kernel_rfl)
def a97 : List PV := [(.lst [(.lst [(.agg [(.int .i64 0), (.int .i64 0), (.int .i64 0)]), (.agg [(.int .i64 0), (.int .i64 0), (.int .i64 1)])] .none), (.lst [(.agg [(.int .i64 0), (.int .i64 0), (.int .i64 0)]), (.agg [(.int .i64 0), (.int .i64 0), (.int .i64 1)])] .none)] .none), (.int .i64 2)]
def v97 : PV := (.bool true)
theorem p97 : ∀ S, evw env 32 a97 S = some (v97, S, false) := pureOf T2ok.sub (k := 1000) (by kernel_rfl)
def a100 : List PV := [(.lst [(.agg [(.int .i64 5), (.int .i64 0), (.int .i64 0)]), (.agg [(.int .i64 0), (.int .i64 0), (.int .i64 1)])] .none)]
def v100 : PV := (.lst [(.agg [(.int .i64 5), (.int .i64 0), (.int .i64 0)]), (.agg [(.int .i64 0), (.int .i64 0), (.int .i64 1)])] .none)
theorem p100 : ∀ S, evw env 92 a100 S = some (v100, S, false) := pureOf T2ok.sub (k := 1000) (by kernel_rfl)
def a101 : List PV := [(.agg [(.int .i64 5), (.int .i64 0), (.int .i64 0)]), (.agg [(.int .i64 5), (.int .i64 0), (.int .i64 0)])]
def v101 : PV := (.agg [(.int .i64 5), (.int .i64 0), (.int .i64 0)])
theorem p101 : ∀ S, evw env 94 a101 S = some (v101, S, false) := pureOf T2ok.sub (k := 1000) (by kernel_rfl)
def a103 : List PV := [(.agg [(.int .i64 5), (.int .i64 0), (.int .i64 0)]), (.agg [(.int .i64 0), (.int .i64 0), (.int .i64 0)])]
def v103 : PV := (.agg [(.int .i64 5), (.int .i64 0), (.int .i64 0)])
theorem p103 : ∀ S, evw env 94 a103 S = some (v103, S, false) := pureOf T2ok.sub (k := 1000) (by kernel_rfl)
def a110 : List PV := [(.lst [(.lst [(.agg [(.int .i64 5), (.int .i64 0), (.int .i64 0)]), (.agg [(.int .i64 0), (.int .i64 0), (.int .i64 1)])] .none), (.lst [(.agg [(.int .i64 0), (.int .i64 0), (.int .i64 0)]), (.agg [(.int .i64 0), (.int .i64 0), (.int .i64 1)])] .none)] .none), (.int .i64 2)]
def v110 : PV := (.bool true)
theorem p110 : ∀ S, evw env 32 a110 S = some (v110, S, false) := pureOf T2ok.sub (k := 1000) (by kernel_rfl)
def a114 : List PV := [(.lst [(.str [50, 59, 53, 58, 53, 46, 48, 46, 48, 53, 58, 48, 46, 48, 46, 49]), (.str [50, 59, 53, 58, 53, 46, 48, 46, 48, 53, 58, 48, 46, 48, 46, 49])] (.tip 3))]
def v114 : PV := (.str [50, 59, 49, 54, 58, 50, 59, 53, 58, 53, 46, 48, 46, 48, 53, 58, 48, 46, 48, 46, 49, 49, 54, 58, 50, 59, 53, 58, 53, 46, 48, 46, 48, 53, 58, 48, 46, 48, 46, 49])
theorem p114 : ∀ S, evw env 58 a114 S = some (v114, S, false) := pureOf T2ok.sub (k := 1000) (by kernel_rfl)
def a119 : List PV := [(.lst [(.str [101, 75, 50, 59, 53, 51, 58, 49, 59, 52, 56, 58, 55, 59, 53, 58, 53, 46, 48, 46, 48, 53, 58, 53, 46, 48, 46, 48, 53, 58, 48, 46, 48, 46, 48, 49, 58, 49, 53, 58, 102, 97, 108, 115, 101, 57, 58, 50, 59, 50, 58, 99, 110, 49, 58, 120, 50, 58, 48, 59, 52, 48, 58, 50, 59, 49, 54, 58, 50, 59, 53, 58, 53, 46, 48, 46, 48, 53, 58, 48, 46, 48, 46, 49, 49, 54, 58, 50, 59, 53, 58, 53, 46, 48, 46, 48, 53, 58, 48, 46, 48, 46, 49])] .none)]
def v119 : PV := (.str [0, 103, 180, 103, 132, 225, 101, 75, 50, 59, 53, 51, 58, 49, 59, 52, 56, 58, 55, 59, 53, 58, 53, 46, 48, 46, 48, 53, 58, 53, 46, 48, 46, 48, 53, 58, 48, 46, 48, 46, 48, 49, 58, 49, 53, 58, 102, 97, 108, 115, 101, 57, 58, 50, 59, 50, 58, 99, 110, 49, 58, 120, 50, 58, 48, 59, 52, 48, 58, 50, 59, 49, 54, 58, 50, 59, 53, 58, 53, 46, 48, 46, 48, 53, 58, 48, 46, 48, 46, 49, 49, 54, 58, 50, 59, 53, 58, 53, 46, 48, 46, 48, 53, 58, 48, 46, 48, 46, 49])
theorem p119 : ∀ S, evw env 54 a119 S = some (v119, S, false) := pureOf T2ok.sub (k := 1000) (by kernel_rfl)
def a120 : List PV := [(.lst [(.lst [(.agg [(.int .i64 5), (.int .i64 0), (.int .i64 0)]), (.agg [(.int .i64 0), (.int .i64 0), (.int .i64 1)])] .none), (.lst [(.agg [(.int .i64 5), (.int .i64 0), (.int .i64 0)]), (.agg [(.int .i64 0), (.int .i64 0), (.int .i64 1)])] .none)] .none), (.int .i64 2)]
def v120 : PV := (.bool true)
theorem p120 : ∀ S, evw env 32 a120 S = some (v120, S, false) := pureOf T2ok.sub (k := 1000) (by kernel_rfl)
def a127 : List PV := [(.lst [(.str [101, 75, 50, 59, 50, 58, 48, 59, 52, 48, 58, 50, 59, 49, 54, 58, 50, 59, 53, 58, 53, 46, 48, 46, 48, 53, 58, 48, 46, 48, 46, 49, 49, 54, 58, 50, 59, 53, 58, 53, 46, 48, 46, 48, 53, 58, 48, 46, 48, 46, 49])] .none)]
def v127 : PV := (.str [0, 51, 255, 41, 77, 40, 101, 75, 50, 59, 50, 58, 48, 59, 52, 48, 58, 50, 59, 49, 54, 58, 50, 59, 53, 58, 53, 46, 48, 46, 48, 53, 58, 48, 46, 48, 46, 49, 49, 54, 58, 50, 59, 53, 58, 53, 46, 48, 46, 48, 53, 58, 48, 46, 48, 46, 49])
theorem p127 : ∀ S, evw env 54 a127 S = some (v127, S, false) := pureOf T2ok.sub (k := 1000) (by kernel_rfl)
def a130 : List PV := [(.agg [(.int .i64 1), (.int .i64 0), (.int .i64 1), (.int .i64 1), (.lst [(.lst [(.agg [(.int .i64 0), (.int .i64 0), (.int .i64 0)]), (.agg [(.int .i64 0), (.int .i64 0), (.int .i64 1)])] .none), (.lst [(.agg [(.int .i64 0), (.int .i64 0), (.int .i64 0)]), (.agg [(.int .i64 0), (.int .i64 0), (.int .i64 1)])] .none)] .none), .nils]), (.agg [(.int .i64 1), (.int .i64 0), (.int .i64 1), (.int .i64 1), (.lst [(.lst [(.agg [(.int .i64 0), (.int .i64 0), (.int .i64 0)]), (.agg [(.int .i64 0), (.int .i64 0), (.int .i64 1)])] .none), (.lst [(.agg [(.int .i64 0), (.int .i64 0), (.int .i64 0)]), (.agg [(.int .i64 0), (.int .i64 0), (.int .i64 1)])] .none)] .none), .nils])]
def v130 : PV := (.bool true)
theorem p130 : ∀ S, evw env 16 a130 S = some (v130, S, false) := pureOf T2ok.sub (k := 1000) (by kernel_rfl)
def T3 : Tab := ⟨(.node (.node (.node (.node (.node (.node .nil 16 [(a130, v130)] .nil) 19 [(a0, v0)] .nil) 31 [(a39, v39), (a55, v55), (a85, v85), (a88, v88), (a91, v91)] (.node (.node .nil 32 [(a97, v97), (a110, v110), (a120, v120)] .nil) 33 [(a82, v82)] .nil)) 48 [(a129, v129)] (.node (.node (.node .nil 49 [(a128, v128)] .nil) 54 [(a30, v30), (a35, v35), (a81, v81), (a119, v119), (a127, v127)] .nil) 57 [(a12, v12)] (.node .nil 58 [(a7, v7), (a11, v11), (a14, v14), (a15, v15), (a18, v18), (a27, v27), (a32, v32), (a65, v65), (a68, v68), (a72, v72), (a74, v74), (a113, v113), (a114, v114)] .nil))) 59 [(a4, v4), (a6, v6), (a8, v8), (a9, v9), (a10, v10), (a17, v17), (a21, v21), (a24, v24), (a26, v26), (a66, v66), (a67, v67), (a71, v71), (a77, v77)] (.node (.node (.node (.node .nil 60 [(a5, v5), (a13, v13), (a64, v64)] .nil) 61 [(a75, v75)] .nil) 63 [(a22, v22)] (.node .nil 73 [(a36, v36), (a37, v37), (a58, v58)] .nil)) 78 [(a84, v84)] (.node (.node (.node .nil 79 [(a54, v54), (a83, v83), (a86, v86)] .nil) 80 [(a38, v38), (a87, v87)] .nil) 83 [(a59, v59), (a99, v99)] (.node .nil 84 [(a57, v57)] .nil)))) 92 [(a60, v60), (a100, v100)] (.node (.node (.node (.node (.node .nil 94 [(a61, v61), (a89, v89), (a92, v92), (a101, v101), (a103, v103)] .nil) 95 [(a94, v94), (a106, v106)] .nil) 107 [(a29, v29), (a34, v34), (a80, v80), (a118, v118), (a126, v126)] (.node .nil 114 [(a16, v16), (a20, v20), (a23, v23), (a25, v25), (a70, v70), (a76, v76)] .nil)) 115 [(a3, v3), (a63, v63)] (.node (.node (.node .nil 116 [(a69, v69)] .nil) 118 [(a41, v41)] .nil) 121 [(a46, v46)] (.node .nil 122 [(a43, v43)] .nil))) 132 [(a53, v53)] (.node (.node (.node (.node .nil 135 [(a2, v2)] .nil) 137 [(a56, v56)] .nil) 143 [(a28, v28), (a33, v33), (a79, v79), (a117, v117), (a125, v125)] (.node .nil 147 [(a40, v40)] .nil)) 150 [(a45, v45)] (.node (.node (.node .nil 151 [(a42, v42)] .nil) 154 [(a52, v52)] .nil) 159 [(a1, v1)] (.node .nil 168 [(a44, v44)] .nil))))),
  .nil⟩
theorem T3ok : T3.Ok env := ⟨⟨⟨⟨⟨⟨⟨trivial, ⟨p130, trivial⟩, trivial⟩, ⟨p0, trivial⟩, trivial⟩, ⟨p39, p55, p85, p88, p91, trivial⟩, ⟨⟨trivial, ⟨p97, p110, p120, trivial⟩, trivial⟩, ⟨p82, trivial⟩, trivial⟩⟩, ⟨p129, trivial⟩, ⟨⟨⟨trivial, ⟨p128, trivial⟩, trivial⟩, ⟨p30, p35, p81, p119, p127, trivial⟩, trivial⟩, ⟨p12, trivial⟩, ⟨trivial, ⟨p7, p11, p14, p15, p18, p27, p32, p65, p68, p72, p74, p113, p114, trivial⟩, trivial⟩⟩⟩, ⟨p4, p6, p8, p9, p10, p17, p21, p24, p26, p66, p67, p71, p77, trivial⟩, ⟨⟨⟨⟨trivial, ⟨p5, p13, p64, trivial⟩, trivial⟩, ⟨p75, trivial⟩, trivial⟩, ⟨p22, trivial⟩, ⟨trivial, ⟨p36, p37, p58, trivial⟩, trivial⟩⟩, ⟨p84, trivial⟩, ⟨⟨⟨trivial, ⟨p54, p83, p86, trivial⟩, trivial⟩, ⟨p38, p87, trivial⟩, trivial⟩, ⟨p59, p99, trivial⟩, ⟨trivial, ⟨p57, trivial⟩, trivial⟩⟩⟩⟩, ⟨p60, p100, trivial⟩, ⟨⟨⟨⟨⟨trivial, ⟨p61, p89, p92, p101, p103, trivial⟩, trivial⟩, ⟨p94, p106, trivial⟩, trivial⟩, ⟨p29, p34, p80, p118, p126, trivial⟩, ⟨trivial, ⟨p16, p20, p23, p25, p70, p76, trivial⟩, trivial⟩⟩, ⟨p3, p63, trivial⟩, ⟨⟨⟨trivial, ⟨p69, trivial⟩, trivial⟩, ⟨p41, trivial⟩, trivial⟩, ⟨p46, trivial⟩, ⟨trivial, ⟨p43, trivial⟩, trivial⟩⟩⟩, ⟨p53, trivial⟩, ⟨⟨⟨⟨trivial, ⟨p2, trivial⟩, trivial⟩, ⟨p56, trivial⟩, trivial⟩, ⟨p28, p33, p79, p117, p125, trivial⟩, ⟨trivial, ⟨p40, trivial⟩, trivial⟩⟩, ⟨p45, trivial⟩, ⟨⟨⟨trivial, ⟨p42, trivial⟩, trivial⟩, ⟨p52, trivial⟩, trivial⟩, ⟨p1, trivial⟩, ⟨trivial, ⟨p44, trivial⟩, trivial⟩⟩⟩⟩⟩,
  trivial⟩
def a19 : List PV := [(.lst [(.lst [(.agg [(.int .i64 0), (.int .i64 0), (.int .i64 0)]), (.agg [(.int .i64 0), (.int .i64 0), (.int .i64 1)])] .none), (.lst [(.agg [(.int .i64 0), (.int .i64 0), (.int .i64 0)]), (.agg [(.int .i64 0), (.int .i64 0), (.int .i64 1)])] .none)] (.tip 9))]
def v19 : PV := (.str [50, 59, 49, 54, 58, 50, 59, 53, 58, 48, 46, 48, 46, 48, 53, 58, 48, 46, 48, 46, 49, 49, 54, 58, 50, 59, 53, 58, 48, 46, 48, 46, 48, 53, 58, 48, 46, 48, 46, 49])
theorem p19 : ∀ S, evw env 61 a19 S = some (v19, S, false) := pureOf T3ok.sub (k := 1000) (by kernel_rfl)
def a31 : List PV := [(.lst [(.lst [(.agg [(.int .i64 0), (.int .i64 0), (.int .i64 0)]), (.agg [(.int .i64 0), (.int .i64 0), (.int .i64 1)])] .none), (.lst [(.agg [(.int .i64 0), (.int .i64 0), (.int .i64 0)]), (.agg [(.int .i64 0), (.int .i64 0), (.int .i64 1)])] .none)] (.tip 23))]
def v31 : PV := (.str [50, 59, 49, 54, 58, 50, 59, 53, 58, 48, 46, 48, 46, 48, 53, 58, 48, 46, 48, 46, 49, 49, 54, 58, 50, 59, 53, 58, 48, 46, 48, 46, 48, 53, 58, 48, 46, 48, 46, 49])
theorem p31 : ∀ S, evw env 61 a31 S = some (v31, S, false) := pureOf T3ok.sub (k := 1000) (by kernel_rfl)
def a47 : List PV := [(.agg [(.str [99, 110]), (.str [120])])]
def v47 : PV := (.bool false)
theorem p47 : ∀ S, evw env 120 a47 S = some (v47, S, false) := pureOf T3ok.sub (k := 1000) (by kernel_rfl)
def a62 : List PV := [(.lst [(.agg [(.int .i64 0), (.int .i64 0), (.int .i64 0)]), (.agg [(.int .i64 0), (.int .i64 0), (.int .i64 1)])] .none), (.agg [(.int .i64 5), (.int .i64 0), (.int .i64 0)])]
def v62 : PV := (.lst [(.agg [(.int .i64 5), (.int .i64 0), (.int .i64 0)]), (.agg [(.int .i64 0), (.int .i64 0), (.int .i64 1)])] .none)
theorem p62 : ∀ S, evw env 41 a62 S = some (v62, S, false) := pureOf T3ok.sub (k := 1000) (by kernel_rfl)
def a73 : List PV := [(.lst [(.agg [(.int .i64 5), (.int .i64 0), (.int .i64 0), (.int .i64 1), (.int .i64 5), (.int .i64 0), (.int .i64 0), (.int .i64 0), (.int .i64 0), (.int .i64 0), (.lst [(.agg [(.str [99, 110]), (.str [120])])] .none), (.bool false), .nils])] .none)]
def v73 : PV := (.str [49, 59, 52, 56, 58, 55, 59, 53, 58, 53, 46, 48, 46, 48, 53, 58, 53, 46, 48, 46, 48, 53, 58, 48, 46, 48, 46, 48, 49, 58, 49, 53, 58, 102, 97, 108, 115, 101, 57, 58, 50, 59, 50, 58, 99, 110, 49, 58, 120, 50, 58, 48, 59])
theorem p73 : ∀ S, evw env 63 a73 S = some (v73, S, false) := pureOf T3ok.sub (k := 1000) (by kernel_rfl)
def a90 : List PV := [(.lst [(.agg [(.int .i64 0), (.int .i64 0), (.int .i64 0)]), (.agg [(.int .i64 0), (.int .i64 0), (.int .i64 1)])] .none), (.agg [(.int .i64 0), (.int .i64 0), (.int .i64 1)])]
def v90 : PV := (.lst [(.agg [(.int .i64 0), (.int .i64 0), (.int .i64 0)]), (.agg [(.int .i64 0), (.int .i64 0), (.int .i64 1)])] .none)
theorem p90 : ∀ S, evw env 41 a90 S = some (v90, S, false) := pureOf T3ok.sub (k := 1000) (by kernel_rfl)
def a93 : List PV := [(.lst [(.agg [(.int .i64 0), (.int .i64 0), (.int .i64 0)]), (.agg [(.int .i64 0), (.int .i64 0), (.int .i64 1)])] .none), (.lst [(.agg [(.int .i64 0), (.int .i64 0), (.int .i64 0)]), (.agg [(.int .i64 0), (.int .i64 0), (.int .i64 1)])] .none)]
def v93 : PV := (.lst [(.agg [(.int .i64 0), (.int .i64 0), (.int .i64 0)]), (.agg [(.int .i64 0), (.int .i64 0), (.int .i64 1)])] .none)
theorem p93 : ∀ S, evw env 40 a93 S = some (v93, S, false) := pureOf T3ok.sub (k := 1000) (by kernel_rfl)
def a95 : List PV := [(.lst [(.agg [(.int .i64 0), (.int .i64 0), (.int .i64 0)]), (.agg [(.int .i64 0), (.int .i64 0), (.int .i64 1)])] .none), (.lst [(.agg [(.int .i64 0), (.int .i64 0), (.int .i64 0)]), (.agg [(.int .i64 0), (.int .i64 0), (.int .i64 1)])] .none)]
def v95 : PV := (.bool true)
theorem p95 : ∀ S, evw env 43 a95 S = some (v95, S, false) := pureOf T3ok.sub (k := 1000) (by kernel_rfl)
def a98 : List PV := [(.agg [(.int .i64 1), (.int .i64 0), (.int .i64 1), (.int .i64 1), (.lst [(.lst [(.agg [(.int .i64 0), (.int .i64 0), (.int .i64 0)]), (.agg [(.int .i64 0), (.int .i64 0), (.int .i64 1)])] .none), (.lst [(.agg [(.int .i64 0), (.int .i64 0), (.int .i64 0)]), (.agg [(.int .i64 0), (.int .i64 0), (.int .i64 1)])] .none)] .none), .nils]), (.int .i64 2)]
def v98 : PV := (.bool true)
theorem p98 : ∀ S, evw env 10 a98 S = some (v98, S, false) := pureOf T3ok.sub (k := 1000) (by kernel_rfl)
def a102 : List PV := [(.lst [(.agg [(.int .i64 5), (.int .i64 0), (.int .i64 0)]), (.agg [(.int .i64 0), (.int .i64 0), (.int .i64 1)])] .none), (.agg [(.int .i64 5), (.int .i64 0), (.int .i64 0)])]
def v102 : PV := (.lst [(.agg [(.int .i64 5), (.int .i64 0), (.int .i64 0)]), (.agg [(.int .i64 0), (.int .i64 0), (.int .i64 1)])] .none)
theorem p102 : ∀ S, evw env 41 a102 S = some (v102, S, false) := pureOf T3ok.sub (k := 1000) (by kernel_rfl)
def a104 : List PV := [(.lst [(.agg [(.int .i64 5), (.int .i64 0), (.int .i64 0)]), (.agg [(.int .i64 0), (.int .i64 0), (.int .i64 1)])] .none), (.lst [(.agg [(.int .i64 0), (.int .i64 0), (.int .i64 0)]), (.agg [(.int .i64 0), (.int .i64 0), (.int .i64 1)])] .none)]
def v104 : PV := (.lst [(.agg [(.int .i64 5), (.int .i64 0), (.int .i64 0)]), (.agg [(.int .i64 0), (.int .i64 0), (.int .i64 1)])] .none)
theorem p104 : ∀ S, evw env 40 a104 S = some (v104, S, false) := pureOf T3ok.sub (k := 1000) (by kernel_rfl)
def a105 : List PV := [(.lst [(.agg [(.int .i64 5), (.int .i64 0), (.int .i64 0)]), (.agg [(.int .i64 0), (.int .i64 0), (.int .i64 1)])] .none), (.lst [(.agg [(.int .i64 5), (.int .i64 0), (.int .i64 0)]), (.agg [(.int .i64 0), (.int .i64 0), (.int .i64 1)])] .none)]
def v105 : PV := (.lst [(.agg [(.int .i64 5), (.int .i64 0), (.int .i64 0)]), (.agg [(.int .i64 0), (.int .i64 0), (.int .i64 1)])] .none)
theorem p105 : ∀ S, evw env 40 a105 S = some (v105, S, false) := pureOf T3ok.sub (k := 1000) (by kernel_rfl)
def a107 : List PV := [(.lst [(.agg [(.int .i64 5), (.int .i64 0), (.int .i64 0)]), (.agg [(.int .i64 0), (.int .i64 0), (.int .i64 1)])] .none), (.lst [(.agg [(.int .i64 5), (.int .i64 0), (.int .i64 0)]), (.agg [(.int .i64 0), (.int .i64 0), (.int .i64 1)])] .none)]
def v107 : PV := (.bool true)
theorem p107 : ∀ S, evw env 43 a107 S = some (v107, S, false) := pureOf T3ok.sub (k := 1000) (by kernel_rfl)
def a109 : List PV := [(.lst [(.agg [(.int .i64 0), (.int .i64 0), (.int .i64 0)]), (.agg [(.int .i64 0), (.int .i64 0), (.int .i64 1)])] .none), (.agg [(.int .i64 5), (.int .i64 0), (.int .i64 0)])]
def v109 : PV := (.bool false)
theorem p109 : ∀ S, evw env 67 a109 S = some (v109, S, false) := pureOf T3ok.sub (k := 1000) (by kernel_rfl)
def a112 : List PV := [(.lst [(.agg [(.int .i64 0), (.int .i64 0), (.int .i64 0)]), (.agg [(.int .i64 0), (.int .i64 0), (.int .i64 1)])] .none), (.lst [(.agg [(.int .i64 5), (.int .i64 0), (.int .i64 0)]), (.agg [(.int .i64 0), (.int .i64 0), (.int .i64 1)])] .none)]
def v112 : PV := (.lst [(.agg [(.int .i64 5), (.int .i64 0), (.int .i64 0)]), (.agg [(.int .i64 0), (.int .i64 0), (.int .i64 1)])] .none)
theorem p112 : ∀ S, evw env 40 a112 S = some (v112, S, false) := pureOf T3ok.sub (k := 1000) (by kernel_rfl)
def a115 : List PV := [(.lst [(.lst [(.agg [(.int .i64 5), (.int .i64 0), (.int .i64 0)]), (.agg [(.int .i64 0), (.int .i64 0), (.int .i64 1)])] .none), (.lst [(.agg [(.int .i64 5), (.int .i64 0), (.int .i64 0)]), (.agg [(.int .i64 0), (.int .i64 0), (.int .i64 1)])] .none)] .none)]
def v115 : PV := (.str [50, 59, 49, 54, 58, 50, 59, 53, 58, 53, 46, 48, 46, 48, 53, 58, 48, 46, 48, 46, 49, 49, 54, 58, 50, 59, 53, 58, 53, 46, 48, 46, 48, 53, 58, 48, 46, 48, 46, 49])
theorem p115 : ∀ S, evw env 61 a115 S = some (v115, S, false) := pureOf T3ok.sub (k := 1000) (by kernel_rfl)
def a121 : List PV := [(.agg [(.int .i64 1), (.int .i64 0), (.int .i64 3), (.int .i64 1), (.lst [(.lst [(.agg [(.int .i64 5), (.int .i64 0), (.int .i64 0)]), (.agg [(.int .i64 0), (.int .i64 0), (.int .i64 1)])] .none), (.lst [(.agg [(.int .i64 5), (.int .i64 0), (.int .i64 0)]), (.agg [(.int .i64 0), (.int .i64 0), (.int .i64 1)])] .none)] .none), .nils]), (.int .i64 2)]
def v121 : PV := (.bool true)
theorem p121 : ∀ S, evw env 10 a121 S = some (v121, S, false) := pureOf T3ok.sub (k := 1000) (by kernel_rfl)
def a122 : List PV := [(.lst [(.agg [(.int .i64 5), (.int .i64 0), (.int .i64 0)]), (.agg [(.int .i64 0), (.int .i64 0), (.int .i64 1)])] .none), (.lst [(.agg [(.int .i64 0), (.int .i64 0), (.int .i64 0)]), (.agg [(.int .i64 0), (.int .i64 0), (.int .i64 1)])] .none)]
def v122 : PV := (.bool false)
theorem p122 : ∀ S, evw env 43 a122 S = some (v122, S, false) := pureOf T3ok.sub (k := 1000) (by kernel_rfl)
def T4 : Tab := ⟨(.node (.node (.node (.node (.node (.node .nil 10 [(a98, v98), (a121, v121)] .nil) 16 [(a130, v130)] .nil) 19 [(a0, v0)] (.node (.node .nil 31 [(a39, v39), (a55, v55), (a85, v85), (a88, v88), (a91, v91)] .nil) 32 [(a97, v97), (a110, v110), (a120, v120)] .nil)) 33 [(a82, v82)] (.node (.node (.node .nil 40 [(a93, v93), (a104, v104), (a105, v105), (a112, v112)] .nil) 41 [(a62, v62), (a90, v90), (a102, v102)] .nil) 43 [(a95, v95), (a107, v107), (a122, v122)] (.node (.node .nil 48 [(a129, v129)] .nil) 49 [(a128, v128)] .nil))) 54 [(a30, v30), (a35, v35), (a81, v81), (a119, v119), (a127, v127)] (.node (.node (.node (.node .nil 57 [(a12, v12)] .nil) 58 [(a7, v7), (a11, v11), (a14, v14), (a15, v15), (a18, v18), (a27, v27), (a32, v32), (a65, v65), (a68, v68), (a72, v72), (a74, v74), (a113, v113), (a114, v114)] .nil) 59 [(a4, v4), (a6, v6), (a8, v8), (a9, v9), (a10, v10), (a17, v17), (a21, v21), (a24, v24), (a26, v26), (a66, v66), (a67, v67), (a71, v71), (a77, v77)] (.node (.node .nil 60 [(a5, v5), (a13, v13), (a64, v64)] .nil) 61 [(a19, v19), (a31, v31), (a75, v75), (a115, v115)] .nil)) 63 [(a22, v22), (a73, v73)] (.node (.node (.node .nil 67 [(a109, v109)] .nil) 73 [(a36, v36), (a37, v37), (a58, v58)] .nil) 78 [(a84, v84)] (.node (.node .nil 79 [(a54, v54), (a83, v83), (a86, v86)] .nil) 80 [(a38, v38), (a87, v87)] .nil)))) 83 [(a59, v59), (a99, v99)] (.node (.node (.node (.node (.node .nil 84 [(a57, v57)] .nil) 92 [(a60, v60), (a100, v100)] .nil) 94 [(a61, v61), (a89, v89), (a92, v92), (a101, v101), (a103, v103)] (.node (.node .nil 95 [(a94, v94), (a106, v106)] .nil) 107 [(a29, v29), (a34, v34), (a80, v80), (a118, v118), (a126, v126)] .nil)) 114 [(a16, v16), (a20, v20), (a23, v23), (a25, v25), (a70, v70), (a76, v76)] (.node (.node (.node .nil 115 [(a3, v3), (a63, v63)] .nil) 116 [(a69, v69)] .nil) 118 [(a41, v41)] (.node (.node .nil 120 [(a47, v47)] .nil) 121 [(a46, v46)] .nil))) 122 [(a43, v43)] (.node (.node (.node (.node .nil 132 [(a53, v53)] .nil) 135 [(a2, v2)] .nil) 137 [(a56, v56)] (.node (.node .nil 143 [(a28, v28), (a33, v33), (a79, v79), (a117, v117), (a125, v125)] .nil) 147 [(a40, v40)] .nil)) 150 [(a45, v45)] (.node (.node (.node .nil 151 [(a42, v42)] .nil) 154 [(a52, v52)] .nil) 159 [(a1, v1)] (.node .nil 168 [(a44, v44)] .nil))))),
  .nil⟩
theorem T4ok : T4.Ok env := ⟨⟨⟨⟨⟨⟨⟨trivial, ⟨p98, p121, trivial⟩, trivial⟩, ⟨p130, trivial⟩, trivial⟩, ⟨p0, trivial⟩, ⟨⟨trivial, ⟨p39, p55, p85, p88, p91, trivial⟩, trivial⟩, ⟨p97, p110, p120, trivial⟩, trivial⟩⟩, ⟨p82, trivial⟩, ⟨⟨⟨trivial, ⟨p93, p104, p105, p112, trivial⟩, trivial⟩, ⟨p62, p90, p102, trivial⟩, trivial⟩, ⟨p95, p107, p122, trivial⟩, ⟨⟨trivial, ⟨p129, trivial⟩, trivial⟩, ⟨p128, trivial⟩, trivial⟩⟩⟩, ⟨p30, p35, p81, p119, p127, trivial⟩, ⟨⟨⟨⟨trivial, ⟨p12, trivial⟩, trivial⟩, ⟨p7, p11, p14, p15, p18, p27, p32, p65, p68, p72, p74, p113, p114, trivial⟩, trivial⟩, ⟨p4, p6, p8, p9, p10, p17, p21, p24, p26, p66, p67, p71, p77, trivial⟩, ⟨⟨trivial, ⟨p5, p13, p64, trivial⟩, trivial⟩, ⟨p19, p31, p75, p115, trivial⟩, trivial⟩⟩, ⟨p22, p73, trivial⟩, ⟨⟨⟨trivial, ⟨p109, trivial⟩, trivial⟩, ⟨p36, p37, p58, trivial⟩, trivial⟩, ⟨p84, trivial⟩, ⟨⟨trivial, ⟨p54, p83, p86, trivial⟩, trivial⟩, ⟨p38, p87, trivial⟩, trivial⟩⟩⟩⟩, ⟨p59, p99, trivial⟩, ⟨⟨⟨⟨⟨trivial, ⟨p57, trivial⟩, trivial⟩, ⟨p60, p100, trivial⟩, trivial⟩, ⟨p61, p89, p92, p101, p103, trivial⟩, ⟨⟨trivial, ⟨p94, p106, trivial⟩, trivial⟩, ⟨p29, p34, p80, p118, p126, trivial⟩, trivial⟩⟩, ⟨p16, p20, p23, p25, p70, p76, trivial⟩, ⟨⟨⟨trivial, ⟨p3, p63, trivial⟩, trivial⟩, ⟨p69, trivial⟩, trivial⟩, ⟨p41, trivial⟩, ⟨⟨trivial, ⟨p47, trivial⟩, trivial⟩, ⟨p46, trivial⟩, trivial⟩⟩⟩, ⟨p43, trivial⟩, ⟨⟨⟨⟨trivial, ⟨p53, trivial⟩, trivial⟩, ⟨p2, trivial⟩, trivial⟩, ⟨p56, trivial⟩, ⟨⟨trivial, ⟨p28, p33, p79, p117, p125, trivial⟩, trivial⟩, ⟨p40, trivial⟩, trivial⟩⟩, ⟨p45, trivial⟩, ⟨⟨⟨trivial, ⟨p42, trivial⟩, trivial⟩, ⟨p52, trivial⟩, trivial⟩, ⟨p1, trivial⟩, ⟨trivial, ⟨p44, trivial⟩, trivial⟩⟩⟩⟩⟩,
  trivial⟩
def a48 : List PV := [(.lst [(.agg [(.str [99, 110]), (.str [120])])] .none), (.fn (.func 120) [] [])]
def v48 : PV := (.int .i64 (-1))
theorem p48 : ∀ S, evw env 149 a48 S = some (v48, S, false) := pureOf T4ok.sub (k := 1000) (by kernel_rfl)
def a78 : List PV := [(.lst [(.agg [(.int .i64 5), (.int .i64 0), (.int .i64 0), (.int .i64 1), (.int .i64 5), (.int .i64 0), (.int .i64 0), (.int .i64 0), (.int .i64 0), (.int .i64 0), (.lst [(.agg [(.str [99, 110]), (.str [120])])] .none), (.bool false), .nils])] .full), (.lst [(.lst [(.agg [(.int .i64 5), (.int .i64 0), (.int .i64 0)]), (.agg [(.int .i64 0), (.int .i64 0), (.int .i64 1)])] .none), (.lst [(.agg [(.int .i64 0), (.int .i64 0), (.int .i64 0)]), (.agg [(.int .i64 0), (.int .i64 0), (.int .i64 1)])] .none)] .none)]
def v78 : PV := (.str [75, 50, 59, 53, 51, 58, 49, 59, 52, 56, 58, 55, 59, 53, 58, 53, 46, 48, 46, 48, 53, 58, 53, 46, 48, 46, 48, 53, 58, 48, 46, 48, 46, 48, 49, 58, 49, 53, 58, 102, 97, 108, 115, 101, 57, 58, 50, 59, 50, 58, 99, 110, 49, 58, 120, 50, 58, 48, 59, 52, 48, 58, 50, 59, 49, 54, 58, 50, 59, 53, 58, 53, 46, 48, 46, 48, 53, 58, 48, 46, 48, 46, 49, 49, 54, 58, 50, 59, 53, 58, 48, 46, 48, 46, 48, 53, 58, 48, 46, 48, 46, 49])
theorem p78 : ∀ S, evw env 45 a78 S = some (v78, S, false) := pureOf T4ok.sub (k := 1000) (by kernel_rfl)
def a96 : List PV := [(.lst [(.lst [(.agg [(.int .i64 0), (.int .i64 0), (.int .i64 0)]), (.agg [(.int .i64 0), (.int .i64 0), (.int .i64 1)])] .none), (.lst [(.agg [(.int .i64 0), (.int .i64 0), (.int .i64 0)]), (.agg [(.int .i64 0), (.int .i64 0), (.int .i64 1)])] .none)] .none), (.lst [(.lst [(.agg [(.int .i64 0), (.int .i64 0), (.int .i64 0)]), (.agg [(.int .i64 0), (.int .i64 0), (.int .i64 1)])] .none), (.lst [(.agg [(.int .i64 0), (.int .i64 0), (.int .i64 0)]), (.agg [(.int .i64 0), (.int .i64 0), (.int .i64 1)])] .none)] (.tip 23)), (.fn (.func 43) [] [])]
def v96 : PV := (.bool true)
theorem p96 : ∀ S, evw env 42 a96 S = some (v96, S, false) := pureOf T4ok.sub (k := 1000) (by kernel_rfl)
def a108 : List PV := [(.lst [(.lst [(.agg [(.int .i64 5), (.int .i64 0), (.int .i64 0)]), (.agg [(.int .i64 0), (.int .i64 0), (.int .i64 1)])] .none), (.lst [(.agg [(.int .i64 0), (.int .i64 0), (.int .i64 0)]), (.agg [(.int .i64 0), (.int .i64 0), (.int .i64 1)])] .none)] .none), (.lst [(.lst [(.agg [(.int .i64 5), (.int .i64 0), (.int .i64 0)]), (.agg [(.int .i64 0), (.int .i64 0), (.int .i64 1)])] .none), (.lst [(.agg [(.int .i64 0), (.int .i64 0), (.int .i64 0)]), (.agg [(.int .i64 0), (.int .i64 0), (.int .i64 1)])] .none)] .none), (.fn (.func 43) [] [])]
def v108 : PV := (.bool true)
theorem p108 : ∀ S, evw env 42 a108 S = some (v108, S, false) := pureOf T4ok.sub (k := 1000) (by kernel_rfl)
def a116 : List PV := [(.lst [(.agg [(.int .i64 5), (.int .i64 0), (.int .i64 0), (.int .i64 1), (.int .i64 5), (.int .i64 0), (.int .i64 0), (.int .i64 0), (.int .i64 0), (.int .i64 0), (.lst [(.agg [(.str [99, 110]), (.str [120])])] .none), (.bool false), .nils])] (.tip 49)), (.lst [(.lst [(.agg [(.int .i64 5), (.int .i64 0), (.int .i64 0)]), (.agg [(.int .i64 0), (.int .i64 0), (.int .i64 1)])] .none), (.lst [(.agg [(.int .i64 5), (.int .i64 0), (.int .i64 0)]), (.agg [(.int .i64 0), (.int .i64 0), (.int .i64 1)])] .none)] .none)]
def v116 : PV := (.str [75, 50, 59, 53, 51, 58, 49, 59, 52, 56, 58, 55, 59, 53, 58, 53, 46, 48, 46, 48, 53, 58, 53, 46, 48, 46, 48, 53, 58, 48, 46, 48, 46, 48, 49, 58, 49, 53, 58, 102, 97, 108, 115, 101, 57, 58, 50, 59, 50, 58, 99, 110, 49, 58, 120, 50, 58, 48, 59, 52, 48, 58, 50, 59, 49, 54, 58, 50, 59, 53, 58, 53, 46, 48, 46, 48, 53, 58, 48, 46, 48, 46, 49, 49, 54, 58, 50, 59, 53, 58, 53, 46, 48, 46, 48, 53, 58, 48, 46, 48, 46, 49])
theorem p116 : ∀ S, evw env 45 a116 S = some (v116, S, false) := pureOf T4ok.sub (k := 1000) (by kernel_rfl)
def a123 : List PV := [(.lst [(.lst [(.agg [(.int .i64 5), (.int .i64 0), (.int .i64 0)]), (.agg [(.int .i64 0), (.int .i64 0), (.int .i64 1)])] .none), (.lst [(.agg [(.int .i64 5), (.int .i64 0), (.int .i64 0)]), (.agg [(.int .i64 0), (.int .i64 0), (.int .i64 1)])] .none)] .none), (.lst [(.lst [(.agg [(.int .i64 5), (.int .i64 0), (.int .i64 0)]), (.agg [(.int .i64 0), (.int .i64 0), (.int .i64 1)])] .none), (.lst [(.agg [(.int .i64 0), (.int .i64 0), (.int .i64 0)]), (.agg [(.int .i64 0), (.int .i64 0), (.int .i64 1)])] .none)] .none), (.fn (.func 43) [] [])]
def v123 : PV := (.bool false)
theorem p123 : ∀ S, evw env 42 a123 S = some (v123, S, false) := pureOf T4ok.sub (k := 1000) (by kernel_rfl)
def a124 : List PV := [.nils, (.lst [(.lst [(.agg [(.int .i64 5), (.int .i64 0), (.int .i64 0)]), (.agg [(.int .i64 0), (.int .i64 0), (.int .i64 1)])] .none), (.lst [(.agg [(.int .i64 5), (.int .i64 0), (.int .i64 0)]), (.agg [(.int .i64 0), (.int .i64 0), (.int .i64 1)])] .none)] .none)]
def v124 : PV := (.str [75, 50, 59, 50, 58, 48, 59, 52, 48, 58, 50, 59, 49, 54, 58, 50, 59, 53, 58, 53, 46, 48, 46, 48, 53, 58, 48, 46, 48, 46, 49, 49, 54, 58, 50, 59, 53, 58, 53, 46, 48, 46, 48, 53, 58, 48, 46, 48, 46, 49])
theorem p124 : ∀ S, evw env 45 a124 S = some (v124, S, false) := pureOf T4ok.sub (k := 1000) (by kernel_rfl)
def T5 : Tab := ⟨(.node (.node (.node (.node (.node (.node .nil 10 [(a98, v98), (a121, v121)] .nil) 16 [(a130, v130)] (.node .nil 19 [(a0, v0)] .nil)) 31 [(a39, v39), (a55, v55), (a85, v85), (a88, v88), (a91, v91)] (.node (.node .nil 32 [(a97, v97), (a110, v110), (a120, v120)] .nil) 33 [(a82, v82)] .nil)) 40 [(a93, v93), (a104, v104), (a105, v105), (a112, v112)] (.node (.node (.node .nil 41 [(a62, v62), (a90, v90), (a102, v102)] .nil) 42 [(a96, v96), (a108, v108), (a123, v123)] .nil) 43 [(a95, v95), (a107, v107), (a122, v122)] (.node (.node .nil 45 [(a78, v78), (a116, v116), (a124, v124)] .nil) 48 [(a129, v129)] .nil))) 49 [(a128, v128)] (.node (.node (.node (.node .nil 54 [(a30, v30), (a35, v35), (a81, v81), (a119, v119), (a127, v127)] .nil) 57 [(a12, v12)] .nil) 58 [(a7, v7), (a11, v11), (a14, v14), (a15, v15), (a18, v18), (a27, v27), (a32, v32), (a65, v65), (a68, v68), (a72, v72), (a74, v74), (a113, v113), (a114, v114)] (.node (.node .nil 59 [(a4, v4), (a6, v6), (a8, v8), (a9, v9), (a10, v10), (a17, v17), (a21, v21), (a24, v24), (a26, v26), (a66, v66), (a67, v67), (a71, v71), (a77, v77)] .nil) 60 [(a5, v5), (a13, v13), (a64, v64)] .nil)) 61 [(a19, v19), (a31, v31), (a75, v75), (a115, v115)] (.node (.node (.node .nil 63 [(a22, v22), (a73, v73)] .nil) 67 [(a109, v109)] .nil) 73 [(a36, v36), (a37, v37), (a58, v58)] (.node (.node .nil 78 [(a84, v84)] .nil) 79 [(a54, v54), (a83, v83), (a86, v86)] .nil)))) 80 [(a38, v38), (a87, v87)] (.node (.node (.node (.node (.node .nil 83 [(a59, v59), (a99, v99)] .nil) 84 [(a57, v57)] (.node .nil 92 [(a60, v60), (a100, v100)] .nil)) 94 [(a61, v61), (a89, v89), (a92, v92), (a101, v101), (a103, v103)] (.node (.node .nil 95 [(a94, v94), (a106, v106)] .nil) 107 [(a29, v29), (a34, v34), (a80, v80), (a118, v118), (a126, v126)] .nil)) 114 [(a16, v16), (a20, v20), (a23, v23), (a25, v25), (a70, v70), (a76, v76)] (.node (.node (.node .nil 115 [(a3, v3), (a63, v63)] .nil) 116 [(a69, v69)] .nil) 118 [(a41, v41)] (.node (.node .nil 120 [(a47, v47)] .nil) 121 [(a46, v46)] .nil))) 122 [(a43, v43)] (.node (.node (.node (.node .nil 132 [(a53, v53)] .nil) 135 [(a2, v2)] .nil) 137 [(a56, v56)] (.node (.node .nil 143 [(a28, v28), (a33, v33), (a79, v79), (a117, v117), (a125, v125)] .nil) 147 [(a40, v40)] .nil)) 149 [(a48, v48)] (.node (.node (.node .nil 150 [(a45, v45)] .nil) 151 [(a42, v42)] .nil) 154 [(a52, v52)] (.node (.node .nil 159 [(a1, v1)] .nil) 168 [(a44, v44)] .nil))))),
  .nil⟩
theorem T5ok : T5.Ok env := ⟨⟨⟨⟨⟨⟨⟨trivial, ⟨p98, p121, trivial⟩, trivial⟩, ⟨p130, trivial⟩, ⟨trivial, ⟨p0, trivial⟩, trivial⟩⟩, ⟨p39, p55, p85, p88, p91, trivial⟩, ⟨⟨trivial, ⟨p97, p110, p120, trivial⟩, trivial⟩, ⟨p82, trivial⟩, trivial⟩⟩, ⟨p93, p104, p105, p112, trivial⟩, ⟨⟨⟨trivial, ⟨p62, p90, p102, trivial⟩, trivial⟩, ⟨p96, p108, p123, trivial⟩, trivial⟩, ⟨p95, p107, p122, trivial⟩, ⟨⟨trivial, ⟨p78, p116, p124, trivial⟩, trivial⟩, ⟨p129, trivial⟩, trivial⟩⟩⟩, ⟨p128, trivial⟩, ⟨⟨⟨⟨trivial, ⟨p30, p35, p81, p119, p127, trivial⟩, trivial⟩, ⟨p12, trivial⟩, trivial⟩, ⟨p7, p11, p14, p15, p18, p27, p32, p65, p68, p72, p74, p113, p114, trivial⟩, ⟨⟨trivial, ⟨p4, p6, p8, p9, p10, p17, p21, p24, p26, p66, p67, p71, p77, trivial⟩, trivial⟩, ⟨p5, p13, p64, trivial⟩, trivial⟩⟩, ⟨p19, p31, p75, p115, trivial⟩, ⟨⟨⟨trivial, ⟨p22, p73, trivial⟩, trivial⟩, ⟨p109, trivial⟩, trivial⟩, ⟨p36, p37, p58, trivial⟩, ⟨⟨trivial, ⟨p84, trivial⟩, trivial⟩, ⟨p54, p83, p86, trivial⟩, trivial⟩⟩⟩⟩, ⟨p38, p87, trivial⟩, ⟨⟨⟨⟨⟨trivial, ⟨p59, p99, trivial⟩, trivial⟩, ⟨p57, trivial⟩, ⟨trivial, ⟨p60, p100, trivial⟩, trivial⟩⟩, ⟨p61, p89, p92, p101, p103, trivial⟩, ⟨⟨trivial, ⟨p94, p106, trivial⟩, trivial⟩, ⟨p29, p34, p80, p118, p126, trivial⟩, trivial⟩⟩, ⟨p16, p20, p23, p25, p70, p76, trivial⟩, ⟨⟨⟨trivial, ⟨p3, p63, trivial⟩, trivial⟩, ⟨p69, trivial⟩, trivial⟩, ⟨p41, trivial⟩, ⟨⟨trivial, ⟨p47, trivial⟩, trivial⟩, ⟨p46, trivial⟩, trivial⟩⟩⟩, ⟨p43, trivial⟩, ⟨⟨⟨⟨trivial, ⟨p53, trivial⟩, trivial⟩, ⟨p2, trivial⟩, trivial⟩, ⟨p56, trivial⟩, ⟨⟨trivial, ⟨p28, p33, p79, p117, p125, trivial⟩, trivial⟩, ⟨p40, trivial⟩, trivial⟩⟩, ⟨p48, trivial⟩, ⟨⟨⟨trivial, ⟨p45, trivial⟩, trivial⟩, ⟨p42, trivial⟩, trivial⟩, ⟨p52, trivial⟩, ⟨⟨trivial, ⟨p1, trivial⟩, trivial⟩, ⟨p44, trivial⟩, trivial⟩⟩⟩⟩⟩,
  trivial⟩
def a49 : List PV := [(.lst [(.agg [(.str [99, 110]), (.str [120])])] .none), (.fn (.func 120) [] [])]
def v49 : PV := (.bool false)
theorem p49 : ∀ S, evw env 119 a49 S = some (v49, S, false) := pureOf T5ok.sub (k := 1000) (by kernel_rfl)
def T6 : Tab := ⟨(.node (.node (.node (.node (.node (.node .nil 10 [(a98, v98), (a121, v121)] .nil) 16 [(a130, v130)] (.node .nil 19 [(a0, v0)] .nil)) 31 [(a39, v39), (a55, v55), (a85, v85), (a88, v88), (a91, v91)] (.node (.node .nil 32 [(a97, v97), (a110, v110), (a120, v120)] .nil) 33 [(a82, v82)] .nil)) 40 [(a93, v93), (a104, v104), (a105, v105), (a112, v112)] (.node (.node (.node .nil 41 [(a62, v62), (a90, v90), (a102, v102)] .nil) 42 [(a96, v96), (a108, v108), (a123, v123)] .nil) 43 [(a95, v95), (a107, v107), (a122, v122)] (.node (.node .nil 45 [(a78, v78), (a116, v116), (a124, v124)] .nil) 48 [(a129, v129)] .nil))) 49 [(a128, v128)] (.node (.node (.node (.node .nil 54 [(a30, v30), (a35, v35), (a81, v81), (a119, v119), (a127, v127)] .nil) 57 [(a12, v12)] (.node .nil 58 [(a7, v7), (a11, v11), (a14, v14), (a15, v15), (a18, v18), (a27, v27), (a32, v32), (a65, v65), (a68, v68), (a72, v72), (a74, v74), (a113, v113), (a114, v114)] .nil)) 59 [(a4, v4), (a6, v6), (a8, v8), (a9, v9), (a10, v10), (a17, v17), (a21, v21), (a24, v24), (a26, v26), (a66, v66), (a67, v67), (a71, v71), (a77, v77)] (.node (.node .nil 60 [(a5, v5), (a13, v13), (a64, v64)] .nil) 61 [(a19, v19), (a31, v31), (a75, v75), (a115, v115)] .nil)) 63 [(a22, v22), (a73, v73)] (.node (.node (.node .nil 67 [(a109, v109)] .nil) 73 [(a36, v36), (a37, v37), (a58, v58)] .nil) 78 [(a84, v84)] (.node (.node .nil 79 [(a54, v54), (a83, v83), (a86, v86)] .nil) 80 [(a38, v38), (a87, v87)] .nil)))) 83 [(a59, v59), (a99, v99)] (.node (.node (.node (.node (.node .nil 84 [(a57, v57)] .nil) 92 [(a60, v60), (a100, v100)] (.node .nil 94 [(a61, v61), (a89, v89), (a92, v92), (a101, v101), (a103, v103)] .nil)) 95 [(a94, v94), (a106, v106)] (.node (.node .nil 107 [(a29, v29), (a34, v34), (a80, v80), (a118, v118), (a126, v126)] .nil) 114 [(a16, v16), (a20, v20), (a23, v23), (a25, v25), (a70, v70), (a76, v76)] .nil)) 115 [(a3, v3), (a63, v63)] (.node (.node (.node .nil 116 [(a69, v69)] .nil) 118 [(a41, v41)] .nil) 119 [(a49, v49)] (.node (.node .nil 120 [(a47, v47)] .nil) 121 [(a46, v46)] .nil))) 122 [(a43, v43)] (.node (.node (.node (.node .nil 132 [(a53, v53)] .nil) 135 [(a2, v2)] .nil) 137 [(a56, v56)] (.node (.node .nil 143 [(a28, v28), (a33, v33), (a79, v79), (a117, v117), (a125, v125)] .nil) 147 [(a40, v40)] .nil)) 149 [(a48, v48)] (.node (.node (.node .nil 150 [(a45, v45)] .nil) 151 [(a42, v42)] .nil) 154 [(a52, v52)] (.node (.node .nil 159 [(a1, v1)] .nil) 168 [(a44, v44)] .nil))))),
  .nil⟩
theorem T6ok : T6.Ok env := ⟨⟨⟨⟨⟨⟨⟨trivial, ⟨p98, p121, trivial⟩, trivial⟩, ⟨p130, trivial⟩, ⟨trivial, ⟨p0, trivial⟩, trivial⟩⟩, ⟨p39, p55, p85, p88, p91, trivial⟩, ⟨⟨trivial, ⟨p97, p110, p120, trivial⟩, trivial⟩, ⟨p82, trivial⟩, trivial⟩⟩, ⟨p93, p104, p105, p112, trivial⟩, ⟨⟨⟨trivial, ⟨p62, p90, p102, trivial⟩, trivial⟩, ⟨p96, p108, p123, trivial⟩, trivial⟩, ⟨p95, p107, p122, trivial⟩, ⟨⟨trivial, ⟨p78, p116, p124, trivial⟩, trivial⟩, ⟨p129, trivial⟩, trivial⟩⟩⟩, ⟨p128, trivial⟩, ⟨⟨⟨⟨trivial, ⟨p30, p35, p81, p119, p127, trivial⟩, trivial⟩, ⟨p12, trivial⟩, ⟨trivial, ⟨p7, p11, p14, p15, p18, p27, p32, p65, p68, p72, p74, p113, p114, trivial⟩, trivial⟩⟩, ⟨p4, p6, p8, p9, p10, p17, p21, p24, p26, p66, p67, p71, p77, trivial⟩, ⟨⟨trivial, ⟨p5, p13, p64, trivial⟩, trivial⟩, ⟨p19, p31, p75, p115, trivial⟩, trivial⟩⟩, ⟨p22, p73, trivial⟩, ⟨⟨⟨trivial, ⟨p109, trivial⟩, trivial⟩, ⟨p36, p37, p58, trivial⟩, trivial⟩, ⟨p84, trivial⟩, ⟨⟨trivial, ⟨p54, p83, p86, trivial⟩, trivial⟩, ⟨p38, p87, trivial⟩, trivial⟩⟩⟩⟩, ⟨p59, p99, trivial⟩, ⟨⟨⟨⟨⟨trivial, ⟨p57, trivial⟩, trivial⟩, ⟨p60, p100, trivial⟩, ⟨trivial, ⟨p61, p89, p92, p101, p103, trivial⟩, trivial⟩⟩, ⟨p94, p106, trivial⟩, ⟨⟨trivial, ⟨p29, p34, p80, p118, p126, trivial⟩, trivial⟩, ⟨p16, p20, p23, p25, p70, p76, trivial⟩, trivial⟩⟩, ⟨p3, p63, trivial⟩, ⟨⟨⟨trivial, ⟨p69, trivial⟩, trivial⟩, ⟨p41, trivial⟩, trivial⟩, ⟨p49, trivial⟩, ⟨⟨trivial, ⟨p47, trivial⟩, trivial⟩, ⟨p46, trivial⟩, trivial⟩⟩⟩, ⟨p43, trivial⟩, ⟨⟨⟨⟨trivial, ⟨p53, trivial⟩, trivial⟩, ⟨p2, trivial⟩, trivial⟩, ⟨p56, trivial⟩, ⟨⟨trivial, ⟨p28, p33, p79, p117, p125, trivial⟩, trivial⟩, ⟨p40, trivial⟩, trivial⟩⟩, ⟨p48, trivial⟩, ⟨⟨⟨trivial, ⟨p45, trivial⟩, trivial⟩, ⟨p42, trivial⟩, trivial⟩, ⟨p52, trivial⟩, ⟨⟨trivial, ⟨p1, trivial⟩, trivial⟩, ⟨p44, trivial⟩, trivial⟩⟩⟩⟩⟩,
  trivial⟩
def a50 : List PV := [(.lst [(.agg [(.str [99, 110]), (.str [120])])] .none)]
def v50 : PV := (.bool true)
theorem p50 : ∀ S, evw env 76 a50 S = some (v50, S, false) := pureOf T6ok.sub (k := 1000) (by kernel_rfl)
def T7 : Tab := ⟨(.node (.node (.node (.node (.node (.node .nil 10 [(a98, v98), (a121, v121)] .nil) 16 [(a130, v130)] (.node .nil 19 [(a0, v0)] .nil)) 31 [(a39, v39), (a55, v55), (a85, v85), (a88, v88), (a91, v91)] (.node (.node .nil 32 [(a97, v97), (a110, v110), (a120, v120)] .nil) 33 [(a82, v82)] .nil)) 40 [(a93, v93), (a104, v104), (a105, v105), (a112, v112)] (.node (.node (.node .nil 41 [(a62, v62), (a90, v90), (a102, v102)] .nil) 42 [(a96, v96), (a108, v108), (a123, v123)] .nil) 43 [(a95, v95), (a107, v107), (a122, v122)] (.node (.node .nil 45 [(a78, v78), (a116, v116), (a124, v124)] .nil) 48 [(a129, v129)] .nil))) 49 [(a128, v128)] (.node (.node (.node (.node .nil 54 [(a30, v30), (a35, v35), (a81, v81), (a119, v119), (a127, v127)] .nil) 57 [(a12, v12)] (.node .nil 58 [(a7, v7), (a11, v11), (a14, v14), (a15, v15), (a18, v18), (a27, v27), (a32, v32), (a65, v65), (a68, v68), (a72, v72), (a74, v74), (a113, v113), (a114, v114)] .nil)) 59 [(a4, v4), (a6, v6), (a8, v8), (a9, v9), (a10, v10), (a17, v17), (a21, v21), (a24, v24), (a26, v26), (a66, v66), (a67, v67), (a71, v71), (a77, v77)] (.node (.node .nil 60 [(a5, v5), (a13, v13), (a64, v64)] .nil) 61 [(a19, v19), (a31, v31), (a75, v75), (a115, v115)] .nil)) 63 [(a22, v22), (a73, v73)] (.node (.node (.node .nil 67 [(a109, v109)] .nil) 73 [(a36, v36), (a37, v37), (a58, v58)] .nil) 76 [(a50, v50)] (.node (.node .nil 78 [(a84, v84)] .nil) 79 [(a54, v54), (a83, v83), (a86, v86)] .nil)))) 80 [(a38, v38), (a87, v87)] (.node (.node (.node (.node (.node .nil 83 [(a59, v59), (a99, v99)] .nil) 84 [(a57, v57)] (.node .nil 92 [(a60, v60), (a100, v100)] .nil)) 94 [(a61, v61), (a89, v89), (a92, v92), (a101, v101), (a103, v103)] (.node (.node .nil 95 [(a94, v94), (a106, v106)] .nil) 107 [(a29, v29), (a34, v34), (a80, v80), (a118, v118), (a126, v126)] .nil)) 114 [(a16, v16), (a20, v20), (a23, v23), (a25, v25), (a70, v70), (a76, v76)] (.node (.node (.node .nil 115 [(a3, v3), (a63, v63)] .nil) 116 [(a69, v69)] .nil) 118 [(a41, v41)] (.node (.node .nil 119 [(a49, v49)] .nil) 120 [(a47, v47)] .nil))) 121 [(a46, v46)] (.node (.node (.node (.node .nil 122 [(a43, v43)] .nil) 132 [(a53, v53)] (.node .nil 135 [(a2, v2)] .nil)) 137 [(a56, v56)] (.node (.node .nil 143 [(a28, v28), (a33, v33), (a79, v79), (a117, v117), (a125, v125)] .nil) 147 [(a40, v40)] .nil)) 149 [(a48, v48)] (.node (.node (.node .nil 150 [(a45, v45)] .nil) 151 [(a42, v42)] .nil) 154 [(a52, v52)] (.node (.node .nil 159 [(a1, v1)] .nil) 168 [(a44, v44)] .nil))))),
  .nil⟩
theorem T7ok : T7.Ok env := ⟨⟨⟨⟨⟨⟨⟨trivial, ⟨p98, p121, trivial⟩, trivial⟩, ⟨p130, trivial⟩, ⟨trivial, ⟨p0, trivial⟩, trivial⟩⟩, ⟨p39, p55, p85, p88, p91, trivial⟩, ⟨⟨trivial, ⟨p97, p110, p120, trivial⟩, trivial⟩, ⟨p82, trivial⟩, trivial⟩⟩, ⟨p93, p104, p105, p112, trivial⟩, ⟨⟨⟨trivial, ⟨p62, p90, p102, trivial⟩, trivial⟩, ⟨p96, p108, p123, trivial⟩, trivial⟩, ⟨p95, p107, p122, trivial⟩, ⟨⟨trivial, ⟨p78, p116, p124, trivial⟩, trivial⟩, ⟨p129, trivial⟩, trivial⟩⟩⟩, ⟨p128, trivial⟩, ⟨⟨⟨⟨trivial, ⟨p30, p35, p81, p119, p127, trivial⟩, trivial⟩, ⟨p12, trivial⟩, ⟨trivial, ⟨p7, p11, p14, p15, p18, p27, p32, p65, p68, p72, p74, p113, p114, trivial⟩, trivial⟩⟩, ⟨p4, p6, p8, p9, p10, p17, p21, p24, p26, p66, p67, p71, p77, trivial⟩, ⟨⟨trivial, ⟨p5, p13, p64, trivial⟩, trivial⟩, ⟨p19, p31, p75, p115, trivial⟩, trivial⟩⟩, ⟨p22, p73, trivial⟩, ⟨⟨⟨trivial, ⟨p109, trivial⟩, trivial⟩, ⟨p36, p37, p58, trivial⟩, trivial⟩, ⟨p50, trivial⟩, ⟨⟨trivial, ⟨p84, trivial⟩, trivial⟩, ⟨p54, p83, p86, trivial⟩, trivial⟩⟩⟩⟩, ⟨p38, p87, trivial⟩, ⟨⟨⟨⟨⟨trivial, ⟨p59, p99, trivial⟩, trivial⟩, ⟨p57, trivial⟩, ⟨trivial, ⟨p60, p100, trivial⟩, trivial⟩⟩, ⟨p61, p89, p92, p101, p103, trivial⟩, ⟨⟨trivial, ⟨p94, p106, trivial⟩, trivial⟩, ⟨p29, p34, p80, p118, p126, trivial⟩, trivial⟩⟩, ⟨p16, p20, p23, p25, p70, p76, trivial⟩, ⟨⟨⟨trivial, ⟨p3, p63, trivial⟩, trivial⟩, ⟨p69, trivial⟩, trivial⟩, ⟨p41, trivial⟩, ⟨⟨trivial, ⟨p49, trivial⟩, trivial⟩, ⟨p47, trivial⟩, trivial⟩⟩⟩, ⟨p46, trivial⟩, ⟨⟨⟨⟨trivial, ⟨p43, trivial⟩, trivial⟩, ⟨p53, trivial⟩, ⟨trivial, ⟨p2, trivial⟩, trivial⟩⟩, ⟨p56, trivial⟩, ⟨⟨trivial, ⟨p28, p33, p79, p117, p125, trivial⟩, trivial⟩, ⟨p40, trivial⟩, trivial⟩⟩, ⟨p48, trivial⟩, ⟨⟨⟨trivial, ⟨p45, trivial⟩, trivial⟩, ⟨p42, trivial⟩, trivial⟩, ⟨p52, trivial⟩, ⟨⟨trivial, ⟨p1, trivial⟩, trivial⟩, ⟨p44, trivial⟩, trivial⟩⟩⟩⟩⟩,
  trivial⟩
def a51 : List PV := [(.agg [(.int .i64 5), (.int .i64 0), (.int .i64 0), (.int .i64 1), (.int .i64 5), (.int .i64 0), (.int .i64 0), (.int .i64 0), (.int .i64 0), (.int .i64 0), (.lst [(.agg [(.str [99, 110]), (.str [120])])] .none), (.bool false), .nils])]
def v51 : PV := (.bool true)
theorem p51 : ∀ S, evw env 30 a51 S = some (v51, S, false) := pureOf T7ok.sub (k := 1000) (by kernel_rfl)
def T8 : Tab := ⟨(.node (.node (.node (.node (.node (.node .nil 10 [(a98, v98), (a121, v121)] .nil) 16 [(a130, v130)] (.node .nil 19 [(a0, v0)] .nil)) 30 [(a51, v51)] (.node (.node .nil 31 [(a39, v39), (a55, v55), (a85, v85), (a88, v88), (a91, v91)] .nil) 32 [(a97, v97), (a110, v110), (a120, v120)] .nil)) 33 [(a82, v82)] (.node (.node (.node .nil 40 [(a93, v93), (a104, v104), (a105, v105), (a112, v112)] .nil) 41 [(a62, v62), (a90, v90), (a102, v102)] (.node .nil 42 [(a96, v96), (a108, v108), (a123, v123)] .nil)) 43 [(a95, v95), (a107, v107), (a122, v122)] (.node (.node .nil 45 [(a78, v78), (a116, v116), (a124, v124)] .nil) 48 [(a129, v129)] .nil))) 49 [(a128, v128)] (.node (.node (.node (.node .nil 54 [(a30, v30), (a35, v35), (a81, v81), (a119, v119), (a127, v127)] .nil) 57 [(a12, v12)] (.node .nil 58 [(a7, v7), (a11, v11), (a14, v14), (a15, v15), (a18, v18), (a27, v27), (a32, v32), (a65, v65), (a68, v68), (a72, v72), (a74, v74), (a113, v113), (a114, v114)] .nil)) 59 [(a4, v4), (a6, v6), (a8, v8), (a9, v9), (a10, v10), (a17, v17), (a21, v21), (a24, v24), (a26, v26), (a66, v66), (a67, v67), (a71, v71), (a77, v77)] (.node (.node .nil 60 [(a5, v5), (a13, v13), (a64, v64)] .nil) 61 [(a19, v19), (a31, v31), (a75, v75), (a115, v115)] .nil)) 63 [(a22, v22), (a73, v73)] (.node (.node (.node .nil 67 [(a109, v109)] .nil) 73 [(a36, v36), (a37, v37), (a58, v58)] .nil) 76 [(a50, v50)] (.node (.node .nil 78 [(a84, v84)] .nil) 79 [(a54, v54), (a83, v83), (a86, v86)] .nil)))) 80 [(a38, v38), (a87, v87)] (.node (.node (.node (.node (.node .nil 83 [(a59, v59), (a99, v99)] .nil) 84 [(a57, v57)] (.node .nil 92 [(a60, v60), (a100, v100)] .nil)) 94 [(a61, v61), (a89, v89), (a92, v92), (a101, v101), (a103, v103)] (.node (.node .nil 95 [(a94, v94), (a106, v106)] .nil) 107 [(a29, v29), (a34, v34), (a80, v80), (a118, v118), (a126, v126)] .nil)) 114 [(a16, v16), (a20, v20), (a23, v23), (a25, v25), (a70, v70), (a76, v76)] (.node (.node (.node .nil 115 [(a3, v3), (a63, v63)] .nil) 116 [(a69, v69)] .nil) 118 [(a41, v41)] (.node (.node .nil 119 [(a49, v49)] .nil) 120 [(a47, v47)] .nil))) 121 [(a46, v46)] (.node (.node (.node (.node .nil 122 [(a43, v43)] .nil) 132 [(a53, v53)] (.node .nil 135 [(a2, v2)] .nil)) 137 [(a56, v56)] (.node (.node .nil 143 [(a28, v28), (a33, v33), (a79, v79), (a117, v117), (a125, v125)] .nil) 147 [(a40, v40)] .nil)) 149 [(a48, v48)] (.node (.node (.node .nil 150 [(a45, v45)] .nil) 151 [(a42, v42)] .nil) 154 [(a52, v52)] (.node (.node .nil 159 [(a1, v1)] .nil) 168 [(a44, v44)] .nil))))),
  .nil⟩
theorem T8ok : T8.Ok env := ⟨⟨⟨⟨⟨⟨⟨trivial, ⟨p98, p121, trivial⟩, trivial⟩, ⟨p130, trivial⟩, ⟨trivial, ⟨p0, trivial⟩, trivial⟩⟩, ⟨p51, trivial⟩, ⟨⟨trivial, ⟨p39, p55, p85, p88, p91, trivial⟩, trivial⟩, ⟨p97, p110, p120, trivial⟩, trivial⟩⟩, ⟨p82, trivial⟩, ⟨⟨⟨trivial, ⟨p93, p104, p105, p112, trivial⟩, trivial⟩, ⟨p62, p90, p102, trivial⟩, ⟨trivial, ⟨p96, p108, p123, trivial⟩, trivial⟩⟩, ⟨p95, p107, p122, trivial⟩, ⟨⟨trivial, ⟨p78, p116, p124, trivial⟩, trivial⟩, ⟨p129, trivial⟩, trivial⟩⟩⟩, ⟨p128, trivial⟩, ⟨⟨⟨⟨trivial, ⟨p30, p35, p81, p119, p127, trivial⟩, trivial⟩, ⟨p12, trivial⟩, ⟨trivial, ⟨p7, p11, p14, p15, p18, p27, p32, p65, p68, p72, p74, p113, p114, trivial⟩, trivial⟩⟩, ⟨p4, p6, p8, p9, p10, p17, p21, p24, p26, p66, p67, p71, p77, trivial⟩, ⟨⟨trivial, ⟨p5, p13, p64, trivial⟩, trivial⟩, ⟨p19, p31, p75, p115, trivial⟩, trivial⟩⟩, ⟨p22, p73, trivial⟩, ⟨⟨⟨trivial, ⟨p109, trivial⟩, trivial⟩, ⟨p36, p37, p58, trivial⟩, trivial⟩, ⟨p50, trivial⟩, ⟨⟨trivial, ⟨p84, trivial⟩, trivial⟩, ⟨p54, p83, p86, trivial⟩, trivial⟩⟩⟩⟩, ⟨p38, p87, trivial⟩, ⟨⟨⟨⟨⟨trivial, ⟨p59, p99, trivial⟩, trivial⟩, ⟨p57, trivial⟩, ⟨trivial, ⟨p60, p100, trivial⟩, trivial⟩⟩, ⟨p61, p89, p92, p101, p103, trivial⟩, ⟨⟨trivial, ⟨p94, p106, trivial⟩, trivial⟩, ⟨p29, p34, p80, p118, p126, trivial⟩, trivial⟩⟩, ⟨p16, p20, p23, p25, p70, p76, trivial⟩, ⟨⟨⟨trivial, ⟨p3, p63, trivial⟩, trivial⟩, ⟨p69, trivial⟩, trivial⟩, ⟨p41, trivial⟩, ⟨⟨trivial, ⟨p49, trivial⟩, trivial⟩, ⟨p47, trivial⟩, trivial⟩⟩⟩, ⟨p46, trivial⟩, ⟨⟨⟨⟨trivial, ⟨p43, trivial⟩, trivial⟩, ⟨p53, trivial⟩, ⟨trivial, ⟨p2, trivial⟩, trivial⟩⟩, ⟨p56, trivial⟩, ⟨⟨trivial, ⟨p28, p33, p79, p117, p125, trivial⟩, trivial⟩, ⟨p40, trivial⟩, trivial⟩⟩, ⟨p48, trivial⟩, ⟨⟨⟨trivial, ⟨p45, trivial⟩, trivial⟩, ⟨p42, trivial⟩, trivial⟩, ⟨p52, trivial⟩, ⟨⟨trivial, ⟨p1, trivial⟩, trivial⟩, ⟨p44, trivial⟩, trivial⟩⟩⟩⟩⟩,
  trivial⟩
def a111 : List PV := [(.agg [(.int .i64 0), (.int .i64 1), (.int .i64 2), (.int .i64 1), (.lst [(.lst [(.agg [(.int .i64 5), (.int .i64 0), (.int .i64 0)]), (.agg [(.int .i64 0), (.int .i64 0), (.int .i64 1)])] .none), (.lst [(.agg [(.int .i64 0), (.int .i64 0), (.int .i64 0)]), (.agg [(.int .i64 0), (.int .i64 0), (.int .i64 1)])] .none)] .none), (.lst [(.agg [(.int .i64 5), (.int .i64 0), (.int .i64 0), (.int .i64 1), (.int .i64 5), (.int .i64 0), (.int .i64 0), (.int .i64 0), (.int .i64 0), (.int .i64 0), (.lst [(.agg [(.str [99, 110]), (.str [120])])] .none), (.bool false), .nils])] .none)]), (.int .i64 2)]
def v111 : PV := (.bool true)
theorem p111 : ∀ S, evw env 10 a111 S = some (v111, S, false) := pureOf T8ok.sub (k := 1000) (by kernel_rfl)
def T9 : Tab := ⟨(.node (.node (.node (.node (.node (.node .nil 10 [(a98, v98), (a111, v111), (a121, v121)] .nil) 16 [(a130, v130)] (.node .nil 19 [(a0, v0)] .nil)) 30 [(a51, v51)] (.node (.node .nil 31 [(a39, v39), (a55, v55), (a85, v85), (a88, v88), (a91, v91)] .nil) 32 [(a97, v97), (a110, v110), (a120, v120)] .nil)) 33 [(a82, v82)] (.node (.node (.node .nil 40 [(a93, v93), (a104, v104), (a105, v105), (a112, v112)] .nil) 41 [(a62, v62), (a90, v90), (a102, v102)] (.node .nil 42 [(a96, v96), (a108, v108), (a123, v123)] .nil)) 43 [(a95, v95), (a107, v107), (a122, v122)] (.node (.node .nil 45 [(a78, v78), (a116, v116), (a124, v124)] .nil) 48 [(a129, v129)] .nil))) 49 [(a128, v128)] (.node (.node (.node (.node .nil 54 [(a30, v30), (a35, v35), (a81, v81), (a119, v119), (a127, v127)] .nil) 57 [(a12, v12)] (.node .nil 58 [(a7, v7), (a11, v11), (a14, v14), (a15, v15), (a18, v18), (a27, v27), (a32, v32), (a65, v65), (a68, v68), (a72, v72), (a74, v74), (a113, v113), (a114, v114)] .nil)) 59 [(a4, v4), (a6, v6), (a8, v8), (a9, v9), (a10, v10), (a17, v17), (a21, v21), (a24, v24), (a26, v26), (a66, v66), (a67, v67), (a71, v71), (a77, v77)] (.node (.node .nil 60 [(a5, v5), (a13, v13), (a64, v64)] .nil) 61 [(a19, v19), (a31, v31), (a75, v75), (a115, v115)] .nil)) 63 [(a22, v22), (a73, v73)] (.node (.node (.node .nil 67 [(a109, v109)] .nil) 73 [(a36, v36), (a37, v37), (a58, v58)] .nil) 76 [(a50, v50)] (.node (.node .nil 78 [(a84, v84)] .nil) 79 [(a54, v54), (a83, v83), (a86, v86)] .nil)))) 80 [(a38, v38), (a87, v87)] (.node (.node (.node (.node (.node .nil 83 [(a59, v59), (a99, v99)] .nil) 84 [(a57, v57)] (.node .nil 92 [(a60, v60), (a100, v100)] .nil)) 94 [(a61, v61), (a89, v89), (a92, v92), (a101, v101), (a103, v103)] (.node (.node .nil 95 [(a94, v94), (a106, v106)] .nil) 107 [(a29, v29), (a34, v34), (a80, v80), (a118, v118), (a126, v126)] .nil)) 114 [(a16, v16), (a20, v20), (a23, v23), (a25, v25), (a70, v70), (a76, v76)] (.node (.node (.node .nil 115 [(a3, v3), (a63, v63)] .nil) 116 [(a69, v69)] .nil) 118 [(a41, v41)] (.node (.node .nil 119 [(a49, v49)] .nil) 120 [(a47, v47)] .nil))) 121 [(a46, v46)] (.node (.node (.node (.node .nil 122 [(a43, v43)] .nil) 132 [(a53, v53)] (.node .nil 135 [(a2, v2)] .nil)) 137 [(a56, v56)] (.node (.node .nil 143 [(a28, v28), (a33, v33), (a79, v79), (a117, v117), (a125, v125)] .nil) 147 [(a40, v40)] .nil)) 149 [(a48, v48)] (.node (.node (.node .nil 150 [(a45, v45)] .nil) 151 [(a42, v42)] .nil) 154 [(a52, v52)] (.node (.node .nil 159 [(a1, v1)] .nil) 168 [(a44, v44)] .nil))))),
  .nil⟩
theorem T9ok : T9.Ok env := ⟨⟨⟨⟨⟨⟨⟨trivial, ⟨p98, p111, p121, trivial⟩, trivial⟩, ⟨p130, trivial⟩, ⟨trivial, ⟨p0, trivial⟩, trivial⟩⟩, ⟨p51, trivial⟩, ⟨⟨trivial, ⟨p39, p55, p85, p88, p91, trivial⟩, trivial⟩, ⟨p97, p110, p120, trivial⟩, trivial⟩⟩, ⟨p82, trivial⟩, ⟨⟨⟨trivial, ⟨p93, p104, p105, p112, trivial⟩, trivial⟩, ⟨p62, p90, p102, trivial⟩, ⟨trivial, ⟨p96, p108, p123, trivial⟩, trivial⟩⟩, ⟨p95, p107, p122, trivial⟩, ⟨⟨trivial, ⟨p78, p116, p124, trivial⟩, trivial⟩, ⟨p129, trivial⟩, trivial⟩⟩⟩, ⟨p128, trivial⟩, ⟨⟨⟨⟨trivial, ⟨p30, p35, p81, p119, p127, trivial⟩, trivial⟩, ⟨p12, trivial⟩, ⟨trivial, ⟨p7, p11, p14, p15, p18, p27, p32, p65, p68, p72, p74, p113, p114, trivial⟩, trivial⟩⟩, ⟨p4, p6, p8, p9, p10, p17, p21, p24, p26, p66, p67, p71, p77, trivial⟩, ⟨⟨trivial, ⟨p5, p13, p64, trivial⟩, trivial⟩, ⟨p19, p31, p75, p115, trivial⟩, trivial⟩⟩, ⟨p22, p73, trivial⟩, ⟨⟨⟨trivial, ⟨p109, trivial⟩, trivial⟩, ⟨p36, p37, p58, trivial⟩, trivial⟩, ⟨p50, trivial⟩, ⟨⟨trivial, ⟨p84, trivial⟩, trivial⟩, ⟨p54, p83, p86, trivial⟩, trivial⟩⟩⟩⟩, ⟨p38, p87, trivial⟩, ⟨⟨⟨⟨⟨trivial, ⟨p59, p99, trivial⟩, trivial⟩, ⟨p57, trivial⟩, ⟨trivial, ⟨p60, p100, trivial⟩, trivial⟩⟩, ⟨p61, p89, p92, p101, p103, trivial⟩, ⟨⟨trivial, ⟨p94, p106, trivial⟩, trivial⟩, ⟨p29, p34, p80, p118, p126, trivial⟩, trivial⟩⟩, ⟨p16, p20, p23, p25, p70, p76, trivial⟩, ⟨⟨⟨trivial, ⟨p3, p63, trivial⟩, trivial⟩, ⟨p69, trivial⟩, trivial⟩, ⟨p41, trivial⟩, ⟨⟨trivial, ⟨p49, trivial⟩, trivial⟩, ⟨p47, trivial⟩, trivial⟩⟩⟩, ⟨p46, trivial⟩, ⟨⟨⟨⟨trivial, ⟨p43, trivial⟩, trivial⟩, ⟨p53, trivial⟩, ⟨trivial, ⟨p2, trivial⟩, trivial⟩⟩, ⟨p56, trivial⟩, ⟨⟨trivial, ⟨p28, p33, p79, p117, p125, trivial⟩, trivial⟩, ⟨p40, trivial⟩, trivial⟩⟩, ⟨p48, trivial⟩, ⟨⟨⟨trivial, ⟨p45, trivial⟩, trivial⟩, ⟨p42, trivial⟩, trivial⟩, ⟨p52, trivial⟩, ⟨⟨trivial, ⟨p1, trivial⟩, trivial⟩, ⟨p44, trivial⟩, trivial⟩⟩⟩⟩⟩,
  trivial⟩
end Go.Proofs.YtbondebiijokaaaGreatDoor.M
