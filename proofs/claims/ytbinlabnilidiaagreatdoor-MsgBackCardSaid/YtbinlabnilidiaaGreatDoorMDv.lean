/- Part of the proof: the runs of functions on the abstract machine. -/
import Derived.Test.YtbinlabnilidiaaGreatDoorPamM4
import Derived.Test.YtbinlabnilidiaaGreatDoorFns
import Derived.Test.YtbinlabnilidiaaGreatDoorMDe
import Derived.Test.YtbinlabnilidiaaGreatDoorMDc
import Derived.Test.YtbinlabnilidiaaGreatDoorMDc1
import Derived.Test.YtbinlabnilidiaaGreatDoorMDr
import Derived.Test.YtbinlabnilidiaaGreatDoorMDr1
namespace Go.Proofs.YtbinlabnilidiaaGreatDoor.M
open Go Go.Pam Go.RowKit Go.WideShapes
set_option maxRecDepth 8000
set_option linter.unusedVariables false
set_option linter.unusedSimpArgs false

def F83_L0 (k : Nat) : Nat → (Sl Int) → Int → Option ((Sl Int) × Int)
 | 0, _, _ => none
 | n + 1, x105, x107 =>
  Option.bind (if x107 == 0 then
  Option.bind (Sl.at? x105 0) fun y113 =>
  some (decide (y113 < 128))
  else
  some false) fun y112 =>
  Option.bind (if y112 then
  some true
  else
  Option.bind (if x107 == (-1) then
  Option.bind (Sl.at? x105 0) fun y143 =>
  some (decide (y143 ≥ 128))
  else
  some false) fun y142 =>
  some y142) fun y137 =>
  if !y137 then
  Option.bind (Sl.app? 1 (some [cv .u8 x107]) (Sl.l x105)) fun z152 =>
  Option.bind (shr? .i64 x107 8) fun z154 =>
  F83_L0 k n z152 z154
  else
  some (x105, x107)
def F83 (k : Nat) (a0 : Int) : Option Str :=
 Option.bind (shr? .i64 a0 8) fun z2 =>
 Option.bind (F83_L0 k k (some [cv .u8 a0]) z2) fun y157 =>
 some (Str.of y157.1)
def F56 (k : Nat) (a0 : Int) (a1 : Int) : Option Api_Element :=
 Option.bind (F83 k a1) fun y2 =>
 some (Api_Element.mk a0 y2 none)
def F26 (k : Nat) (a0 : Int) (a1 : Int) : Option Api_Element :=
 Option.bind (F56 k a0 a1) fun y2 =>
 some y2
def F58 (k : Nat) (a0 : Int) (a1 : Str) : Option Api_Element :=
 some (Api_Element.mk a0 a1 none)
def F57 (k : Nat) (a0 : Str) : Option Api_Element :=
 Option.bind (F58 k 4 a0) fun y2 =>
 some y2
def F25 (k : Nat) (a0 : Int) (a1 : Sl Api_Element) : Option Api_Element :=
 some (Api_Element.mk a0 [] a1)
def F84 (k : Nat) (a0 : Bool) : Option Str :=
 if a0 then
 some [255]
 else
 some [0]
def F59 (k : Nat) (a0 : Bool) : Option Api_Element :=
 Option.bind (F84 k a0) fun y2 =>
 Option.bind (F58 k 1 y2) fun y3 =>
 some y3
def F61_L0 (k : Nat) (a45 : Int) (a46 : Sl Str) (a50 : Api_Element) : Nat → (Sl Api_Element) → Int → Option ((Sl Api_Element) × Int)
 | 0, _, _ => none
 | n + 1, x47, x49 =>
  if decide (x49 < (Sl.len a46)) then
  Option.bind (Sl.at? a46 x49) fun y57 =>
  Option.bind (F57 k y57) fun y58 =>
  Option.bind (Sl.app? 48 x47 (Sl.l (some [y58]))) fun z60 =>
  F61_L0 k a45 a46 a50 n z60 (ad .i64 x49 1)
  else
  some (x47, x49)
def F61 (k : Nat) (a0 : Int) (a1 : Sl Str) : Option Api_Element :=
 Option.bind (F61_L0 k a0 a1 (Api_Element.mk 0 [] none) k none 0) fun y64 =>
 Option.bind (F25 k a0 y64.1) fun y66 =>
 some y66
def F60_L0 (rc0 : Api_Filter → Option Api_Element) (k : Nat) (a107 : Api_Element) (a108 : Api_Filter) : Nat → (Sl Api_Element) → Int → Option ((Sl Api_Element) × Int)
 | 0, _, _ => none
 | n + 1, x104, x106 =>
  if decide (x106 < (Sl.len a108.Kids)) then
  Option.bind (Sl.at? a108.Kids x106) fun y115 =>
  Option.bind (rc0 y115) fun y116 =>
  Option.bind (Sl.app? 48 x104 (Sl.l (some [y116]))) fun z118 =>
  F60_L0 rc0 k a107 a108 n z118 (ad .i64 x106 1)
  else
  some (x104, x106)
def F60_L3 (rc0 : Api_Filter → Option Api_Element) (k : Nat) (a2357 : Api_Element) (a2358 : Api_Filter) : Nat → (Sl Api_Element) → Int → Option ((Sl Api_Element) × Int)
 | 0, _, _ => none
 | n + 1, x2354, x2356 =>
  if decide (x2356 < (Sl.len a2358.Subs)) then
  Option.bind (if x2356 == 0 then
  some 128
  else
  Option.bind (if x2356 == (sb .i64 (Sl.len a2358.Subs) 1) then
  some 130
  else
  some 129) fun y2410 =>
  some y2410) fun y2407 =>
  Option.bind (Sl.at? a2358.Subs x2356) fun y2413 =>
  Option.bind (if !(y2413 == []) then
  Option.bind (Sl.at? a2358.Subs x2356) fun y2428 =>
  Option.bind (F58 k y2407 y2428) fun y2429 =>
  Option.bind (Sl.app? 48 x2354 (Sl.l (some [y2429]))) fun z2431 =>
  some z2431
  else
  some x2354) fun y2426 =>
  F60_L3 rc0 k a2357 a2358 n y2426 (ad .i64 x2356 1)
  else
  some (x2354, x2356)
def F60 : Nat → Api_Filter → Option Api_Element
 | 0, _ => none
 | k + 1, a0 =>
  if decide (a0.Kind ≤ 3) then
  Option.bind (F60_L0 (F60 k) k (Api_Element.mk 0 [] none) a0 k none 0) fun y122 =>
  Option.bind (F25 k (cv .u8 (ad .i64 159 a0.Kind)) y122.1) fun y124 =>
  some y124
  else
  if a0.Kind == 7 then
  Option.bind (F58 k 135 a0.Attr) fun y1877 =>
  some y1877
  else
  if a0.Kind == 8 then
  Option.bind (F60_L3 (F60 k) k (Api_Element.mk 0 [] none) a0 k none 0) fun y2436 =>
  Option.bind (F57 k a0.Attr) fun y2438 =>
  Option.bind (F25 k 48 y2436.1) fun y2439 =>
  Option.bind (F25 k 164 (some [y2438, y2439])) fun y2441 =>
  some y2441
  else
  if a0.Kind == 4 then
  Option.bind (F61 k 163 (some [a0.Attr, a0.Value])) fun y2452 =>
  some y2452
  else
  if a0.Kind == 5 then
  Option.bind (F61 k 165 (some [a0.Attr, a0.Value])) fun y2457 =>
  some y2457
  else
  Option.bind (F61 k 166 (some [a0.Attr, a0.Value])) fun y2459 =>
  some y2459
def F62_L0 (k : Nat) (a92 : Sl Api_Mod) (a96 : Api_Element) : Nat → (Sl Api_Element) → Int → Option ((Sl Api_Element) × Int)
 | 0, _, _ => none
 | n + 1, x93, x95 =>
  if decide (x95 < (Sl.len a92)) then
  Option.bind (Sl.at? a92 x95) fun y113 =>
  Option.bind (F57 k y113.Attr) fun y114 =>
  Option.bind (Sl.at? a92 x95) fun y115 =>
  Option.bind (F61 k 49 y115.Values) fun y116 =>
  Option.bind (F25 k 48 (some [y114, y116])) fun y118 =>
  Option.bind (Sl.at? a92 x95) fun y121 =>
  Option.bind (F56 k 10 (sb .i64 y121.Kind 1)) fun y122 =>
  Option.bind (F25 k 48 (some [y122, y118])) fun y124 =>
  Option.bind (Sl.app? 48 x93 (Sl.l (some [y124]))) fun z126 =>
  F62_L0 k a92 a96 n z126 (ad .i64 x95 1)
  else
  some (x93, x95)
def F62 (k : Nat) (a0 : Sl Api_Mod) : Option Api_Element :=
 Option.bind (F62_L0 k a0 (Api_Element.mk 0 [] none) k none 0) fun y130 =>
 Option.bind (F25 k 48 y130.1) fun y132 =>
 some y132
def F63_L0 (k : Nat) (a62 : Sl Api_Mod) (a66 : Api_Element) : Nat → (Sl Api_Element) → Int → Option ((Sl Api_Element) × Int)
 | 0, _, _ => none
 | n + 1, x63, x65 =>
  if decide (x65 < (Sl.len a62)) then
  Option.bind (Sl.at? a62 x65) fun y77 =>
  Option.bind (F57 k y77.Attr) fun y78 =>
  Option.bind (Sl.at? a62 x65) fun y79 =>
  Option.bind (F61 k 49 y79.Values) fun y80 =>
  Option.bind (F25 k 48 (some [y78, y80])) fun y82 =>
  Option.bind (Sl.app? 48 x63 (Sl.l (some [y82]))) fun z84 =>
  F63_L0 k a62 a66 n z84 (ad .i64 x65 1)
  else
  some (x63, x65)
def F63 (k : Nat) (a0 : Sl Api_Mod) : Option Api_Element :=
 Option.bind (F63_L0 k a0 (Api_Element.mk 0 [] none) k none 0) fun y88 =>
 Option.bind (F25 k 48 y88.1) fun y90 =>
 some y90
def F27 (k : Nat) (a0 : Api_Msg) : Option Api_Element :=
 if a0.Op == 1 then
 Option.bind (F26 k 2 a0.Version) fun y11277 =>
 Option.bind (F57 k a0.DN) fun y11278 =>
 Option.bind (F58 k 128 a0.Pass) fun y11279 =>
 Option.bind (F25 k 96 (some [y11277, y11278, y11279])) fun y11281 =>
 some y11281
 else
 if a0.Op == 2 then
 Option.bind (F58 k 66 []) fun y13158 =>
 some y13158
 else
 if a0.Op == 3 then
 Option.bind (F57 k a0.DN) fun y14096 =>
 Option.bind (F26 k 10 a0.Scope) fun y14097 =>
 Option.bind (F26 k 10 0) fun y14098 =>
 Option.bind (F26 k 2 a0.Size) fun y14099 =>
 Option.bind (F26 k 2 0) fun y14100 =>
 Option.bind (F59 k false) fun y14101 =>
 Option.bind (F60 k a0.Filter) fun y14102 =>
 Option.bind (F61 k 48 a0.Wants) fun y14103 =>
 Option.bind (F25 k 99 (some [y14096, y14097, y14098, y14099, y14100, y14101, y14102, y14103])) fun y14105 =>
 some y14105
 else
 if a0.Op == 4 then
 Option.bind (F57 k a0.DN) fun y14569 =>
 Option.bind (F62 k a0.Mods) fun y14570 =>
 Option.bind (F25 k 102 (some [y14569, y14570])) fun y14572 =>
 some y14572
 else
 if a0.Op == 5 then
 Option.bind (F57 k a0.DN) fun y14802 =>
 Option.bind (F63 k a0.Mods) fun y14803 =>
 Option.bind (F25 k 104 (some [y14802, y14803])) fun y14805 =>
 some y14805
 else
 if a0.Op == 6 then
 Option.bind (F58 k 74 a0.DN) fun y14918 =>
 some y14918
 else
 if a0.Op == 7 then
 Option.bind (F57 k a0.DN) fun y14974 =>
 Option.bind (F57 k a0.RDN) fun y14975 =>
 Option.bind (F59 k a0.DelOld) fun y14976 =>
 Option.bind (if a0.HasSup then
 Option.bind (F58 k 128 a0.Sup) fun y14990 =>
 Option.bind (Sl.app? 48 (some [y14974, y14975, y14976]) (Sl.l (some [y14990]))) fun z14992 =>
 some z14992
 else
 some (some [y14974, y14975, y14976])) fun y14988 =>
 Option.bind (F25 k 108 y14988) fun y14995 =>
 some y14995
 else
 if a0.Op == 8 then
 Option.bind (F57 k a0.DN) fun y15012 =>
 Option.bind (F61 k 48 (some [a0.Attr, a0.Value])) fun y15014 =>
 Option.bind (F25 k 110 (some [y15012, y15014])) fun y15016 =>
 some y15016
 else
 if a0.Op == 10 then
 Option.bind (F57 k a0.DN) fun y15022 =>
 Option.bind (F63 k a0.Mods) fun y15023 =>
 Option.bind (F25 k 100 (some [y15022, y15023])) fun y15025 =>
 some y15025
 else
 Option.bind (Sl.at? (some [0, 97, 0, 101, 103, 105, 107, 109, 111]) a0.Of) fun y15027 =>
 Option.bind (F26 k 10 a0.Code) fun y15028 =>
 Option.bind (F57 k a0.Matched) fun y15029 =>
 Option.bind (F57 k []) fun y15030 =>
 Option.bind (F25 k y15027 (some [y15028, y15029, y15030])) fun y15032 =>
 some y15032
def F64_L0 (k : Nat) : Nat → Str → Int → Option (Str × Int)
 | 0, _, _ => none
 | n + 1, x21, x22 =>
  if decide (x22 > 0) then
  Option.bind (Str.app? (Str.of (some [cv .u8 x22])) x21) fun z27 =>
  Option.bind (quo? .i64 x22 256) fun z28 =>
  F64_L0 k n z27 z28
  else
  some (x21, x22)
def F64 (k : Nat) (a0 : Int) : Option Str :=
 if decide (a0 < 128) then
 some (Str.of (some [cv .u8 a0]))
 else
 Option.bind (F64_L0 k k [] a0) fun y30 =>
 Option.bind (Str.app? (Str.of (some [cv .u8 (ad .i64 128 (Str.len y30.1))])) y30.1) fun z32 =>
 some z32
def F28_L0 (rc0 : Api_Element → Option (Str × Bool)) (k : Nat) (a33 : Api_Element) : Nat → Str → Int → Option (Out (Str × Bool) (Str × Int))
 | 0, _, _ => none
 | n + 1, x31, x32 =>
  if decide (x32 < (Sl.len a33.Kids)) then
  Option.bind (Sl.at? a33.Kids x32) fun y40 =>
  Option.bind (rc0 y40) fun y41 =>
  if !y41.2 then
  some (Out.ret ([], false))
  else
  Option.bind (Str.app? x31 y41.1) fun z43 =>
  F28_L0 rc0 k a33 n z43 (ad .i64 x32 1)
  else
  some (Out.brk (x31, x32))
def F28 : Nat → Api_Element → Option (Str × Bool)
 | 0, _ => none
 | k + 1, a0 =>
  Option.bind (F28_L0 (F28 k) k a0 k a0.Body 0) fun y46 =>
  match y46 with
  | .ret y46r => some (y46r.1, y46r.2)
  | .brk y46b =>
  if decide ((Str.len y46b.1) > 4000) then
  some ([], false)
  else
  Option.bind (F64 k (Str.len y46b.1)) fun y49 =>
  Option.bind (Str.app? (Str.of (some [a0.Tag])) y49) fun z50 =>
  Option.bind (Str.app? z50 y46b.1) fun z51 =>
  some (z51, true)
def F29_L0 (rc0 : Api_Element → Option Int) (k : Nat) (a20 : Api_Element) : Nat → Int → Int → Option (Int × Int)
 | 0, _, _ => none
 | n + 1, x18, x19 =>
  if decide (x19 < (Sl.len a20.Kids)) then
  Option.bind (Sl.at? a20.Kids x19) fun y24 =>
  Option.bind (rc0 y24) fun y25 =>
  F29_L0 rc0 k a20 n (imax x18 y25) (ad .i64 x19 1)
  else
  some (x18, x19)
def F29 : Nat → Api_Element → Option Int
 | 0, _ => none
 | k + 1, a0 =>
  Option.bind (F29_L0 (F29 k) k a0 k 0 0) fun y27 =>
  some (ad .i64 y27.1 1)
def F10 (k : Nat) (a0 : Api_Msg) : Option (Str × Int) :=
 Option.bind (F12 k a0) fun y2 =>
 if !y2 then
 some ([], 14)
 else
 Option.bind (F26 k 2 a0.ID) fun y4 =>
 Option.bind (F27 k a0) fun y5 =>
 Option.bind (F25 k 48 (some [y4, y5])) fun y7 =>
 Option.bind (F28 k y7) fun y10 =>
 if (!y10.2) || (decide ((Str.len y10.1) > 4000)) then
 some ([], 13)
 else
 Option.bind (F29 k y7) fun y25 =>
 if decide (y25 > 20) then
 some ([], 12)
 else
 some (y10.1, 0)
end Go.Proofs.YtbinlabnilidiaaGreatDoor.M
