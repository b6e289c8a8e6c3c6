/- Plain functions of the document, for comparison only. -/
import Derived.Test.YtbinlabnilidiaaDoorMDz
namespace Go.Proofs.YtbinlabnilidiaaDoor.M
open Go Go.Pam Go.RowKit Go.WideShapes
set_option maxRecDepth 20000
set_option linter.unusedVariables false
set_option linter.unusedSimpArgs false

def R8_L0 (k : Nat) (a30 : Api_Msg) : Nat → Int → Option (Out Bool Int)
 | 0, _ => none
 | n + 1, x29 =>
  if decide (x29 < (Sl.len a30.Wants)) then
  Option.bind (Sl.at? a30.Wants x29) fun y35 =>
  if decide ((Str.len y35) > 500) then
  some (Out.ret false)
  else
  R8_L0 k a30 n (ad .i64 x29 1)
  else
  some (Out.brk x29)
def R8_L4 (k : Nat) (a340 : Int) (a342 : Api_Msg) : Nat → Int → Option (Out Bool Int)
 | 0, _ => none
 | n + 1, x341 =>
  Option.bind (Sl.at? a342.Mods a340) fun y343 =>
  if decide (x341 < (Sl.len y343.Values)) then
  Option.bind (Sl.at? a342.Mods a340) fun y349 =>
  Option.bind (Sl.at? y349.Values x341) fun y350 =>
  if decide ((Str.len y350) > 500) then
  some (Out.ret false)
  else
  R8_L4 k a340 a342 n (ad .i64 x341 1)
  else
  some (Out.brk x341)
def R8_L2 (k : Nat) (a250 : Api_Msg) : Nat → Int → Option (Out Bool Int)
 | 0, _ => none
 | n + 1, x249 =>
  if decide (x249 < (Sl.len a250.Mods)) then
  Option.bind (Sl.at? a250.Mods x249) fun y304 =>
  Option.bind (if decide ((Str.len y304.Attr) > 500) then
  some true
  else
  Option.bind (Sl.at? a250.Mods x249) fun y310 =>
  some (decide ((Sl.len y310.Values) > 14))) fun y309 =>
  if y309 then
  some (Out.ret false)
  else
  Option.bind (R8_L4 k x249 a250 k 0) fun y354 =>
  match y354 with
  | .ret y354r => some (Out.ret y354r)
  | .brk y354b =>
  R8_L2 k a250 n (ad .i64 x249 1)
  else
  some (Out.brk x249)
def R34 (k : Nat) (a0 : Api_Msg) : Option Api_Msg :=
 Option.bind (if a0.Op == 1 then
 some (Api_Msg.mk a0.ID a0.Op 0 a0.DN a0.Version a0.Pass 0 0 (Api_Filter.mk 0 [] [] none none) none none [] false false [] [] [] 0 [])
 else
 Option.bind (if a0.Op == 3 then
 some (Api_Msg.mk a0.ID a0.Op 0 a0.DN 0 [] a0.Scope a0.Size a0.Filter a0.Wants none [] false false [] [] [] 0 [])
 else
 Option.bind (if a0.Op == 4 then
 some (a0.Op == 4)
 else
 Option.bind (if a0.Op == 5 then
 some (a0.Op == 5)
 else
 some (a0.Op == 10)) fun y33007 =>
 some y33007) fun y33004 =>
 Option.bind (if y33004 then
 some (Api_Msg.mk a0.ID a0.Op 0 a0.DN 0 [] 0 0 (Api_Filter.mk 0 [] [] none none) none a0.Mods [] false false [] [] [] 0 [])
 else
 Option.bind (if a0.Op == 6 then
 some (Api_Msg.mk a0.ID a0.Op 0 a0.DN 0 [] 0 0 (Api_Filter.mk 0 [] [] none none) none none [] false false [] [] [] 0 [])
 else
 Option.bind (if a0.Op == 7 then
 Option.bind (if a0.HasSup then
 some (Api_Msg.mk a0.ID a0.Op 0 a0.DN 0 [] 0 0 (Api_Filter.mk 0 [] [] none none) none none a0.RDN a0.DelOld a0.HasSup a0.Sup [] [] 0 [])
 else
 some (Api_Msg.mk a0.ID a0.Op 0 a0.DN 0 [] 0 0 (Api_Filter.mk 0 [] [] none none) none none a0.RDN a0.DelOld a0.HasSup [] [] [] 0 [])) fun y34861 =>
 some y34861
 else
 Option.bind (if a0.Op == 8 then
 some (Api_Msg.mk a0.ID a0.Op 0 a0.DN 0 [] 0 0 (Api_Filter.mk 0 [] [] none none) none none [] false false [] a0.Attr a0.Value 0 [])
 else
 Option.bind (if a0.Op == 9 then
 some (Api_Msg.mk a0.ID a0.Op a0.Of [] 0 [] 0 0 (Api_Filter.mk 0 [] [] none none) none none [] false false [] [] [] a0.Code a0.Matched)
 else
 some (Api_Msg.mk a0.ID a0.Op 0 [] 0 [] 0 0 (Api_Filter.mk 0 [] [] none none) none none [] false false [] [] [] 0 [])) fun y34914 =>
 some y34914) fun y34901 =>
 some y34901) fun y34851 =>
 some y34851) fun y34710 =>
 some y34710) fun y34284 =>
 some y34284) fun y32985 =>
 some y32985) fun y29104 =>
 some y29104
def R35_L0 (k : Nat) (a20 : Sl Str) : Nat → Int → Option (Out Bool Int)
 | 0, _ => none
 | n + 1, x21 =>
  if decide (x21 < (Sl.len a20)) then
  Option.bind (Sl.at? a20 x21) fun y26 =>
  if decide ((Str.len y26) > 400) then
  some (Out.ret false)
  else
  R35_L0 k a20 n (ad .i64 x21 1)
  else
  some (Out.brk x21)
def R35 (k : Nat) (a0 : Sl Str) : Option Bool :=
 Option.bind (R35_L0 k a0 k 0) fun y30 =>
 match y30 with
 | .ret y30r => some y30r
 | .brk y30b =>
 some (decide ((Sl.len a0) ≤ 12))
def R36_L0 (k : Nat) (a246 : Sl Api_Mod) (a247 : Bool) : Nat → Int → Option (Out Bool Int)
 | 0, _ => none
 | n + 1, x248 =>
  if decide (x248 < (Sl.len a246)) then
  Option.bind (Sl.at? a246 x248) fun y309 =>
  Option.bind (if decide (y309.Kind < 1) then
  some true
  else
  Option.bind (Sl.at? a246 x248) fun y315 =>
  some (decide (y315.Kind > 3))) fun y314 =>
  Option.bind (if y314 then
  some true
  else
  Option.bind (if !a247 then
  Option.bind (Sl.at? a246 x248) fun y345 =>
  some (y345.Kind != 1)
  else
  some false) fun y344 =>
  some y344) fun y339 =>
  Option.bind (if y339 then
  some true
  else
  Option.bind (Sl.at? a246 x248) fun y353 =>
  some (decide ((Str.len y353.Attr) > 400))) fun y352 =>
  Option.bind (if y352 then
  some true
  else
  Option.bind (Sl.at? a246 x248) fun y363 =>
  Option.bind (R35 k y363.Values) fun y364 =>
  some (!y364)) fun y362 =>
  if y362 then
  some (Out.ret false)
  else
  R36_L0 k a246 a247 n (ad .i64 x248 1)
  else
  some (Out.brk x248)
def R36 (k : Nat) (a0 : Sl Api_Mod) (a1 : Bool) : Option Bool :=
 Option.bind (R36_L0 k a0 a1 k 0) fun y369 =>
 match y369 with
 | .ret y369r => some y369r
 | .brk y369b =>
 some (decide ((Sl.len a0) ≤ 12))
def R69_L0 (rc0 : Api_Filter → Option Int) (k : Nat) (a84 : Api_Filter) : Nat → Int → Int → Option (Int × Int)
 | 0, _, _ => none
 | n + 1, x82, x83 =>
  if (decide (x83 < (Sl.len a84.Kids))) && (decide (x82 ≤ 20)) then
  Option.bind (Sl.at? a84.Kids x83) fun y89 =>
  Option.bind (rc0 y89) fun y90 =>
  R69_L0 rc0 k a84 n (ad .i64 x82 y90) (ad .i64 x83 1)
  else
  some (x82, x83)
def R69 : Nat → Api_Filter → Option Int
 | 0, _ => none
 | k + 1, a0 =>
  Option.bind (if (decide (a0.Kind ≥ 1)) && (decide (a0.Kind ≤ 3)) then
  Option.bind (R69_L0 (R69 k) k a0 k 1 0) fun y92 =>
  some y92.1
  else
  some 1) fun y63 =>
  some (imin y63 21)
def R91_L0 (k : Nat) (a60 : Str) : Nat → Int → Option (Out Bool Int)
 | 0, _ => none
 | n + 1, x61 =>
  if decide (x61 < (Str.len a60)) then
  Option.bind (Str.at? a60 x61) fun c72 =>
  if (((decide (c72 < 97)) || (decide (c72 > 122))) && ((decide (c72 < 48)) || (decide (c72 > 57)))) && (c72 != 45) then
  some (Out.ret false)
  else
  R91_L0 k a60 n (ad .i64 x61 1)
  else
  some (Out.brk x61)
def R91 (k : Nat) (a0 : Str) : Option Bool :=
 Option.bind (if (decide ((Str.len a0) < 1)) || (decide ((Str.len a0) > 16)) then
 some true
 else
 Option.bind (Str.at? a0 0) fun c7 =>
 some (decide (c7 < 97))) fun y6 =>
 Option.bind (if y6 then
 some true
 else
 Option.bind (Str.at? a0 0) fun c14 =>
 some (decide (c14 > 122))) fun y13 =>
 if y13 then
 some false
 else
 Option.bind (R91_L0 k a0 k 0) fun y82 =>
 match y82 with
 | .ret y82r => some y82r
 | .brk y82b =>
 some true
def R92_L0 (k : Nat) (a99 : Sl Str) : Nat → Bool → Int → Option (Out Bool (Bool × Int))
 | 0, _, _ => none
 | n + 1, x100, x101 =>
  if decide (x101 < (Sl.len a99)) then
  Option.bind (Sl.at? a99 x101) fun y128 =>
  Option.bind (if decide ((Str.len y128) > 60) then
  some true
  else
  Option.bind (Sl.at? a99 x101) fun y140 =>
  some (((y140 == []) && (decide (x101 > 0))) && (decide (x101 < (sb .i64 (Sl.len a99) 1))))) fun y139 =>
  if y139 then
  some (Out.ret false)
  else
  Option.bind (if x100 then
  some true
  else
  Option.bind (Sl.at? a99 x101) fun y150 =>
  some (!(y150 == []))) fun y149 =>
  R92_L0 k a99 n y149 (ad .i64 x101 1)
  else
  some (Out.brk (x100, x101))
def R92 (k : Nat) (a0 : Sl Str) : Option Bool :=
 if (decide ((Sl.len a0) < 2)) || (decide ((Sl.len a0) > 20)) then
 some false
 else
 Option.bind (R92_L0 k a0 k false 0) fun y154 =>
 match y154 with
 | .ret y154r => some y154r
 | .brk y154b =>
 some y154b.1
def R70_L0 (rc0 : Api_Filter → Option Bool) (k : Nat) (a79 : Api_Filter) : Nat → Int → Option (Out Bool Int)
 | 0, _ => none
 | n + 1, x78 =>
  if decide (x78 < (Sl.len a79.Kids)) then
  Option.bind (Sl.at? a79.Kids x78) fun y85 =>
  Option.bind (rc0 y85) fun y86 =>
  if !y86 then
  some (Out.ret false)
  else
  R70_L0 rc0 k a79 n (ad .i64 x78 1)
  else
  some (Out.brk x78)
def R70 : Nat → Api_Filter → Option Bool
 | 0, _ => none
 | k + 1, a0 =>
  if (decide (a0.Kind ≥ 1)) && (decide (a0.Kind ≤ 3)) then
  if (((!(a0.Attr == [])) || (!(a0.Value == []))) || (decide ((Sl.len a0.Subs) > 0))) || ((a0.Kind == 3) && ((Sl.len a0.Kids) != 1)) then
  some false
  else
  Option.bind (R70_L0 (R70 k) k a0 k 0) fun y90 =>
  match y90 with
  | .ret y90r => some y90r
  | .brk y90b =>
  some true
  else
  Option.bind (if ((decide (a0.Kind < 4)) || (decide (a0.Kind > 8))) || (decide ((Sl.len a0.Kids) > 0)) then
  some true
  else
  Option.bind (R91 k a0.Attr) fun y99 =>
  some (!y99)) fun y98 =>
  if y98 then
  some false
  else
  if a0.Kind == 7 then
  some ((a0.Value == []) && ((Sl.len a0.Subs) == 0))
  else
  if a0.Kind == 8 then
  Option.bind (if a0.Value == [] then
  Option.bind (R92 k a0.Subs) fun y170 =>
  some y170
  else
  some false) fun y169 =>
  some y169
  else
  some ((decide ((Str.len a0.Value) ≤ 60)) && ((Sl.len a0.Subs) == 0))
def R37 (k : Nat) (a0 : Api_Filter) : Option Bool :=
 Option.bind (R69 k a0) fun y2 =>
 Option.bind (if decide (y2 ≤ 20) then
 Option.bind (R70 k a0) fun y8 =>
 some y8
 else
 some false) fun y7 =>
 some y7
def R12 (k : Nat) (a0 : Api_Msg) : Option Bool :=
 Option.bind (if (((decide (a0.Op < 1)) || (decide (a0.Op > 10))) || (decide (a0.ID < 0))) || (decide (a0.ID > 2147483647)) then
 some true
 else
 Option.bind (R34 k a0) fun y9 =>
 Option.bind (F8 k a0 y9) fun y10 =>
 some (!y10)) fun y8 =>
 if y8 then
 some false
 else
 Option.bind (R35 k (some [a0.DN, a0.Pass, a0.RDN, a0.Sup, a0.Attr, a0.Value, a0.Matched])) fun y14 =>
 Option.bind (if !y14 then
 some true
 else
 Option.bind (R35 k a0.Wants) fun y20 =>
 some (!y20)) fun y19 =>
 Option.bind (if y19 then
 some true
 else
 Option.bind (R36 k a0.Mods (a0.Op == 4)) fun y27 =>
 some (!y27)) fun y26 =>
 if y26 then
 some false
 else
 if a0.Op == 1 then
 some ((decide (a0.Version ≥ 1)) && (decide (a0.Version ≤ 127)))
 else
 if a0.Op == 3 then
 Option.bind (if (((decide (a0.Scope ≥ 0)) && (decide (a0.Scope ≤ 2))) && (decide (a0.Size ≥ 0))) && (decide (a0.Size ≤ 2147483647)) then
 Option.bind (R37 k a0.Filter) fun y192 =>
 some y192
 else
 some false) fun y191 =>
 some y191
 else
 if a0.Op == 9 then
 some (((((decide (a0.Of ≥ 1)) && (decide (a0.Of ≤ 8))) && (a0.Of != 2)) && (decide (a0.Code ≥ 0))) && (decide (a0.Code ≤ 127)))
 else
 some true
def R83_L0 (k : Nat) : Nat → (Sl Int) → Int → Option ((Sl Int) × Int)
 | 0, _, _ => none
 | n + 1, x105, x107 =>
  Option.bind (if x107 == 0 then
  Option.bind (Sl.at? x105 0) fun y113 =>
  some (decide (y113 < 128))
  else
  some false) fun y112 =>
  Option.bind (if y112 then
  some true
  else
  Option.bind (if x107 == (-1) then
  Option.bind (Sl.at? x105 0) fun y143 =>
  some (decide (y143 ≥ 128))
  else
  some false) fun y142 =>
  some y142) fun y137 =>
  if !y137 then
  Option.bind (Sl.app? 1 (some [cv .u8 x107]) (Sl.l x105)) fun z152 =>
  Option.bind (shr? .i64 x107 8) fun z154 =>
  R83_L0 k n z152 z154
  else
  some (x105, x107)
def R83 (k : Nat) (a0 : Int) : Option Str :=
 Option.bind (shr? .i64 a0 8) fun z2 =>
 Option.bind (R83_L0 k k (some [cv .u8 a0]) z2) fun y157 =>
 some (Str.of y157.1)
def R56 (k : Nat) (a0 : Int) (a1 : Int) : Option Api_Element :=
 Option.bind (R83 k a1) fun y2 =>
 some (Api_Element.mk a0 y2 none)
def R26 (k : Nat) (a0 : Int) (a1 : Int) : Option Api_Element :=
 Option.bind (R56 k a0 a1) fun y2 =>
 some y2
def R57 (k : Nat) (a0 : Str) : Option Api_Element :=
 Option.bind (F13 k 4 a0) fun y2 =>
 some y2
def R84 (k : Nat) (a0 : Bool) : Option Str :=
 if a0 then
 some [255]
 else
 some [0]
def R59 (k : Nat) (a0 : Bool) : Option Api_Element :=
 Option.bind (R84 k a0) fun y2 =>
 Option.bind (F13 k 1 y2) fun y3 =>
 some y3
def R60_L0 (rc0 : Api_Filter → Option Api_Element) (k : Nat) (a107 : Api_Element) (a108 : Api_Filter) : Nat → (Sl Api_Element) → Int → Option ((Sl Api_Element) × Int)
 | 0, _, _ => none
 | n + 1, x104, x106 =>
  if decide (x106 < (Sl.len a108.Kids)) then
  Option.bind (Sl.at? a108.Kids x106) fun y115 =>
  Option.bind (rc0 y115) fun y116 =>
  Option.bind (Sl.app? 48 x104 (Sl.l (some [y116]))) fun z118 =>
  R60_L0 rc0 k a107 a108 n z118 (ad .i64 x106 1)
  else
  some (x104, x106)
def R60_L3 (rc0 : Api_Filter → Option Api_Element) (k : Nat) (a2357 : Api_Element) (a2358 : Api_Filter) : Nat → (Sl Api_Element) → Int → Option ((Sl Api_Element) × Int)
 | 0, _, _ => none
 | n + 1, x2354, x2356 =>
  if decide (x2356 < (Sl.len a2358.Subs)) then
  Option.bind (if x2356 == 0 then
  some 128
  else
  Option.bind (if x2356 == (sb .i64 (Sl.len a2358.Subs) 1) then
  some 130
  else
  some 129) fun y2410 =>
  some y2410) fun y2407 =>
  Option.bind (Sl.at? a2358.Subs x2356) fun y2413 =>
  Option.bind (if !(y2413 == []) then
  Option.bind (Sl.at? a2358.Subs x2356) fun y2428 =>
  Option.bind (F13 k y2407 y2428) fun y2429 =>
  Option.bind (Sl.app? 48 x2354 (Sl.l (some [y2429]))) fun z2431 =>
  some z2431
  else
  some x2354) fun y2426 =>
  R60_L3 rc0 k a2357 a2358 n y2426 (ad .i64 x2356 1)
  else
  some (x2354, x2356)
def R61_L0 (k : Nat) (a45 : Int) (a46 : Sl Str) (a50 : Api_Element) : Nat → (Sl Api_Element) → Int → Option ((Sl Api_Element) × Int)
 | 0, _, _ => none
 | n + 1, x47, x49 =>
  if decide (x49 < (Sl.len a46)) then
  Option.bind (Sl.at? a46 x49) fun y57 =>
  Option.bind (R57 k y57) fun y58 =>
  Option.bind (Sl.app? 48 x47 (Sl.l (some [y58]))) fun z60 =>
  R61_L0 k a45 a46 a50 n z60 (ad .i64 x49 1)
  else
  some (x47, x49)
def R61 (k : Nat) (a0 : Int) (a1 : Sl Str) : Option Api_Element :=
 Option.bind (R61_L0 k a0 a1 (Api_Element.mk 0 [] none) k none 0) fun y64 =>
 Option.bind (F12 k a0 y64.1) fun y66 =>
 some y66
def R60 : Nat → Api_Filter → Option Api_Element
 | 0, _ => none
 | k + 1, a0 =>
  if decide (a0.Kind ≤ 3) then
  Option.bind (R60_L0 (R60 k) k (Api_Element.mk 0 [] none) a0 k none 0) fun y122 =>
  Option.bind (F12 k (cv .u8 (ad .i64 159 a0.Kind)) y122.1) fun y124 =>
  some y124
  else
  if a0.Kind == 7 then
  Option.bind (F13 k 135 a0.Attr) fun y1877 =>
  some y1877
  else
  if a0.Kind == 8 then
  Option.bind (R60_L3 (R60 k) k (Api_Element.mk 0 [] none) a0 k none 0) fun y2436 =>
  Option.bind (R57 k a0.Attr) fun y2438 =>
  Option.bind (F12 k 48 y2436.1) fun y2439 =>
  Option.bind (F12 k 164 (some [y2438, y2439])) fun y2441 =>
  some y2441
  else
  if a0.Kind == 4 then
  Option.bind (R61 k 163 (some [a0.Attr, a0.Value])) fun y2452 =>
  some y2452
  else
  if a0.Kind == 5 then
  Option.bind (R61 k 165 (some [a0.Attr, a0.Value])) fun y2457 =>
  some y2457
  else
  Option.bind (R61 k 166 (some [a0.Attr, a0.Value])) fun y2459 =>
  some y2459
def R62_L0 (k : Nat) (a92 : Sl Api_Mod) (a96 : Api_Element) : Nat → (Sl Api_Element) → Int → Option ((Sl Api_Element) × Int)
 | 0, _, _ => none
 | n + 1, x93, x95 =>
  if decide (x95 < (Sl.len a92)) then
  Option.bind (Sl.at? a92 x95) fun y113 =>
  Option.bind (R57 k y113.Attr) fun y114 =>
  Option.bind (Sl.at? a92 x95) fun y115 =>
  Option.bind (R61 k 49 y115.Values) fun y116 =>
  Option.bind (F12 k 48 (some [y114, y116])) fun y118 =>
  Option.bind (Sl.at? a92 x95) fun y121 =>
  Option.bind (R56 k 10 (sb .i64 y121.Kind 1)) fun y122 =>
  Option.bind (F12 k 48 (some [y122, y118])) fun y124 =>
  Option.bind (Sl.app? 48 x93 (Sl.l (some [y124]))) fun z126 =>
  R62_L0 k a92 a96 n z126 (ad .i64 x95 1)
  else
  some (x93, x95)
def R62 (k : Nat) (a0 : Sl Api_Mod) : Option Api_Element :=
 Option.bind (R62_L0 k a0 (Api_Element.mk 0 [] none) k none 0) fun y130 =>
 Option.bind (F12 k 48 y130.1) fun y132 =>
 some y132
def R63_L0 (k : Nat) (a62 : Sl Api_Mod) (a66 : Api_Element) : Nat → (Sl Api_Element) → Int → Option ((Sl Api_Element) × Int)
 | 0, _, _ => none
 | n + 1, x63, x65 =>
  if decide (x65 < (Sl.len a62)) then
  Option.bind (Sl.at? a62 x65) fun y77 =>
  Option.bind (R57 k y77.Attr) fun y78 =>
  Option.bind (Sl.at? a62 x65) fun y79 =>
  Option.bind (R61 k 49 y79.Values) fun y80 =>
  Option.bind (F12 k 48 (some [y78, y80])) fun y82 =>
  Option.bind (Sl.app? 48 x63 (Sl.l (some [y82]))) fun z84 =>
  R63_L0 k a62 a66 n z84 (ad .i64 x65 1)
  else
  some (x63, x65)
def R63 (k : Nat) (a0 : Sl Api_Mod) : Option Api_Element :=
 Option.bind (R63_L0 k a0 (Api_Element.mk 0 [] none) k none 0) fun y88 =>
 Option.bind (F12 k 48 y88.1) fun y90 =>
 some y90
def R27 (k : Nat) (a0 : Api_Msg) : Option Api_Element :=
 if a0.Op == 1 then
 Option.bind (R26 k 2 a0.Version) fun y11277 =>
 Option.bind (R57 k a0.DN) fun y11278 =>
 Option.bind (F13 k 128 a0.Pass) fun y11279 =>
 Option.bind (F12 k 96 (some [y11277, y11278, y11279])) fun y11281 =>
 some y11281
 else
 if a0.Op == 2 then
 Option.bind (F13 k 66 []) fun y13158 =>
 some y13158
 else
 if a0.Op == 3 then
 Option.bind (R57 k a0.DN) fun y14096 =>
 Option.bind (R26 k 10 a0.Scope) fun y14097 =>
 Option.bind (R26 k 10 0) fun y14098 =>
 Option.bind (R26 k 2 a0.Size) fun y14099 =>
 Option.bind (R26 k 2 0) fun y14100 =>
 Option.bind (R59 k false) fun y14101 =>
 Option.bind (R60 k a0.Filter) fun y14102 =>
 Option.bind (R61 k 48 a0.Wants) fun y14103 =>
 Option.bind (F12 k 99 (some [y14096, y14097, y14098, y14099, y14100, y14101, y14102, y14103])) fun y14105 =>
 some y14105
 else
 if a0.Op == 4 then
 Option.bind (R57 k a0.DN) fun y14569 =>
 Option.bind (R62 k a0.Mods) fun y14570 =>
 Option.bind (F12 k 102 (some [y14569, y14570])) fun y14572 =>
 some y14572
 else
 if a0.Op == 5 then
 Option.bind (R57 k a0.DN) fun y14802 =>
 Option.bind (R63 k a0.Mods) fun y14803 =>
 Option.bind (F12 k 104 (some [y14802, y14803])) fun y14805 =>
 some y14805
 else
 if a0.Op == 6 then
 Option.bind (F13 k 74 a0.DN) fun y14918 =>
 some y14918
 else
 if a0.Op == 7 then
 Option.bind (R57 k a0.DN) fun y14974 =>
 Option.bind (R57 k a0.RDN) fun y14975 =>
 Option.bind (R59 k a0.DelOld) fun y14976 =>
 Option.bind (if a0.HasSup then
 Option.bind (F13 k 128 a0.Sup) fun y14990 =>
 Option.bind (Sl.app? 48 (some [y14974, y14975, y14976]) (Sl.l (some [y14990]))) fun z14992 =>
 some z14992
 else
 some (some [y14974, y14975, y14976])) fun y14988 =>
 Option.bind (F12 k 108 y14988) fun y14995 =>
 some y14995
 else
 if a0.Op == 8 then
 Option.bind (R57 k a0.DN) fun y15012 =>
 Option.bind (R61 k 48 (some [a0.Attr, a0.Value])) fun y15014 =>
 Option.bind (F12 k 110 (some [y15012, y15014])) fun y15016 =>
 some y15016
 else
 if a0.Op == 10 then
 Option.bind (R57 k a0.DN) fun y15022 =>
 Option.bind (R63 k a0.Mods) fun y15023 =>
 Option.bind (F12 k 100 (some [y15022, y15023])) fun y15025 =>
 some y15025
 else
 Option.bind (Sl.at? (some [0, 97, 0, 101, 103, 105, 107, 109, 111]) a0.Of) fun y15027 =>
 Option.bind (R26 k 10 a0.Code) fun y15028 =>
 Option.bind (R57 k a0.Matched) fun y15029 =>
 Option.bind (R57 k []) fun y15030 =>
 Option.bind (F12 k y15027 (some [y15028, y15029, y15030])) fun y15032 =>
 some y15032
def R28_L0 (rc0 : Api_Element → Option (Str × Bool)) (k : Nat) (a33 : Api_Element) : Nat → Str → Int → Option (Out (Str × Bool) (Str × Int))
 | 0, _, _ => none
 | n + 1, x31, x32 =>
  if decide (x32 < (Sl.len a33.Kids)) then
  Option.bind (Sl.at? a33.Kids x32) fun y40 =>
  Option.bind (rc0 y40) fun y41 =>
  if !y41.2 then
  some (Out.ret ([], false))
  else
  Option.bind (Str.app? x31 y41.1) fun z43 =>
  R28_L0 rc0 k a33 n z43 (ad .i64 x32 1)
  else
  some (Out.brk (x31, x32))
def R64_L0 (k : Nat) : Nat → Str → Int → Option (Str × Int)
 | 0, _, _ => none
 | n + 1, x21, x22 =>
  if decide (x22 > 0) then
  Option.bind (Str.app? (Str.of (some [cv .u8 x22])) x21) fun z27 =>
  Option.bind (quo? .i64 x22 256) fun z28 =>
  R64_L0 k n z27 z28
  else
  some (x21, x22)
def R64 (k : Nat) (a0 : Int) : Option Str :=
 if decide (a0 < 128) then
 some (Str.of (some [cv .u8 a0]))
 else
 Option.bind (R64_L0 k k [] a0) fun y30 =>
 Option.bind (Str.app? (Str.of (some [cv .u8 (ad .i64 128 (Str.len y30.1))])) y30.1) fun z32 =>
 some z32
def R28 : Nat → Api_Element → Option (Str × Bool)
 | 0, _ => none
 | k + 1, a0 =>
  Option.bind (R28_L0 (R28 k) k a0 k a0.Body 0) fun y46 =>
  match y46 with
  | .ret y46r => some (y46r.1, y46r.2)
  | .brk y46b =>
  if decide ((Str.len y46b.1) > 4000) then
  some ([], false)
  else
  Option.bind (R64 k (Str.len y46b.1)) fun y49 =>
  Option.bind (Str.app? (Str.of (some [a0.Tag])) y49) fun z50 =>
  Option.bind (Str.app? z50 y46b.1) fun z51 =>
  some (z51, true)
def R29_L0 (rc0 : Api_Element → Option Int) (k : Nat) (a20 : Api_Element) : Nat → Int → Int → Option (Int × Int)
 | 0, _, _ => none
 | n + 1, x18, x19 =>
  if decide (x19 < (Sl.len a20.Kids)) then
  Option.bind (Sl.at? a20.Kids x19) fun y24 =>
  Option.bind (rc0 y24) fun y25 =>
  R29_L0 rc0 k a20 n (imax x18 y25) (ad .i64 x19 1)
  else
  some (x18, x19)
def R29 : Nat → Api_Element → Option Int
 | 0, _ => none
 | k + 1, a0 =>
  Option.bind (R29_L0 (R29 k) k a0 k 0 0) fun y27 =>
  some (ad .i64 y27.1 1)
def R10 (k : Nat) (a0 : Api_Msg) : Option (Str × Int) :=
 Option.bind (R12 k a0) fun y2 =>
 if !y2 then
 some ([], 14)
 else
 Option.bind (R26 k 2 a0.ID) fun y4 =>
 Option.bind (R27 k a0) fun y5 =>
 Option.bind (F12 k 48 (some [y4, y5])) fun y7 =>
 Option.bind (R28 k y7) fun y10 =>
 if (!y10.2) || (decide ((Str.len y10.1) > 4000)) then
 some ([], 13)
 else
 Option.bind (R29 k y7) fun y25 =>
 if decide (y25 > 20) then
 some ([], 12)
 else
 some (y10.1, 0)
end Go.Proofs.YtbinlabnilidiaaDoor.M
