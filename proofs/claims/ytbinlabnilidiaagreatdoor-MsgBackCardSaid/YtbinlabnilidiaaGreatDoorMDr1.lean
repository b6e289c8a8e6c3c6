/- Part of the proof: the runs of functions on the abstract machine. -/
import Derived.Test.YtbinlabnilidiaaGreatDoorPamM4
import Derived.Test.YtbinlabnilidiaaGreatDoorFns
import Derived.Test.YtbinlabnilidiaaGreatDoorMDe
import Derived.Test.YtbinlabnilidiaaGreatDoorMDc
import Derived.Test.YtbinlabnilidiaaGreatDoorMDc1
import Derived.Test.YtbinlabnilidiaaGreatDoorMDr
namespace Go.Proofs.YtbinlabnilidiaaGreatDoor.M
open Go Go.Pam Go.RowKit Go.WideShapes
set_option maxRecDepth 8000
set_option linter.unusedVariables false
set_option linter.unusedSimpArgs false

def F70_L0 (rc0 : Api_Filter → Option Bool) (k : Nat) (a79 : Api_Filter) : Nat → Int → Option (Out Bool Int)
 | 0, _ => none
 | n + 1, x78 =>
  if decide (x78 < (Sl.len a79.Kids)) then
  Option.bind (Sl.at? a79.Kids x78) fun y85 =>
  Option.bind (rc0 y85) fun y86 =>
  if !y86 then
  some (Out.ret false)
  else
  F70_L0 rc0 k a79 n (ad .i64 x78 1)
  else
  some (Out.brk x78)
def F70 : Nat → Api_Filter → Option Bool
 | 0, _ => none
 | k + 1, a0 =>
  if (decide (a0.Kind ≥ 1)) && (decide (a0.Kind ≤ 3)) then
  if (((!(a0.Attr == [])) || (!(a0.Value == []))) || (decide ((Sl.len a0.Subs) > 0))) || ((a0.Kind == 3) && ((Sl.len a0.Kids) != 1)) then
  some false
  else
  Option.bind (F70_L0 (F70 k) k a0 k 0) fun y90 =>
  match y90 with
  | .ret y90r => some y90r
  | .brk y90b =>
  some true
  else
  Option.bind (if ((decide (a0.Kind < 4)) || (decide (a0.Kind > 8))) || (decide ((Sl.len a0.Kids) > 0)) then
  some true
  else
  Option.bind (F91 k a0.Attr) fun y99 =>
  some (!y99)) fun y98 =>
  if y98 then
  some false
  else
  if a0.Kind == 7 then
  some ((a0.Value == []) && ((Sl.len a0.Subs) == 0))
  else
  if a0.Kind == 8 then
  Option.bind (if a0.Value == [] then
  Option.bind (F92 k a0.Subs) fun y170 =>
  some y170
  else
  some false) fun y169 =>
  some y169
  else
  some ((decide ((Str.len a0.Value) ≤ 60)) && ((Sl.len a0.Subs) == 0))
def F37 (k : Nat) (a0 : Api_Filter) : Option Bool :=
 Option.bind (F69 k a0) fun y2 =>
 Option.bind (if decide (y2 ≤ 20) then
 Option.bind (F70 k a0) fun y8 =>
 some y8
 else
 some false) fun y7 =>
 some y7
def F12 (k : Nat) (a0 : Api_Msg) : Option Bool :=
 Option.bind (if (((decide (a0.Op < 1)) || (decide (a0.Op > 10))) || (decide (a0.ID < 0))) || (decide (a0.ID > 2147483647)) then
 some true
 else
 Option.bind (F34 k a0) fun y9 =>
 Option.bind (F14 k a0 y9) fun y10 =>
 some (!y10)) fun y8 =>
 if y8 then
 some false
 else
 Option.bind (F35 k (some [a0.DN, a0.Pass, a0.RDN, a0.Sup, a0.Attr, a0.Value, a0.Matched])) fun y14 =>
 Option.bind (if !y14 then
 some true
 else
 Option.bind (F35 k a0.Wants) fun y20 =>
 some (!y20)) fun y19 =>
 Option.bind (if y19 then
 some true
 else
 Option.bind (F36 k a0.Mods (a0.Op == 4)) fun y27 =>
 some (!y27)) fun y26 =>
 if y26 then
 some false
 else
 if a0.Op == 1 then
 some ((decide (a0.Version ≥ 1)) && (decide (a0.Version ≤ 127)))
 else
 if a0.Op == 3 then
 Option.bind (if (((decide (a0.Scope ≥ 0)) && (decide (a0.Scope ≤ 2))) && (decide (a0.Size ≥ 0))) && (decide (a0.Size ≤ 2147483647)) then
 Option.bind (F37 k a0.Filter) fun y192 =>
 some y192
 else
 some false) fun y191 =>
 some y191
 else
 if a0.Op == 9 then
 some (((((decide (a0.Of ≥ 1)) && (decide (a0.Of ≤ 8))) && (a0.Of != 2)) && (decide (a0.Code ≥ 0))) && (decide (a0.Code ≤ 127)))
 else
 some true
end Go.Proofs.YtbinlabnilidiaaGreatDoor.M
