/- Part of the proof: the runs of functions on the abstract machine. -/
import Derived.Test.YthkjepoaddfoiaaPamM4
import Derived.Test.YthkjepoaddfoiaaFns
import Derived.Test.YthkjepoaddfoiaaFDe
namespace Go.Proofs.Ythkjepoaddfoiaa.M
open Go Go.Pam Go.RowKit Go.WideShapes
set_option maxRecDepth 4000
set_option linter.unusedVariables false
set_option linter.unusedSimpArgs false

def F22_L0 (k : Nat) (a157 : Str) : Nat → Str → Int → Option (Str × Int)
 | 0, _, _ => none
 | n + 1, x158, x159 =>
  if decide (x159 < (Str.len a157)) then
  Option.bind (Str.at? a157 x159) fun c198 =>
  Option.bind (if (((((c198 == 42) || (c198 == 40)) || (c198 == 41)) || (c198 == 92)) || (decide (c198 < 32))) || (decide (c198 > 126)) then
  Option.bind (Str.app? x158 [92]) fun z225 =>
  Option.bind (shr? .u8 c198 4) fun z226 =>
  Option.bind (shr? .u8 c198 4) fun z227 =>
  Option.bind (Str.sub? [48, 49, 50, 51, 52, 53, 54, 55, 56, 57, 97, 98, 99, 100, 101, 102] z226 (ad .u8 z227 1)) fun z228 =>
  Option.bind (Str.app? z225 z228) fun z229 =>
  Option.bind (Str.sub? [48, 49, 50, 51, 52, 53, 54, 55, 56, 57, 97, 98, 99, 100, 101, 102] (bAnd .u8 c198 15) (ad .u8 (bAnd .u8 c198 15) 1)) fun z230 =>
  Option.bind (Str.app? z229 z230) fun z231 =>
  some z231
  else
  Option.bind (Str.sub? a157 x159 (ad .i64 x159 1)) fun z232 =>
  Option.bind (Str.app? x158 z232) fun z233 =>
  some z233) fun y224 =>
  F22_L0 k a157 n y224 (ad .i64 x159 1)
  else
  some (x158, x159)
def F22 (k : Nat) (a0 : Str) : Option Str :=
 Option.bind (F22_L0 k a0 k [] 0) fun y236 =>
 some y236.1
theorem l22_L0 {k : Nat} {a157 : Str} {S0 : List SObj} {R : List Nat} {K : KX}  {o : (Str × Int)}
  (hbrk : ∀ {σ' : Nat → PV} {S' : List SObj}, Known [(4, (.str o.1))] σ' → Hp S0 R S' [] [] [] → K (.exit 0) σ' S' false) :
  ∀ {n : Nat} {x158 : Str} {x159 : Int}, F22_L0 k a157 n x158 x159 = some o → ∀ {σ : Nat → PV} {S : List SObj}, Known [(0, (.str a157)), (3, (.str [48, 49, 50, 51, 52, 53, 54, 55, 56, 57, 97, 98, 99, 100, 101, 102])), (4, (.str x158)), (5, (.int .i64 x159))] σ → Hp S0 R S [] [] [] → WC env ⟨64, S0.length⟩ (.loop pc22L0) σ S false K := by
 intro n
 induction n with
 | zero => intro _ _ h; cases h
 | succ n ih =>
  intro x158 x159 h σ S  hk H
  rw [F22_L0] at h
  refine WC.loop ?_
  refine WC.of_known hk ?_
  refine WC.seq ?_
  refine WC.seqR ?_
  refine WS (v := .int .i64 x159) rfl (nz rfl rfl) ?_
  refine WS (v := .str a157) rfl (nz rfl rfl) ?_
  refine WS (v := (.int .i64 (Str.len a157))) rfl (nz rfl rfl) ?_
  refine WS (v := (.bool (decide (x159 < (Str.len a157))))) rfl (nz rfl rfl) ?_
  refine WO.nil ?_
  rcases iteS h with ⟨hc235, h⟩ | ⟨hc235, h⟩
  ·refine WC.condT rfl hc235 ?_
   refine WC.skip ?_
   refine KX.seq_n ?_
   refine WC.seq ?_
   refine WC.block ?_
   refine WC.seqR ?_
   refine WS (v := .str a157) rfl (nz rfl rfl) ?_
   refine WS (v := .int .i64 x159) rfl (nz rfl rfl) ?_
   obtain ⟨c198, hc198, h⟩ := bindS h
   refine WS (v := .int .u8 c198) rfl (nz rfl (stp_idxStr rfl rfl rfl hc198)) ?_
   refine WS (v := .int .u8 c198) rfl (nz rfl rfl) ?_
   refine WO.nil ?_
   refine WC.seqR ?_
   refine WS (v := .int .u8 c198) rfl (nz rfl rfl) ?_
   refine WS (v := (.bool (c198 == 42))) rfl (nz rfl rfl) ?_
   refine WS (v := (.bool (c198 == 42))) rfl (nz rfl rfl) ?_
   refine WO.split 3 (fun σ' S' e' => Known ([(0, (.str a157)), (3, (.str [48, 49, 50, 51, 52, 53, 54, 55, 56, 57, 97, 98, 99, 100, 101, 102])), (4, (.str x158)), (5, (.int .i64 x159)), (6, (.int .u8 c198)), (21, (.bool ((c198 == 42) || (c198 == 40))))]) σ' ∧ Hp S0 R S' [] [] [] ∧ e' = false) ?_ ?_
   ·revert H
    cases hc199 : (c198 == 42)
    ·intro H
     refine WO.go0 rfl rfl ?_
     refine WS (v := .int .u8 c198) rfl (nz rfl rfl) ?_
     refine WO.go0 rfl rfl ?_
     refine WS (v := (.bool (c198 == 40))) rfl (nz rfl rfl) ?_
     refine WS (v := (.bool (c198 == 40))) rfl (nz rfl rfl) ?_
     refine WO.nil ?_
     exact ⟨(kc rfl (kc rfl (kc rfl (kc rfl (kc rfl (kc rfl known_nil)))))), H, rfl⟩
    ·intro H
     refine WO.by rfl rfl rfl ?_
     refine WO.by rfl rfl rfl ?_
     refine WS (v := .bool true) rfl (nz rfl rfl) ?_
     refine WO.nil ?_
     exact ⟨(kc rfl (kc rfl (kc rfl (kc rfl (kc rfl (kc rfl known_nil)))))), H, rfl⟩
   ·rintro σ S e ⟨hk, H, rfl⟩
    refine WO.of_known hk ?_
    refine WS (v := (.bool ((c198 == 42) || (c198 == 40)))) rfl (nz rfl rfl) ?_
    refine WO.split 3 (fun σ' S' e' => Known ([(0, (.str a157)), (3, (.str [48, 49, 50, 51, 52, 53, 54, 55, 56, 57, 97, 98, 99, 100, 101, 102])), (4, (.str x158)), (5, (.int .i64 x159)), (6, (.int .u8 c198)), (25, (.bool (((c198 == 42) || (c198 == 40)) || (c198 == 41))))]) σ' ∧ Hp S0 R S' [] [] [] ∧ e' = false) ?_ ?_
    ·revert H
     cases hc200 : ((c198 == 42) || (c198 == 40))
     ·intro H
      refine WO.go0 rfl rfl ?_
      refine WS (v := .int .u8 c198) rfl (nz rfl rfl) ?_
      refine WO.go0 rfl rfl ?_
      refine WS (v := (.bool (c198 == 41))) rfl (nz rfl rfl) ?_
      refine WS (v := (.bool (c198 == 41))) rfl (nz rfl rfl) ?_
      refine WO.nil ?_
      exact ⟨(kc rfl (kc rfl (kc rfl (kc rfl (kc rfl (kc rfl known_nil)))))), H, rfl⟩
     ·intro H
      refine WO.by rfl rfl rfl ?_
      refine WO.by rfl rfl rfl ?_
      refine WS (v := .bool true) rfl (nz rfl rfl) ?_
      refine WO.nil ?_
      exact ⟨(kc rfl (kc rfl (kc rfl (kc rfl (kc rfl (kc rfl known_nil)))))), H, rfl⟩
    ·rintro σ S e ⟨hk, H, rfl⟩
     refine WO.of_known hk ?_
     refine WS (v := (.bool (((c198 == 42) || (c198 == 40)) || (c198 == 41)))) rfl (nz rfl rfl) ?_
     refine WO.split 3 (fun σ' S' e' => Known ([(0, (.str a157)), (3, (.str [48, 49, 50, 51, 52, 53, 54, 55, 56, 57, 97, 98, 99, 100, 101, 102])), (4, (.str x158)), (5, (.int .i64 x159)), (6, (.int .u8 c198)), (29, (.bool ((((c198 == 42) || (c198 == 40)) || (c198 == 41)) || (c198 == 92))))]) σ' ∧ Hp S0 R S' [] [] [] ∧ e' = false) ?_ ?_
     ·revert H
      cases hc201 : (((c198 == 42) || (c198 == 40)) || (c198 == 41))
      ·intro H
       refine WO.go0 rfl rfl ?_
       refine WS (v := .int .u8 c198) rfl (nz rfl rfl) ?_
       refine WO.go0 rfl rfl ?_
       refine WS (v := (.bool (c198 == 92))) rfl (nz rfl rfl) ?_
       refine WS (v := (.bool (c198 == 92))) rfl (nz rfl rfl) ?_
       refine WO.nil ?_
       exact ⟨(kc rfl (kc rfl (kc rfl (kc rfl (kc rfl (kc rfl known_nil)))))), H, rfl⟩
      ·intro H
       refine WO.by rfl rfl rfl ?_
       refine WO.by rfl rfl rfl ?_
       refine WS (v := .bool true) rfl (nz rfl rfl) ?_
       refine WO.nil ?_
       exact ⟨(kc rfl (kc rfl (kc rfl (kc rfl (kc rfl (kc rfl known_nil)))))), H, rfl⟩
     ·rintro σ S e ⟨hk, H, rfl⟩
      refine WO.of_known hk ?_
      refine WS (v := (.bool ((((c198 == 42) || (c198 == 40)) || (c198 == 41)) || (c198 == 92)))) rfl (nz rfl rfl) ?_
      refine WO.split 3 (fun σ' S' e' => Known ([(0, (.str a157)), (3, (.str [48, 49, 50, 51, 52, 53, 54, 55, 56, 57, 97, 98, 99, 100, 101, 102])), (4, (.str x158)), (5, (.int .i64 x159)), (6, (.int .u8 c198)), (33, (.bool (((((c198 == 42) || (c198 == 40)) || (c198 == 41)) || (c198 == 92)) || (decide (c198 < 32)))))]) σ' ∧ Hp S0 R S' [] [] [] ∧ e' = false) ?_ ?_
      ·revert H
       cases hc202 : ((((c198 == 42) || (c198 == 40)) || (c198 == 41)) || (c198 == 92))
       ·intro H
        refine WO.go0 rfl rfl ?_
        refine WS (v := .int .u8 c198) rfl (nz rfl rfl) ?_
        refine WO.go0 rfl rfl ?_
        refine WS (v := (.bool (decide (c198 < 32)))) rfl (nz rfl rfl) ?_
        refine WS (v := (.bool (decide (c198 < 32)))) rfl (nz rfl rfl) ?_
        refine WO.nil ?_
        exact ⟨(kc rfl (kc rfl (kc rfl (kc rfl (kc rfl (kc rfl known_nil)))))), H, rfl⟩
       ·intro H
        refine WO.by rfl rfl rfl ?_
        refine WO.by rfl rfl rfl ?_
        refine WS (v := .bool true) rfl (nz rfl rfl) ?_
        refine WO.nil ?_
        exact ⟨(kc rfl (kc rfl (kc rfl (kc rfl (kc rfl (kc rfl known_nil)))))), H, rfl⟩
      ·rintro σ S e ⟨hk, H, rfl⟩
       refine WO.of_known hk ?_
       refine WS (v := (.bool (((((c198 == 42) || (c198 == 40)) || (c198 == 41)) || (c198 == 92)) || (decide (c198 < 32))))) rfl (nz rfl rfl) ?_
       refine WO.split 3 (fun σ' S' e' => Known ([(0, (.str a157)), (3, (.str [48, 49, 50, 51, 52, 53, 54, 55, 56, 57, 97, 98, 99, 100, 101, 102])), (4, (.str x158)), (5, (.int .i64 x159)), (6, (.int .u8 c198)), (37, (.bool ((((((c198 == 42) || (c198 == 40)) || (c198 == 41)) || (c198 == 92)) || (decide (c198 < 32))) || (decide (c198 > 126)))))]) σ' ∧ Hp S0 R S' [] [] [] ∧ e' = false) ?_ ?_
       ·revert H
        cases hc203 : (((((c198 == 42) || (c198 == 40)) || (c198 == 41)) || (c198 == 92)) || (decide (c198 < 32)))
        ·intro H
         refine WO.go0 rfl rfl ?_
         refine WS (v := .int .u8 c198) rfl (nz rfl rfl) ?_
         refine WO.go0 rfl rfl ?_
         refine WS (v := (.bool (decide (c198 > 126)))) rfl (nz rfl rfl) ?_
         refine WS (v := (.bool (decide (c198 > 126)))) rfl (nz rfl rfl) ?_
         refine WO.nil ?_
         exact ⟨(kc rfl (kc rfl (kc rfl (kc rfl (kc rfl (kc rfl known_nil)))))), H, rfl⟩
        ·intro H
         refine WO.by rfl rfl rfl ?_
         refine WO.by rfl rfl rfl ?_
         refine WS (v := .bool true) rfl (nz rfl rfl) ?_
         refine WO.nil ?_
         exact ⟨(kc rfl (kc rfl (kc rfl (kc rfl (kc rfl (kc rfl known_nil)))))), H, rfl⟩
       ·rintro σ S e ⟨hk, H, rfl⟩
        refine WO.of_known hk ?_
        refine WO.nil ?_
        obtain ⟨y224, hy224, hOy224⟩ := bindS h
        refine WC.join (fun σ' S' e' => Known ([(0, (.str a157)), (3, (.str [48, 49, 50, 51, 52, 53, 54, 55, 56, 57, 97, 98, 99, 100, 101, 102])), (4, (.str y224)), (5, (.int .i64 x159))]) σ' ∧ Hp S0 R S' [] [] [] ∧ e' = false) ?_ ?_
        ·replace h := hy224
         rcases iteS h with ⟨hc234, h⟩ | ⟨hc234, h⟩
         ·refine WC.condT rfl hc234 ?_
          refine WC.draw ?_
          refine WH.step (v := .str x158) rfl (nz rfl rfl) rfl rfl ?_
          obtain ⟨z225, hz225, h⟩ := bindS h
          refine WH.step (v := .str z225) rfl (nz rfl (stp_strApp rfl rfl hz225)) rfl rfl ?_
          refine WH.step (v := .str [48, 49, 50, 51, 52, 53, 54, 55, 56, 57, 97, 98, 99, 100, 101, 102]) rfl (nz rfl rfl) rfl rfl ?_
          refine WH.step (v := .int .u8 c198) rfl (nz rfl rfl) rfl rfl ?_
          obtain ⟨z226, hz226, h⟩ := bindS h
          refine WH.step (v := .int .u8 z226) rfl (nz rfl (stp_shr rfl rfl hz226)) rfl rfl ?_
          refine WH.step (v := .int .u8 c198) rfl (nz rfl rfl) rfl rfl ?_
          obtain ⟨z227, hz227, h⟩ := bindS h
          refine WH.step (v := .int .u8 z227) rfl (nz rfl (stp_shr rfl rfl hz227)) rfl rfl ?_
          refine WH.step (v := (.int .u8 (ad .u8 z227 1))) rfl (nz rfl rfl) rfl rfl ?_
          obtain ⟨z228, hz228, h⟩ := bindS h
          refine WH.step (v := .str z228) rfl (nz rfl (stp_subStr rfl rfl rfl rfl hz228)) rfl rfl ?_
          obtain ⟨z229, hz229, h⟩ := bindS h
          refine WH.step (v := .str z229) rfl (nz rfl (stp_strApp rfl rfl hz229)) rfl rfl ?_
          refine WH.step (v := .str [48, 49, 50, 51, 52, 53, 54, 55, 56, 57, 97, 98, 99, 100, 101, 102]) rfl (nz rfl rfl) rfl rfl ?_
          refine WH.step (v := .int .u8 c198) rfl (nz rfl rfl) rfl rfl ?_
          refine WH.step (v := (.int .u8 (bAnd .u8 c198 15))) rfl (nz rfl rfl) rfl rfl ?_
          refine WH.step (v := .int .u8 c198) rfl (nz rfl rfl) rfl rfl ?_
          refine WH.step (v := (.int .u8 (bAnd .u8 c198 15))) rfl (nz rfl rfl) rfl rfl ?_
          refine WH.step (v := (.int .u8 (ad .u8 (bAnd .u8 c198 15) 1))) rfl (nz rfl rfl) rfl rfl ?_
          obtain ⟨z230, hz230, h⟩ := bindS h
          refine WH.step (v := .str z230) rfl (nz rfl (stp_subStr rfl rfl rfl rfl hz230)) rfl rfl ?_
          refine WH.nil ?_
          obtain ⟨z231, hz231, h⟩ := bindS h
          refine WS (v := .str z231) rfl (nz rfl (stp_strApp rfl rfl hz231)) ?_
          refine WS (v := .str z231) rfl (nz rfl rfl) ?_
          refine WO.nil ?_
          refine KX.seq_n ?_
          obtain rfl := Option.some.inj h
          exact ⟨(kc rfl (kc rfl (kc rfl (kc rfl known_nil)))), (H.sub .slnil .slnil .slnil), rfl⟩
         ·refine WC.condF rfl hc234 ?_
          refine WC.region ?_
          refine WS (v := .str x158) rfl (nz rfl rfl) ?_
          refine WS (v := .str a157) rfl (nz rfl rfl) ?_
          refine WS (v := .int .i64 x159) rfl (nz rfl rfl) ?_
          refine WS (v := .int .i64 x159) rfl (nz rfl rfl) ?_
          refine WS (v := (.int .i64 (ad .i64 x159 1))) rfl (nz rfl rfl) ?_
          obtain ⟨z232, hz232, h⟩ := bindS h
          refine WS (v := .str z232) rfl (nz rfl (stp_subStr rfl rfl rfl rfl hz232)) ?_
          obtain ⟨z233, hz233, h⟩ := bindS h
          refine WS (v := .str z233) rfl (nz rfl (stp_strApp rfl rfl hz233)) ?_
          refine WS (v := .str z233) rfl (nz rfl rfl) ?_
          refine WO.nil ?_
          refine KX.seq_n ?_
          obtain rfl := Option.some.inj h
          exact ⟨(kc rfl (kc rfl (kc rfl (kc rfl known_nil)))), (H.sub .slnil .slnil .slnil), rfl⟩
        ·rintro σ S e ⟨hk, H, rfl⟩
         replace h := hOy224
         refine KX.of_known hk ?_
         refine KX.block_n ?_
         refine KX.seq_n ?_
         refine WC.region ?_
         refine WS (v := .int .i64 x159) rfl (nz rfl rfl) ?_
         refine WS (v := (.int .i64 (ad .i64 x159 1))) rfl (nz rfl rfl) ?_
         refine WS (v := (.int .i64 (ad .i64 x159 1))) rfl (nz rfl rfl) ?_
         refine WO.nil ?_
         refine KX.seq_n ?_
         exact ih h  (kc rfl (kc rfl (kc rfl (kc rfl known_nil)))) (H.sub .slnil .slnil .slnil)
  ·refine WC.condF rfl hc235 ?_
   refine WC.exit ?_
   refine KX.seq_x ?_
   refine KX.seq_x ?_
   obtain rfl := Option.some.inj h
   exact hbrk  (kc rfl known_nil) (H.sub .slnil .slnil .slnil)
theorem s22 : ∀ k : Nat, ∀ {a0 : Str} {r : Str}, F22 k a0 = some r → ∀ {vs : List PV}, vs.map PV.strip = [(.str a0)] → ∀ S : List SObj, evw env 22 vs S = some ((.str r), S, false) := by
 intro k a0 r h vs ha S
 unfold F22 at h
 refine evw_pureW (pf := fn22) rfl rfl ha (Nat.le_of_ble_eq_true rfl) rfl rfl ?_
 refine WB.of (pf := fn22) rfl ?_
 have H := Hp.start []
 refine WC.seqR ?_
 refine WS (v := .str []) rfl (nz rfl rfl) ?_
 refine WO.nil ?_
 refine WC.seqR ?_
 refine WS (v := .str [48, 49, 50, 51, 52, 53, 54, 55, 56, 57, 97, 98, 99, 100, 101, 102]) rfl (nz rfl rfl) ?_
 refine WO.nil ?_
 refine WC.seqR ?_
 refine WS (v := .str []) rfl (nz rfl rfl) ?_
 refine WO.nil ?_
 refine WC.seq ?_
 refine WC.seqR ?_
 refine WS (v := .int .i64 0) rfl (nz rfl rfl) ?_
 refine WO.nil ?_
 obtain ⟨y236, hy236, hOy236⟩ := bindS h
 refine WC.block ?_
 refine l22_L0 ?_ hy236  (kc rfl (kc rfl (kc rfl (kc rfl known_nil)))) (H.sub .slnil .slnil .slnil)
 ·intro σ S  hk H; replace h := hOy236
  refine KX.of_known hk ?_
  refine KX.block_x ?_
  refine KX.seq_n ?_
  refine WC.seqR ?_
  refine WS (v := .str y236.1) rfl (nz rfl rfl) ?_
  refine WS (v := .str y236.1) rfl (nz rfl rfl) ?_
  refine WO.nil ?_
  refine WC.ret ?_
  obtain rfl := Option.some.inj h
  refine KB.ret (vs := [(.str y236.1)]) (res_tmp rfl res_nil) (fl_cons' rfl rfl) ?_
  exact rfl
def F11_L0 (rc0 : Api_Filter → Option Str) (k : Nat) (a24 : Api_Filter) : Nat → Str → Int → Option (Str × Int)
 | 0, _, _ => none
 | n + 1, x22, x23 =>
  if decide (x23 < (Sl.len a24.Kids)) then
  Option.bind (Sl.at? a24.Kids x23) fun y29 =>
  Option.bind (rc0 y29) fun y30 =>
  Option.bind (Str.app? x22 y30) fun z31 =>
  F11_L0 rc0 k a24 n z31 (ad .i64 x23 1)
  else
  some (x22, x23)
def F11_L3 (rc0 : Api_Filter → Option Str) (k : Nat) (a21267 : Api_Filter) : Nat → Str → Int → Option (Str × Int)
 | 0, _, _ => none
 | n + 1, x21265, x21266 =>
  if decide (x21266 < (Sl.len a21267.Subs)) then
  Option.bind (if decide (x21266 > 0) then
  Option.bind (Str.app? x21265 [42]) fun z21284 =>
  some z21284
  else
  some x21265) fun y21283 =>
  Option.bind (Sl.at? a21267.Subs x21266) fun y21286 =>
  Option.bind (F22 k y21286) fun y21287 =>
  Option.bind (Str.app? y21283 y21287) fun z21288 =>
  F11_L3 rc0 k a21267 n z21288 (ad .i64 x21266 1)
  else
  some (x21265, x21266)
def F11 : Nat → Api_Filter → Option Str
 | 0, _ => none
 | k + 1, a0 =>
  Option.bind (F11_L0 (F11 k) k a0 k [] 0) fun y33 =>
  if a0.Kind == 1 then
  Option.bind (Str.app? [40, 38] y33.1) fun z15985 =>
  Option.bind (Str.app? z15985 [41]) fun z15986 =>
  some z15986
  else
  if a0.Kind == 2 then
  Option.bind (Str.app? [40, 124] y33.1) fun z18644 =>
  Option.bind (Str.app? z18644 [41]) fun z18645 =>
  some z18645
  else
  if a0.Kind == 3 then
  Option.bind (Str.app? [40, 33] y33.1) fun z19973 =>
  Option.bind (Str.app? z19973 [41]) fun z19974 =>
  some z19974
  else
  if a0.Kind == 5 then
  Option.bind (Str.app? [40] a0.Attr) fun z20637 =>
  Option.bind (Str.app? z20637 [62, 61]) fun z20638 =>
  Option.bind (F22 k a0.Value) fun y20639 =>
  Option.bind (Str.app? z20638 y20639) fun z20640 =>
  Option.bind (Str.app? z20640 [41]) fun z20641 =>
  some z20641
  else
  if a0.Kind == 6 then
  Option.bind (Str.app? [40] a0.Attr) fun z20970 =>
  Option.bind (Str.app? z20970 [60, 61]) fun z20971 =>
  Option.bind (F22 k a0.Value) fun y20972 =>
  Option.bind (Str.app? z20971 y20972) fun z20973 =>
  Option.bind (Str.app? z20973 [41]) fun z20974 =>
  some z20974
  else
  if a0.Kind == 7 then
  Option.bind (Str.app? [40] a0.Attr) fun z21136 =>
  Option.bind (Str.app? z21136 [61, 42, 41]) fun z21137 =>
  some z21137
  else
  if a0.Kind == 8 then
  Option.bind (F11_L3 (F11 k) k a0 k [] 0) fun y21290 =>
  Option.bind (Str.app? [40] a0.Attr) fun z21291 =>
  Option.bind (Str.app? z21291 [61]) fun z21292 =>
  Option.bind (Str.app? z21292 y21290.1) fun z21293 =>
  Option.bind (Str.app? z21293 [41]) fun z21294 =>
  some z21294
  else
  Option.bind (Str.app? [40] a0.Attr) fun z21295 =>
  Option.bind (Str.app? z21295 [61]) fun z21296 =>
  Option.bind (F22 k a0.Value) fun y21297 =>
  Option.bind (Str.app? z21296 y21297) fun z21298 =>
  Option.bind (Str.app? z21298 [41]) fun z21299 =>
  some z21299
theorem l11_L0 {rc0 : Api_Filter → Option Str} (hrc0 : ∀ {a0 : Api_Filter} {r : Str}, rc0 a0 = some r → ∀ {vs : List PV}, vs.map PV.strip = [(.agg [(.int .i64 a0.Kind), (.str a0.Attr), (.str a0.Value), (encSl eS a0.Subs), (encSl e_Api_Filter a0.Kids)])] → ∀ S : List SObj, evw env 11 vs S = some ((.str r), S, false)) {k : Nat} {a24 : Api_Filter} {S0 : List SObj} {R : List Nat} {K : KX} {i1 : Nat} (hi1 : S0.length ≤ i1)  {o : (Str × Int)}
  (hbrk : ∀ {σ' : Nat → PV} {S' : List SObj}, Known [(1, (.ptr i1 0)), (3, (.str o.1))] σ' → Hp S0 R S' [(i1, .cells [(.int .i64 a24.Kind), (.str a24.Attr), (.str a24.Value), (encSl eS a24.Subs), (encSl e_Api_Filter a24.Kids)])] [] [] → K (.exit 0) σ' S' false) :
  ∀ {n : Nat} {x22 : Str} {x23 : Int}, F11_L0 rc0 k a24 n x22 x23 = some o → ∀ {σ : Nat → PV} {S : List SObj}, Known [(1, (.ptr i1 0)), (3, (.str x22)), (4, (.int .i64 x23))] σ → Hp S0 R S [(i1, .cells [(.int .i64 a24.Kind), (.str a24.Attr), (.str a24.Value), (encSl eS a24.Subs), (encSl e_Api_Filter a24.Kids)])] [] [] → WC env ⟨104, S0.length⟩ (.loop pc11L0) σ S false K := by
 intro n
 induction n with
 | zero => intro _ _ h; cases h
 | succ n ih =>
  intro x22 x23 h σ S  hk H
  rw [F11_L0] at h
  refine WC.loop ?_
  refine WC.of_known hk ?_
  refine WC.seq ?_
  refine WC.seqR ?_
  refine WS (v := .int .i64 x23) rfl (nz rfl rfl) ?_
  refine WS (v := .ptr i1 4) rfl (nz rfl rfl) ?_
  refine WS (v := (encSl e_Api_Filter a24.Kids)) rfl (nz rfl (stp_load rfl (H.get 0 rfl) rfl)) ?_
  refine WS (v := (.int .i64 (Sl.len a24.Kids))) rfl (nz rfl (stp_len rfl (isSl_enc _ _) rfl)) ?_
  refine WS (v := (.bool (decide (x23 < (Sl.len a24.Kids))))) rfl (nz rfl rfl) ?_
  refine WO.nil ?_
  rcases iteS h with ⟨hc32, h⟩ | ⟨hc32, h⟩
  ·refine WC.condT rfl hc32 ?_
   refine WC.skip ?_
   refine KX.seq_n ?_
   refine WC.seq ?_
   refine WC.block ?_
   refine WC.region ?_
   refine WS (v := .str x22) rfl (nz rfl rfl) ?_
   refine WS (v := .ptr i1 4) rfl (nz rfl rfl) ?_
   refine WS (v := (encSl e_Api_Filter a24.Kids)) rfl (nz rfl (stp_load rfl (H.get 0 rfl) rfl)) ?_
   refine WS (v := .int .i64 x23) rfl (nz rfl rfl) ?_
   obtain ⟨y29, hy29, h⟩ := bindS h
   refine WS (v := (.iptr [(.int .i64 y29.Kind), (.str y29.Attr), (.str y29.Value), (encSl eS y29.Subs), (encSl e_Api_Filter y29.Kids)] 0)) rfl (nz rfl (stp_idxAddr rfl (isSl_enc _ _) rfl rfl rfl hy29 (e_Api_Filter_cells _) rfl)) ?_
   refine WS (v := (.agg [(.int .i64 y29.Kind), (.str y29.Attr), (.str y29.Value), (encSl eS y29.Subs), (encSl e_Api_Filter y29.Kids)])) rfl (nz rfl rfl) ?_
   obtain ⟨y30, hy30, h⟩ := bindS h
   refine WS (v := .str y30) rfl (nz rfl (stp_call (vs := [(.agg [(.int .i64 y29.Kind), (.str y29.Attr), (.str y29.Value), (encSl eS y29.Subs), (encSl e_Api_Filter y29.Kids)])]) rfl rfl (hrc0 hy30 (by simp only [st_agg, List.map_cons, List.map_nil, st1_int, st1_str, strip1_enc, e_Api_Filter_eq, tupled]) _))) ?_
   obtain ⟨z31, hz31, h⟩ := bindS h
   refine WS (v := .str z31) rfl (nz rfl (stp_strApp rfl rfl hz31)) ?_
   refine WS (v := .str z31) rfl (nz rfl rfl) ?_
   refine WO.nil ?_
   refine KX.block_n ?_
   refine KX.seq_n ?_
   refine WC.region ?_
   refine WS (v := .int .i64 x23) rfl (nz rfl rfl) ?_
   refine WS (v := (.int .i64 (ad .i64 x23 1))) rfl (nz rfl rfl) ?_
   refine WS (v := (.int .i64 (ad .i64 x23 1))) rfl (nz rfl rfl) ?_
   refine WO.nil ?_
   refine KX.seq_n ?_
   exact ih h  (kc rfl (kc rfl (kc rfl known_nil))) (H.sub (.cons_cons _ .slnil) .slnil .slnil)
  ·refine WC.condF rfl hc32 ?_
   refine WC.exit ?_
   refine KX.seq_x ?_
   refine KX.seq_x ?_
   obtain rfl := Option.some.inj h
   exact hbrk  (kc rfl (kc rfl known_nil)) (H.sub (.cons_cons _ .slnil) .slnil .slnil)
theorem l11_L3 {rc0 : Api_Filter → Option Str} (hrc0 : ∀ {a0 : Api_Filter} {r : Str}, rc0 a0 = some r → ∀ {vs : List PV}, vs.map PV.strip = [(.agg [(.int .i64 a0.Kind), (.str a0.Attr), (.str a0.Value), (encSl eS a0.Subs), (encSl e_Api_Filter a0.Kids)])] → ∀ S : List SObj, evw env 11 vs S = some ((.str r), S, false)) {k : Nat} {a21267 : Api_Filter} {S0 : List SObj} {R : List Nat} {K : KX} {i1 : Nat} (hi1 : S0.length ≤ i1)  {o : (Str × Int)}
  (hbrk : ∀ {σ' : Nat → PV} {S' : List SObj}, Known [(1, (.ptr i1 0)), (5, (.str o.1))] σ' → Hp S0 R S' [(i1, .cells [(.int .i64 a21267.Kind), (.str a21267.Attr), (.str a21267.Value), (encSl eS a21267.Subs), (encSl e_Api_Filter a21267.Kids)])] [] [] → K (.exit 3) σ' S' false) :
  ∀ {n : Nat} {x21265 : Str} {x21266 : Int}, F11_L3 rc0 k a21267 n x21265 x21266 = some o → ∀ {σ : Nat → PV} {S : List SObj}, Known [(1, (.ptr i1 0)), (5, (.str x21265)), (6, (.int .i64 x21266))] σ → Hp S0 R S [(i1, .cells [(.int .i64 a21267.Kind), (.str a21267.Attr), (.str a21267.Value), (encSl eS a21267.Subs), (encSl e_Api_Filter a21267.Kids)])] [] [] → WC env ⟨104, S0.length⟩ (.loop pc11L3) σ S false K := by
 intro n
 induction n with
 | zero => intro _ _ h; cases h
 | succ n ih =>
  intro x21265 x21266 h σ S  hk H
  rw [F11_L3] at h
  refine WC.loop ?_
  refine WC.of_known hk ?_
  refine WC.seq ?_
  refine WC.seqR ?_
  refine WS (v := .int .i64 x21266) rfl (nz rfl rfl) ?_
  refine WS (v := .ptr i1 3) rfl (nz rfl rfl) ?_
  refine WS (v := (encSl eS a21267.Subs)) rfl (nz rfl (stp_load rfl (H.get 0 rfl) rfl)) ?_
  refine WS (v := (.int .i64 (Sl.len a21267.Subs))) rfl (nz rfl (stp_len rfl (isSl_enc _ _) rfl)) ?_
  refine WS (v := (.bool (decide (x21266 < (Sl.len a21267.Subs))))) rfl (nz rfl rfl) ?_
  refine WO.nil ?_
  rcases iteS h with ⟨hc21289, h⟩ | ⟨hc21289, h⟩
  ·refine WC.condT rfl hc21289 ?_
   refine WC.skip ?_
   refine KX.seq_n ?_
   refine WC.seq ?_
   refine WC.block ?_
   refine WC.seq ?_
   refine WC.seqR ?_
   refine WS (v := .int .i64 x21266) rfl (nz rfl rfl) ?_
   refine WS (v := (.bool (decide (x21266 > 0)))) rfl (nz rfl rfl) ?_
   refine WO.nil ?_
   obtain ⟨y21283, hy21283, hOy21283⟩ := bindS h
   refine WC.join (fun σ' S' e' => Known ([(1, (.ptr i1 0)), (5, (.str y21283)), (6, (.int .i64 x21266))]) σ' ∧ Hp S0 R S' [(i1, .cells [(.int .i64 a21267.Kind), (.str a21267.Attr), (.str a21267.Value), (encSl eS a21267.Subs), (encSl e_Api_Filter a21267.Kids)])] [] [] ∧ e' = false) ?_ ?_
   ·replace h := hy21283
    rcases iteS h with ⟨hc21285, h⟩ | ⟨hc21285, h⟩
    ·refine WC.condT rfl hc21285 ?_
     refine WC.region ?_
     refine WS (v := .str x21265) rfl (nz rfl rfl) ?_
     obtain ⟨z21284, hz21284, h⟩ := bindS h
     refine WS (v := .str z21284) rfl (nz rfl (stp_strApp rfl rfl hz21284)) ?_
     refine WS (v := .str z21284) rfl (nz rfl rfl) ?_
     refine WO.nil ?_
     refine KX.seq_n ?_
     obtain rfl := Option.some.inj h
     exact ⟨(kc rfl (kc rfl (kc rfl known_nil))), (H.sub (.cons_cons _ .slnil) .slnil .slnil), rfl⟩
    ·refine WC.condF rfl hc21285 ?_
     refine WC.skip ?_
     refine KX.seq_n ?_
     obtain rfl := Option.some.inj h
     exact ⟨(kc rfl (kc rfl (kc rfl known_nil))), (H.sub (.cons_cons _ .slnil) .slnil .slnil), rfl⟩
   ·rintro σ S e ⟨hk, H, rfl⟩
    replace h := hOy21283
    refine KX.of_known hk ?_
    refine KX.seq_n ?_
    refine WC.region ?_
    refine WS (v := .str y21283) rfl (nz rfl rfl) ?_
    refine WS (v := .ptr i1 3) rfl (nz rfl rfl) ?_
    refine WS (v := (encSl eS a21267.Subs)) rfl (nz rfl (stp_load rfl (H.get 0 rfl) rfl)) ?_
    refine WS (v := .int .i64 x21266) rfl (nz rfl rfl) ?_
    obtain ⟨y21286, hy21286, h⟩ := bindS h
    refine WS (v := (.iptr [(.str y21286)] 0)) rfl (nz rfl (stp_idxAddr rfl (isSl_enc _ _) rfl rfl rfl hy21286 rfl rfl)) ?_
    refine WS (v := .str y21286) rfl (nz rfl rfl) ?_
    obtain ⟨y21287, hy21287, h⟩ := bindS h
    refine WS (v := .str y21287) rfl (nz rfl (stp_call (vs := [(.str y21286)]) rfl rfl (s22 _ hy21287 rfl _))) ?_
    obtain ⟨z21288, hz21288, h⟩ := bindS h
    refine WS (v := .str z21288) rfl (nz rfl (stp_strApp rfl rfl hz21288)) ?_
    refine WS (v := .str z21288) rfl (nz rfl rfl) ?_
    refine WO.nil ?_
    refine KX.block_n ?_
    refine KX.seq_n ?_
    refine WC.region ?_
    refine WS (v := .int .i64 x21266) rfl (nz rfl rfl) ?_
    refine WS (v := (.int .i64 (ad .i64 x21266 1))) rfl (nz rfl rfl) ?_
    refine WS (v := (.int .i64 (ad .i64 x21266 1))) rfl (nz rfl rfl) ?_
    refine WO.nil ?_
    refine KX.seq_n ?_
    exact ih h  (kc rfl (kc rfl (kc rfl known_nil))) (H.sub (.cons_cons _ .slnil) .slnil .slnil)
  ·refine WC.condF rfl hc21289 ?_
   refine WC.exit ?_
   refine KX.seq_x ?_
   refine KX.seq_x ?_
   obtain rfl := Option.some.inj h
   exact hbrk  (kc rfl (kc rfl known_nil)) (H.sub (.cons_cons _ .slnil) .slnil .slnil)
theorem s11 : ∀ k : Nat, ∀ {a0 : Api_Filter} {r : Str}, F11 k a0 = some r → ∀ {vs : List PV}, vs.map PV.strip = [(.agg [(.int .i64 a0.Kind), (.str a0.Attr), (.str a0.Value), (encSl eS a0.Subs), (encSl e_Api_Filter a0.Kids)])] → ∀ S : List SObj, evw env 11 vs S = some ((.str r), S, false) := by
 intro k
 induction k with
 | zero => intro _ r h; cases h
 | succ k ih =>
  intro a0 r h vs ha S
  rw [F11] at h
  refine evw_pureW (pf := fn11) rfl rfl ha (Nat.le_of_ble_eq_true rfl) (by simp [PV.clean, cleanL, clean_encSl clean_Api_Filter, clean_encSl clean_eS]) rfl ?_
  refine WB.of (pf := fn11) rfl ?_
  have H := Hp.start []
  refine WC.seqR ?_
  refine WO.box' rfl rfl rfl rfl rfl H ?_
  intro i1 S hi1 H
  refine WS (v := .str []) rfl (nz rfl rfl) ?_
  refine WO.nil ?_
  refine WC.seqR ?_
  refine WS (v := .str []) rfl (nz rfl rfl) ?_
  refine WO.nil ?_
  refine WC.seq ?_
  refine WC.seqR ?_
  refine WS (v := .int .i64 0) rfl (nz rfl rfl) ?_
  refine WO.nil ?_
  obtain ⟨y33, hy33, hOy33⟩ := bindS h
  refine WC.block ?_
  refine l11_L0 ih hi1 ?_ hy33  (kc rfl (kc rfl (kc rfl known_nil))) (H.sub (.cons_cons _ .slnil) .slnil .slnil)
  ·intro σ S  hk H; replace h := hOy33
   refine KX.of_known hk ?_
   refine KX.block_x ?_
   refine KX.seq_n ?_
   refine WC.seq ?_
   refine WC.seqR ?_
   refine WS (v := .ptr i1 0) rfl (nz rfl rfl) ?_
   refine WS (v := .int .i64 a0.Kind) rfl (nz rfl (stp_load rfl (H.get 0 rfl) rfl)) ?_
   refine WO.nil ?_
   refine WC.block ?_
   refine WC.seqR ?_
   refine WS (v := (.bool (a0.Kind == 1))) rfl (nz rfl rfl) ?_
   refine WS (v := (.bool (a0.Kind == 1))) rfl (nz rfl rfl) ?_
   refine WO.nil ?_
   rcases iteS h with ⟨hc21306, h⟩ | ⟨hc21306, h⟩
   ·refine WC.condT rfl hc21306 ?_
    refine WC.seqR ?_
    refine WS (v := .str y33.1) rfl (nz rfl rfl) ?_
    obtain ⟨z15985, hz15985, h⟩ := bindS h
    refine WS (v := .str z15985) rfl (nz rfl (stp_strApp rfl rfl hz15985)) ?_
    obtain ⟨z15986, hz15986, h⟩ := bindS h
    refine WS (v := .str z15986) rfl (nz rfl (stp_strApp rfl rfl hz15986)) ?_
    refine WS (v := .str z15986) rfl (nz rfl rfl) ?_
    refine WO.nil ?_
    refine WC.ret ?_
    refine KX.block_r ?_
    refine KX.seq_r ?_
    obtain rfl := Option.some.inj h
    refine KB.ret (vs := [(.str z15986)]) (res_tmp rfl res_nil) (fl_cons' rfl rfl) ?_
    exact rfl
   ·refine WC.condF rfl hc21306 ?_
    refine WC.seqR ?_
    refine WS (v := (.bool (a0.Kind == 2))) rfl (nz rfl rfl) ?_
    refine WS (v := (.bool (a0.Kind == 2))) rfl (nz rfl rfl) ?_
    refine WO.nil ?_
    rcases iteS h with ⟨hc21305, h⟩ | ⟨hc21305, h⟩
    ·refine WC.condT rfl hc21305 ?_
     refine WC.seqR ?_
     refine WS (v := .str y33.1) rfl (nz rfl rfl) ?_
     obtain ⟨z18644, hz18644, h⟩ := bindS h
     refine WS (v := .str z18644) rfl (nz rfl (stp_strApp rfl rfl hz18644)) ?_
     obtain ⟨z18645, hz18645, h⟩ := bindS h
     refine WS (v := .str z18645) rfl (nz rfl (stp_strApp rfl rfl hz18645)) ?_
     refine WS (v := .str z18645) rfl (nz rfl rfl) ?_
     refine WO.nil ?_
     refine WC.ret ?_
     refine KX.block_r ?_
     refine KX.seq_r ?_
     obtain rfl := Option.some.inj h
     refine KB.ret (vs := [(.str z18645)]) (res_tmp rfl res_nil) (fl_cons' rfl rfl) ?_
     exact rfl
    ·refine WC.condF rfl hc21305 ?_
     refine WC.seqR ?_
     refine WS (v := (.bool (a0.Kind == 3))) rfl (nz rfl rfl) ?_
     refine WS (v := (.bool (a0.Kind == 3))) rfl (nz rfl rfl) ?_
     refine WO.nil ?_
     rcases iteS h with ⟨hc21304, h⟩ | ⟨hc21304, h⟩
     ·refine WC.condT rfl hc21304 ?_
      refine WC.seqR ?_
      refine WS (v := .str y33.1) rfl (nz rfl rfl) ?_
      obtain ⟨z19973, hz19973, h⟩ := bindS h
      refine WS (v := .str z19973) rfl (nz rfl (stp_strApp rfl rfl hz19973)) ?_
      obtain ⟨z19974, hz19974, h⟩ := bindS h
      refine WS (v := .str z19974) rfl (nz rfl (stp_strApp rfl rfl hz19974)) ?_
      refine WS (v := .str z19974) rfl (nz rfl rfl) ?_
      refine WO.nil ?_
      refine WC.ret ?_
      refine KX.block_r ?_
      refine KX.seq_r ?_
      obtain rfl := Option.some.inj h
      refine KB.ret (vs := [(.str z19974)]) (res_tmp rfl res_nil) (fl_cons' rfl rfl) ?_
      exact rfl
     ·refine WC.condF rfl hc21304 ?_
      refine WC.seqR ?_
      refine WS (v := (.bool (a0.Kind == 5))) rfl (nz rfl rfl) ?_
      refine WS (v := (.bool (a0.Kind == 5))) rfl (nz rfl rfl) ?_
      refine WO.nil ?_
      rcases iteS h with ⟨hc21303, h⟩ | ⟨hc21303, h⟩
      ·refine WC.condT rfl hc21303 ?_
       refine WC.seq ?_
       refine WC.draw ?_
       refine WH.step (v := .ptr i1 1) rfl (nz rfl rfl) rfl rfl ?_
       refine WH.step (v := .str a0.Attr) rfl (nz rfl (stp_load rfl (H.get 0 rfl) rfl)) rfl rfl ?_
       obtain ⟨z20637, hz20637, h⟩ := bindS h
       refine WH.step (v := .str z20637) rfl (nz rfl (stp_strApp rfl rfl hz20637)) rfl rfl ?_
       obtain ⟨z20638, hz20638, h⟩ := bindS h
       refine WH.step (v := .str z20638) rfl (nz rfl (stp_strApp rfl rfl hz20638)) rfl rfl ?_
       refine WH.step (v := .ptr i1 2) rfl (nz rfl rfl) rfl rfl ?_
       refine WH.step (v := .str a0.Value) rfl (nz rfl (stp_load rfl (H.get 0 rfl) rfl)) rfl rfl ?_
       obtain ⟨y20639, hy20639, h⟩ := bindS h
       refine WH.step (v := .str y20639) rfl (nz rfl (stp_call (vs := [(.str a0.Value)]) rfl rfl (s22 _ hy20639 rfl _))) rfl rfl ?_
       refine WH.nil ?_
       obtain ⟨z20640, hz20640, h⟩ := bindS h
       refine WS (v := .str z20640) rfl (nz rfl (stp_strApp rfl rfl hz20640)) ?_
       obtain ⟨z20641, hz20641, h⟩ := bindS h
       refine WS (v := .str z20641) rfl (nz rfl (stp_strApp rfl rfl hz20641)) ?_
       refine WS (v := .str z20641) rfl (nz rfl rfl) ?_
       refine WO.nil ?_
       refine KX.seq_n ?_
       refine WC.ret ?_
       refine KX.block_r ?_
       refine KX.seq_r ?_
       obtain rfl := Option.some.inj h
       refine KB.ret (vs := [(.str z20641)]) (res_tmp rfl res_nil) (fl_cons' rfl rfl) ?_
       exact rfl
      ·refine WC.condF rfl hc21303 ?_
       refine WC.seqR ?_
       refine WS (v := (.bool (a0.Kind == 6))) rfl (nz rfl rfl) ?_
       refine WS (v := (.bool (a0.Kind == 6))) rfl (nz rfl rfl) ?_
       refine WO.nil ?_
       rcases iteS h with ⟨hc21302, h⟩ | ⟨hc21302, h⟩
       ·refine WC.condT rfl hc21302 ?_
        refine WC.seq ?_
        refine WC.draw ?_
        refine WH.step (v := .ptr i1 1) rfl (nz rfl rfl) rfl rfl ?_
        refine WH.step (v := .str a0.Attr) rfl (nz rfl (stp_load rfl (H.get 0 rfl) rfl)) rfl rfl ?_
        obtain ⟨z20970, hz20970, h⟩ := bindS h
        refine WH.step (v := .str z20970) rfl (nz rfl (stp_strApp rfl rfl hz20970)) rfl rfl ?_
        obtain ⟨z20971, hz20971, h⟩ := bindS h
        refine WH.step (v := .str z20971) rfl (nz rfl (stp_strApp rfl rfl hz20971)) rfl rfl ?_
        refine WH.step (v := .ptr i1 2) rfl (nz rfl rfl) rfl rfl ?_
        refine WH.step (v := .str a0.Value) rfl (nz rfl (stp_load rfl (H.get 0 rfl) rfl)) rfl rfl ?_
        obtain ⟨y20972, hy20972, h⟩ := bindS h
        refine WH.step (v := .str y20972) rfl (nz rfl (stp_call (vs := [(.str a0.Value)]) rfl rfl (s22 _ hy20972 rfl _))) rfl rfl ?_
        refine WH.nil ?_
        obtain ⟨z20973, hz20973, h⟩ := bindS h
        refine WS (v := .str z20973) rfl (nz rfl (stp_strApp rfl rfl hz20973)) ?_
        obtain ⟨z20974, hz20974, h⟩ := bindS h
        refine WS (v := .str z20974) rfl (nz rfl (stp_strApp rfl rfl hz20974)) ?_
        refine WS (v := .str z20974) rfl (nz rfl rfl) ?_
        refine WO.nil ?_
        refine KX.seq_n ?_
        refine WC.ret ?_
        refine KX.block_r ?_
        refine KX.seq_r ?_
        obtain rfl := Option.some.inj h
        refine KB.ret (vs := [(.str z20974)]) (res_tmp rfl res_nil) (fl_cons' rfl rfl) ?_
        exact rfl
       ·refine WC.condF rfl hc21302 ?_
        refine WC.seqR ?_
        refine WS (v := (.bool (a0.Kind == 7))) rfl (nz rfl rfl) ?_
        refine WS (v := (.bool (a0.Kind == 7))) rfl (nz rfl rfl) ?_
        refine WO.nil ?_
        rcases iteS h with ⟨hc21301, h⟩ | ⟨hc21301, h⟩
        ·refine WC.condT rfl hc21301 ?_
         refine WC.seqR ?_
         refine WS (v := .ptr i1 1) rfl (nz rfl rfl) ?_
         refine WS (v := .str a0.Attr) rfl (nz rfl (stp_load rfl (H.get 0 rfl) rfl)) ?_
         obtain ⟨z21136, hz21136, h⟩ := bindS h
         refine WS (v := .str z21136) rfl (nz rfl (stp_strApp rfl rfl hz21136)) ?_
         obtain ⟨z21137, hz21137, h⟩ := bindS h
         refine WS (v := .str z21137) rfl (nz rfl (stp_strApp rfl rfl hz21137)) ?_
         refine WS (v := .str z21137) rfl (nz rfl rfl) ?_
         refine WO.nil ?_
         refine WC.ret ?_
         refine KX.block_r ?_
         refine KX.seq_r ?_
         obtain rfl := Option.some.inj h
         refine KB.ret (vs := [(.str z21137)]) (res_tmp rfl res_nil) (fl_cons' rfl rfl) ?_
         exact rfl
        ·refine WC.condF rfl hc21301 ?_
         refine WC.seqR ?_
         refine WS (v := (.bool (a0.Kind == 8))) rfl (nz rfl rfl) ?_
         refine WS (v := (.bool (a0.Kind == 8))) rfl (nz rfl rfl) ?_
         refine WO.nil ?_
         rcases iteS h with ⟨hc21300, h⟩ | ⟨hc21300, h⟩
         ·refine WC.condT rfl hc21300 ?_
          refine WC.seqR ?_
          refine WS (v := .str []) rfl (nz rfl rfl) ?_
          refine WO.nil ?_
          refine WC.seq ?_
          refine WC.seqR ?_
          refine WS (v := .int .i64 0) rfl (nz rfl rfl) ?_
          refine WO.nil ?_
          obtain ⟨y21290, hy21290, hOy21290⟩ := bindS h
          refine WC.block ?_
          refine l11_L3 ih hi1 ?_ hy21290  (kc rfl (kc rfl (kc rfl known_nil))) (H.sub (.cons_cons _ .slnil) .slnil .slnil)
          ·intro σ S  hk H; replace h := hOy21290
           refine KX.of_known hk ?_
           refine KX.block_x ?_
           refine KX.seq_n ?_
           refine WC.seqR ?_
           refine WS (v := .ptr i1 1) rfl (nz rfl rfl) ?_
           refine WS (v := .str a0.Attr) rfl (nz rfl (stp_load rfl (H.get 0 rfl) rfl)) ?_
           obtain ⟨z21291, hz21291, h⟩ := bindS h
           refine WS (v := .str z21291) rfl (nz rfl (stp_strApp rfl rfl hz21291)) ?_
           obtain ⟨z21292, hz21292, h⟩ := bindS h
           refine WS (v := .str z21292) rfl (nz rfl (stp_strApp rfl rfl hz21292)) ?_
           refine WS (v := .str y21290.1) rfl (nz rfl rfl) ?_
           obtain ⟨z21293, hz21293, h⟩ := bindS h
           refine WS (v := .str z21293) rfl (nz rfl (stp_strApp rfl rfl hz21293)) ?_
           obtain ⟨z21294, hz21294, h⟩ := bindS h
           refine WS (v := .str z21294) rfl (nz rfl (stp_strApp rfl rfl hz21294)) ?_
           refine WS (v := .str z21294) rfl (nz rfl rfl) ?_
           refine WO.nil ?_
           refine WC.ret ?_
           refine KX.block_r ?_
           refine KX.seq_r ?_
           obtain rfl := Option.some.inj h
           refine KB.ret (vs := [(.str z21294)]) (res_tmp rfl res_nil) (fl_cons' rfl rfl) ?_
           exact rfl
         ·refine WC.condF rfl hc21300 ?_
          refine WC.skip ?_
          refine KX.block_n ?_
          refine KX.seq_n ?_
          refine WC.seq ?_
          refine WC.draw ?_
          refine WH.step (v := .ptr i1 1) rfl (nz rfl rfl) rfl rfl ?_
          refine WH.step (v := .str a0.Attr) rfl (nz rfl (stp_load rfl (H.get 0 rfl) rfl)) rfl rfl ?_
          obtain ⟨z21295, hz21295, h⟩ := bindS h
          refine WH.step (v := .str z21295) rfl (nz rfl (stp_strApp rfl rfl hz21295)) rfl rfl ?_
          obtain ⟨z21296, hz21296, h⟩ := bindS h
          refine WH.step (v := .str z21296) rfl (nz rfl (stp_strApp rfl rfl hz21296)) rfl rfl ?_
          refine WH.step (v := .ptr i1 2) rfl (nz rfl rfl) rfl rfl ?_
          refine WH.step (v := .str a0.Value) rfl (nz rfl (stp_load rfl (H.get 0 rfl) rfl)) rfl rfl ?_
          obtain ⟨y21297, hy21297, h⟩ := bindS h
          refine WH.step (v := .str y21297) rfl (nz rfl (stp_call (vs := [(.str a0.Value)]) rfl rfl (s22 _ hy21297 rfl _))) rfl rfl ?_
          refine WH.nil ?_
          obtain ⟨z21298, hz21298, h⟩ := bindS h
          refine WS (v := .str z21298) rfl (nz rfl (stp_strApp rfl rfl hz21298)) ?_
          obtain ⟨z21299, hz21299, h⟩ := bindS h
          refine WS (v := .str z21299) rfl (nz rfl (stp_strApp rfl rfl hz21299)) ?_
          refine WS (v := .str z21299) rfl (nz rfl rfl) ?_
          refine WO.nil ?_
          refine KX.seq_n ?_
          refine WC.ret ?_
          obtain rfl := Option.some.inj h
          refine KB.ret (vs := [(.str z21299)]) (res_tmp rfl res_nil) (fl_cons' rfl rfl) ?_
          exact rfl
def F17_L0 (rc0 : Api_Filter → Api_Filter → Option Bool) (k : Nat) (a34 : Api_Filter) (a35 : Api_Filter) : Nat → Int → Option (Out Bool Int)
 | 0, _ => none
 | n + 1, x33 =>
  if decide (x33 < (Sl.len a35.Subs)) then
  Option.bind (Sl.at? a35.Subs x33) fun y41 =>
  Option.bind (Sl.at? a34.Subs x33) fun y42 =>
  if !(y41 == y42) then
  some (Out.ret false)
  else
  F17_L0 rc0 k a34 a35 n (ad .i64 x33 1)
  else
  some (Out.brk x33)
def F17_L2 (rc0 : Api_Filter → Api_Filter → Option Bool) (k : Nat) (a77 : Api_Filter) (a78 : Api_Filter) : Nat → Int → Option (Out Bool Int)
 | 0, _ => none
 | n + 1, x76 =>
  if decide (x76 < (Sl.len a78.Kids)) then
  Option.bind (Sl.at? a78.Kids x76) fun y85 =>
  Option.bind (Sl.at? a77.Kids x76) fun y86 =>
  Option.bind (rc0 y85 y86) fun y87 =>
  if !y87 then
  some (Out.ret false)
  else
  F17_L2 rc0 k a77 a78 n (ad .i64 x76 1)
  else
  some (Out.brk x76)
def F17 : Nat → Api_Filter → Api_Filter → Option Bool
 | 0, _, _ => none
 | k + 1, a0, a1 =>
  if ((((a0.Kind != a1.Kind) || (!(a0.Attr == a1.Attr))) || (!(a0.Value == a1.Value))) || ((Sl.len a0.Subs) != (Sl.len a1.Subs))) || ((Sl.len a0.Kids) != (Sl.len a1.Kids)) then
  some false
  else
  Option.bind (F17_L0 (F17 k) k a1 a0 k 0) fun y46 =>
  match y46 with
  | .ret y46r => some y46r
  | .brk y46b =>
  Option.bind (F17_L2 (F17 k) k a1 a0 k 0) fun y91 =>
  match y91 with
  | .ret y91r => some y91r
  | .brk y91b =>
  some true
theorem l17_L0 {rc0 : Api_Filter → Api_Filter → Option Bool} (hrc0 : ∀ {a0 : Api_Filter} {a1 : Api_Filter} {r : Bool}, rc0 a0 a1 = some r → ∀ {vs : List PV}, vs.map PV.strip = [(.agg [(.int .i64 a0.Kind), (.str a0.Attr), (.str a0.Value), (encSl eS a0.Subs), (encSl e_Api_Filter a0.Kids)]), (.agg [(.int .i64 a1.Kind), (.str a1.Attr), (.str a1.Value), (encSl eS a1.Subs), (encSl e_Api_Filter a1.Kids)])] → ∀ S : List SObj, evw env 17 vs S = some ((.bool r), S, false)) {k : Nat} {a34 : Api_Filter} {a35 : Api_Filter} {S0 : List SObj} {R : List Nat} {K : KX} {i2 : Nat} {i1 : Nat} (hi2 : S0.length ≤ i2) (hi1 : S0.length ≤ i1)  {o : Out Bool Int}
  (hret : ∀ r : Bool, o = .ret r → ∀ {σ' : Nat → PV} {S' : List SObj}, Known [(4, (.bool r))] σ' → Hp S0 R S' [] [] [] → K .ret σ' S' false)
  (hbrk : ∀ y : Int, o = .brk y → ∀ {σ' : Nat → PV} {S' : List SObj}, Known [(2, (.ptr i1 0)), (3, (.ptr i2 0))] σ' → Hp S0 R S' [(i2, .cells [(.int .i64 a34.Kind), (.str a34.Attr), (.str a34.Value), (encSl eS a34.Subs), (encSl e_Api_Filter a34.Kids)]), (i1, .cells [(.int .i64 a35.Kind), (.str a35.Attr), (.str a35.Value), (encSl eS a35.Subs), (encSl e_Api_Filter a35.Kids)])] [] [] → K (.exit 0) σ' S' false) :
  ∀ {n : Nat} {x33 : Int}, F17_L0 rc0 k a34 a35 n x33 = some o → ∀ {σ : Nat → PV} {S : List SObj}, Known [(2, (.ptr i1 0)), (3, (.ptr i2 0)), (5, (.int .i64 x33))] σ → Hp S0 R S [(i2, .cells [(.int .i64 a34.Kind), (.str a34.Attr), (.str a34.Value), (encSl eS a34.Subs), (encSl e_Api_Filter a34.Kids)]), (i1, .cells [(.int .i64 a35.Kind), (.str a35.Attr), (.str a35.Value), (encSl eS a35.Subs), (encSl e_Api_Filter a35.Kids)])] [] [] → WC env ⟨81, S0.length⟩ (.loop pc17L0) σ S false K := by
 intro n
 induction n with
 | zero => intro _ h; cases h
 | succ n ih =>
  intro x33 h σ S  hk H
  rw [F17_L0] at h
  refine WC.loop ?_
  refine WC.of_known hk ?_
  refine WC.seq ?_
  refine WC.seqR ?_
  refine WS (v := .int .i64 x33) rfl (nz rfl rfl) ?_
  refine WS (v := .ptr i1 3) rfl (nz rfl rfl) ?_
  refine WS (v := (encSl eS a35.Subs)) rfl (nz rfl (stp_load rfl (H.get 1 rfl) rfl)) ?_
  refine WS (v := (.int .i64 (Sl.len a35.Subs))) rfl (nz rfl (stp_len rfl (isSl_enc _ _) rfl)) ?_
  refine WS (v := (.bool (decide (x33 < (Sl.len a35.Subs))))) rfl (nz rfl rfl) ?_
  refine WO.nil ?_
  rcases iteS h with ⟨hc45, h⟩ | ⟨hc45, h⟩
  ·refine WC.condT rfl hc45 ?_
   refine WC.skip ?_
   refine KX.seq_n ?_
   refine WC.seq ?_
   refine WC.block ?_
   refine WC.seq ?_
   refine WC.draw ?_
   refine WH.step (v := .ptr i1 3) rfl (nz rfl rfl) rfl rfl ?_
   refine WH.step (v := (encSl eS a35.Subs)) rfl (nz rfl (stp_load rfl (H.get 1 rfl) rfl)) rfl rfl ?_
   refine WH.step (v := .int .i64 x33) rfl (nz rfl rfl) rfl rfl ?_
   obtain ⟨y41, hy41, h⟩ := bindS h
   refine WH.step (v := (.iptr [(.str y41)] 0)) rfl (nz rfl (stp_idxAddr rfl (isSl_enc _ _) rfl rfl rfl hy41 rfl rfl)) rfl rfl ?_
   refine WH.step (v := .str y41) rfl (nz rfl rfl) rfl rfl ?_
   refine WH.step (v := .ptr i2 3) rfl (nz rfl rfl) rfl rfl ?_
   refine WH.step (v := (encSl eS a34.Subs)) rfl (nz rfl (stp_load rfl (H.get 0 rfl) rfl)) rfl rfl ?_
   refine WH.step (v := .int .i64 x33) rfl (nz rfl rfl) rfl rfl ?_
   obtain ⟨y42, hy42, h⟩ := bindS h
   refine WH.step (v := (.iptr [(.str y42)] 0)) rfl (nz rfl (stp_idxAddr rfl (isSl_enc _ _) rfl rfl rfl hy42 rfl rfl)) rfl rfl ?_
   refine WH.step (v := .str y42) rfl (nz rfl rfl) rfl rfl ?_
   refine WH.nil ?_
   refine WS (v := (.bool (!(y41 == y42)))) rfl (nz rfl rfl) ?_
   refine WO.nil ?_
   refine KX.seq_n ?_
   rcases iteS h with ⟨hc44, h⟩ | ⟨hc44, h⟩
   ·refine WC.condT rfl hc44 ?_
    refine WC.seqR ?_
    refine WS (v := .bool false) rfl (nz rfl rfl) ?_
    refine WO.nil ?_
    refine WC.ret ?_
    refine KX.block_r ?_
    refine KX.seq_r ?_
    refine KX.seq_r ?_
    obtain rfl := Option.some.inj h
    exact hret _ rfl (kc rfl known_nil) (H.sub (.cons _ (.cons _ .slnil)) .slnil .slnil)
   ·refine WC.condF rfl hc44 ?_
    refine WC.skip ?_
    refine KX.block_n ?_
    refine KX.seq_n ?_
    refine WC.region ?_
    refine WS (v := .int .i64 x33) rfl (nz rfl rfl) ?_
    refine WS (v := (.int .i64 (ad .i64 x33 1))) rfl (nz rfl rfl) ?_
    refine WS (v := (.int .i64 (ad .i64 x33 1))) rfl (nz rfl rfl) ?_
    refine WO.nil ?_
    refine KX.seq_n ?_
    exact ih h  (kc rfl (kc rfl (kc rfl known_nil))) (H.sub (.cons_cons _ (.cons_cons _ .slnil)) .slnil .slnil)
  ·refine WC.condF rfl hc45 ?_
   refine WC.exit ?_
   refine KX.seq_x ?_
   refine KX.seq_x ?_
   obtain rfl := Option.some.inj h
   exact hbrk _ rfl  (kc rfl (kc rfl known_nil)) (H.sub (.cons_cons _ (.cons_cons _ .slnil)) .slnil .slnil)
theorem l17_L2 {rc0 : Api_Filter → Api_Filter → Option Bool} (hrc0 : ∀ {a0 : Api_Filter} {a1 : Api_Filter} {r : Bool}, rc0 a0 a1 = some r → ∀ {vs : List PV}, vs.map PV.strip = [(.agg [(.int .i64 a0.Kind), (.str a0.Attr), (.str a0.Value), (encSl eS a0.Subs), (encSl e_Api_Filter a0.Kids)]), (.agg [(.int .i64 a1.Kind), (.str a1.Attr), (.str a1.Value), (encSl eS a1.Subs), (encSl e_Api_Filter a1.Kids)])] → ∀ S : List SObj, evw env 17 vs S = some ((.bool r), S, false)) {k : Nat} {a77 : Api_Filter} {a78 : Api_Filter} {S0 : List SObj} {R : List Nat} {K : KX} {i2 : Nat} {i1 : Nat} (hi2 : S0.length ≤ i2) (hi1 : S0.length ≤ i1)  {o : Out Bool Int}
  (hret : ∀ r : Bool, o = .ret r → ∀ {σ' : Nat → PV} {S' : List SObj}, Known [(4, (.bool r))] σ' → Hp S0 R S' [] [] [] → K .ret σ' S' false)
  (hbrk : ∀ y : Int, o = .brk y → ∀ {σ' : Nat → PV} {S' : List SObj}, Known [] σ' → Hp S0 R S' [(i2, .cells [(.int .i64 a77.Kind), (.str a77.Attr), (.str a77.Value), (encSl eS a77.Subs), (encSl e_Api_Filter a77.Kids)]), (i1, .cells [(.int .i64 a78.Kind), (.str a78.Attr), (.str a78.Value), (encSl eS a78.Subs), (encSl e_Api_Filter a78.Kids)])] [] [] → K (.exit 2) σ' S' false) :
  ∀ {n : Nat} {x76 : Int}, F17_L2 rc0 k a77 a78 n x76 = some o → ∀ {σ : Nat → PV} {S : List SObj}, Known [(2, (.ptr i1 0)), (3, (.ptr i2 0)), (6, (.int .i64 x76))] σ → Hp S0 R S [(i2, .cells [(.int .i64 a77.Kind), (.str a77.Attr), (.str a77.Value), (encSl eS a77.Subs), (encSl e_Api_Filter a77.Kids)]), (i1, .cells [(.int .i64 a78.Kind), (.str a78.Attr), (.str a78.Value), (encSl eS a78.Subs), (encSl e_Api_Filter a78.Kids)])] [] [] → WC env ⟨81, S0.length⟩ (.loop pc17L2) σ S false K := by
 intro n
 induction n with
 | zero => intro _ h; cases h
 | succ n ih =>
  intro x76 h σ S  hk H
  rw [F17_L2] at h
  refine WC.loop ?_
  refine WC.of_known hk ?_
  refine WC.seq ?_
  refine WC.seqR ?_
  refine WS (v := .int .i64 x76) rfl (nz rfl rfl) ?_
  refine WS (v := .ptr i1 4) rfl (nz rfl rfl) ?_
  refine WS (v := (encSl e_Api_Filter a78.Kids)) rfl (nz rfl (stp_load rfl (H.get 1 rfl) rfl)) ?_
  refine WS (v := (.int .i64 (Sl.len a78.Kids))) rfl (nz rfl (stp_len rfl (isSl_enc _ _) rfl)) ?_
  refine WS (v := (.bool (decide (x76 < (Sl.len a78.Kids))))) rfl (nz rfl rfl) ?_
  refine WO.nil ?_
  rcases iteS h with ⟨hc90, h⟩ | ⟨hc90, h⟩
  ·refine WC.condT rfl hc90 ?_
   refine WC.skip ?_
   refine KX.seq_n ?_
   refine WC.seq ?_
   refine WC.block ?_
   refine WC.seq ?_
   refine WC.draw ?_
   refine WH.step (v := .ptr i1 4) rfl (nz rfl rfl) rfl rfl ?_
   refine WH.step (v := (encSl e_Api_Filter a78.Kids)) rfl (nz rfl (stp_load rfl (H.get 1 rfl) rfl)) rfl rfl ?_
   refine WH.step (v := .int .i64 x76) rfl (nz rfl rfl) rfl rfl ?_
   obtain ⟨y85, hy85, h⟩ := bindS h
   refine WH.step (v := (.iptr [(.int .i64 y85.Kind), (.str y85.Attr), (.str y85.Value), (encSl eS y85.Subs), (encSl e_Api_Filter y85.Kids)] 0)) rfl (nz rfl (stp_idxAddr rfl (isSl_enc _ _) rfl rfl rfl hy85 (e_Api_Filter_cells _) rfl)) rfl rfl ?_
   refine WH.step (v := (.agg [(.int .i64 y85.Kind), (.str y85.Attr), (.str y85.Value), (encSl eS y85.Subs), (encSl e_Api_Filter y85.Kids)])) rfl (nz rfl rfl) rfl rfl ?_
   refine WH.step (v := .ptr i2 4) rfl (nz rfl rfl) rfl rfl ?_
   refine WH.step (v := (encSl e_Api_Filter a77.Kids)) rfl (nz rfl (stp_load rfl (H.get 0 rfl) rfl)) rfl rfl ?_
   refine WH.step (v := .int .i64 x76) rfl (nz rfl rfl) rfl rfl ?_
   obtain ⟨y86, hy86, h⟩ := bindS h
   refine WH.step (v := (.iptr [(.int .i64 y86.Kind), (.str y86.Attr), (.str y86.Value), (encSl eS y86.Subs), (encSl e_Api_Filter y86.Kids)] 0)) rfl (nz rfl (stp_idxAddr rfl (isSl_enc _ _) rfl rfl rfl hy86 (e_Api_Filter_cells _) rfl)) rfl rfl ?_
   refine WH.step (v := (.agg [(.int .i64 y86.Kind), (.str y86.Attr), (.str y86.Value), (encSl eS y86.Subs), (encSl e_Api_Filter y86.Kids)])) rfl (nz rfl rfl) rfl rfl ?_
   refine WH.nil ?_
   obtain ⟨y87, hy87, h⟩ := bindS h
   refine WS (v := .bool y87) rfl (nz rfl (stp_call (vs := [(.agg [(.int .i64 y85.Kind), (.str y85.Attr), (.str y85.Value), (encSl eS y85.Subs), (encSl e_Api_Filter y85.Kids)]), (.agg [(.int .i64 y86.Kind), (.str y86.Attr), (.str y86.Value), (encSl eS y86.Subs), (encSl e_Api_Filter y86.Kids)])]) rfl rfl (hrc0 hy87 (by simp only [st_agg, List.map_cons, List.map_nil, st1_int, st1_str, strip1_enc, e_Api_Filter_eq, tupled]) _))) ?_
   refine WS (v := (.bool (!y87))) rfl (nz rfl rfl) ?_
   refine WO.nil ?_
   refine KX.seq_n ?_
   rcases iteS h with ⟨hc89, h⟩ | ⟨hc89, h⟩
   ·refine WC.condT rfl hc89 ?_
    refine WC.seqR ?_
    refine WS (v := .bool false) rfl (nz rfl rfl) ?_
    refine WO.nil ?_
    refine WC.ret ?_
    refine KX.block_r ?_
    refine KX.seq_r ?_
    refine KX.seq_r ?_
    obtain rfl := Option.some.inj h
    exact hret _ rfl (kc rfl known_nil) (H.sub (.cons _ (.cons _ .slnil)) .slnil .slnil)
   ·refine WC.condF rfl hc89 ?_
    refine WC.skip ?_
    refine KX.block_n ?_
    refine KX.seq_n ?_
    refine WC.region ?_
    refine WS (v := .int .i64 x76) rfl (nz rfl rfl) ?_
    refine WS (v := (.int .i64 (ad .i64 x76 1))) rfl (nz rfl rfl) ?_
    refine WS (v := (.int .i64 (ad .i64 x76 1))) rfl (nz rfl rfl) ?_
    refine WO.nil ?_
    refine KX.seq_n ?_
    exact ih h  (kc rfl (kc rfl (kc rfl known_nil))) (H.sub (.cons_cons _ (.cons_cons _ .slnil)) .slnil .slnil)
  ·refine WC.condF rfl hc90 ?_
   refine WC.exit ?_
   refine KX.seq_x ?_
   refine KX.seq_x ?_
   obtain rfl := Option.some.inj h
   exact hbrk _ rfl  known_nil (H.sub (.cons_cons _ (.cons_cons _ .slnil)) .slnil .slnil)
theorem s17 : ∀ k : Nat, ∀ {a0 : Api_Filter} {a1 : Api_Filter} {r : Bool}, F17 k a0 a1 = some r → ∀ {vs : List PV}, vs.map PV.strip = [(.agg [(.int .i64 a0.Kind), (.str a0.Attr), (.str a0.Value), (encSl eS a0.Subs), (encSl e_Api_Filter a0.Kids)]), (.agg [(.int .i64 a1.Kind), (.str a1.Attr), (.str a1.Value), (encSl eS a1.Subs), (encSl e_Api_Filter a1.Kids)])] → ∀ S : List SObj, evw env 17 vs S = some ((.bool r), S, false) := by
 intro k
 induction k with
 | zero => intro _ _ r h; cases h
 | succ k ih =>
  intro a0 a1 r h vs ha S
  rw [F17] at h
  refine evw_pureW (pf := fn17) rfl rfl ha (Nat.le_of_ble_eq_true rfl) (by simp [PV.clean, cleanL, clean_encSl clean_Api_Filter, clean_encSl clean_eS]) rfl ?_
  refine WB.of (pf := fn17) rfl ?_
  have H := Hp.start []
  refine WC.seqR ?_
  refine WO.box' rfl rfl rfl rfl rfl H ?_
  intro i1 S hi1 H
  refine WO.box' rfl rfl rfl rfl rfl H ?_
  intro i2 S hi2 H
  refine WS (v := .bool false) rfl (nz rfl rfl) ?_
  refine WO.nil ?_
  refine WC.seq ?_
  refine WC.seqR ?_
  refine WS (v := .ptr i1 0) rfl (nz rfl rfl) ?_
  refine WS (v := .int .i64 a0.Kind) rfl (nz rfl (stp_load rfl (H.get 1 rfl) rfl)) ?_
  refine WS (v := .ptr i2 0) rfl (nz rfl rfl) ?_
  refine WS (v := .int .i64 a1.Kind) rfl (nz rfl (stp_load rfl (H.get 0 rfl) rfl)) ?_
  refine WS (v := (.bool (a0.Kind != a1.Kind))) rfl (nz rfl rfl) ?_
  refine WS (v := (.bool (a0.Kind != a1.Kind))) rfl (nz rfl rfl) ?_
  refine WO.split 6 (fun σ' S' e' => Known ([(2, (.ptr i1 0)), (3, (.ptr i2 0)), (18, (.bool ((a0.Kind != a1.Kind) || (!(a0.Attr == a1.Attr)))))]) σ' ∧ Hp [] [] S' [(i2, .cells [(.int .i64 a1.Kind), (.str a1.Attr), (.str a1.Value), (encSl eS a1.Subs), (encSl e_Api_Filter a1.Kids)]), (i1, .cells [(.int .i64 a0.Kind), (.str a0.Attr), (.str a0.Value), (encSl eS a0.Subs), (encSl e_Api_Filter a0.Kids)])] [] [] ∧ e' = false) ?_ ?_
  ·revert H
   cases hc3 : (a0.Kind != a1.Kind)
   ·intro H
    refine WO.go0 rfl rfl ?_
    refine WS (v := .ptr i1 1) rfl (nz rfl rfl) ?_
    refine WO.go0 rfl rfl ?_
    refine WS (v := .str a0.Attr) rfl (nz rfl (stp_load rfl (H.get 1 rfl) rfl)) ?_
    refine WO.go0 rfl rfl ?_
    refine WS (v := .ptr i2 1) rfl (nz rfl rfl) ?_
    refine WO.go0 rfl rfl ?_
    refine WS (v := .str a1.Attr) rfl (nz rfl (stp_load rfl (H.get 0 rfl) rfl)) ?_
    refine WO.go0 rfl rfl ?_
    refine WS (v := (.bool (!(a0.Attr == a1.Attr)))) rfl (nz rfl rfl) ?_
    refine WS (v := (.bool (!(a0.Attr == a1.Attr)))) rfl (nz rfl rfl) ?_
    refine WO.nil ?_
    exact ⟨(kc rfl (kc rfl (kc rfl known_nil))), H, rfl⟩
   ·intro H
    refine WO.by rfl rfl rfl ?_
    refine WO.by rfl rfl rfl ?_
    refine WO.by rfl rfl rfl ?_
    refine WO.by rfl rfl rfl ?_
    refine WO.by rfl rfl rfl ?_
    refine WS (v := .bool true) rfl (nz rfl rfl) ?_
    refine WO.nil ?_
    exact ⟨(kc rfl (kc rfl (kc rfl known_nil))), H, rfl⟩
  ·rintro σ S e ⟨hk, H, rfl⟩
   refine WO.of_known hk ?_
   refine WS (v := (.bool ((a0.Kind != a1.Kind) || (!(a0.Attr == a1.Attr))))) rfl (nz rfl rfl) ?_
   refine WO.split 6 (fun σ' S' e' => Known ([(2, (.ptr i1 0)), (3, (.ptr i2 0)), (25, (.bool (((a0.Kind != a1.Kind) || (!(a0.Attr == a1.Attr))) || (!(a0.Value == a1.Value)))))]) σ' ∧ Hp [] [] S' [(i2, .cells [(.int .i64 a1.Kind), (.str a1.Attr), (.str a1.Value), (encSl eS a1.Subs), (encSl e_Api_Filter a1.Kids)]), (i1, .cells [(.int .i64 a0.Kind), (.str a0.Attr), (.str a0.Value), (encSl eS a0.Subs), (encSl e_Api_Filter a0.Kids)])] [] [] ∧ e' = false) ?_ ?_
   ·revert H
    cases hc4 : ((a0.Kind != a1.Kind) || (!(a0.Attr == a1.Attr)))
    ·intro H
     refine WO.go0 rfl rfl ?_
     refine WS (v := .ptr i1 2) rfl (nz rfl rfl) ?_
     refine WO.go0 rfl rfl ?_
     refine WS (v := .str a0.Value) rfl (nz rfl (stp_load rfl (H.get 1 rfl) rfl)) ?_
     refine WO.go0 rfl rfl ?_
     refine WS (v := .ptr i2 2) rfl (nz rfl rfl) ?_
     refine WO.go0 rfl rfl ?_
     refine WS (v := .str a1.Value) rfl (nz rfl (stp_load rfl (H.get 0 rfl) rfl)) ?_
     refine WO.go0 rfl rfl ?_
     refine WS (v := (.bool (!(a0.Value == a1.Value)))) rfl (nz rfl rfl) ?_
     refine WS (v := (.bool (!(a0.Value == a1.Value)))) rfl (nz rfl rfl) ?_
     refine WO.nil ?_
     exact ⟨(kc rfl (kc rfl (kc rfl known_nil))), H, rfl⟩
    ·intro H
     refine WO.by rfl rfl rfl ?_
     refine WO.by rfl rfl rfl ?_
     refine WO.by rfl rfl rfl ?_
     refine WO.by rfl rfl rfl ?_
     refine WO.by rfl rfl rfl ?_
     refine WS (v := .bool true) rfl (nz rfl rfl) ?_
     refine WO.nil ?_
     exact ⟨(kc rfl (kc rfl (kc rfl known_nil))), H, rfl⟩
   ·rintro σ S e ⟨hk, H, rfl⟩
    refine WO.of_known hk ?_
    refine WS (v := (.bool (((a0.Kind != a1.Kind) || (!(a0.Attr == a1.Attr))) || (!(a0.Value == a1.Value))))) rfl (nz rfl rfl) ?_
    refine WO.split 8 (fun σ' S' e' => Known ([(2, (.ptr i1 0)), (3, (.ptr i2 0)), (34, (.bool ((((a0.Kind != a1.Kind) || (!(a0.Attr == a1.Attr))) || (!(a0.Value == a1.Value))) || ((Sl.len a0.Subs) != (Sl.len a1.Subs)))))]) σ' ∧ Hp [] [] S' [(i2, .cells [(.int .i64 a1.Kind), (.str a1.Attr), (.str a1.Value), (encSl eS a1.Subs), (encSl e_Api_Filter a1.Kids)]), (i1, .cells [(.int .i64 a0.Kind), (.str a0.Attr), (.str a0.Value), (encSl eS a0.Subs), (encSl e_Api_Filter a0.Kids)])] [] [] ∧ e' = false) ?_ ?_
    ·revert H
     cases hc5 : (((a0.Kind != a1.Kind) || (!(a0.Attr == a1.Attr))) || (!(a0.Value == a1.Value)))
     ·intro H
      refine WO.go0 rfl rfl ?_
      refine WS (v := .ptr i1 3) rfl (nz rfl rfl) ?_
      refine WO.go0 rfl rfl ?_
      refine WS (v := (encSl eS a0.Subs)) rfl (nz rfl (stp_load rfl (H.get 1 rfl) rfl)) ?_
      refine WO.go0 rfl rfl ?_
      refine WS (v := (.int .i64 (Sl.len a0.Subs))) rfl (nz rfl (stp_len rfl (isSl_enc _ _) rfl)) ?_
      refine WO.go0 rfl rfl ?_
      refine WS (v := .ptr i2 3) rfl (nz rfl rfl) ?_
      refine WO.go0 rfl rfl ?_
      refine WS (v := (encSl eS a1.Subs)) rfl (nz rfl (stp_load rfl (H.get 0 rfl) rfl)) ?_
      refine WO.go0 rfl rfl ?_
      refine WS (v := (.int .i64 (Sl.len a1.Subs))) rfl (nz rfl (stp_len rfl (isSl_enc _ _) rfl)) ?_
      refine WO.go0 rfl rfl ?_
      refine WS (v := (.bool ((Sl.len a0.Subs) != (Sl.len a1.Subs)))) rfl (nz rfl rfl) ?_
      refine WS (v := (.bool ((Sl.len a0.Subs) != (Sl.len a1.Subs)))) rfl (nz rfl rfl) ?_
      refine WO.nil ?_
      exact ⟨(kc rfl (kc rfl (kc rfl known_nil))), H, rfl⟩
     ·intro H
      refine WO.by rfl rfl rfl ?_
      refine WO.by rfl rfl rfl ?_
      refine WO.by rfl rfl rfl ?_
      refine WO.by rfl rfl rfl ?_
      refine WO.by rfl rfl rfl ?_
      refine WO.by rfl rfl rfl ?_
      refine WO.by rfl rfl rfl ?_
      refine WS (v := .bool true) rfl (nz rfl rfl) ?_
      refine WO.nil ?_
      exact ⟨(kc rfl (kc rfl (kc rfl known_nil))), H, rfl⟩
    ·rintro σ S e ⟨hk, H, rfl⟩
     refine WO.of_known hk ?_
     refine WS (v := (.bool ((((a0.Kind != a1.Kind) || (!(a0.Attr == a1.Attr))) || (!(a0.Value == a1.Value))) || ((Sl.len a0.Subs) != (Sl.len a1.Subs))))) rfl (nz rfl rfl) ?_
     refine WO.split 8 (fun σ' S' e' => Known ([(2, (.ptr i1 0)), (3, (.ptr i2 0)), (43, (.bool (((((a0.Kind != a1.Kind) || (!(a0.Attr == a1.Attr))) || (!(a0.Value == a1.Value))) || ((Sl.len a0.Subs) != (Sl.len a1.Subs))) || ((Sl.len a0.Kids) != (Sl.len a1.Kids)))))]) σ' ∧ Hp [] [] S' [(i2, .cells [(.int .i64 a1.Kind), (.str a1.Attr), (.str a1.Value), (encSl eS a1.Subs), (encSl e_Api_Filter a1.Kids)]), (i1, .cells [(.int .i64 a0.Kind), (.str a0.Attr), (.str a0.Value), (encSl eS a0.Subs), (encSl e_Api_Filter a0.Kids)])] [] [] ∧ e' = false) ?_ ?_
     ·revert H
      cases hc6 : ((((a0.Kind != a1.Kind) || (!(a0.Attr == a1.Attr))) || (!(a0.Value == a1.Value))) || ((Sl.len a0.Subs) != (Sl.len a1.Subs)))
      ·intro H
       refine WO.go0 rfl rfl ?_
       refine WS (v := .ptr i1 4) rfl (nz rfl rfl) ?_
       refine WO.go0 rfl rfl ?_
       refine WS (v := (encSl e_Api_Filter a0.Kids)) rfl (nz rfl (stp_load rfl (H.get 1 rfl) rfl)) ?_
       refine WO.go0 rfl rfl ?_
       refine WS (v := (.int .i64 (Sl.len a0.Kids))) rfl (nz rfl (stp_len rfl (isSl_enc _ _) rfl)) ?_
       refine WO.go0 rfl rfl ?_
       refine WS (v := .ptr i2 4) rfl (nz rfl rfl) ?_
       refine WO.go0 rfl rfl ?_
       refine WS (v := (encSl e_Api_Filter a1.Kids)) rfl (nz rfl (stp_load rfl (H.get 0 rfl) rfl)) ?_
       refine WO.go0 rfl rfl ?_
       refine WS (v := (.int .i64 (Sl.len a1.Kids))) rfl (nz rfl (stp_len rfl (isSl_enc _ _) rfl)) ?_
       refine WO.go0 rfl rfl ?_
       refine WS (v := (.bool ((Sl.len a0.Kids) != (Sl.len a1.Kids)))) rfl (nz rfl rfl) ?_
       refine WS (v := (.bool ((Sl.len a0.Kids) != (Sl.len a1.Kids)))) rfl (nz rfl rfl) ?_
       refine WO.nil ?_
       exact ⟨(kc rfl (kc rfl (kc rfl known_nil))), H, rfl⟩
      ·intro H
       refine WO.by rfl rfl rfl ?_
       refine WO.by rfl rfl rfl ?_
       refine WO.by rfl rfl rfl ?_
       refine WO.by rfl rfl rfl ?_
       refine WO.by rfl rfl rfl ?_
       refine WO.by rfl rfl rfl ?_
       refine WO.by rfl rfl rfl ?_
       refine WS (v := .bool true) rfl (nz rfl rfl) ?_
       refine WO.nil ?_
       exact ⟨(kc rfl (kc rfl (kc rfl known_nil))), H, rfl⟩
     ·rintro σ S e ⟨hk, H, rfl⟩
      refine WO.of_known hk ?_
      refine WO.nil ?_
      rcases iteS h with ⟨hc92, h⟩ | ⟨hc92, h⟩
      ·refine WC.condT rfl hc92 ?_
       refine WC.seqR ?_
       refine WS (v := .bool false) rfl (nz rfl rfl) ?_
       refine WO.nil ?_
       refine WC.ret ?_
       refine KX.seq_r ?_
       obtain rfl := Option.some.inj h
       refine KB.ret (vs := [(.bool false)]) (res_tmp rfl res_nil) (fl_cons' rfl rfl) ?_
       exact rfl
      ·refine WC.condF rfl hc92 ?_
       refine WC.skip ?_
       refine KX.seq_n ?_
       refine WC.seq ?_
       refine WC.seqR ?_
       refine WS (v := .int .i64 0) rfl (nz rfl rfl) ?_
       refine WO.nil ?_
       obtain ⟨y46, hy46, hOy46⟩ := bindS h
       refine WC.block ?_
       refine l17_L0 ih hi2 hi1 ?_ ?_ hy46  (kc rfl (kc rfl (kc rfl known_nil))) (H.sub (.cons_cons _ (.cons_cons _ .slnil)) .slnil .slnil)
       ·intro y46r he σ S  hk H; subst he; replace h := hOy46; dsimp only at h
        refine KX.of_known hk ?_
        refine KX.block_r ?_
        refine KX.seq_r ?_
        obtain rfl := Option.some.inj h
        refine KB.ret (vs := [(.bool y46r)]) (res_tmp rfl res_nil) (fl_cons' rfl rfl) ?_
        exact rfl
       ·intro y46b he σ S  hk H; subst he; replace h := hOy46; dsimp only at h
        refine KX.of_known hk ?_
        refine KX.block_x ?_
        refine KX.seq_n ?_
        refine WC.seq ?_
        refine WC.seqR ?_
        refine WS (v := .int .i64 0) rfl (nz rfl rfl) ?_
        refine WO.nil ?_
        obtain ⟨y91, hy91, hOy91⟩ := bindS h
        refine WC.block ?_
        refine l17_L2 ih hi2 hi1 ?_ ?_ hy91  (kc rfl (kc rfl (kc rfl known_nil))) (H.sub (.cons_cons _ (.cons_cons _ .slnil)) .slnil .slnil)
        ·intro y91r he σ S  hk H; subst he; replace h := hOy91; dsimp only at h
         refine KX.of_known hk ?_
         refine KX.block_r ?_
         refine KX.seq_r ?_
         obtain rfl := Option.some.inj h
         refine KB.ret (vs := [(.bool y91r)]) (res_tmp rfl res_nil) (fl_cons' rfl rfl) ?_
         exact rfl
        ·intro y91b he σ S  hk H; subst he; replace h := hOy91; dsimp only at h
         refine KX.of_known hk ?_
         refine KX.block_x ?_
         refine KX.seq_n ?_
         refine WC.seqR ?_
         refine WS (v := .bool true) rfl (nz rfl rfl) ?_
         refine WO.nil ?_
         refine WC.ret ?_
         obtain rfl := Option.some.inj h
         refine KB.ret (vs := [(.bool true)]) (res_tmp rfl res_nil) (fl_cons' rfl rfl) ?_
         exact rfl
end Go.Proofs.Ythkjepoaddfoiaa.M
