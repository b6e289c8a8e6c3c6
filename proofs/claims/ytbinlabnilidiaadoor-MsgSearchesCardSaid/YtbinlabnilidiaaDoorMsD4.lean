/- Messages: what was written is read. -/
import Derived.Test.YtbinlabnilidiaaDoorMsD3
namespace Go.Proofs.YtbinlabnilidiaaDoor.M
open Go Go.Pam
set_option maxRecDepth 20000
set_option linter.unusedVariables false
set_option linter.unusedSimpArgs false

def dec73 (k : Nat) (y : El) (id op of' : Int) : Option Ms :=
 if op = 1 then
  Option.bind (F55 k y 0) fun b0 => Option.bind (F56 k b0) fun v => Option.bind (F55 k y 1) fun b1 => Option.bind (F55 k y 2) fun b2 =>
  some ⟨id, op, of', b1.Body, v, b2.Body, 0, 0, noF, none, none, [], false, false, [], [], [], 0, []⟩
 else if op = 3 then
  Option.bind (F55 k y 0) fun b0 => Option.bind (F55 k y 1) fun b1 => Option.bind (F56 k b1) fun v => Option.bind (F55 k y 3) fun b3 => Option.bind (F56 k b3) fun w => Option.bind (F55 k y 7) fun b7 => Option.bind (F58 k b7) fun l =>
  Option.bind (F55 k y 6) fun b6 => Option.bind (F59 k b6 20) fun f => some ⟨id, op, of', b0.Body, 0, [], v, w, f, l, none, [], false, false, [], [], [], 0, []⟩
 else if op = 4 ∨ op = 5 ∨ op = 10 then
  Option.bind (F55 k y 0) fun b0 => Option.bind (F55 k y 1) fun b1 => Option.bind (F60 k b1 (op == 4)) fun l => some ⟨id, op, of', b0.Body, 0, [], 0, 0, noF, none, l, [], false, false, [], [], [], 0, []⟩
 else if op = 6 then some ⟨id, op, of', y.Body, 0, [], 0, 0, noF, none, none, [], false, false, [], [], [], 0, []⟩
 else if op = 7 then
  Option.bind (F55 k y 0) fun b0 => Option.bind (F55 k y 1) fun b1 => Option.bind (F55 k y 2) fun b2 => Option.bind (F61 k b2.Body) fun t => Option.bind (F55 k y 3) fun b3 =>
  some ⟨id, op, of', b0.Body, 0, [], 0, 0, noF, none, none, b1.Body, t.1, decide ((Sl.len y.Kids) > 3), b3.Body, [], [], 0, []⟩
 else if op = 8 then
  Option.bind (F55 k y 0) fun b0 => Option.bind (F55 k y 1) fun b1 => Option.bind (F55 k b1 0) fun c0 => Option.bind (F55 k y 1) fun b2 => Option.bind (F55 k b2 1) fun c1 =>
  some ⟨id, op, of', b0.Body, 0, [], 0, 0, noF, none, none, [], false, false, [], c0.Body, c1.Body, 0, []⟩
 else if op = 9 then
  Option.bind (F55 k y 0) fun b0 => Option.bind (F56 k b0) fun v => Option.bind (F55 k y 1) fun b1 =>
  some ⟨id, op, of', [], 0, [], 0, 0, noF, none, none, [], false, false, [], [], [], v, b1.Body⟩
 else some ⟨id, op, of', [], 0, [], 0, 0, noF, none, none, [], false, false, [], [], [], 0, []⟩

theorem bnd_id {α : Type} (x : Option α) : (x.bind fun y => some y) = x := by cases x <;> rfl

theorem f40 {k : Nat} {e : El} {id op of' : Int} (h1 : F56 k (kidS e 0) = some id) (h2 : F57 k (kidS e 1).Tag = some (op, of')) : F40 k e = dec73 k (kidS e 1) id op of' := by
 unfold F40
 rw [bnd (show F55 k e 1 = some (kidS e 1) from f55 k e 1), bnd (show F55 k e 0 = some (kidS e 0) from f55 k e 0), bnd h1, bnd h2]
 simp only [bnd_id]
 unfold dec73
 by_cases c1 : op = 1
 ·rw [if_pos c1, ite_pos' (by simpa using c1)]; rfl
 rw [if_neg c1, ite_neg' (by simpa using c1)]
 by_cases c3 : op = 3
 ·rw [if_pos c3, ite_pos' (by simpa using c3)]
 rw [if_neg c3, ite_neg' (by simpa using c3)]
 have hm : (if (op == 4) = true then some (op == 4) else if (op == 5) = true then some (op == 5) else some (op == 10)) = some (decide (op = 4 ∨ op = 5 ∨ op = 10)) := by
  by_cases d4 : op = 4
  ·simp [d4]
  by_cases d5 : op = 5
  ·simp [d5]
  by_cases d10 : op = 10
  ·simp [d10]
  simp [d4, d5, d10]
 rw [bnd hm]
 by_cases c4 : op = 4 ∨ op = 5 ∨ op = 10
 ·rw [if_pos c4, ite_pos' (decide_eq_true c4)]; rfl
 rw [if_neg c4, ite_neg' (decide_eq_false c4)]
 by_cases c6 : op = 6
 ·rw [if_pos c6, ite_pos' (by simpa using c6)]; rfl
 rw [if_neg c6, ite_neg' (by simpa using c6)]
 by_cases c7 : op = 7
 ·rw [if_pos c7, ite_pos' (by simpa using c7)]; rfl
 rw [if_neg c7, ite_neg' (by simpa using c7)]
 by_cases c8 : op = 8
 ·rw [if_pos c8, ite_pos' (by simpa using c8)]; rfl
 rw [if_neg c8, ite_neg' (by simpa using c8)]
 by_cases c9 : op = 9
 ·rw [if_pos c9, ite_pos' (by simpa using c9)]; rfl
 rw [if_neg c9, ite_neg' (by simpa using c9)]; rfl

theorem body_of {k : Nat} {a : Ms} (h : a.Op ≠ 6 ∧ a.Op ≠ 2) : opE a = ls (tagOf a) (some (bodyE a)) := by unfold opE; rw [if_neg h.1, if_neg h.2]

theorem rMod_n (l : List Api_Mod) : (l.map rMod).map nMod = l.map nMod := by
 rw [List.map_map]
 refine List.map_congr_left fun x _ => ?_
 show nMod (rMod x) = nMod x
 unfold nMod rMod
 simp only [row_l]

theorem dec_msg {k : Nat} (hk : 200200 ≤ k) {a : Ms} (ha : Few a) (hi : isM a = true) (hd : Dpt 20 (msgE a)) {e : El} (he : Eqv 28 (msgE a) e) : ∃ m, F40 k e = some m ∧ nM m = nM a := by
 have hO := op_of hi
 have hc : nM a = nM (coreS a) := (msgEq_nM ha.filter).1 (isM_of hi).2.2.1
 have k0 : Eqv 27 (nm 2 a.ID) (kidS e 0) := eqv_kids he 0 (by show 0 < 2; omega)
 have k1 : Eqv 27 (opE a) (kidS e 1) := eqv_kids he 1 (by show 1 < 2; omega)
 have h1 := f56 (k := k) (by omega) hO.id k0
 have h2 := f57 (k := k) (by omega) hO
 rw [← eqv_tag k1] at h2
 rw [f40 h1 h2, hc]
 have hd1 : Dpt 19 (opE a) := hd _ (by show opE a ∈ [nm 2 a.ID, opE a]; simp)
 clear hd h1 h2 k0 he hc
 generalize kidS e 1 = y at k1
 have z0 := f55 k y 0
 have z1 := f55 k y 1
 have z2 := f55 k y 2
 have z3 := f55 k y 3
 have z6 := f55 k y 6
 have z7 := f55 k y 7
 rw [show ((0 : Nat) : Int) = 0 from rfl] at z0
 rw [show ((1 : Nat) : Int) = 1 from rfl] at z1
 rw [show ((2 : Nat) : Int) = 2 from rfl] at z2
 rw [show ((3 : Nat) : Int) = 3 from rfl] at z3
 rw [show ((6 : Nat) : Int) = 6 from rfl] at z6
 rw [show ((7 : Nat) : Int) = 7 from rfl] at z7
 have hop := hO.op
 unfold dec73 coreS
 by_cases c1 : a.Op = 1
 ·have hb : opE a = ls (tagOf a) (some [nm 2 a.Version, tx 4 a.DN, tx 128 a.Pass]) := by rw [body_of (k := k) (by omega)]; unfold bodyE; rw [if_pos c1]
  rw [hb] at k1
  have q0 := eqv_kids k1 0 (by show 0 < 3; omega)
  have q1 := eqv_kids k1 1 (by show 1 < 3; omega)
  have q2 := eqv_kids k1 2 (by show 2 < 3; omega)
  rw [if_pos c1, if_pos c1, bnd z0, bnd (f56 (by omega) (by have := hO.ver c1; omega) q0), bnd z1, bnd z2, eqv_body q1, eqv_body q2, if_neg (by omega)]
  exact ⟨_, rfl, rfl⟩
 rw [if_neg c1, if_neg c1]
 by_cases c3 : a.Op = 3
 ·have hb : opE a = ls (tagOf a) (some [tx 4 a.DN, nm 10 a.Scope, nm 10 0, nm 2 a.Size, nm 2 0, bl false, elF 22 a.Filter, ls 48 (rowE ((Sl.l a.Wants).map (tx 4)))]) := by rw [body_of (k := k) (by omega)]; unfold bodyE; rw [if_neg c1, if_pos c3]
  rw [hb] at k1 hd1
  obtain ⟨s1, s2, s3, s4, s5⟩ := hO.search c3
  have q0 := eqv_kids k1 0 (by show 0 < 8; omega)
  have q1 := eqv_kids k1 1 (by show 1 < 8; omega)
  have q3 := eqv_kids k1 3 (by show 3 < 8; omega)
  have q6 : Eqv 26 (elF 22 a.Filter) (kidS y 6) := eqv_kids k1 6 (by show 6 < 8; omega)
  have q7 : Eqv 26 (ls 48 (rowE ((Sl.l a.Wants).map (tx 4)))) (kidS y 7) := eqv_kids k1 7 (by show 7 < 8; omega)
  have hdf : Dpt 18 (elF 22 a.Filter) := hd1 _ (by show elF 22 a.Filter ∈ [tx 4 a.DN, nm 10 a.Scope, nm 10 0, nm 2 a.Size, nm 2 0, bl false, elF 22 a.Filter, ls 48 (rowE ((Sl.l a.Wants).map (tx 4)))]; simp)
  have hs : isS 22 a.Filter = true := by unfold filS at s3; rw [Bool.and_eq_true] at s3; exact s3.2
  obtain ⟨f', g1, g2⟩ := f59 22 a.Filter hs ha.filter k 26 18 20 (kidS y 6) q6 hdf (by omega) (by omega) (by omega)
  rw [if_pos c3, if_pos c3, bnd z0, bnd z1, bnd (f56 (by omega) (by omega) q1), bnd z3, bnd (f56 (by omega) s2 q3), bnd z7, bnd (textsRd (m := 24) q7 (by omega) (by omega)), bnd z6, bnd g1, eqv_body q0, if_neg (by omega)]
  refine ⟨_, rfl, ?_⟩
  simp only [nM, g2, row_l]
  rfl
 rw [if_neg c3, if_neg c3]
 by_cases c4 : a.Op = 4 ∨ a.Op = 5 ∨ a.Op = 10
 ·have hb : opE a = ls (tagOf a) (some [tx 4 a.DN, modsE (a.Op == 4) (Sl.l a.Mods)]) := by
   rw [body_of (k := k) (by omega)]; unfold bodyE; rw [if_neg c1, if_neg c3]
   by_cases d4 : a.Op = 4
   ·rw [if_pos d4, d4]; rfl
   ·rw [if_neg d4, if_pos (by omega), show (a.Op == 4) = false from by simpa using d4]
  rw [hb] at k1
  have q0 := eqv_kids k1 0 (by show 0 < 2; omega)
  have q1 : Eqv 26 (modsE (a.Op == 4) (Sl.l a.Mods)) (kidS y 1) := eqv_kids k1 1 (by show 1 < 2; omega)
  have hkn := mods_kinds (hO.mods c4)
  have hx : ∀ x ∈ Sl.l a.Mods, modFew x ∧ (1 ≤ x.Kind ∧ x.Kind ≤ 3) ∧ ((a.Op == 4) = false → x.Kind = 1) := by
   intro x hx
   refine ⟨ha.mod x hx, hkn x hx, fun d4 => ?_⟩
   have d4 : a.Op ≠ 4 := by simpa using d4
   have h4 := (isM_of hi).2.2.2
   unfold opS at h4
   rw [if_neg c1, if_neg c3, if_neg d4, if_pos (by omega)] at h4
   have := mods_kinds h4 x hx
   omega
  rw [if_pos c4, if_pos c4, bnd z0, bnd z1, bnd (f60 (m := 20) (by omega) _ _ ha.mods hx q1), eqv_body q0, if_neg (by omega)]
  refine ⟨_, rfl, ?_⟩
  simp only [nM, row_l, rMod_n]
  rfl
 rw [if_neg c4, if_neg c4]
 by_cases c6 : a.Op = 6
 ·have hb : opE a = tx 74 a.DN := by unfold opE; rw [if_pos c6]
  rw [hb] at k1
  rw [if_pos c6, if_pos c6, eqv_body k1, if_neg (by omega)]
  exact ⟨_, rfl, rfl⟩
 rw [if_neg c6, if_neg c6]
 by_cases c7 : a.Op = 7
 ·have hb : opE a = ls (tagOf a) (some ([tx 4 a.DN, tx 4 a.RDN, bl a.DelOld] ++ (if a.HasSup = true then [tx 128 a.Sup] else []))) := by rw [body_of (k := k) (by omega)]; unfold bodyE; rw [if_neg c1, if_neg c3, if_neg (by omega), if_neg (by omega), if_pos c7]
  rw [hb] at k1
  rw [if_pos c7, if_pos c7, bnd z0, bnd z1, bnd z2, if_neg (by omega)]
  cases hs : a.HasSup with
  | false =>
   rw [hs] at k1
   have k1 : Eqv 27 (ls (tagOf a) (some [tx 4 a.DN, tx 4 a.RDN, bl a.DelOld])) y := k1
   have q0 := eqv_kids k1 0 (by show 0 < 3; omega)
   have q1 := eqv_kids k1 1 (by show 1 < 3; omega)
   have q2 := eqv_kids k1 2 (by show 2 < 3; omega)
   have hl : (Sl.l y.Kids).length = 3 := eqv_len k1
   have hb2 : (kidS y 2).Body = (if a.DelOld = true then [255] else [0]) := eqv_body q2
   have hk3 : kidS y 3 = zel := by unfold kidS; rw [List.getElem?_eq_none (by omega)]; rfl
   have hg : decide (Sl.len y.Kids > 3) = false := by rw [Sl.len_nat, hl]; rfl
   rw [hb2, bnd (f61 k a.DelOld), bnd z3, hk3, hg, eqv_body q0, eqv_body q1]
   exact ⟨_, rfl, rfl⟩
  | true =>
   rw [hs] at k1
   have k1 : Eqv 27 (ls (tagOf a) (some [tx 4 a.DN, tx 4 a.RDN, bl a.DelOld, tx 128 a.Sup])) y := k1
   have q0 := eqv_kids k1 0 (by show 0 < 4; omega)
   have q1 := eqv_kids k1 1 (by show 1 < 4; omega)
   have q2 := eqv_kids k1 2 (by show 2 < 4; omega)
   have q3 := eqv_kids k1 3 (by show 3 < 4; omega)
   have hl : (Sl.l y.Kids).length = 4 := eqv_len k1
   have hb2 : (kidS y 2).Body = (if a.DelOld = true then [255] else [0]) := eqv_body q2
   have hg : decide (Sl.len y.Kids > 3) = true := by rw [Sl.len_nat, hl]; rfl
   rw [hb2, bnd (f61 k a.DelOld), bnd z3, hg, eqv_body q0, eqv_body q1, eqv_body q3]
   exact ⟨_, rfl, rfl⟩
 rw [if_neg c7, if_neg c7]
 by_cases c8 : a.Op = 8
 ·have hb : opE a = ls (tagOf a) (some [tx 4 a.DN, ls 48 (some [tx 4 a.Attr, tx 4 a.Value])]) := by rw [body_of (k := k) (by omega)]; unfold bodyE; rw [if_neg c1, if_neg c3, if_neg (by omega), if_neg (by omega), if_neg c7, if_pos c8]
  rw [hb] at k1
  have q0 := eqv_kids k1 0 (by show 0 < 2; omega)
  have q1 : Eqv 26 (ls 48 (some [tx 4 a.Attr, tx 4 a.Value])) (kidS y 1) := eqv_kids k1 1 (by show 1 < 2; omega)
  have r0 := eqv_kids q1 0 (by show 0 < 2; omega)
  have r1 := eqv_kids q1 1 (by show 1 < 2; omega)
  rw [if_pos c8, if_pos c8, bnd z0, bnd z1, bnd (show F55 k (kidS y 1) 0 = some (kidS (kidS y 1) 0) from f55 k _ 0), bnd z1, bnd (show F55 k (kidS y 1) 1 = some (kidS (kidS y 1) 1) from f55 k _ 1), eqv_body q0, eqv_body r0, eqv_body r1, if_neg (by omega)]
  exact ⟨_, rfl, rfl⟩
 rw [if_neg c8, if_neg c8]
 by_cases c9 : a.Op = 9
 ·have hb : opE a = ls (tagOf a) (some [nm 10 a.Code, tx 4 a.Matched, tx 4 []]) := by rw [body_of (k := k) (by omega)]; unfold bodyE; rw [if_neg c1, if_neg c3, if_neg (by omega), if_neg (by omega), if_neg c7, if_neg c8]
  rw [hb] at k1
  have q0 := eqv_kids k1 0 (by show 0 < 3; omega)
  have q1 := eqv_kids k1 1 (by show 1 < 3; omega)
  rw [if_pos c9, if_pos c9, bnd z0, bnd (f56 (by omega) (by have := (hO.res c9).2; omega) q0), bnd z1, eqv_body q1, if_pos c9]
  exact ⟨_, rfl, rfl⟩
 rw [if_neg c9, if_neg c9, if_neg c9]
 exact ⟨_, rfl, rfl⟩
end Go.Proofs.YtbinlabnilidiaaDoor.M
