/- Messages as elements: an operation, by both. -/
import Derived.Test.YtbinlabnilidiaaDoorMsE5
import Derived.Test.YtbinlabnilidiaaDoorMsP
namespace Go.Proofs.YtbinlabnilidiaaDoor.M
open Go Go.Pam
set_option maxRecDepth 20000
set_option linter.unusedVariables false
set_option linter.unusedSimpArgs false

theorem mods_kinds {l : List Api_Mod} {top : Int} (h : modsIs l top = true) : ∀ m ∈ l, 1 ≤ m.Kind ∧ m.Kind ≤ top := by
 unfold modsIs at h
 rw [Bool.and_eq_true, List.all_eq_true] at h
 intro m hm
 have := h.1 m hm
 unfold modIs at this
 simp only [Bool.and_eq_true, decide_eq_true_eq] at this
 omega

structure Op (a : Ms) : Prop where
 id : 0 ≤ a.ID ∧ a.ID ≤ 2147483647
 op : 1 ≤ a.Op ∧ a.Op ≤ 10
 ver : a.Op = 1 → 1 ≤ a.Version ∧ a.Version ≤ 127
 search : a.Op = 3 → (0 ≤ a.Scope ∧ a.Scope ≤ 2) ∧ (0 ≤ a.Size ∧ a.Size ≤ 2147483647) ∧ filS a.Filter = true ∧ (Sl.l a.Wants).length ≤ 12 ∧ textsS (Sl.l a.Wants) = true
 mods : a.Op = 4 ∨ a.Op = 5 ∨ a.Op = 10 → modsIs (Sl.l a.Mods) 3 = true
 res : a.Op = 9 → (a.Of = 1 ∨ a.Of = 3 ∨ a.Of = 4 ∨ a.Of = 5 ∨ a.Of = 6 ∨ a.Of = 7 ∨ a.Of = 8) ∧ 0 ≤ a.Code ∧ a.Code ≤ 127
 texts : textsS (ownS a) = true

theorem mods_up {l : List Api_Mod} (h : modsIs l 1 = true) : modsIs l 3 = true := by
 unfold modsIs at h ⊢
 rw [Bool.and_eq_true, List.all_eq_true] at h ⊢
 refine ⟨fun m hm => ?_, h.2⟩
 have := h.1 m hm
 unfold modIs at this ⊢
 simp only [Bool.and_eq_true, decide_eq_true_eq] at this ⊢
 obtain ⟨⟨⟨⟨h1, h2⟩, h3⟩, h4⟩, h5⟩ := this
 exact ⟨⟨⟨⟨h1, by omega⟩, h3⟩, h4⟩, h5⟩

theorem op_of {a : Ms} (h : isM a = true) : Op a := by
 obtain ⟨h1, h2, _, h4⟩ := isM_of h
 have ht : textsS (ownS a) = true := by
  unfold isM at h
  simp only [Bool.and_eq_true] at h
  exact h.1.2
 have hn := opS_of h4
 refine ⟨⟨h1, h2⟩, hn.2.2.2, hn.1, fun e => ?_, fun e => ?_, fun e => ?_, ht⟩
 ·unfold opS at h4
  rw [if_neg (by omega), if_pos e] at h4
  simp only [Bool.and_eq_true, decide_eq_true_eq] at h4
  obtain ⟨⟨⟨⟨⟨⟨a1, a2⟩, a3⟩, a4⟩, a5⟩, a6⟩, a7⟩ := h4
  exact ⟨⟨a1, a2⟩, ⟨a3, a4⟩, a5, a6, a7⟩
 ·unfold opS at h4
  rw [if_neg (by omega), if_neg (by omega)] at h4
  by_cases e4 : a.Op = 4
  ·rwa [if_pos e4] at h4
  ·rw [if_neg e4, if_pos (by omega)] at h4
   exact mods_up h4
 ·unfold opS at h4
  rw [if_neg (by omega), if_neg (by omega), if_neg (by omega), if_neg (by omega), if_pos e] at h4
  simp only [Bool.and_eq_true, decide_eq_true_eq] at h4
  omega

theorem is45 (o : Int) : (if o == 4 then some (o == 4) else Option.bind (if o == 5 then some (o == 5) else some (o == 10)) fun y => some y) = some (decide (o = 4 ∨ o = 5 ∨ o = 10)) := by
 by_cases h4 : o = 4
 ·simp [h4]
 by_cases h5 : o = 5
 ·simp [h5]
 by_cases h10 : o = 10
 ·simp [h10]
 ·simp [h4, h5, h10]

theorem op_a {k : Nat} (hk : 200200 ≤ k) {a : Ms} (ha : Few a) (h : Op a) : ∃ t, F11 k a.Op a.Of = some t ∧
  (if a.Op == 6 then Option.bind (F13 k t a.DN) fun y69 => some y69
   else Option.bind (if a.Op == 2 then some (ls t none) else Option.bind (F14 k a) fun y77 => Option.bind (F12 k t y77) fun y78 => some y78) fun y76 => some y76) = some (opE a) := by
 have cases10 : a.Op = 1 ∨ a.Op = 2 ∨ a.Op = 3 ∨ a.Op = 4 ∨ a.Op = 5 ∨ a.Op = 6 ∨ a.Op = 7 ∨ a.Op = 8 ∨ a.Op = 9 ∨ a.Op = 10 := by have := h.op; omega
 have hm : (a.Op = 4 ∨ a.Op = 5 ∨ a.Op = 10) → ∀ chg, F33 k a.Mods chg = some (modsE chg (Sl.l a.Mods)) := fun e chg =>
  mods_a k (by omega) a.Mods chg ha.mods (fun m hm => ⟨ha.mod m hm, mods_kinds (h.mods e) m hm⟩)
 rcases cases10 with e | e | e | e | e | e | e | e | e | e
 ·refine ⟨96, by rw [e]; rfl, ?_⟩
  have hb : F14 k a = some (some (bodyE a)) := by
   unfold F14 bodyE
   rw [if_pos (by simp [e]), bnd (num_a (by omega) 2 (by have := h.ver e; omega)), if_pos e]; rfl
  rw [if_neg (by simp [e]), if_neg (by simp [e]), bnd hb, opE, if_neg (by omega), if_neg (by omega), tagOf, if_neg (by omega), if_pos e]; rfl
 ·refine ⟨66, by rw [e]; rfl, ?_⟩
  rw [if_neg (by simp [e]), if_pos (by simp [e]), opE, if_neg (by omega), if_pos e]; rfl
 ·refine ⟨99, by rw [e]; rfl, ?_⟩
  obtain ⟨s1, s2, s3, s4, s5⟩ := h.search e
  have hf : isS 22 a.Filter = true := by unfold filS at s3; rw [Bool.and_eq_true] at s3; exact s3.2
  have hb : F14 k a = some (some (bodyE a)) := by
   unfold F14 bodyE
   rw [if_neg (by simp [e]), if_pos (by simp [e]), bnd (texts_a k a.Wants a (by omega) (by omega)), bnd (show F13 k 4 a.DN = some (tx 4 a.DN) from rfl), bnd (num_a (by omega) 10 (by omega)), bnd (num_a (by omega) 10 (by omega)), bnd (num_a (by omega) 2 s2), bnd (num_a (by omega) 2 (by omega)), bnd (bool_a k false), bnd (filter_a 22 k a.Filter ha.filter hf (by omega)).1, if_neg (by omega), if_pos e]; rfl
  rw [if_neg (by simp [e]), if_neg (by simp [e]), bnd hb, opE, if_neg (by omega), if_neg (by omega), tagOf, if_neg (by omega), if_neg (by omega), if_pos e]; rfl
 ·refine ⟨102, by rw [e]; rfl, ?_⟩
  have hb : F14 k a = some (some (bodyE a)) := by
   unfold F14 bodyE
   rw [if_neg (by simp [e]), if_neg (by simp [e]), bnd (is45 a.Op), if_pos (decide_eq_true (by omega)), bnd (show F13 k 4 a.DN = some (tx 4 a.DN) from rfl), hm (by omega), if_neg (by omega), if_neg (by omega), if_pos e, show (a.Op == 4) = true by simp [e]]; rfl
  rw [if_neg (by simp [e]), if_neg (by simp [e]), bnd hb, opE, if_neg (by omega), if_neg (by omega), tagOf, if_neg (by omega), if_neg (by omega), if_neg (by omega), if_pos e]; rfl
 ·refine ⟨104, by rw [e]; rfl, ?_⟩
  have hb : F14 k a = some (some (bodyE a)) := by
   unfold F14 bodyE
   rw [if_neg (by simp [e]), if_neg (by simp [e]), bnd (is45 a.Op), if_pos (decide_eq_true (by omega)), bnd (show F13 k 4 a.DN = some (tx 4 a.DN) from rfl), hm (by omega), if_neg (by omega), if_neg (by omega), if_neg (by omega), if_pos (by omega), show (a.Op == 4) = false by simp [e]]; rfl
  rw [if_neg (by simp [e]), if_neg (by simp [e]), bnd hb, opE, if_neg (by omega), if_neg (by omega), tagOf, if_neg (by omega), if_neg (by omega), if_neg (by omega), if_neg (by omega), if_pos e]; rfl
 ·refine ⟨74, by rw [e]; rfl, ?_⟩
  rw [if_pos (by simp [e]), opE, if_pos e]; rfl
 ·refine ⟨108, by rw [e]; rfl, ?_⟩
  have hE : bodyE a = [tx 4 a.DN, tx 4 a.RDN, bl a.DelOld] ++ (if a.HasSup = true then [tx 128 a.Sup] else []) := by
   unfold bodyE
   rw [if_neg (by omega), if_neg (by omega), if_neg (by omega), if_neg (by omega), if_pos e]
  have hb : F14 k a = some (some (bodyE a)) := by
   rw [hE]
   unfold F14
   rw [if_neg (by simp [e]), if_neg (by simp [e]), bnd (is45 a.Op), if_neg (show ¬ decide (a.Op = 4 ∨ a.Op = 5 ∨ a.Op = 10) = true by simp; omega), if_pos (by simp [e]), bnd (show F13 k 4 a.DN = some (tx 4 a.DN) from rfl), bnd (show F13 k 4 a.RDN = some (tx 4 a.RDN) from rfl), bnd (bool_a k a.DelOld)]
   cases a.HasSup <;> rfl
  rw [if_neg (by simp [e]), if_neg (by simp [e]), bnd hb, opE, if_neg (by omega), if_neg (by omega), tagOf, if_neg (by omega), if_neg (by omega), if_neg (by omega), if_neg (by omega), if_neg (by omega), if_pos e]; rfl
 ·refine ⟨110, by rw [e]; rfl, ?_⟩
  have hb : F14 k a = some (some (bodyE a)) := by
   unfold F14 bodyE
   rw [if_neg (by simp [e]), if_neg (by simp [e]), bnd (is45 a.Op), if_neg (show ¬ decide (a.Op = 4 ∨ a.Op = 5 ∨ a.Op = 10) = true by simp; omega), if_neg (by simp [e]), if_pos (by simp [e]), if_neg (by omega), if_neg (by omega), if_neg (by omega), if_neg (by omega), if_neg (by omega), if_pos e]; rfl
  rw [if_neg (by simp [e]), if_neg (by simp [e]), bnd hb, opE, if_neg (by omega), if_neg (by omega), tagOf, if_neg (by omega), if_neg (by omega), if_neg (by omega), if_neg (by omega), if_neg (by omega), if_neg (by omega), if_pos e]; rfl
 ·obtain ⟨o1, o2⟩ := h.res e
  have hb : F14 k a = some (some (bodyE a)) := by
   unfold F14 bodyE
   rw [if_neg (by simp [e]), if_neg (by simp [e]), bnd (is45 a.Op), if_neg (show ¬ decide (a.Op = 4 ∨ a.Op = 5 ∨ a.Op = 10) = true by simp; omega), if_neg (by simp [e]), if_neg (by simp [e]), bnd (num_a (by omega) 10 (by omega)), if_neg (by omega), if_neg (by omega), if_neg (by omega), if_neg (by omega), if_neg (by omega), if_neg (by omega)]; rfl
  refine ⟨tagOf a, ?_, ?_⟩
  ·unfold tagOf
   rw [if_pos e, e]
   rcases o1 with o | o | o | o | o | o | o <;> rw [o] <;> rfl
  ·rw [if_neg (by simp [e]), if_neg (by simp [e]), bnd hb, opE, if_neg (by omega), if_neg (by omega)]; rfl
 ·refine ⟨100, by rw [e]; rfl, ?_⟩
  have hb : F14 k a = some (some (bodyE a)) := by
   unfold F14 bodyE
   rw [if_neg (by simp [e]), if_neg (by simp [e]), bnd (is45 a.Op), if_pos (decide_eq_true (by omega)), bnd (show F13 k 4 a.DN = some (tx 4 a.DN) from rfl), hm (by omega), if_neg (by omega), if_neg (by omega), if_neg (by omega), if_pos (by omega), show (a.Op == 4) = false by simp [e]]; rfl
  rw [if_neg (by simp [e]), if_neg (by simp [e]), bnd hb, opE, if_neg (by omega), if_neg (by omega), tagOf, if_neg (by omega), if_neg (by omega), if_neg (by omega), if_neg (by omega), if_neg (by omega), if_neg (by omega), if_neg (by omega)]; rfl

theorem op_b {k : Nat} (hk : 200200 ≤ k) {a : Ms} (ha : Few a) (h : Op a) : R27 k a = some (opE a) := by
 have cases10 : a.Op = 1 ∨ a.Op = 2 ∨ a.Op = 3 ∨ a.Op = 4 ∨ a.Op = 5 ∨ a.Op = 6 ∨ a.Op = 7 ∨ a.Op = 8 ∨ a.Op = 9 ∨ a.Op = 10 := by have := h.op; omega
 have hm : (a.Op = 4 ∨ a.Op = 5 ∨ a.Op = 10) → R62 k a.Mods = some (modsE true (Sl.l a.Mods)) ∧ R63 k a.Mods = some (modsE false (Sl.l a.Mods)) := fun e =>
  mods_b k (by omega) a.Mods ha.mods (fun m hm => ⟨ha.mod m hm, mods_kinds (h.mods e) m hm⟩)
 have dn : R57 k a.DN = some (tx 4 a.DN) := rfl
 have hO : ¬ a.Op = 6 → ¬ a.Op = 2 → opE a = ls (tagOf a) (some (bodyE a)) := fun h6 h2 => by rw [opE, if_neg h6, if_neg h2]
 rcases cases10 with e | e | e | e | e | e | e | e | e | e
 ·rw [hO (by omega) (by omega), tagOf, if_neg (by omega), if_pos e, bodyE, if_pos e]
  unfold R27
  rw [if_pos (by simp [e]), bnd (num_c (by omega) 2 (by have := h.ver e; omega)), bnd dn]; rfl
 ·rw [opE, if_neg (by omega), if_pos e]
  unfold R27
  rw [if_neg (by simp [e]), if_pos (by simp [e])]; rfl
 ·obtain ⟨s1, s2, s3, s4, s5⟩ := h.search e
  have hf : isS 22 a.Filter = true := by unfold filS at s3; rw [Bool.and_eq_true] at s3; exact s3.2
  rw [hO (by omega) (by omega), tagOf, if_neg (by omega), if_neg (by omega), if_pos e, bodyE, if_neg (by omega), if_pos e]
  unfold R27
  rw [if_neg (by simp [e]), if_neg (by simp [e]), if_pos (by simp [e]), bnd dn, bnd (num_c (by omega) 10 (by omega)), bnd (num_c (by omega) 10 (by omega)), bnd (num_c (by omega) 2 s2), bnd (num_c (by omega) 2 (by omega)), bnd (bool_b k false), bnd (filter_a 22 k a.Filter ha.filter hf (by omega)).2, bnd (texts_b k 48 a.Wants (by omega) (by omega))]; rfl
 ·rw [hO (by omega) (by omega), tagOf, if_neg (by omega), if_neg (by omega), if_neg (by omega), if_pos e, bodyE, if_neg (by omega), if_neg (by omega), if_pos e]
  unfold R27
  rw [if_neg (by simp [e]), if_neg (by simp [e]), if_neg (by simp [e]), if_pos (by simp [e]), bnd dn, bnd (hm (by omega)).1]; rfl
 ·rw [hO (by omega) (by omega), tagOf, if_neg (by omega), if_neg (by omega), if_neg (by omega), if_neg (by omega), if_pos e, bodyE, if_neg (by omega), if_neg (by omega), if_neg (by omega), if_pos (by omega)]
  unfold R27
  rw [if_neg (by simp [e]), if_neg (by simp [e]), if_neg (by simp [e]), if_neg (by simp [e]), if_pos (by simp [e]), bnd dn, bnd (hm (by omega)).2]; rfl
 ·rw [opE, if_pos e]
  unfold R27
  rw [if_neg (by simp [e]), if_neg (by simp [e]), if_neg (by simp [e]), if_neg (by simp [e]), if_neg (by simp [e]), if_pos (by simp [e])]; rfl
 ·have hE : bodyE a = [tx 4 a.DN, tx 4 a.RDN, bl a.DelOld] ++ (if a.HasSup = true then [tx 128 a.Sup] else []) := by
   unfold bodyE
   rw [if_neg (by omega), if_neg (by omega), if_neg (by omega), if_neg (by omega), if_pos e]
  rw [hO (by omega) (by omega), tagOf, if_neg (by omega), if_neg (by omega), if_neg (by omega), if_neg (by omega), if_neg (by omega), if_pos e, hE]
  unfold R27
  rw [if_neg (by simp [e]), if_neg (by simp [e]), if_neg (by simp [e]), if_neg (by simp [e]), if_neg (by simp [e]), if_neg (by simp [e]), if_pos (by simp [e]), bnd dn, bnd (show R57 k a.RDN = some (tx 4 a.RDN) from rfl), bnd (bool_b k a.DelOld)]
  cases a.HasSup <;> rfl
 ·rw [hO (by omega) (by omega), tagOf, if_neg (by omega), if_neg (by omega), if_neg (by omega), if_neg (by omega), if_neg (by omega), if_neg (by omega), if_pos e, bodyE, if_neg (by omega), if_neg (by omega), if_neg (by omega), if_neg (by omega), if_neg (by omega), if_pos e]
  unfold R27
  rw [if_neg (by simp [e]), if_neg (by simp [e]), if_neg (by simp [e]), if_neg (by simp [e]), if_neg (by simp [e]), if_neg (by simp [e]), if_neg (by simp [e]), if_pos (by simp [e]), bnd dn, bnd (texts_b k 48 (some [a.Attr, a.Value]) (by simp [Sl.l]) (by omega))]; rfl
 ·obtain ⟨o1, o2⟩ := h.res e
  have hE : bodyE a = [nm 10 a.Code, tx 4 a.Matched, tx 4 []] := by
   unfold bodyE
   rw [if_neg (by omega), if_neg (by omega), if_neg (by omega), if_neg (by omega), if_neg (by omega), if_neg (by omega)]
  have ht : Sl.at? (some [0, 97, 0, 101, 103, 105, 107, 109, 111]) a.Of = some (tagOf a) := by
   unfold tagOf
   rw [if_pos e]
   rcases o1 with o | o | o | o | o | o | o <;> rw [o] <;> rfl
  rw [hO (by omega) (by omega), hE]
  unfold R27
  rw [if_neg (by simp [e]), if_neg (by simp [e]), if_neg (by simp [e]), if_neg (by simp [e]), if_neg (by simp [e]), if_neg (by simp [e]), if_neg (by simp [e]), if_neg (by simp [e]), if_neg (by simp [e]), bnd ht, bnd (num_c (by omega) 10 (by omega))]; rfl
 ·rw [hO (by omega) (by omega), tagOf, if_neg (by omega), if_neg (by omega), if_neg (by omega), if_neg (by omega), if_neg (by omega), if_neg (by omega), if_neg (by omega), bodyE, if_neg (by omega), if_neg (by omega), if_neg (by omega), if_pos (by omega)]
  unfold R27
  rw [if_neg (by simp [e]), if_neg (by simp [e]), if_neg (by simp [e]), if_neg (by simp [e]), if_neg (by simp [e]), if_neg (by simp [e]), if_neg (by simp [e]), if_neg (by simp [e]), if_pos (by simp [e]), bnd dn, bnd (hm (by omega)).2]; rfl

end Go.Proofs.YtbinlabnilidiaaDoor.M
