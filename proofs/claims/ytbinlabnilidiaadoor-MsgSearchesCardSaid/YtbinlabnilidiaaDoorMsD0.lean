/- Messages: the same but for rows that are none. -/
import Derived.Test.YtbinlabnilidiaaDoorMsT
namespace Go.Proofs.YtbinlabnilidiaaDoor.M
open Go Go.Pam
set_option maxRecDepth 20000
set_option linter.unusedVariables false
set_option linter.unusedSimpArgs false

/-! Filters -/
def nF : Nat → Fil → Fil
 | 0, f => ⟨f.Kind, f.Attr, f.Value, some (Sl.l f.Subs), none⟩
 | n + 1, f => ⟨f.Kind, f.Attr, f.Value, some (Sl.l f.Subs), some ((Sl.l f.Kids).map (nF n))⟩

theorem allFrom_map {α β : Type} (p : Nat → α → Bool) (c : α → β) (full : List α) : ∀ (i : Nat) (l m : List α), l.length = m.length → (∀ j, m[j]? = full[i + j]?) → (∀ x ∈ l, ∀ j y, full[j]? = some y → (p j x = true ↔ c x = c y)) →
  (allFrom p i l = true ↔ l.map c = m.map c)
 | i, [], [], _, _, _ => by simp [allFrom]
 | i, x :: l, y :: m, h, hf, hp => by
  have h0 : full[i]? = some y := by have := hf 0; simpa using this.symm
  have ih := allFrom_map p c full (i + 1) l m (by simpa using h) (fun j => by have := hf (j + 1); rw [show i + 1 + j = i + (j + 1) by omega]; simpa using this) (fun z hz => hp z (List.mem_cons_of_mem _ hz))
  show (p i x && allFrom p (i + 1) l) = true ↔ _
  rw [Bool.and_eq_true, ih, hp x List.mem_cons_self i y h0]
  simp
 | i, x :: l, [], h, _, _ => by simp at h
 | i, [], y :: m, h, _, _ => by simp at h

theorem same_nF : ∀ (n : Nat) (f g : Fil), fewP n f → (sameS n f g = true ↔ nF n f = nF n g)
 | 0, f, g, h => h.elim
 | n + 1, f, g, h => by
  rw [sameS, nF, nF]
  simp only [Bool.and_eq_true, decide_eq_true_eq, beq_iff_eq, Api_Filter.mk.injEq, Option.some.injEq]
  by_cases hl : (Sl.l f.Kids).length = (Sl.l g.Kids).length
  ·rw [allFrom_map _ (nF n) (Sl.l g.Kids) 0 (Sl.l f.Kids) (Sl.l g.Kids) hl (fun j => by rw [Nat.zero_add]) (fun x hx j y hy => by
    show (match (Sl.l g.Kids)[j]? with | some y => sameS n x y | none => false) = true ↔ _
    rw [hy]
    exact same_nF n x y (h.2.2.2.2.2 x hx))]
   constructor
   ·rintro ⟨⟨⟨⟨⟨a, b⟩, c⟩, d⟩, _⟩, e⟩; exact ⟨a, b, c, d, e⟩
   ·rintro ⟨a, b, c, d, e⟩; exact ⟨⟨⟨⟨⟨a, b⟩, c⟩, d⟩, hl⟩, e⟩
  ·constructor
   ·rintro ⟨⟨_, e⟩, _⟩; exact absurd e hl
   ·rintro ⟨_, _, _, _, e⟩
    have := congrArg List.length e
    simp only [List.length_map] at this
    exact absurd this hl

theorem nF_nF : ∀ (n : Nat) (f : Fil), nF n (nF n f) = nF n f
 | 0, f => rfl
 | n + 1, f => by
  simp only [nF, Sl.l_some, List.map_map]
  congr 2
  exact List.map_congr_left fun x _ => nF_nF n x
theorem elF_nF : ∀ (n : Nat) (f : Fil), elF n (nF n f) = elF n f
 | 0, f => rfl
 | n + 1, f => by
  have : (Sl.l (nF (n + 1) f).Kids).map (elF n) = (Sl.l f.Kids).map (elF n) := by
   simp only [nF, Sl.l_some, List.map_map]
   exact List.map_congr_left fun x _ => elF_nF n x
  rw [elF, this]
  rfl
theorem isS_nF : ∀ (n : Nat) (f : Fil), isS n (nF n f) = isS n f
 | 0, f => rfl
 | n + 1, f => by
  have h1 : (Sl.l (nF (n + 1) f).Kids).all (isS n) = (Sl.l f.Kids).all (isS n) := by
   simp only [nF, Sl.l_some, List.all_map]
   congr 1
   exact funext fun x => isS_nF n x
  have h2 : (Sl.l (nF (n + 1) f).Kids).length = (Sl.l f.Kids).length := by simp only [nF, Sl.l_some, List.length_map]
  rw [isS, h1, h2]
  rfl
theorem cS_nF : ∀ (n : Nat) (f : Fil), cS n (nF n f) = cS n f
 | 0, f => rfl
 | n + 1, f => by
  have h1 : (Sl.l (nF (n + 1) f).Kids).map (cS n) = (Sl.l f.Kids).map (cS n) := by
   simp only [nF, Sl.l_some, List.map_map]
   exact List.map_congr_left fun x _ => cS_nF n x
  rw [cS, h1]
  rfl
theorem few_nF : ∀ (n : Nat) (f : Fil), fewP n (nF n f) ↔ fewP n f
 | 0, f => Iff.rfl
 | n + 1, f => by
  simp only [fewP, nF, Sl.l_some, List.length_map, List.mem_map]
  constructor
  ·rintro ⟨a, b, c, d, e, h⟩
   exact ⟨a, b, c, d, e, fun g hg => (few_nF n g).1 (h _ ⟨g, hg, rfl⟩)⟩
  ·rintro ⟨a, b, c, d, e, h⟩
   refine ⟨a, b, c, d, e, ?_⟩
   rintro _ ⟨g, hg, rfl⟩
   exact (few_nF n g).2 (h g hg)

/-! Modifications -/
def nMod (m : Api_Mod) : Api_Mod := ⟨m.Kind, m.Attr, some (Sl.l m.Values)⟩
theorem all2_map {α β : Type} {p : α → α → Bool} {c : α → β} (hp : ∀ x y, p x y = true ↔ c x = c y) : ∀ (l m : List α), all2 p l m = true ↔ l.map c = m.map c
 | [], [] => by simp [all2]
 | [], y :: m => by simp [all2]
 | x :: l, [] => by simp [all2]
 | x :: l, y :: m => by
  have ih := all2_map hp l m
  simp only [all2, Bool.and_eq_true, hp x y, ih, List.map_cons, List.cons.injEq]
theorem modEq_nMod (a b : Api_Mod) : modEq a b = true ↔ nMod a = nMod b := by
 simp only [modEq, nMod, Bool.and_eq_true, beq_iff_eq, Api_Mod.mk.injEq, Option.some.injEq, and_assoc]

/-! Messages -/
def nM (a : Ms) : Ms := ⟨a.ID, a.Op, a.Of, a.DN, a.Version, a.Pass, a.Scope, a.Size, nF 22 a.Filter, some (Sl.l a.Wants), some ((Sl.l a.Mods).map nMod), a.RDN, a.DelOld, a.HasSup, a.Sup, a.Attr, a.Value, a.Code, a.Matched⟩

theorem msgEq_nM {a b : Ms} (ha : fewP 22 a.Filter) : msgEq a b = true ↔ nM a = nM b := by
 simp only [msgEq, sc1, sc2, nM, modsEq, Bool.and_eq_true, beq_iff_eq, same_nF 22 _ _ ha, all2_map modEq_nMod, Api_Msg.mk.injEq, Option.some.injEq]
 constructor
 ·rintro ⟨⟨⟨⟨h1, h2⟩, h3⟩, ⟨⟨⟨⟨⟨a1, a2⟩, a3⟩, a4⟩, a5⟩, a6⟩, a7⟩, ⟨⟨⟨⟨⟨⟨⟨b1, b2⟩, b3⟩, b4⟩, b5⟩, b6⟩, b7⟩, b8⟩, b9⟩
  exact ⟨a1, a2, a3, b3, a4, b4, a5, a6, h1, h2, h3, b5, b1, b2, b6, b7, b8, a7, b9⟩
 ·rintro ⟨a1, a2, a3, b3, a4, b4, a5, a6, h1, h2, h3, b5, b1, b2, b6, b7, b8, a7, b9⟩
  exact ⟨⟨⟨⟨h1, h2⟩, h3⟩, ⟨⟨⟨⟨⟨a1, a2⟩, a3⟩, a4⟩, a5⟩, a6⟩, a7⟩, ⟨⟨⟨⟨⟨⟨⟨b1, b2⟩, b3⟩, b4⟩, b5⟩, b6⟩, b7⟩, b8⟩, b9⟩

theorem nMod_map (l : List Api_Mod) : (l.map nMod).map nMod = l.map nMod := by
 rw [List.map_map]; exact List.map_congr_left fun x _ => rfl
theorem nM_nM (a : Ms) : nM (nM a) = nM a := by
 simp only [nM, Sl.l_some, nF_nF, nMod_map]
theorem modsE_n (c : Bool) (l : List Api_Mod) : modsE c (l.map nMod) = modsE c l := by
 unfold modsE
 rw [List.map_map]
 rfl
theorem msgE_nM (a : Ms) : msgE (nM a) = msgE a := by
 have hb : bodyE (nM a) = bodyE a := by
  simp only [bodyE, nM, Sl.l_some, elF_nF, modsE_n]
  rfl
 have ho : opE (nM a) = opE a := by
  unfold opE
  rw [hb]
  rfl
 unfold msgE
 rw [ho]
 rfl
theorem modsIs_n (l : List Api_Mod) (t : Int) : modsIs (l.map nMod) t = modsIs l t := by
 simp only [modsIs, List.all_map, List.length_map]
 rfl
theorem opS_nM (a : Ms) : opS (nM a) = opS a := by
 simp only [opS, nM, filS, Sl.l_some, cS_nF, isS_nF, modsIs_n]
 rfl
theorem core_nM (a : Ms) : nM (coreS (nM a)) = nM (coreS a) := by
 have hf := nF_nF 22 a.Filter
 have hm := nMod_map (Sl.l a.Mods)
 have hO : (nM a).Op = a.Op := rfl
 unfold coreS
 rw [hO]
 by_cases h1 : a.Op = 1
 ·rw [if_pos h1, if_pos h1]; rfl
 rw [if_neg h1, if_neg h1]
 by_cases h3 : a.Op = 3
 ·rw [if_pos h3, if_pos h3]; simp only [nM, Sl.l_some, hf]
 rw [if_neg h3, if_neg h3]
 by_cases h4 : a.Op = 4 ∨ a.Op = 5 ∨ a.Op = 10
 ·rw [if_pos h4, if_pos h4]; simp only [nM, Sl.l_some, hm]
 rw [if_neg h4, if_neg h4]
 rfl
theorem few_nM (a : Ms) : Few (nM a) ↔ Few a := by
 constructor
 ·intro h
  refine ⟨h.dn, h.pass, h.rdn, h.sup, h.attr, h.value, h.matched, h.wants, h.want, ?_, ?_, (few_nF 22 _).1 h.filter⟩
  ·have := h.mods
   simpa only [nM, Sl.l_some, List.length_map] using this
  ·intro m hm
   have := h.mod (nMod m) (by simp only [nM, Sl.l_some]; exact List.mem_map_of_mem hm)
   exact this
 ·intro h
  refine ⟨h.dn, h.pass, h.rdn, h.sup, h.attr, h.value, h.matched, h.wants, h.want, ?_, ?_, (few_nF 22 _).2 h.filter⟩
  ·simpa only [nM, Sl.l_some, List.length_map] using h.mods
  ·intro m hm
   simp only [nM, Sl.l_some, List.mem_map] at hm
   obtain ⟨x, hx, rfl⟩ := hm
   exact h.mod x hx
theorem isM_nM {a : Ms} (ha : Few a) : isM (nM a) = isM a := by
 have h1 : msgEq (nM a) (coreS (nM a)) = msgEq a (coreS a) := by
  rw [Bool.eq_iff_iff, msgEq_nM ((few_nF 22 _).2 ha.filter), msgEq_nM ha.filter, nM_nM, core_nM]
 unfold isM
 rw [h1, opS_nM]
 rfl

theorem eq_all {a b : Ms} (ha : Few a) (h : nM a = nM b) : Few b ∧ isM b = isM a ∧ msgE b = msgE a := by
 have hb : Few b := (few_nM b).1 (by rw [← h]; exact (few_nM a).2 ha)
 exact ⟨hb, by rw [← isM_nM hb, ← h, isM_nM ha], by rw [← msgE_nM b, ← h, msgE_nM a]⟩
end Go.Proofs.YtbinlabnilidiaaDoor.M
