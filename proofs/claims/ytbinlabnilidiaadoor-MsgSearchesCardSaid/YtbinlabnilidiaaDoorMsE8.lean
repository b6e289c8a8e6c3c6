/- Messages as elements: both write the same. -/
import Derived.Test.YtbinlabnilidiaaDoorMsE7
namespace Go.Proofs.YtbinlabnilidiaaDoor.M
open Go Go.Pam
set_option maxRecDepth 20000
set_option linter.unusedVariables false
set_option linter.unusedSimpArgs false

theorem mem2 {α : Type} {P : α → Prop} {a b : α} (ha : P a) (hb : P b) : ∀ x ∈ Sl.l (some [a, b]), P x := by
 intro x hx
 simp only [Sl.l, Option.getD_some, List.mem_cons, List.not_mem_nil, or_false] at hx
 rcases hx with rfl | rfl
 ·exact ha
 ·exact hb
theorem mem_map {α : Type} {P : El → Prop} {g : α → El} {l : List α} (h : ∀ a ∈ l, P (g a)) : ∀ x ∈ Sl.l (rowE (l.map g)), P x := by
 intro x hx
 rw [rowE_l] at hx
 obtain ⟨a, ha, rfl⟩ := List.mem_map.1 hx
 exact h a ha

theorem fine_texts {m : Nat} {t : Int} (ht : consT t = true) {l : List Str} (hl : l.length ≤ 14) (h : ∀ s ∈ l, s.length ≤ 500) : Fine (m + 2) (4 + 504 * 30) (ls t (rowE (l.map (tx 4)))) :=
 fine_ls ht (by rw [rowE_l, List.length_map]; omega) (mem_map fun s hs => fine_tx p4 (h s hs) (by omega))

theorem fine_attr {m : Nat} {x : Api_Mod} (h : modFew x) : Fine (m + 3) (4 + 15124 * 30) (attrE x) :=
 fine_ls (m := m + 2) (c := 15124) c48 (by simp [Sl.l]) (mem2 ((fine_tx (m := m + 1) p4 h.1 (by omega)).up (by omega)) (fine_texts (m := m) c49 h.2.1 h.2.2))

theorem fine_mods {m : Nat} (chg : Bool) {l : List Api_Mod} (hl : l.length ≤ 14) (h : ∀ x ∈ l, modFew x) : Fine (m + 5) 500000000 (modsE chg l) := by
 refine (fine_ls (m := m + 4) (c := 4 + 453724 * 30) c48 (by rw [rowE_l, List.length_map]; omega) (mem_map fun x hx => ?_)).up (by omega)
 cases chg with
 | false => exact (fine_attr (m := m + 1) (h x hx)).up (by omega)
 | true => exact fine_ls (m := m + 3) (c := 453724) c48 (by simp [Sl.l]) (mem2 ((fine_nm (m := m + 2) (by decide +kernel)).up (by omega)) ((fine_attr (m := m) (h x hx)).up (by omega)))

theorem fine_op {a : Ms} (ha : Few a) (h : Op a) : Fine 27 100000000000 (opE a) := by
 unfold opE
 by_cases h6 : a.Op = 6
 ·rw [if_pos h6]; exact (fine_tx (t := 74) (by decide +kernel) ha.dn (by omega)).up (by omega)
 rw [if_neg h6]
 by_cases h2 : a.Op = 2
 ·rw [if_pos h2]
  exact (fine_tx (m := 26) (c := 0) (t := 66) (s := []) (by decide +kernel) (by simp) (by omega)).up (by omega)
 rw [if_neg h2]
 have hT : consT (tagOf a) = true := by
  unfold tagOf
  repeat' split
  all_goals decide +kernel
 have dn : Fine 26 504 (tx 4 a.DN) := fine_tx p4 ha.dn (by omega)
 have t4 : ∀ {s : Str}, s.length ≤ 500 → Fine 26 504 (tx 4 s) := fun h => fine_tx p4 h (by omega)
 have t128 : ∀ {s : Str}, s.length ≤ 500 → Fine 26 504 (tx 128 s) := fun h => fine_tx (by decide +kernel) h (by omega)
 have n2 : ∀ v, Fine 26 504 (nm 2 v) := fun v => (fine_nm (by decide +kernel)).up (by omega)
 have n10 : ∀ v, Fine 26 504 (nm 10 v) := fun v => (fine_nm (by decide +kernel)).up (by omega)
 have key : (bodyE a).length ≤ 30 ∧ ∀ x ∈ bodyE a, Fine 26 600000000 x := by
  unfold bodyE
  by_cases e1 : a.Op = 1
  ·rw [if_pos e1]
   refine ⟨by simp, fun x hx => ?_⟩
   simp only [List.mem_cons, List.not_mem_nil, or_false] at hx
   rcases hx with rfl | rfl | rfl
   ·exact (n2 _).up (by omega)
   ·exact dn.up (by omega)
   ·exact (t128 ha.pass).up (by omega)
  rw [if_neg e1]
  by_cases e3 : a.Op = 3
  ·rw [if_pos e3]
   obtain ⟨s1, s2, s3, s4, s5⟩ := h.search e3
   unfold filS at s3
   rw [Bool.and_eq_true, decide_eq_true_eq] at s3
   obtain ⟨fo1, fo2, r3⟩ := fine_filter 22 a.Filter ha.filter s3.2 s3.1
   have r3' : (szS 26 (elF 22 a.Filter) : Int) ≤ 3000 * cS 22 a.Filter := r3
   have fF : Fine 26 60000 (elF 22 a.Filter) := ⟨fo1, fo2, by omega⟩
   refine ⟨by simp, fun x hx => ?_⟩
   simp only [List.mem_cons, List.not_mem_nil, or_false] at hx
   rcases hx with rfl | rfl | rfl | rfl | rfl | rfl | rfl | rfl
   ·exact dn.up (by omega)
   ·exact (n10 _).up (by omega)
   ·exact (n10 _).up (by omega)
   ·exact (n2 _).up (by omega)
   ·exact (n2 _).up (by omega)
   ·exact (fine_bl _).up (by omega)
   ·exact fF.up (by omega)
   ·exact (fine_texts (m := 24) c48 ha.wants ha.want).up (by omega)
  rw [if_neg e3]
  by_cases e4 : a.Op = 4
  ·rw [if_pos e4]
   refine ⟨by simp, fun x hx => ?_⟩
   simp only [List.mem_cons, List.not_mem_nil, or_false] at hx
   rcases hx with rfl | rfl
   ·exact dn.up (by omega)
   ·exact (fine_mods (m := 21) true ha.mods ha.mod).up (by omega)
  rw [if_neg e4]
  by_cases e5 : a.Op = 5 ∨ a.Op = 10
  ·rw [if_pos e5]
   refine ⟨by simp, fun x hx => ?_⟩
   simp only [List.mem_cons, List.not_mem_nil, or_false] at hx
   rcases hx with rfl | rfl
   ·exact dn.up (by omega)
   ·exact (fine_mods (m := 21) false ha.mods ha.mod).up (by omega)
  rw [if_neg e5]
  by_cases e7 : a.Op = 7
  ·rw [if_pos e7]
   refine ⟨by cases a.HasSup <;> simp, fun x hx => ?_⟩
   rcases List.mem_append.1 hx with hx | hx
   ·simp only [List.mem_cons, List.not_mem_nil, or_false] at hx
    rcases hx with rfl | rfl | rfl
    ·exact dn.up (by omega)
    ·exact (t4 ha.rdn).up (by omega)
    ·exact (fine_bl _).up (by omega)
   ·split at hx
    ·simp only [List.mem_cons, List.not_mem_nil, or_false] at hx
     subst hx
     exact (t128 ha.sup).up (by omega)
    ·cases hx
  rw [if_neg e7]
  by_cases e8 : a.Op = 8
  ·rw [if_pos e8]
   refine ⟨by simp, fun x hx => ?_⟩
   simp only [List.mem_cons, List.not_mem_nil, or_false] at hx
   rcases hx with rfl | rfl
   ·exact dn.up (by omega)
   ·exact (fine_ls (m := 25) (c := 504) c48 (by simp [Sl.l]) (mem2 (fine_tx p4 ha.attr (by omega)) (fine_tx p4 ha.value (by omega)))).up (by omega)
  rw [if_neg e8]
  refine ⟨by simp, fun x hx => ?_⟩
  simp only [List.mem_cons, List.not_mem_nil, or_false] at hx
  rcases hx with rfl | rfl | rfl
  ·exact (n10 _).up (by omega)
  ·exact (t4 ha.matched).up (by omega)
  ·exact (t4 (s := []) (by simp)).up (by omega)
 exact (fine_ls (m := 26) (c := 600000000) (l := some (bodyE a)) hT key.1 key.2).up (by omega)

theorem fine_msg {a : Ms} (ha : Few a) (h : Op a) : Fine 28 5000000000000 (msgE a) :=
 (fine_ls (m := 27) (c := 100000000000) c48 (by simp [Sl.l]) (mem2 ((fine_nm (by decide +kernel)).up (by omega)) (fine_op ha h))).up (by omega)

end Go.Proofs.YtbinlabnilidiaaDoor.M
