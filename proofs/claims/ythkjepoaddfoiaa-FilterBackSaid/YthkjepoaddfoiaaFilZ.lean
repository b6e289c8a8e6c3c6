/- Filters: a leaf is read back. -/
import Derived.Test.YthkjepoaddfoiaaFilY
namespace Go.Proofs.Ythkjepoaddfoiaa.M
open Go Go.Pam
set_option maxRecDepth 20000
set_option linter.unusedVariables false
set_option linter.unusedSimpArgs false

structure Same0 (f g : Fil) : Prop where
 kd : g.Kind = f.Kind
 at_ : g.Attr = f.Attr
 vl : g.Value = f.Value
 sb : Sl.l g.Subs = Sl.l f.Subs
 ks : Sl.l g.Kids = []

theorem f41a {k : Nat} (hk : 160100 ≤ k) {n : Nat} {f : Fil} (hi : isS (n + 1) f = true) (hkd : f.Kind = 4 ∨ f.Kind = 5 ∨ f.Kind = 6) {r : Rd} {rest : Str} (h : At r (f.Attr ++ (signI f.Kind ++ (escS f.Value ++ 41 :: rest)))) (hs : r.s_.length ≤ 160000) :
  ∃ g, F41 k r = some (fwd r (f.Attr ++ signI f.Kind ++ escS f.Value).length, g) ∧ Same0 f g := by
 have hkk : kidsK f.Kind = false := by
  simp only [kidsK, Bool.and_eq_false_iff, decide_eq_false_iff_not]; omega
 rw [isS, hkk, if_neg (by simp), if_neg (by omega), if_neg (by omega), if_pos hkd] at hi
 simp only [Bool.and_eq_true, decide_eq_true_eq] at hi
 obtain ⟨⟨⟨h1, h2⟩, h3⟩, h4⟩ := hi
 have hH := f41H (p := escS f.Value ++ 41 :: rest) hk h1 h hs f.Kind (by
  rcases hkd with e | e | e <;> rw [e] <;> simp [signI]) (by simp)
 rw [hH]
 have hA : At (fwd r (f.Attr.length + (signI f.Kind).length)) (escS f.Value ++ 41 :: rest) := by
  have := h.fwd.fwd; rwa [fwd_fwd] at this
 rw [bnd (f46b hA (.inr (.inr rfl)) hs (by omega) hk), fwd_fwd]
 have hB : At (fwd r (f.Attr.length + (signI f.Kind).length + (escS f.Value).length)) (41 :: rest) := by
  have := hA.fwd; rwa [fwd_fwd] at this
 have hl := hB.len (by simp)
 simp only [List.length_cons] at hl
 have hc : (if f.Kind != 4 then some true else Option.bind (F40 k (fwd r (f.Attr.length + (signI f.Kind).length + (escS f.Value).length))) fun y102 => some (y102 != 42)) = some true := by
  split
  ·rfl
  ·rw [bnd (f40 k (hB.okr (by omega))), hB.nx]; rfl
 simp only
 rw [bnd hc, if_pos rfl]
 refine ⟨Api_Filter.mk f.Kind f.Attr f.Value none none, by rw [List.length_append, List.length_append], ⟨rfl, rfl, rfl, ?_, ?_⟩⟩
 ·exact (List.eq_nil_of_length_eq_zero h3).symm
 ·rfl

theorem f41s {k : Nat} (hk : 160100 ≤ k) {a v0 : Str} {l : List Str} (ha : isTy a = true) (hv0 : v0.length ≤ 1000) (hl : ∀ v ∈ l, v.length ≤ 1000) (hn : l ≠ []) (hn2 : l.length ≤ 40) {r : Rd} {rest : Str}
  (h : At r (a ++ ([61] ++ (escS v0 ++ (Lib.joinTail [42] (l.map escS) ++ 41 :: rest))))) (hs : r.s_.length ≤ 160000) :
  ∃ z, Sl.l z = v0 :: l ∧ F41 k r = some (fwd r (a ++ [61] ++ (escS v0 ++ Lib.joinTail [42] (l.map escS))).length, if v0 :: l = [[], []] then Api_Filter.mk 7 a [] none none else Api_Filter.mk 8 a [] z none) := by
 have hH := f41H (p := escS v0 ++ (Lib.joinTail [42] (l.map escS) ++ 41 :: rest)) hk ha h hs 4 (.inl ⟨rfl, rfl⟩) (by simp)
 rw [hH]
 have hA : At (fwd r (a.length + ([61] : Str).length)) (escS v0 ++ (Lib.joinTail [42] (l.map escS) ++ 41 :: rest)) := by
  have := h.fwd.fwd; rwa [fwd_fwd] at this
 obtain ⟨p, hp⟩ : ∃ p, Lib.joinTail [42] (l.map escS) ++ 41 :: rest = 42 :: p := by
  cases l with
  | nil => exact (hn rfl).elim
  | cons x y => exact ⟨_, rfl⟩
 have hA' : At (fwd r (a.length + ([61] : Str).length)) (escS v0 ++ 42 :: p) := by rw [hp] at hA; exact hA
 rw [bnd (f46b hA' (.inl rfl) hs hv0 hk), fwd_fwd]
 have hB : At (fwd r (a.length + ([61] : Str).length + (escS v0).length)) (Lib.joinTail [42] (l.map escS) ++ 41 :: rest) := by
  have := hA.fwd; rwa [fwd_fwd] at this
 have hB' := hB
 rw [hp] at hB'
 have hlen := hB'.len (by simp)
 simp only
 rw [if_neg (by decide), bnd (f40 k (hB'.okr (by omega))), hB'.nx]
 rw [bnd (show some ((((42 : UInt8).toNat : Int) != 42)) = some false from rfl), if_neg (by simp)]
 obtain ⟨z, z1, z2⟩ := f41P k hk (Api_Filter.mk 0 [] [] none none) l k (Api_Filter.mk 4 a [] (some [v0]) none) _ rest hB hl hs (by omega) (by show 1 + l.length ≤ 100; omega)
 rw [bnd z1, fwd_fwd]
 have z3 : Sl.l z = v0 :: l := z2
 refine ⟨z, z3, ?_⟩
 have hlz : Sl.len z = ((l.length + 1 : Nat) : Int) := by unfold Sl.len; rw [z3]; rfl
 have e0 : Sl.at? z 0 = some v0 := by rw [show (0 : Int) = ((0 : Nat) : Int) from rfl, Sl.at?_nat, z3]; rfl
 have e1 : Sl.at? z 1 = l[0]? := by rw [show (1 : Int) = ((1 : Nat) : Int) from rfl, Sl.at?_nat, z3]; rfl
 have hw : (a ++ [61] ++ (escS v0 ++ Lib.joinTail [42] (l.map escS))).length = a.length + ([61] : Str).length + (escS v0).length + (Lib.joinTail [42] (l.map escS)).length := by
  simp only [List.length_append]; omega
 rw [hw]
 simp only
 rw [hlz]
 cases l with
 | nil => exact (hn rfl).elim
 | cons v1 m =>
  rw [show (v1 :: m)[0]? = some v1 from rfl] at e1
  cases m with
  | nil =>
   rw [if_pos (by rfl), bnd e0, Option.bind_some]
   by_cases h0 : v0 = []
   ·rw [h0, if_pos (by rfl), bnd e1, Option.bind_some]
    by_cases h1 : v1 = []
    ·rw [h1, if_pos (by rfl), Option.bind_some, if_pos (by rfl)]
    ·rw [if_neg (by simpa using h1), Option.bind_some, if_neg (by simpa using h1)]
   ·rw [if_neg (by simpa using h0), Option.bind_some, if_neg (by simp), Option.bind_some, if_neg (by simp [h0])]
  | cons v2 m =>
   rw [if_neg (by simp only [List.length_cons, beq_iff_eq]; omega), Option.bind_some, if_neg (by simp), Option.bind_some, if_neg (by simp), Option.bind_some, if_neg (by simp)]

theorem f41R {k : Nat} (hk : 160100 ≤ k) {n : Nat} {f : Fil} (hi : isS (n + 1) f = true) (hkk : kidsK f.Kind = false) {r : Rd} {rest : Str} (h : At r (bodyS f ++ 41 :: rest)) (hs : r.s_.length ≤ 160000) :
  ∃ g, F41 k r = some (fwd r (bodyS f).length, g) ∧ Same0 f g := by
 have hi' := hi
 rw [isS, hkk, if_neg (by simp)] at hi'
 unfold bodyS at h ⊢
 by_cases h7 : f.Kind = 7
 ·rw [if_pos h7] at hi' h ⊢
  simp only [Bool.and_eq_true, decide_eq_true_eq, beq_iff_eq] at hi'
  obtain ⟨⟨⟨a1, a2⟩, a3⟩, a4⟩ := hi'
  obtain ⟨z, z1, z2⟩ := f41s (v0 := []) (l := [[]]) hk a1 (by simp) (by simp) (by simp) (by simp) (r := r) (rest := rest) (by simpa [escS, Lib.joinTail] using h) hs
  refine ⟨Api_Filter.mk 7 f.Attr [] none none, by rw [z2, if_pos rfl]; simp [escS, Lib.joinTail], ⟨h7.symm, rfl, a2.symm, ?_, rfl⟩⟩
  exact (List.eq_nil_of_length_eq_zero a3).symm
 ·rw [if_neg h7] at hi' h ⊢
  by_cases h8 : f.Kind = 8
  ·rw [if_pos h8] at hi' h ⊢
   simp only [Bool.and_eq_true, decide_eq_true_eq, beq_iff_eq] at hi'
   obtain ⟨⟨⟨a1, a2⟩, a3⟩, a4⟩ := hi'
   have hpl := (parts_len a4).2
   simp only [partsS, Bool.and_eq_true, decide_eq_true_eq] at a4
   obtain ⟨⟨⟨b1, b2⟩, b3⟩, b4⟩ := a4
   obtain ⟨v0, l, hsub⟩ : ∃ v0 l, Sl.l f.Subs = v0 :: l := by
    cases hx : Sl.l f.Subs with
    | nil => rw [hx] at b1; simp at b1
    | cons x y => exact ⟨x, y, rfl⟩
   rw [hsub] at h hpl b1 b2 b3
   simp only [List.length_cons] at b1 b2
   obtain ⟨z, z1, z2⟩ := f41s (v0 := v0) (l := l) hk a1 (by have := hpl v0 List.mem_cons_self; omega) (fun v hv => by have := hpl v (List.mem_cons_of_mem _ hv); omega) (by rintro rfl; simp at b1) (by omega) (r := r) (rest := rest) (by rw [List.map_cons, Lib.join_cons] at h; simpa [List.append_assoc] using h) hs
   rw [hsub]
   refine ⟨Api_Filter.mk 8 f.Attr [] z none, ?_, ⟨h8.symm, rfl, a2.symm, by rw [hsub]; exact z1, rfl⟩⟩
   rw [z2, if_neg (by
    intro he
    injection he with e1 e2
    rw [e1, e2] at b3
    simp at b3)]
   rw [List.map_cons, Lib.join_cons]
  ·rw [if_neg h8] at hi' h ⊢
   have h456 : f.Kind = 4 ∨ f.Kind = 5 ∨ f.Kind = 6 := by
    by_cases hh : f.Kind = 4 ∨ f.Kind = 5 ∨ f.Kind = 6
    ·exact hh
    ·rw [if_neg hh] at hi'; cases hi'
   exact f41a hk hi h456 (by simpa [List.append_assoc] using h) hs
end Go.Proofs.Ythkjepoaddfoiaa.M
