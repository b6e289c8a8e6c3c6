/- Filters: chains of nodes. -/
import Derived.Test.YthkjepoaddfoiaaFilZb
import Derived.Test.YthkjepoaddfoiaaFDn
import Derived.Test.YthkjepoaddfoiaaFilK
namespace Go.Proofs.Ythkjepoaddfoiaa.M
open Go Go.Pam
set_option maxRecDepth 20000
set_option linter.unusedVariables false
set_option linter.unusedSimpArgs false

theorem cnt_ty {a : Str} (h : isTy a = true) : a.count 40 = 0 := by
  cases a with
  | nil => cases h
  | cons c0 r0 =>
    simp only [isTy, Bool.and_eq_true] at h
    rw [List.count_eq_zero]
    intro hm
    have := List.all_eq_true.1 h.2 40 hm
    exact absurd this (by decide)

theorem hex_no : ∀ n : Nat, n < 16 → hexB n ≠ 40 := by
  intro n hn
  have : (List.range 16).all (fun n => decide (hexB n ≠ 40)) = true := by decide
  exact of_decide_eq_true (List.all_eq_true.1 this n (List.mem_range.2 hn))

theorem cnt_esc (s : Str) : (escS s).count 40 = 0 := by
  rw [List.count_eq_zero]
  intro hm
  unfold escS at hm
  obtain ⟨c, _, hc⟩ := List.mem_flatMap.1 hm
  unfold escB at hc
  split at hc
  · have hlt := c.toNat_lt
    simp only [List.mem_cons, List.not_mem_nil, or_false] at hc
    rcases hc with h | h | h
    · exact absurd h (by decide)
    · exact hex_no (c.toNat / 16) (by omega) h.symm
    · exact hex_no (c.toNat % 16) (by omega) h.symm
  · rename_i hs
    rw [List.mem_singleton] at hc
    subst hc
    exact hs (by decide)

theorem cnt_tail : ∀ l : List Str, (Lib.joinTail [42] (l.map escS)).count 40 = 0
  | [] => rfl
  | v :: l => by
    show ([42] ++ escS v ++ Lib.joinTail [42] (l.map escS)).count 40 = 0
    rw [List.count_append, List.count_append, cnt_esc, cnt_tail l]; rfl

theorem cnt_sK (n : Int) : (signK n).count 40 = 0 := by
  unfold signK; split
  · rfl
  · split <;> rfl
theorem cnt_sI (n : Int) : (signI n).count 40 = 0 := by
  unfold signI; split
  · rfl
  · split <;> rfl

theorem cnt : ∀ (n : Nat) (f : Fil), isS n f = true → cS n f ≤ 20 → (((prS n f).count 40 : Nat) : Int) = cS n f
  | 0, f, h, _ => by cases h
  | n + 1, f, hi, hc => by
    cases hkk : kidsK f.Kind with
    | true =>
      obtain ⟨h1, h2⟩ := kids_of hkk hi hc
      rw [prS, hkk, if_pos rfl, ← h2]
      have : ∀ l : List Fil, (∀ g ∈ l, isS n g = true ∧ cS n g ≤ 20) → (((l.flatMap (prS n)).count 40 : Nat) : Int) = (l.map (cS n)).sum := by
        intro l
        induction l with
        | nil => intro _; rfl
        | cons g l ih =>
          intro hg
          rw [List.flatMap_cons, List.count_append, List.map_cons, List.sum_cons, ← ih (fun x hx => hg x (List.mem_cons_of_mem _ hx)), ← cnt n g (hg g List.mem_cons_self).1 (hg g List.mem_cons_self).2]
          omega
      rw [← this _ h1, List.count_append, List.count_append, List.count_append]
      have hs : (signK f.Kind).count 40 = 0 := cnt_sK _
      rw [hs]
      have e1 : ([40] : Str).count 40 = 1 := rfl
      have e2 : ([41] : Str).count 40 = 0 := rfl
      rw [e1, e2]; omega
    | false =>
      have ht := cnt_ty (isS_kind hi hkk)
      rw [prS_leaf hkk, cS, hkk, if_neg (by simp), List.count_append, List.count_append]
      have e1 : ([40] : Str).count 40 = 1 := rfl
      have e2 : ([41] : Str).count 40 = 0 := rfl
      have hb : (bodyS f).count 40 = 0 := by
        unfold bodyS
        split
        · rw [List.count_append, ht]; rfl
        · split
          · rw [List.count_append, List.count_append, ht]
            cases hx : Sl.l f.Subs with
            | nil => rfl
            | cons v l => rw [List.map_cons, Lib.join_cons, List.count_append, cnt_esc, cnt_tail]; rfl
          · rw [List.count_append, List.count_append, ht, cnt_esc]
            have : (signI f.Kind).count 40 = 0 := cnt_sI _
            rw [this]
      rw [e1, e2, hb]; rfl

structure Ch (m : Nat) (f : Fil) (t : Str) : Prop where
  few : ∀ n, m ≤ n → fewP n f
  is : ∀ n, m ≤ n → isS n f = true
  cs : ∀ n, m ≤ n → cS n f = m
  f11 : ∀ k, 200110 + m ≤ k → k < 1000000 → F11 k f = some t
  len : t.length ≤ 3 * m + 6
  cnt : t.count 40 = m

theorem ch1 : Ch 1 (Api_Filter.mk 4 [99, 110] [97] none none) [40, 99, 110, 61, 97, 41] where
  few n hn := by
    obtain ⟨n, rfl⟩ : ∃ j, n = j + 1 := ⟨n - 1, by omega⟩
    exact ⟨by simp [Sl.l], by simp, by simp, by simp [Sl.l], (fun v hv => by cases hv), (fun g hg => by cases hg)⟩
  is n hn := by
    obtain ⟨n, rfl⟩ : ∃ j, n = j + 1 := ⟨n - 1, by omega⟩
    rfl
  cs n hn := by
    obtain ⟨n, rfl⟩ : ∃ j, n = j + 1 := ⟨n - 1, by omega⟩
    rfl
  f11 k hk hk2 := by
    have := M.f11 1 k (Api_Filter.mk 4 [99, 110] [97] none none) ⟨by simp [Sl.l], by simp, by simp, by simp [Sl.l], (fun v hv => by cases hv), (fun g hg => by cases hg)⟩ rfl (by decide) hk hk2
    rw [this]; rfl
  len := by decide
  cnt := by decide

theorem f11K {k : Nat} {f : Fil} {p : Fil → Str} (hq : ∀ g ∈ Sl.l f.Kids, F11 k g = some (p g)) (hkk : kidsK f.Kind = true) (hl : (Sl.l f.Kids).length ≤ 200000) (hlen : ((Sl.l f.Kids).flatMap p).length ≤ 900000) (hk : 200100 ≤ k) :
    F11 (k + 1) f = some ([40] ++ signK f.Kind ++ (Sl.l f.Kids).flatMap p ++ [41]) := by
  rw [F11]
  obtain ⟨q, hq⟩ := f11L0 (F11 k) p k f hq hl (Sl.l f.Kids).length k 0 [] (by omega) (by omega) (by rw [List.drop_zero]; simp only [List.length_nil]; omega)
  rw [List.drop_zero, List.nil_append] at hq
  have hq' : F11_L0 (F11 k) k f k [] 0 = some ((Sl.l f.Kids).flatMap p, q) := hq
  have hr : 1 ≤ f.Kind ∧ f.Kind ≤ 3 := by
    simp only [kidsK, Bool.and_eq_true, decide_eq_true_eq] at hkk; omega
  rw [bnd hq']
  have fin : ∀ c : UInt8, (Option.bind (Str.app? [40, c] ((Sl.l f.Kids).flatMap p)) fun z => Option.bind (Str.app? z [41]) fun z2 => some z2) = some ([40] ++ [c] ++ (Sl.l f.Kids).flatMap p ++ [41]) := fun c => by
    have b2 : Str.app? [40, c] ((Sl.l f.Kids).flatMap p) = some ([40, c] ++ (Sl.l f.Kids).flatMap p) := app_ok (by simp only [List.length_cons, List.length_nil]; omega)
    rw [bnd b2, bnd (app_ok (by simp only [List.length_append, List.length_cons, List.length_nil]; omega))]
    rfl
  have : f.Kind = 1 ∨ f.Kind = 2 ∨ f.Kind = 3 := by omega
  rcases this with e | e | e
  · rw [if_pos (show (f.Kind == 1) = true by simp [e])]; simp only; rw [fin 38, e]; rfl
  · rw [if_neg (show ¬ (f.Kind == 1) = true by simp [e]), if_pos (show (f.Kind == 2) = true by simp [e])]; simp only; rw [fin 124, e]; rfl
  · rw [if_neg (show ¬ (f.Kind == 1) = true by simp [e]), if_neg (show ¬ (f.Kind == 2) = true by simp [e]), if_pos (show (f.Kind == 3) = true by simp [e])]; simp only; rw [fin 33, e]; rfl

theorem chS {m : Nat} {f : Fil} {t : Str} (h : Ch m f t) (hm : m ≤ 20) (hm1 : 1 ≤ m) {kd : Int} (hkd : 1 ≤ kd ∧ kd ≤ 3) : Ch (m + 1) (Api_Filter.mk kd [] [] none (some [f])) ([40] ++ signK kd ++ t ++ [41]) := by
  have hkk : kidsK kd = true := by simp only [kidsK, Bool.and_eq_true, decide_eq_true_eq]; omega
  refine ⟨fun n hn => ?_, fun n hn => ?_, fun n hn => ?_, fun k hk hk2 => ?_, ?_, ?_⟩
  · obtain ⟨n, rfl⟩ : ∃ j, n = j + 1 := ⟨n - 1, by omega⟩
    refine ⟨by simp [Sl.l], by simp, by simp, by simp [Sl.l], (fun v hv => by cases hv), fun g hg => ?_⟩
    have : g ∈ [f] := hg
    rw [List.mem_singleton] at this; subst this
    exact h.few n (by omega)
  · obtain ⟨n, rfl⟩ : ∃ j, n = j + 1 := ⟨n - 1, by omega⟩
    rw [isS, if_pos hkk]
    simp [Sl.l, h.is n (by omega)]
  · obtain ⟨n, rfl⟩ : ∃ j, n = j + 1 := ⟨n - 1, by omega⟩
    rw [cS, if_pos hkk]
    show imin (cl [cS n f] 1) 21 = _
    rw [h.cs n (by omega)]
    have hcl : cl [((m : Nat) : Int)] 1 = 1 + m := rfl
    rw [hcl]
    unfold imin
    split <;> omega
  · obtain ⟨k, rfl⟩ : ∃ j, k = j + 1 := ⟨k - 1, by omega⟩
    have := f11K (k := k) (f := Api_Filter.mk kd [] [] none (some [f])) (p := fun _ => t) (fun g hg => by
      have : g ∈ [f] := hg
      rw [List.mem_singleton] at this; subst this
      exact h.f11 k (by omega) (by omega)) hkk (by simp [Sl.l]) (by have := h.len; simp [Sl.l]; omega) (by omega)
    rw [this]
    simp [Sl.l]
  · have := h.len
    have := (sign_len kd).1
    simp only [List.length_append, List.length_cons, List.length_nil]; omega
  · rw [List.count_append, List.count_append, List.count_append, h.cnt]
    have hs : (signK kd).count 40 = 0 := cnt_sK _
    rw [hs]
    have e1 : ([40] : Str).count 40 = 1 := rfl
    have e2 : ([41] : Str).count 40 = 0 := rfl
    rw [e1, e2]; omega

theorem at3 {z : Nat} (hz : z < 3) : Sl.at? (some [(1 : Int), 2, 3]) (z : Int) = some ((z : Int) + 1) := by
  rw [Sl.at?_nat]
  match z, hz with
  | 0, _ => rfl
  | 1, _ => rfl
  | 2, _ => rfl

theorem f6L (k : Nat) (a : Sl Int) (ha : ∀ x ∈ Sl.l a, 0 ≤ x) (lim : Nat) (hlim : lim ≤ 20) : ∀ (j n i : Nat) (b : Fil) (t : Str), i + j = lim → j < n → Ch (i + 1) b t → ∃ q b' t', F6_L0 k a (lim : Int) n (i : Int) b = some (q, b') ∧ Ch (lim + 1) b' t'
  | j, 0, i, b, t, _, h, _ => by omega
  | 0, n + 1, i, b, t, hij, _, h => by
    have : i = lim := by omega
    subst this
    rw [F6_L0, if_neg (by simp)]
    exact ⟨_, b, t, rfl, h⟩
  | j + 1, n + 1, i, b, t, hij, hn, h => by
    have hk : ∃ kd : Int, (1 ≤ kd ∧ kd ≤ 3) ∧ (if decide ((i : Int) < (Sl.len a)) then
        Option.bind (Sl.at? a (i : Int)) fun y122 =>
        Option.bind (rem? y122 3) fun z123 =>
        Option.bind (Sl.at? (some [1, 2, 3]) z123) fun y124 =>
        some y124
        else
        some 3) = some kd := by
      by_cases hc : decide ((i : Int) < (Sl.len a)) = true
      · rw [if_pos hc]
        have hi : i < (Sl.l a).length := by
          rw [decide_eq_true_eq] at hc
          unfold Sl.len at hc
          omega
        rw [bnd (at_of (List.getElem?_eq_getElem hi))]
        obtain ⟨z, hz, hr⟩ := rem?_nat (ha _ (List.getElem_mem hi)) (n := 3) (by omega)
        rw [bnd (show rem? _ 3 = some (z : Int) from hr), bnd (at3 hz)]
        exact ⟨_, by omega, rfl⟩
      · rw [if_neg hc]
        exact ⟨3, by omega, rfl⟩
    obtain ⟨kd, h1, h2⟩ := hk
    obtain ⟨q, b', t', d1, d2⟩ := f6L k a ha lim hlim j n (i + 1) _ _ (by omega) (by omega) (chS h (by omega) (by omega) h1)
    refine ⟨q, b', t', ?_, d2⟩
    rw [F6_L0, if_pos (decide_eq_true (by omega)), bnd h2, ad_nat (by omega), d1]

theorem F6_true (a0 : Int) (h0 : 0 ≤ a0) (a1 : Sl Int) (h1 : ∀ x ∈ Sl.l a1, 0 ≤ x) : F6 300000 a0 a1 = some true := by
  unfold F6
  rw [bnd known7, if_neg (by simp)]
  obtain ⟨z, hz3, hz⟩ := rem?_nat h0 (n := 3) (by omega)
  rw [bnd (show rem? a0 3 = some (z : Int) from hz)]
  have e1 : sb .i64 (ad .i64 (cv .i64 (z : Int)) 20) 2 = ((z + 18 : Nat) : Int) := by
    match z, hz3 with
    | 0, _ => decide
    | 1, _ => decide
    | 2, _ => decide
  have e2 : ad .i64 ((z + 18 : Nat) : Int) 1 = ((z + 19 : Nat) : Int) := by
    match z, hz3 with
    | 0, _ => decide
    | 1, _ => decide
    | 2, _ => decide
  rw [e1, e2]
  obtain ⟨q, b, t, d1, d2⟩ := f6L 300000 a1 h1 (z + 18) (by omega) (z + 18) 300000 0 _ _ (by omega) (by omega) ch1
  have d1' : F6_L0 300000 a1 ((z + 18 : Nat) : Int) 300000 0 (Api_Filter.mk 4 [99, 110] [97] none none) = some (q, b) := d1
  rw [bnd d1']
  simp only
  have hb := d2.len
  rw [bnd (d2.f11 300000 (by omega) (by omega))]
  have hcs := d2.cs 22 (by omega)
  have his := d2.is 22 (by omega)
  have hfew := d2.few 22 (by omega)
  have e14 := f14 22 300000 b hfew (by omega)
  by_cases hbig : z = 2
  · subst hbig
    have hF12 : F12 300000 b = some false := by
      unfold F12
      rw [bnd e14, hcs]; rfl
    have hF13 : F13 300000 b = some [] := by
      unfold F13
      rw [bnd hF12]; rfl
    have h18 : F18 300000 t = some (Api_Filter.mk 0 [] [] none none, 18) := by
      rcases f18 (s := t) (by omega) (k := 300000) (by omega) (by omega) with h | ⟨f, h, g1, g2, g3, g4, g5⟩
      · exact h
      · have := cnt 22 f g2 g3
        rw [g4, d2.cnt] at this
        omega
    rw [bnd h18, if_pos (by decide)]
    simp only
    rw [if_pos (by decide), bnd hF12]
    simp only [Option.bind_some, Bool.not_false, if_true]
    rw [bnd hF13]
    simp only [Option.bind_some, beq_self_eq_true, if_true]
    rw [bnd e14, hcs]
    rfl
  · have hc20 : cS 22 b ≤ 20 := by rw [hcs]; omega
    obtain ⟨q1, q2, q3⟩ := is_of (k := 300000) hfew his hc20 (by omega) (by omega)
    have ht : prS 22 b = t := by
      have := d2.f11 300000 (by omega) (by omega)
      rw [q3] at this
      exact Option.some.inj this
    obtain ⟨g, g1, g2, _, _⟩ := back (k := 300000) hfew his hc20 (by rw [ht]; omega) (by omega) (by omega)
    rw [ht] at g1
    rw [bnd g1, if_neg (by rw [decide_eq_true_eq]; omega)]
    simp only
    rw [if_pos (by simp), bnd g2]
    simp only [Option.bind_some, if_true]
    rw [bnd q1]
    simp only [Option.bind_some, if_true]
    rw [bnd e14, hcs, show z + 18 + 1 = z + 19 by omega]
    simp

theorem filterNests_true (a0 : Int) (a1 : Sl Int) (o0 : (Lit.int .u8 a0).wf = true) (o1 : (Sl.l a1).length ≤ maxLen ∧ ∀ x ∈ Sl.l a1, (Lit.int .u8 x).wf = true) : evw env 6 [.int .u8 a0, encSl (eI .u8) a1] [] = some (.bool true, [], false) := by
  have hb : ∀ x : Int, (Lit.int .u8 x).wf = true → 0 ≤ x := by
    intro x o
    have : 0 ≤ x ∧ x ≤ 255 := by simpa [Lit.wf, IntKind.min, IntKind.max, IntKind.signed, IntKind.bits] using o
    exact this.1
  refine s6 300000 (F6_true a0 (hb _ o0) a1 (fun x hx => hb x (o1.2 x hx))) ?_ []
  simp only [List.map_cons, List.map_nil, strip_enc]
  rfl
end Go.Proofs.Ythkjepoaddfoiaa.M
