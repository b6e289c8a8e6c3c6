/- Part of the proof: the runs of functions on the abstract machine. -/
import Derived.Test.YtkaifmdhkoiaeaaBerP1
namespace Go.Proofs.Ytkaifmdhkoiaeaa.M
open Go Go.Pam
set_option maxRecDepth 20000

/-- So deep at most, so many kids. -/
def Small : Nat → El → Prop
  | 0, _ => False
  | n + 1, e => (Sl.l e.Kids).length ≤ 5000 ∧ ∀ x ∈ (Sl.l e.Kids), Small n x

theorem hd_bounds (s : Str) : ∃ (hh sz : Nat) (e : Int), hd s = ((hh : Int), (sz : Int), e) ∧ hh ≤ 6 ∧ sz ≤ 4000 ∧ (e = 0 → 2 ≤ hh ∧ hh ≤ s.length) := by
  match s with
  | [] => exact ⟨0, 0, 10, rfl, by omega, by omega, by omega⟩
  | [a] =>
    simp only [hd]
    split
    · exact ⟨0, 0, 14, rfl, by omega, by omega, by omega⟩
    · exact ⟨0, 0, 10, rfl, by omega, by omega, by omega⟩
  | a :: b :: r =>
    have hb := b.toNat_lt
    simp only [hd]
    split
    · exact ⟨0, 0, 14, rfl, by omega, by omega, by omega⟩
    split
    · exact ⟨2, b.toNat, 0, rfl, by omega, by omega, fun _ => ⟨by omega, by simp only [List.length_cons]; omega⟩⟩
    split
    · exact ⟨0, 0, 11, rfl, by omega, by omega, by omega⟩
    split
    · exact ⟨0, 0, 10, rfl, by omega, by omega, by omega⟩
    split
    · exact ⟨0, 0, 13, rfl, by omega, by omega, by omega⟩
    · rename_i h1 h2 h3 h4 h5
      have := (be_bound (r.take (b.toNat - 128)) 0 0 (by omega) (by decide)).1
      refine ⟨2 + (b.toNat - 128), ((r.take (b.toNat - 128)).foldl be 0).toNat, 0, ?_, by omega, by omega, fun _ => ⟨by omega, by simp only [List.length_cons]; omega⟩⟩
      simp only [Prod.mk.injEq, and_true]
      omega

theorem ite_some (c : Bool) (a b : Int) : (if c = true then some a else some b) = some (if c = true then a else b) := by cases c <;> rfl

/-- What both readings tell. -/
def RD (m k : Nat) (s : Str) (fr en : Nat) (d : Int) : Prop :=
  ∀ at0 : Int, ∃ (at1 at2 er to : Int) (el : El) (n : Nat),
    F22 k ⟨s, at0⟩ fr en d = some (⟨s, at1⟩, el, to, er) ∧
    F23 k s fr en d = some (el, (n : Int), at2, er) ∧
    (er = 0 ∧ to = ((fr + n : Nat) : Int) ∧ at2 = 0 ∧ 2 ≤ n ∧ fr + n ≤ en ∧ Small m el ∨ er ≠ 0 ∧ to = 0 ∧ n = 0 ∧ el = zel ∧ at1 = at2)

theorem read_loop (m k : Nat) (s : Str) (hs : s.length ≤ 5000) (d : Int) (fr hh sz stop : Nat) (hst : fr + hh + sz = stop) (hstop : stop ≤ s.length) (hdd : -100 ≤ d ∧ d ≤ 100) (w w' : El) (t : Int)
    (ih : ∀ p, p ≤ stop → RD m k s p stop (d + 1)) : ∀ (j fuel p : Nat) (acc : Sl El) (at1 : Int), stop - p ≤ j → p ≤ stop → j < fuel → acc.l.length ≤ p → (∀ x ∈ acc.l, Small m x) →
    (∃ at' er : Int, er ≠ 0 ∧ F22_L0 (F22 k) k d sz ((fr + hh : Nat) : Int) w fuel p ⟨t, [], acc⟩ ⟨s, at1⟩ = some (.ret (⟨s, at'⟩, zel, 0, er)) ∧ F23_L0 (F23 k) k s fr d hh sz w' fuel p ⟨t, [], acc⟩ = some (.ret (zel, 0, at', er))) ∨
    (∃ (at' : Int) (acc' : Sl El) (q : Int), acc'.l.length ≤ 5000 ∧ (∀ x ∈ acc'.l, Small m x) ∧ F22_L0 (F22 k) k d sz ((fr + hh : Nat) : Int) w fuel p ⟨t, [], acc⟩ ⟨s, at1⟩ = some (.brk (q, ⟨t, [], acc'⟩, ⟨s, at'⟩)) ∧ F23_L0 (F23 k) k s fr d hh sz w' fuel p ⟨t, [], acc⟩ = some (.brk (q, ⟨t, [], acc'⟩))) := by
  intro j
  induction j with
  | zero =>
    intro fuel p acc at1 h1 h2 h3 h4 h5
    obtain ⟨f, rfl⟩ : ∃ f, fuel = f + 1 := ⟨fuel - 1, by omega⟩
    have e1 : ad .i64 ((fr + hh : Nat) : Int) (sz : Int) = (stop : Int) := by rw [ad64 (by omega)]; omega
    have e2 : ad .i64 (fr : Int) (hh : Int) = ((fr + hh : Nat) : Int) := by rw [ad64 (by omega)]; omega
    refine .inr ⟨at1, acc, p, by omega, h5, ?_, ?_⟩
    · rw [F22_L0, e1, if_neg (by simp; omega)]
    · rw [F23_L0, e2, e1, if_neg (by simp; omega)]
  | succ j ihj =>
    intro fuel p acc at1 h1 h2 h3 h4 h5
    obtain ⟨f, rfl⟩ : ∃ f, fuel = f + 1 := ⟨fuel - 1, by omega⟩
    have e1 : ad .i64 ((fr + hh : Nat) : Int) (sz : Int) = (stop : Int) := by rw [ad64 (by omega)]; omega
    have e2 : ad .i64 (fr : Int) (hh : Int) = ((fr + hh : Nat) : Int) := by rw [ad64 (by omega)]; omega
    have e3 : ad .i64 d 1 = d + 1 := ad64 (by omega)
    rw [F22_L0, F23_L0, e2, e1, e3]
    by_cases hp : p < stop
    · rw [if_pos (by simp; omega), if_pos (by simp; omega)]
      obtain ⟨b1, b2, er, to, el, n, r1, r2, r3⟩ := ih p h2 at1
      rw [bnd r1, bnd r2]
      rcases r3 with ⟨rfl, rfl, rfl, hn1, hn2, hsm⟩ | ⟨hne, rfl, rfl, rfl, rfl⟩
      · rw [if_neg (by simp), if_neg (by simp)]
        obtain ⟨z, hz, hzl⟩ := Sl.app?_l (bytes := 48) (x := acc) (ys := [el]) (by simp only [List.length_singleton]; omega)
        rw [Sl.l_some, bnd hz, bnd hz]
        have e4 : ad .i64 (p : Int) (n : Int) = ((p + n : Nat) : Int) := by rw [ad64 (by omega)]; omega
        rw [e4]
        exact ihj f (p + n) z b1 (by omega) hn2 (by omega) (by rw [hzl]; simp; omega) (by
          rw [hzl]
          intro x hx
          rcases List.mem_append.1 hx with hx | hx
          · exact h5 x hx
          · rw [List.mem_singleton] at hx; subst hx; exact hsm)
      · rw [if_pos (by simpa using hne), if_pos (by simpa using hne)]
        exact .inl ⟨b1, er, hne, rfl, rfl⟩
    · rw [if_neg (by simp; omega), if_neg (by simp; omega)]
      exact .inr ⟨at1, acc, p, by omega, h5, rfl, rfl⟩

theorem read_both : ∀ (m k : Nat), 5100 + m ≤ k → m ≤ 20 → ∀ (s : Str), s.length ≤ 5000 → ∀ fr en : Nat, fr ≤ en → en ≤ s.length → RD m k s fr en (21 - m)
  | 0, k, hk, hm, s, hs, fr, en, h1, h2 => by
    obtain ⟨k, rfl⟩ : ∃ j, k = j + 1 := ⟨k - 1, by omega⟩
    intro at0
    refine ⟨fr, fr, 12, 0, zel, 0, ?_, ?_, .inr ⟨by omega, rfl, rfl, rfl, rfl⟩⟩
    · rw [F22, if_pos (by simp)]; rfl
    · rw [F23, if_pos (by simp)]; rfl
  | m + 1, k, hk, hm, s, hs, fr, en, h1, h2 => by
    obtain ⟨k, rfl⟩ : ∃ j, k = j + 1 := ⟨k - 1, by omega⟩
    intro at0
    obtain ⟨sub, hsub⟩ : ∃ sub, sub = (s.take en).drop fr := ⟨_, rfl⟩
    have hsl : sub.length = en - fr := by rw [hsub, List.length_drop, List.length_take]; omega
    have e1 : Str.sub? s (fr : Int) (en : Int) = some sub := by rw [Str.sub?_nat h1 h2, hsub]
    obtain ⟨hh, sz, e0, hhd, b1, b2, b3⟩ := hd_bounds sub
    have e2 := F13_eq k (by omega) sub (by omega)
    have e3 := F14_eq k (by omega) sub (by omega)
    rw [hhd] at e2 e3
    have dd : (21 - ((m + 1 : Nat) : Int)) = 20 - m := by omega
    rw [dd]
    have hd20 : decide ((20 - (m : Int)) > 20) = false := by simp; omega
    have a0 : sb .i64 (en : Int) fr = (en : Int) - fr := sb64 (by omega)
    have a1 : sb .i64 (sb .i64 (en : Int) fr) hh = (en : Int) - fr - hh := by rw [a0, sb64 (by omega)]
    have a2 : ad .i64 (fr : Int) hh = ((fr + hh : Nat) : Int) := by rw [ad64 (by omega)]; omega
    have a3 : ad .i64 ((fr + hh : Nat) : Int) sz = ((fr + hh + sz : Nat) : Int) := by rw [ad64 (by omega)]; omega
    have a4 : ad .i64 (hh : Int) sz = ((hh + sz : Nat) : Int) := by rw [ad64 (by omega)]; omega
    have c1 : decide ((sz : Int) > (en : Int) - fr - hh) = decide (en < fr + hh + sz) := by apply decide_eq_decide.2; omega
    have c2 : decide (((fr + hh + sz : Nat) : Int) > (en : Int)) = decide (en < fr + hh + sz) := by apply decide_eq_decide.2; omega
    rw [F22, F23, ite_neg' hd20, ite_neg' hd20, bnd e1, bnd e1, bnd e2, bnd e3]
    simp only [a1, a2, a3, a4, c1, c2, ite_some]
    rw [bnd rfl, bnd rfl, bnd rfl, bnd rfl]
    obtain ⟨y, hy⟩ : ∃ y : Int, y = (if ((if (e0 == 0 && decide (en < fr + hh + sz)) = true then (10 : Int) else e0) == 10 && decide ((20 - (m : Int)) > 1)) = true then 11 else if (e0 == 0 && decide (en < fr + hh + sz)) = true then 10 else e0) := ⟨_, rfl⟩
    rw [← hy]
    by_cases hz : y = 0
    · have h0 : e0 = 0 ∧ fr + hh + sz ≤ en := by
        rw [hz] at hy
        by_cases he : e0 = 0
        · by_cases hl : en < fr + hh + sz
          · exfalso
            simp only [he, hl, decide_true, Bool.and_true, beq_self_eq_true, if_true] at hy
            split at hy <;> omega
          · exact ⟨he, by omega⟩
        · exfalso
          have he' : (e0 == 0) = false := by simpa using he
          simp only [he', Bool.false_and, Bool.false_eq_true, if_false] at hy
          split at hy <;> omega
      obtain ⟨rfl, hfit⟩ := h0
      have b3 := b3 rfl
      have hlt : fr < s.length := by omega
      have e5 : Str.at? s (fr : Int) = some ((s[fr].toNat : Nat) : Int) := by rw [Str.at?_nat, List.getElem?_eq_getElem hlt]; rfl
      generalize hc : ((s[fr].toNat : Nat) : Int) = c at e5
      subst hz
      rw [ite_neg' (bne_self_eq_false _), ite_neg' (bne_self_eq_false _), bnd e5, bnd e5, bnd e5]
      by_cases ht : (bAnd .u8 c 32 == 0) = true
      · have e6 : Str.sub? s ((fr + hh : Nat) : Int) ((fr + hh + sz : Nat) : Int) = some ((s.take (fr + hh + sz)).drop (fr + hh)) := Str.sub?_nat (by omega) (by omega)
        rw [ite_pos' ht, ite_pos' ht, bnd e6, bnd e6]
        exact ⟨fr, 0, 0, _, ⟨c, (s.take (fr + hh + sz)).drop (fr + hh), none⟩, hh + sz, rfl, rfl, .inl ⟨rfl, by omega, rfl, by omega, by omega, by simp [Sl.l], by simp [Sl.l]⟩⟩
      · have ht' : (bAnd .u8 c 32 == 0) = false := by simpa using ht
        rw [ite_neg' ht', ite_neg' ht']
        have L := read_loop m k s hs (20 - m) fr hh sz (fr + hh + sz) rfl (by omega) (by omega) ⟨0, [], none⟩ ⟨0, [], none⟩ c (fun p hp => by
          have := read_both m k (by omega) (by omega) s hs p (fr + hh + sz) hp (by omega)
          rwa [show 21 - (m : Int) = 20 - m + 1 by omega] at this) 5000 k (fr + hh) none fr (by omega) (by omega) (by omega) (by simp [Sl.l]) (by simp [Sl.l])
        rcases L with ⟨at', er, hne, l1, l2⟩ | ⟨at', acc', q, hl, hsm, l1, l2⟩
        · rw [bnd l1, bnd l2]
          exact ⟨at', at', er, 0, zel, 0, rfl, rfl, .inr ⟨hne, rfl, rfl, rfl, rfl⟩⟩
        · rw [bnd l1, bnd l2]
          exact ⟨at', 0, 0, _, ⟨c, [], acc'⟩, hh + sz, rfl, rfl, .inl ⟨rfl, by omega, rfl, by omega, by omega, hl, hsm⟩⟩
    · have hz' : (y != 0) = true := by simpa using hz
      rw [ite_pos' hz', ite_pos' hz']
      exact ⟨fr, fr, y, 0, zel, 0, rfl, rfl, .inr ⟨hz, rfl, rfl, rfl, rfl⟩⟩

theorem read_top (k : Nat) (hk : 5200 ≤ k) (s : Str) (hs : s.length ≤ 5000) : ∃ (el : El) (n at' er : Int), F11 k s = some (el, n, at', er) ∧ F12 k s = some (el, n, at', er) ∧ (Small 20 el ∨ el = zel) := by
  obtain ⟨at1, at2, er, to, el, n, h1, h2, h3⟩ := read_both 20 k (by omega) (by omega) s hs 0 s.length (by omega) (by omega) 0
  unfold F11 F12
  rw [Str.len_nat]
  have h1 : F22 k ⟨s, 0⟩ 0 ((s.length : Nat) : Int) 1 = _ := h1
  have h2 : F23 k s 0 ((s.length : Nat) : Int) 1 = _ := h2
  rw [bnd h1, bnd h2]
  rcases h3 with ⟨rfl, rfl, rfl, _, _, hsm⟩ | ⟨hne, rfl, rfl, rfl, rfl⟩
  · rw [if_neg (by simp)]
    exact ⟨el, n, 0, 0, by simp, rfl, .inl hsm⟩
  · rw [if_pos (by simpa using hne)]
    exact ⟨zel, 0, at1, er, rfl, rfl, .inr rfl⟩

theorem same_refl : ∀ (m k : Nat), 5001 + m ≤ k → ∀ e : El, Small m e → F15 k e e = some true
  | 0, k, hk, e, h => h.elim
  | m + 1, k, hk, e, h => by
    obtain ⟨k, rfl⟩ : ∃ j, k = j + 1 := ⟨k - 1, by omega⟩
    rw [F15, if_neg (by simp)]
    have L : ∀ (j fuel i : Nat), i + j = (Sl.l e.Kids).length → j < fuel → F15_L0 (F15 k) k e e fuel i = some (.brk ((Sl.l e.Kids).length : Int)) := by
      intro j
      induction j with
      | zero =>
        intro fuel i h1 h2
        obtain ⟨f, rfl⟩ : ∃ f, fuel = f + 1 := ⟨fuel - 1, by omega⟩
        obtain rfl : i = (Sl.l e.Kids).length := by omega
        rw [F15_L0, if_neg (by simp [Sl.len_nat])]
      | succ j ih =>
        intro fuel i h1 h2
        obtain ⟨f, rfl⟩ : ∃ f, fuel = f + 1 := ⟨fuel - 1, by omega⟩
        have hlt : i < (Sl.l e.Kids).length := by omega
        rw [F15_L0, if_pos (by simp [Sl.len_nat]; omega), Sl.at?_nat, List.getElem?_eq_getElem hlt]
        rw [bnd rfl, bnd rfl, bnd (same_refl m k (by omega) _ (h.2 _ (List.getElem_mem hlt))), ite_nt]
        have := h.1
        rw [ad_nat (by omega)]
        exact ih f (i + 1) (by omega) (by omega)
    have hl := h.1
    have := L (Sl.l e.Kids).length k 0 (by omega) (by omega)
    rw [show ((0 : Nat) : Int) = 0 from rfl] at this
    rw [this]
    rfl

theorem same_zel (k : Nat) (hk : 5 ≤ k) : F15 k zel zel = some true := by
  obtain ⟨k, rfl⟩ : ∃ j, k = j + 2 := ⟨k - 2, by omega⟩
  rfl

theorem F10_true (k : Nat) (hk : 40 ≤ k) : F10 k = some true := by
  obtain ⟨k, rfl⟩ : ∃ j, k = j + 40 := ⟨k - 40, by omega⟩
  kernel_rfl

theorem F3_true (s : Str) : F3 6000 s = some true := by
  unfold F3
  rw [bnd (F10_true 6000 (by omega)), ite_nt]
  by_cases hs : s.length ≤ 5000
  · rw [if_neg (by simp [Str.len_nat]; omega)]
    obtain ⟨el, n, at', er, h1, h2, h3⟩ := read_top 6000 (by omega) s hs
    rw [bnd h1, bnd h2, bnd (F13_eq 6000 (by omega) s (by omega)), bnd (F14_eq 6000 (by omega) s (by omega))]
    have h4 : F15 6000 el el = some true := by
      rcases h3 with h3 | rfl
      · exact same_refl 20 6000 (by omega) el h3
      · exact same_zel 6000 (by omega)
    rw [bnd h4]
    simp
  · rw [if_pos (by simp [Str.len_nat]; omega)]
end Go.Proofs.Ytkaifmdhkoiaeaa.M
