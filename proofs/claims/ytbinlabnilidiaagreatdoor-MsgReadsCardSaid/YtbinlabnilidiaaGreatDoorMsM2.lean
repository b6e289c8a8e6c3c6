/- The plain laws, part 2. -/
import Derived.Test.YtbinlabnilidiaaGreatDoorMsM1
set_option linter.unusedVariables false
set_option linter.unusedSimpArgs false
set_option maxRecDepth 20000
namespace Go.Proofs.YtbinlabnilidiaaGreatDoor.M
open Go Go.Pam
def Xdj : Nat → El → Prop
 | 0, _ => False
 | n + 1, e => (Sl.l e.Kids).length ≤ 5000 ∧ e.Body.length ≤ 5000 ∧ ∀ x ∈ (Sl.l e.Kids), Xdj n x
theorem Xlf (s : Str) : ∃ (hh sz : Nat) (e : Int), hd s = ((hh : Int), (sz : Int), e) ∧ hh ≤ 6 ∧ sz ≤ 4000 ∧ (e = 0 → 2 ≤ hh ∧ hh ≤ s.length) := by
 match s with
 | [] => exact ⟨0, 0, 10, rfl, by omega, by omega, by omega⟩
 | [a] =>
  simp only [hd]
  split
  ·exact ⟨0, 0, 14, rfl, by omega, by omega, by omega⟩
  ·exact ⟨0, 0, 10, rfl, by omega, by omega, by omega⟩
 | a :: b :: r =>
  have hb := b.toNat_lt
  simp only [hd]
  split
  ·exact ⟨0, 0, 14, rfl, by omega, by omega, by omega⟩
  split
  ·exact ⟨2, b.toNat, 0, rfl, by omega, by omega, fun _ => ⟨by omega, by simp only [List.length_cons]; omega⟩⟩
  split
  ·exact ⟨0, 0, 11, rfl, by omega, by omega, by omega⟩
  split
  ·exact ⟨0, 0, 10, rfl, by omega, by omega, by omega⟩
  split
  ·exact ⟨0, 0, 13, rfl, by omega, by omega, by omega⟩
  ·rename_i h1 h2 h3 h4 h5
   have := (XjB (r.take (b.toNat - 128)) 0 0 (by omega) (by decide)).1
   refine ⟨2 + (b.toNat - 128), ((r.take (b.toNat - 128)).foldl be 0).toNat, 0, ?_, by omega, by omega, fun _ => ⟨by omega, by simp only [List.length_cons]; omega⟩⟩
   simp only [Prod.mk.injEq, and_true]
   omega
theorem XlZ (c : Bool) (a b : Int) : (if c = true then some a else some b) = some (if c = true then a else b) := by cases c <;> rfl
def RD (m k : Nat) (s : Str) (fr en : Nat) (d : Int) : Prop :=
 ∀ at0 : Int, ∃ (at1 at2 er to : Int) (el : El) (n : Nat),
  F93 k ⟨s, at0⟩ fr en d = some (⟨s, at1⟩, el, to, er) ∧
  F78 k s fr en d = some (el, (n : Int), at2, er) ∧
  (er = 0 ∧ to = ((fr + n : Nat) : Int) ∧ at2 = 0 ∧ 2 ≤ n ∧ fr + n ≤ en ∧ Xdj m el ∨ er ≠ 0 ∧ to = 0 ∧ n = 0 ∧ el = zel ∧ at1 = at2)
theorem Xlg (m k : Nat) (s : Str) (hs : s.length ≤ 5000) (d : Int) (fr hh sz stop : Nat) (hst : fr + hh + sz = stop) (hstop : stop ≤ s.length) (hdd : -100 ≤ d ∧ d ≤ 100) (w w' : El) (t : Int)
  (ih : ∀ p, p ≤ stop → RD m k s p stop (d + 1)) : ∀ (j fuel p : Nat) (acc : Sl El) (at1 : Int), stop - p ≤ j → p ≤ stop → j < fuel → acc.l.length ≤ p → (∀ x ∈ acc.l, Xdj m x) →
  (∃ at' er : Int, er ≠ 0 ∧ XdF (F93 k) k d sz ((fr + hh : Nat) : Int) w fuel p ⟨t, [], acc⟩ ⟨s, at1⟩ = some (.ret (⟨s, at'⟩, zel, 0, er)) ∧ Xfn (F78 k) k s fr d hh sz w' fuel p ⟨t, [], acc⟩ = some (.ret (zel, 0, at', er))) ∨
  (∃ (at' : Int) (acc' : Sl El) (q : Int), acc'.l.length ≤ 5000 ∧ (∀ x ∈ acc'.l, Xdj m x) ∧ XdF (F93 k) k d sz ((fr + hh : Nat) : Int) w fuel p ⟨t, [], acc⟩ ⟨s, at1⟩ = some (.brk (q, ⟨t, [], acc'⟩, ⟨s, at'⟩)) ∧ Xfn (F78 k) k s fr d hh sz w' fuel p ⟨t, [], acc⟩ = some (.brk (q, ⟨t, [], acc'⟩))) := by
 intro j
 induction j with
 | zero =>
  intro fuel p acc at1 h1 h2 h3 h4 h5
  obtain ⟨f, rfl⟩ : ∃ f, fuel = f + 1 := ⟨fuel - 1, by omega⟩
  have e1 : ad .i64 ((fr + hh : Nat) : Int) (sz : Int) = (stop : Int) := by rw [XeC (by omega)]; omega
  have e2 : ad .i64 (fr : Int) (hh : Int) = ((fr + hh : Nat) : Int) := by rw [XeC (by omega)]; omega
  refine .inr ⟨at1, acc, p, by omega, h5, ?_, ?_⟩
  ·rw [XdF, e1, if_neg (by simp; omega)]
  ·rw [Xfn, e2, e1, if_neg (by simp; omega)]
 | succ j ihj =>
  intro fuel p acc at1 h1 h2 h3 h4 h5
  obtain ⟨f, rfl⟩ : ∃ f, fuel = f + 1 := ⟨fuel - 1, by omega⟩
  have e1 : ad .i64 ((fr + hh : Nat) : Int) (sz : Int) = (stop : Int) := by rw [XeC (by omega)]; omega
  have e2 : ad .i64 (fr : Int) (hh : Int) = ((fr + hh : Nat) : Int) := by rw [XeC (by omega)]; omega
  have e3 : ad .i64 d 1 = d + 1 := XeC (by omega)
  rw [XdF, Xfn, e2, e1, e3]
  by_cases hp : p < stop
  ·rw [if_pos (by simp; omega), if_pos (by simp; omega)]
   obtain ⟨b1, b2, er, to, el, n, r1, r2, r3⟩ := ih p h2 at1
   rw [bnd r1, bnd r2]
   rcases r3 with ⟨rfl, rfl, rfl, hn1, hn2, hsm⟩ | ⟨hne, rfl, rfl, rfl, rfl⟩
   ·rw [if_neg (by simp), if_neg (by simp)]
    obtain ⟨z, hz, hzl⟩ := Sl.app?_l (bytes := 48) (x := acc) (ys := [el]) (by simp only [List.length_singleton]; omega)
    rw [Sl.l_some, bnd hz, bnd hz]
    have e4 : ad .i64 (p : Int) (n : Int) = ((p + n : Nat) : Int) := by rw [XeC (by omega)]; omega
    rw [e4]
    exact ihj f (p + n) z b1 (by omega) hn2 (by omega) (by rw [hzl]; simp; omega) (by
     rw [hzl]
     intro x hx
     rcases List.mem_append.1 hx with hx | hx
     ·exact h5 x hx
     ·rw [List.mem_singleton] at hx; subst hx; exact hsm)
   ·rw [if_pos (by simpa using hne), if_pos (by simpa using hne)]
    exact .inl ⟨b1, er, hne, rfl, rfl⟩
  ·rw [if_neg (by simp; omega), if_neg (by simp; omega)]
   exact .inr ⟨at1, acc, p, by omega, h5, rfl, rfl⟩
theorem Xi4 : ∀ (m k : Nat), 5100 + m ≤ k → m ≤ 20 → ∀ (s : Str), s.length ≤ 5000 → ∀ fr en : Nat, fr ≤ en → en ≤ s.length → RD m k s fr en (21 - m)
 | 0, k, hk, hm, s, hs, fr, en, h1, h2 => by
  obtain ⟨k, rfl⟩ : ∃ j, k = j + 1 := ⟨k - 1, by omega⟩
  intro at0
  refine ⟨fr, fr, 12, 0, zel, 0, ?_, ?_, .inr ⟨by omega, rfl, rfl, rfl, rfl⟩⟩
  ·rw [F93, if_pos (by simp)]; rfl
  ·rw [F78, if_pos (by simp)]; rfl
 | m + 1, k, hk, hm, s, hs, fr, en, h1, h2 => by
  obtain ⟨k, rfl⟩ : ∃ j, k = j + 1 := ⟨k - 1, by omega⟩
  intro at0
  obtain ⟨sub, hsub⟩ : ∃ sub, sub = (s.take en).drop fr := ⟨_, rfl⟩
  have hsl : sub.length = en - fr := by rw [hsub, List.length_drop, List.length_take]; omega
  have e1 : Str.sub? s (fr : Int) (en : Int) = some sub := by rw [Str.sub?_nat h1 h2, hsub]
  obtain ⟨hh, sz, e0, hhd, b1, b2, b3⟩ := Xlf sub
  have e2 := Xm7 k (by omega) sub (by omega)
  have e3 := Xth k (by omega) sub (by omega)
  rw [hhd] at e2 e3
  have dd : (21 - ((m + 1 : Nat) : Int)) = 20 - m := by omega
  rw [dd]
  have hd20 : decide ((20 - (m : Int)) > 20) = false := by simp; omega
  have a0 : sb .i64 (en : Int) fr = (en : Int) - fr := Xk8 (by omega)
  have a1 : sb .i64 (sb .i64 (en : Int) fr) hh = (en : Int) - fr - hh := by rw [a0, Xk8 (by omega)]
  have a2 : ad .i64 (fr : Int) hh = ((fr + hh : Nat) : Int) := by rw [XeC (by omega)]; omega
  have a3 : ad .i64 ((fr + hh : Nat) : Int) sz = ((fr + hh + sz : Nat) : Int) := by rw [XeC (by omega)]; omega
  have a4 : ad .i64 (hh : Int) sz = ((hh + sz : Nat) : Int) := by rw [XeC (by omega)]; omega
  have c1 : decide ((sz : Int) > (en : Int) - fr - hh) = decide (en < fr + hh + sz) := by apply decide_eq_decide.2; omega
  have c2 : decide (((fr + hh + sz : Nat) : Int) > (en : Int)) = decide (en < fr + hh + sz) := by apply decide_eq_decide.2; omega
  rw [F93, F78, XaC hd20, XaC hd20, bnd e1, bnd e1, bnd e2, bnd e3]
  simp only [a1, a2, a3, a4, c1, c2, XlZ]
  rw [bnd rfl, bnd rfl, bnd rfl, bnd rfl]
  obtain ⟨y, hy⟩ : ∃ y : Int, y = (if ((if (e0 == 0 && decide (en < fr + hh + sz)) = true then (10 : Int) else e0) == 10 && decide ((20 - (m : Int)) > 1)) = true then 11 else if (e0 == 0 && decide (en < fr + hh + sz)) = true then 10 else e0) := ⟨_, rfl⟩
  rw [← hy]
  by_cases hz : y = 0
  ·have h0 : e0 = 0 ∧ fr + hh + sz ≤ en := by
    rw [hz] at hy
    by_cases he : e0 = 0
    ·by_cases hl : en < fr + hh + sz
     ·exfalso
      simp only [he, hl, decide_true, Bool.and_true, beq_self_eq_true, if_true] at hy
      split at hy <;> omega
     ·exact ⟨he, by omega⟩
    ·exfalso
     have he' : (e0 == 0) = false := by simpa using he
     simp only [he', Bool.false_and, Bool.false_eq_true, if_false] at hy
     split at hy <;> omega
   obtain ⟨rfl, hfit⟩ := h0
   have b3 := b3 rfl
   have hlt : fr < s.length := by omega
   have e5 : Str.at? s (fr : Int) = some ((s[fr].toNat : Nat) : Int) := by rw [Str.at?_nat, List.getElem?_eq_getElem hlt]; rfl
   generalize hc : ((s[fr].toNat : Nat) : Int) = c at e5
   subst hz
   rw [XaC (bne_self_eq_false _), XaC (bne_self_eq_false _), bnd e5, bnd e5, bnd e5]
   by_cases ht : (Xej .u8 c 32 == 0) = true
   ·have e6 : Str.sub? s ((fr + hh : Nat) : Int) ((fr + hh + sz : Nat) : Int) = some ((s.take (fr + hh + sz)).drop (fr + hh)) := Str.sub?_nat (by omega) (by omega)
    rw [XaN ht, XaN ht, bnd e6, bnd e6]
    exact ⟨fr, 0, 0, _, ⟨c, (s.take (fr + hh + sz)).drop (fr + hh), none⟩, hh + sz, rfl, rfl, .inl ⟨rfl, by omega, rfl, by omega, by omega, by simp [Sl.l], by simp only [List.length_drop, List.length_take]; omega, by simp [Sl.l]⟩⟩
   ·have ht' : (Xej .u8 c 32 == 0) = false := by simpa using ht
    rw [XaC ht', XaC ht']
    have L := Xlg m k s hs (20 - m) fr hh sz (fr + hh + sz) rfl (by omega) (by omega) ⟨0, [], none⟩ ⟨0, [], none⟩ c (fun p hp => by
     have := Xi4 m k (by omega) (by omega) s hs p (fr + hh + sz) hp (by omega)
     rwa [show 21 - (m : Int) = 20 - m + 1 by omega] at this) 5000 k (fr + hh) none fr (by omega) (by omega) (by omega) (by simp [Sl.l]) (by simp [Sl.l])
    rcases L with ⟨at', er, hne, l1, l2⟩ | ⟨at', acc', q, hl, hsm, l1, l2⟩
    ·rw [bnd l1, bnd l2]
     exact ⟨at', at', er, 0, zel, 0, rfl, rfl, .inr ⟨hne, rfl, rfl, rfl, rfl⟩⟩
    ·rw [bnd l1, bnd l2]
     exact ⟨at', 0, 0, _, ⟨c, [], acc'⟩, hh + sz, rfl, rfl, .inl ⟨rfl, by omega, rfl, by omega, by omega, hl, by simp, hsm⟩⟩
  ·have hz' : (y != 0) = true := by simpa using hz
   rw [XaN hz', XaN hz']
   exact ⟨fr, fr, y, 0, zel, 0, rfl, rfl, .inr ⟨hz, rfl, rfl, rfl, rfl⟩⟩
theorem Xma (k : Nat) (hk : 5200 ≤ k) (s : Str) (hs : s.length ≤ 5000) : ∃ (el : El) (n at' er : Int), F72 k s = some (el, n, at', er) ∧ F47 k s = some (el, n, at', er) ∧ (er = 0 ∧ Xdj 20 el ∨ er ≠ 0) := by
 obtain ⟨at1, at2, er, to, el, n, h1, h2, h3⟩ := Xi4 20 k (by omega) (by omega) s hs 0 s.length (by omega) (by omega) 0
 unfold F72 F47
 rw [Str.len_nat]
 have h1 : F93 k ⟨s, 0⟩ 0 ((s.length : Nat) : Int) 1 = _ := h1
 have h2 : F78 k s 0 ((s.length : Nat) : Int) 1 = _ := h2
 rw [bnd h1, bnd h2]
 rcases h3 with ⟨rfl, rfl, rfl, _, _, hsm⟩ | ⟨hne, rfl, rfl, rfl, rfl⟩
 ·rw [if_neg (by simp)]
  exact ⟨el, n, 0, 0, by simp, rfl, .inl ⟨rfl, hsm⟩⟩
 ·rw [if_pos (by simpa using hne)]
  exact ⟨zel, 0, at1, er, rfl, rfl, .inr hne⟩
/-! Numbers -/
def inR (x : Int) : Prop := -9223372036854775808 ≤ x ∧ x ≤ 9223372036854775807
theorem wr64 (n : Int) : inR (IntKind.i64.wrap n) := by unfold inR; rw [IntKind.wrap_i64]; omega
theorem Xtm (k : Nat) (q : Str) (l : Sl Int) (hl : (Sl.l l).length ≤ 100) : ∀ (j n i : Nat) (x : Int), i + j = (Sl.l l).length → j < n → inR x → ∃ y, XcO k q l (Sl.len l) n x (i : Int) = some (y, (((Sl.l l).length : Nat) : Int)) ∧ inR y
 | j, 0, i, x, _, h, _ => by omega
 | 0, n + 1, i, x, hij, _, hx => by
  have : i = (Sl.l l).length := by omega
  subst this
  exact ⟨x, by rw [XcO, if_neg (by simp [Sl.len])], hx⟩
 | j + 1, n + 1, i, x, hij, hn, hx => by
  have hi : i < (Sl.l l).length := by omega
  have e1 : Sl.at? l (i : Int) = some (Sl.l l)[i] := by rw [Sl.at?_nat, List.getElem?_eq_getElem hi]
  have e2 : Xlm .i64 x 8 = some (IntKind.i64.wrap (x * 2 ^ (min (8 : Int).toNat IntKind.i64.bits))) := by unfold Xlm; rw [if_neg (by omega)]
  rw [XcO, if_pos (decide_eq_true (by simp only [Sl.len]; omega)), bnd e1, bnd e2, XaK (by omega)]
  exact Xtm k q l hl j n (i + 1) _ (by omega) (by omega) (wr64 _)
theorem Xtn (z : Int) : Xln .i64 z 8 = some (z / 256) := by
 unfold Xln
 rw [if_neg (by omega)]
 congr 1
 exact Int.fdiv_eq_ediv_of_nonneg z (show (0 : Int) ≤ 256 by omega)
theorem f51L (k : Nat) : ∀ (j n : Nat) (c : Int) (xs : List Int) (z : Int), -(256 ^ j) ≤ z → z < 256 ^ j → j + 2 ≤ n → xs.length + j ≤ 100 → ∃ s, XcT k n (some (c :: xs)) z = some (.ret s)
 | j, 0, c, xs, z, _, _, h, _ => by omega
 | j, n + 1, c, xs, z, h1, h2, hn, hx => by
  have e1 : Sl.at? (some (c :: xs)) 0 = some c := rfl
  obtain ⟨y, hy⟩ : ∃ y : Int, (if ((Xej .u8 c 128) != 0) = true then some (-1 : Int) else some 0) = some y := by
   cases (Xej .u8 c 128 != 0)
   ·exact ⟨0, rfl⟩
   ·exact ⟨-1, rfl⟩
  have ea : Sl.app? 1 (some [cv .u8 z]) (Sl.l (some (c :: xs))) = some (some (cv .u8 z :: c :: xs)) := by
   rw [Sl.app?_ok (by simp [Sl.l]) (by simp only [Sl.l_some, List.length_cons, List.length_nil]; omega)]; rfl
  rw [XcT, bnd e1, bnd hy]
  by_cases hz : z = y
  ·rw [XaN (by simpa using hz)]; exact ⟨_, rfl⟩
  ·rw [XaC (by simpa using hz), bnd ea, bnd (Xtn z)]
   cases j with
   | succ j =>
    refine f51L k j n (cv .u8 z) (c :: xs) (z / 256) ?_ ?_ (by omega) (by simp only [List.length_cons]; omega)
    ·rw [Int.pow_succ] at h1; omega
    ·rw [Int.pow_succ] at h2; omega
   | zero =>
    rw [Int.pow_zero] at h1 h2
    obtain ⟨n, rfl⟩ : ∃ q, n = q + 1 := ⟨n - 1, by omega⟩
    have : z = 0 ∨ z = -1 := by omega
    rcases this with rfl | rfl
    ·refine ⟨Str.of (some (cv .u8 0 :: c :: xs)), ?_⟩
     rw [XcT, bnd (show Sl.at? (some (cv .u8 0 :: c :: xs)) 0 = some (cv .u8 0) from rfl), bnd (show (if ((Xej .u8 (cv .u8 0) 128) != 0) = true then some (-1 : Int) else some 0) = some 0 by decide +kernel)]
     rfl
    ·refine ⟨Str.of (some (cv .u8 (-1) :: c :: xs)), ?_⟩
     rw [XcT, bnd (show Sl.at? (some (cv .u8 (-1) :: c :: xs)) 0 = some (cv .u8 (-1)) from rfl), bnd (show (if ((Xej .u8 (cv .u8 (-1)) 128) != 0) = true then some (-1 : Int) else some 0) = some (-1) by decide +kernel)]
     rfl
theorem f51T {k : Nat} (hk : 20 ≤ k) {v : Int} (h : inR v) : ∃ s, F51 k v = some s := by
 unfold inR at h
 obtain ⟨s, hs⟩ := f51L k 8 k (cv .u8 v) [] (v / 256) (by omega) (by omega) (by omega) (by simp)
 refine ⟨s, ?_⟩
 unfold F51
 rw [bnd (Xtn v), bnd hs]
theorem f109 {k : Nat} (hk : 20 ≤ k) (b : Str) : ∃ r, Xoi k b = some r := by
 unfold Xoi
 by_cases hc : ((b == []) || (decide ((Str.len b) > 8))) = true
 ·rw [XaN hc]; exact ⟨_, rfl⟩
 ·have hc : ((b == []) || (decide ((Str.len b) > 8))) = false := by simpa using hc
  rw [XaC hc]
  have h8 : b.length ≤ 8 := by
   rw [Bool.or_eq_false_iff] at hc
   have h := of_decide_eq_false hc.2
   rw [Str.len_nat] at h
   omega
  cases b with
  | nil => simp at hc
  | cons c l =>
   have e1 : Str.at? (c :: l) 0 = some ((c.toNat : Nat) : Int) := rfl
   obtain ⟨y, hy, hy2⟩ : ∃ y : Int, (if ((Xej .u8 ((c.toNat : Nat) : Int) 128) != 0) = true then some (Out.brk (-1 : Int)) else some (Out.brk 0) : Option (Out (Int × Bool) Int)) = some (.brk y) ∧ inR y := by
    cases (Xej .u8 ((c.toNat : Nat) : Int) 128 != 0)
    ·exact ⟨0, rfl, by unfold inR; omega⟩
    ·exact ⟨-1, rfl, by unfold inR; omega⟩
   have hlb : (Sl.l (Str.bytes (c :: l))).length ≤ 8 := by simpa [Str.bytes, Sl.l] using h8
   obtain ⟨v, hv, hv2⟩ := Xtm k (c :: l) (Str.bytes (c :: l)) (by omega) (Sl.l (Str.bytes (c :: l))).length k 0 y (by omega) (by omega) hy2
   obtain ⟨s, hs⟩ := f51T hk hv2
   rw [bnd e1, bnd hy]
   simp only
   rw [bnd (show XcO k (c :: l) (Str.bytes (c :: l)) (Sl.len (Str.bytes (c :: l))) k y 0 = _ from hv), bnd hs]
   cases (!(s == c :: l)) <;> exact ⟨_, rfl⟩
theorem XoJ {k : Nat} (hk : 20 ≤ k) (e : El) : ∃ v, F95 k e = some v := by
 obtain ⟨r, hr⟩ := f109 hk e.Body
 unfold F95
 rw [bnd hr]
 cases (!r.2 || decide (r.1 < 0) || decide (r.1 > 2147483647)) <;> exact ⟨_, rfl⟩
/-! Operations -/
theorem tagA (k i : Nat) (h1 : 1 ≤ i) (h2 : i ≤ 10) (h9 : i ≠ 9) : ∃ c, F18 k (i : Int) 0 = some c := by
 have : i = 1 ∨ i = 2 ∨ i = 3 ∨ i = 4 ∨ i = 5 ∨ i = 6 ∨ i = 7 ∨ i = 8 ∨ i = 10 := by omega
 rcases this with rfl | rfl | rfl | rfl | rfl | rfl | rfl | rfl | rfl <;> exact ⟨_, rfl⟩
theorem tagB (k i : Nat) (h1 : 1 ≤ i) (h2 : i ≤ 8) : ∃ c, F18 k 9 (i : Int) = some c := by
 have : i = 1 ∨ i = 2 ∨ i = 3 ∨ i = 4 ∨ i = 5 ∨ i = 6 ∨ i = 7 ∨ i = 8 := by omega
 rcases this with rfl | rfl | rfl | rfl | rfl | rfl | rfl | rfl <;> exact ⟨_, rfl⟩
theorem f96A (k : Nat) (t : Int) : ∀ (j n i : Nat), 1 ≤ i → i + j = 11 → j < n → ∃ o, Xfl k t n (i : Int) = some o
 | j, 0, i, _, _, h => by omega
 | 0, n + 1, i, _, hij, _ => by
  rw [Xfl, if_neg (by simp; omega)]; exact ⟨_, rfl⟩
 | j + 1, n + 1, i, h1, hij, hn => by
  obtain ⟨b, hb⟩ : ∃ b, (if ((i : Int) != 9) = true then Option.bind (F18 k (i : Int) 0) fun y61 => some (y61 == t) else some false) = some b := by
   by_cases h9 : i = 9
   ·subst h9; exact ⟨false, rfl⟩
   ·obtain ⟨c, hc⟩ := tagA k i h1 (by omega) h9
    rw [XaN (show ((i : Int) != 9) = true by simp; omega), bnd hc]
    exact ⟨_, rfl⟩
  rw [Xfl, if_pos (by simp; omega), bnd hb, XaK (by omega)]
  cases b with
  | true => exact ⟨_, rfl⟩
  | false => exact f96A k t j n (i + 1) (by omega) (by omega) (by omega)
theorem f96B (k : Nat) (t : Int) : ∀ (j n i : Nat), 1 ≤ i → i + j = 9 → j < n → ∃ o, Xfm k t n (i : Int) = some o
 | j, 0, i, _, _, h => by omega
 | 0, n + 1, i, _, hij, _ => by
  rw [Xfm, if_neg (by simp; omega)]; exact ⟨_, rfl⟩
 | j + 1, n + 1, i, h1, hij, hn => by
  obtain ⟨c, hc⟩ := tagB k i h1 (by omega)
  rw [Xfm, if_pos (by simp; omega), bnd hc, XaK (by omega)]
  cases (c == t) with
  | true => exact ⟨_, rfl⟩
  | false => exact f96B k t j n (i + 1) (by omega) (by omega) (by omega)
theorem f96T {k : Nat} (hk : 20 ≤ k) (t : Int) : ∃ op of', F96 k t = some (op, of') := by
 obtain ⟨o, ho⟩ := f96A k t 10 k 1 (by omega) (by omega) (by omega)
 obtain ⟨o2, ho2⟩ := f96B k t 8 k 1 (by omega) (by omega) (by omega)
 unfold F96
 rw [bnd (show Xfl k t k 1 = some o from ho)]
 cases o with
 | ret r => exact ⟨_, _, rfl⟩
 | brk b =>
  simp only
  rw [bnd (show Xfm k t k 1 = some o2 from ho2)]
  cases o2 with
  | ret r => exact ⟨_, _, rfl⟩
  | brk b => exact ⟨_, _, rfl⟩
/-! Xdj elements -/
theorem Xlh (m : Nat) : Xdj (m + 1) zel := ⟨by simp [zel, Sl.l], by simp [zel], fun x hx => nomatch hx⟩
theorem XjD : ∀ {m : Nat} {e : El}, Xdj m e → Xdj (m + 1) e
 | m + 1, e, h => ⟨h.1, h.2.1, fun x hx => XjD (h.2.2 x hx)⟩
theorem XbK {m : Nat} {e : El} (h : Xdj (m + 1) e) (i : Nat) : Xdj (m + 1) (XbL e i) := by
 unfold XbL
 cases hq : (Sl.l e.Kids)[i]? with
 | none => exact Xlh m
 | some x => exact XjD (h.2.2 x (XaQ hq))
theorem XcI : ∀ {m : Nat} {e : El}, Xdj m e → e.Body.length ≤ 5000
 | m + 1, e, h => h.2.1
theorem f97T {k m : Nat} (hk : 6000 ≤ k) {e : El} (h : Xdj (m + 1) e) : ∃ l : List Str, F97 k e = some (row l) ∧ l.length ≤ 5000 ∧ ∀ s ∈ l, s.length ≤ 5000 := by
 refine ⟨(Sl.l e.Kids).map (·.Body), f97 e (by have := h.1; omega) (by have := h.1; omega), by rw [List.length_map]; exact h.1, ?_⟩
 intro s hs
 obtain ⟨x, hx, rfl⟩ := List.mem_map.1 hs
 exact XcI (h.2.2 x hx)
theorem Xwp (k : Nat) (b : Str) : ∃ r, Xol k b = some r := by
 unfold Xol
 by_cases h : (Str.len b == 1) = true
 ·cases b with
  | nil => simp [Str.len] at h
  | cons c l =>
   rw [XaN h, bnd (show (Option.bind (Str.at? (c :: l) 0) fun c6 => some (c6 != 0)) = some (((c.toNat : Nat) : Int) != 0) from rfl)]
   exact ⟨_, rfl⟩
 ·rw [XaC (by simpa using h)]; exact ⟨_, rfl⟩
/-! Modifications -/
theorem f99L {k m : Nat} (hk : 6000 ≤ k) (chg : Bool) (K : Sl El) (hK : (Sl.l K).length ≤ 5000) (hS : ∀ x ∈ Sl.l K, Xdj (m + 1) x) : ∀ (j n i : Nat) (acc : List Xat), i + j = (Sl.l K).length → j < n → acc.length + j ≤ 200000 → (∀ x ∈ acc, Xlp x) →
  ∃ z : List Xat, Xdi k chg K (Sl.len K) n (row acc) (i : Int) = some (row z, (((Sl.l K).length : Nat) : Int)) ∧ z.length = acc.length + j ∧ ∀ x ∈ z, Xlp x
 | j, 0, i, acc, _, h, _, _ => by omega
 | 0, n + 1, i, acc, hij, _, _, ha => by
  have : i = (Sl.l K).length := by omega
  subst this
  exact ⟨acc, by rw [Xdi, if_neg (by simp [Sl.len])], by omega, ha⟩
 | j + 1, n + 1, i, acc, hij, hn, hl, ha => by
  have hi : i < (Sl.l K).length := by omega
  have e1 : Sl.at? K (i : Int) = some (Sl.l K)[i] := by rw [Sl.at?_nat, List.getElem?_eq_getElem hi]
  have hy := hS _ (List.getElem_mem hi)
  generalize (Sl.l K)[i] = y at e1 hy
  obtain ⟨w, z, hw, hz⟩ : ∃ (w : Xat) (z : El), (if chg = true then Option.bind (F94 k y 0) fun y178 => Option.bind (F95 k y178) fun y179 => Option.bind (F94 k y 1) fun y180 => some ((Xat.mk (ad .i64 y179 1) [] none), y180) else some ((Xat.mk 1 [] none), y)) = some (w, z) ∧ Xdj (m + 1) z := by
   cases chg
   ·exact ⟨_, _, rfl, hy⟩
   ·obtain ⟨v, hv⟩ := XoJ (k := k) (by omega) (XbL y 0)
    rw [if_pos rfl, bnd (show F94 k y 0 = some (XbL y 0) from f94 k y 0), bnd hv, bnd (show F94 k y 1 = some (XbL y 1) from f94 k y 1)]
    exact ⟨_, _, rfl, XbK hy 1⟩
  obtain ⟨l, h1, h2, h3⟩ := f97T (k := k) hk (XbK hz 1)
  have hb := XcI (XbK hz 0)
  obtain ⟨q, r1, r2, r3⟩ := f99L hk chg K hK hS j n (i + 1) (acc ++ [⟨w.Kind, (XbL z 0).Body, row l⟩]) (by omega) (by omega) (by simp only [List.length_append, List.length_singleton]; omega) (by
   intro x hx
   rcases List.mem_append.1 hx with hx | hx
   ·exact ha x hx
   ·rw [List.mem_singleton.1 hx]
    exact ⟨by show (XbL z 0).Body.length ≤ 6000; omega, by show (Sl.l (row l)).length ≤ 6000; rw [XeV]; omega, fun s hs => by
     have hs : s ∈ Sl.l (row l) := hs
     rw [XeV] at hs
     have := h3 s hs
     omega⟩)
  refine ⟨q, ?_, by rw [r2]; simp only [List.length_append, List.length_singleton]; omega, r3⟩
  rw [Xdi, if_pos (decide_eq_true (by simp only [Sl.len]; omega)), bnd e1, bnd hw]
  simp only
  rw [bnd (show F94 k z 0 = some (XbL z 0) from f94 k z 0), bnd (show F94 k z 1 = some (XbL z 1) from f94 k z 1), bnd h1, bnd (Xg3 (by omega) (by omega)), XaK (by omega)]
  exact r1
theorem f99T {k m : Nat} (hk : 6000 ≤ k) (chg : Bool) {e : El} (h : Xdj (m + 2) e) : ∃ z : List Xat, F99 k e chg = some (row z) ∧ z.length ≤ 5000 ∧ ∀ x ∈ z, Xlp x := by
 obtain ⟨z, h1, h2, h3⟩ := f99L hk chg e.Kids h.1 h.2.2 (Sl.l e.Kids).length k 0 [] (by omega) (by have := h.1; omega) (by have := h.1; simp only [List.length_nil]; omega) (fun x hx => nomatch hx)
 refine ⟨z, ?_, by have := h.1; simp only [List.length_nil] at h2; omega, h3⟩
 unfold F99
 rw [bnd (show Xdi k chg e.Kids (Sl.len e.Kids) k none 0 = _ from h1)]
/-! Tags are bytes -/
abbrev tb (t : Int) : Prop := (Lit.int .u8 t).wf = true
theorem XbB {m : Nat} {t : Int} {s : Str} (h : tb t) : XhG (m + 1) (tx t s) := ⟨h, fun x hx => nomatch hx⟩
theorem Xfo {m : Nat} {t v : Int} (h : tb t) : XhG (m + 1) (nm t v) := ⟨h, fun x hx => nomatch hx⟩
theorem Xi5 {m : Nat} {t : Int} {l : Sl El} (h : tb t) (hl : ∀ x ∈ Sl.l l, XhG m x) : XhG (m + 1) (ls t l) := ⟨h, hl⟩
theorem XoK {m : Nat} {t : Int} {a b : El} (h : tb t) (ha : XhG m a) (hb : XhG m b) : XhG (m + 1) (ls t (some [a, b])) := Xi5 h (Xm2 ha hb)
theorem Xh9 {m : Nat} {α : Type} {t : Int} {g : α → El} {l : List α} (h : tb t) (hg : ∀ a ∈ l, XhG m (g a)) : XhG (m + 1) (ls t (XdT (l.map g))) := Xi5 h (mem_map hg)
theorem XgY : ∀ (n : Nat) (f : Fil), isS n f = true → XhG (n + 4) (elF n f)
 | 0, f, h => by simp [isS] at h
 | n + 1, f, h => by
  by_cases hK : XcC f.Kind = true
  ·rw [isS, if_pos hK] at h
   simp only [Bool.and_eq_true, List.all_eq_true] at h
   rw [elF, if_pos hK]
   refine Xh9 ?_ fun g hg => XgY n g (h.2 g hg)
   have hk3 : f.Kind = 1 ∨ f.Kind = 2 ∨ f.Kind = 3 := by unfold XcC at hK; simp only [Bool.and_eq_true, decide_eq_true_eq] at hK; omega
   rcases hk3 with e | e | e <;> rw [e] <;> rfl
  ·rw [elF, if_neg hK]
   split
   ·exact XbB rfl
   split
   ·refine XoK rfl (XbB rfl) (Xi5 rfl fun x hx => ?_)
    rw [XcV] at hx
    obtain ⟨j, s, _, hs⟩ := Xh6 hx
    unfold XeA at hs
    split at hs
    ·cases hs
    ·rw [List.mem_singleton.1 hs]
     refine XbB ?_
     unfold Xkl
     split
     ·rfl
     split <;> rfl
   ·refine XoK ?_ (XbB rfl) (XbB rfl)
    split
    ·rfl
    split <;> rfl
theorem XjE {m : Nat} (x : Xat) : XhG (m + 3) (Xfs x) := XoK rfl (XbB rfl) (Xh9 rfl fun _ _ => XbB rfl)
theorem XjF {m : Nat} (c : Bool) (l : List Xat) : XhG (m + 5) (XdK c l) := by
 refine Xh9 rfl fun x _ => ?_
 unfold Xkp
 split
 ·exact XoK rfl (Xfo rfl) (XjE (m := m) x)
 ·exact XjE (m := m + 1) x
theorem Xox {a : Ms} (h : Op a) : tb (XbC a) := by
 unfold XbC
 (repeat' split) <;> rfl
theorem Xto {a : Ms} (h : Op a) : XhG 27 (opE a) := by
 unfold opE
 split
 ·exact XbB rfl
 split
 ·exact Xi5 rfl fun x hx => nomatch hx
 refine Xi5 (Xox h) ?_
 show ∀ x ∈ Xbq a, XhG 26 x
 unfold Xbq
 split
 ·intro x hx
  simp only [List.mem_cons, List.not_mem_nil, or_false] at hx
  rcases hx with rfl | rfl | rfl
  ·exact Xfo rfl
  ·exact XbB rfl
  ·exact XbB rfl
 split
 ·rename_i c3
  have hs : isS 22 a.Filter = true := by
   have s3 := (h.search c3).2.2.1
   unfold Xj0 at s3; rw [Bool.and_eq_true] at s3; exact s3.2
  intro x hx
  simp only [List.mem_cons, List.not_mem_nil, or_false] at hx
  rcases hx with rfl | rfl | rfl | rfl | rfl | rfl | rfl | rfl
  ·exact XbB rfl
  ·exact Xfo rfl
  ·exact Xfo rfl
  ·exact Xfo rfl
  ·exact Xfo rfl
  ·exact XbB rfl
  ·exact XgY 22 a.Filter hs
  ·exact Xh9 rfl fun _ _ => XbB rfl
 split
 ·exact Xm2 (XbB rfl) (XjF true _)
 split
 ·exact Xm2 (XbB rfl) (XjF false _)
 split
 ·intro x hx
  simp only [List.mem_append, List.mem_cons, List.not_mem_nil, or_false] at hx
  rcases hx with (rfl | rfl | rfl) | hx
  ·exact XbB rfl
  ·exact XbB rfl
  ·exact XbB rfl
  ·split at hx
   ·rw [List.mem_singleton.1 hx]; exact XbB rfl
   ·cases hx
 split
 ·exact Xm2 (XbB rfl) (XoK rfl (XbB rfl) (XbB rfl))
 ·intro x hx
  simp only [List.mem_cons, List.not_mem_nil, or_false] at hx
  rcases hx with rfl | rfl | rfl
  ·exact Xfo rfl
  ·exact XbB rfl
  ·exact XbB rfl
theorem Xoy {a : Ms} (h : Op a) : XhG 28 (XeB a) := XoK rfl (Xfo rfl) (Xto h)
/-! Back -/
theorem Xli {a : Ms} {d : Nat} {b : Str} (h : Xfu a d = (b, 0)) : isM a = true ∧ XaY 28 (XeB a) = some b ∧ b.length ≤ 4000 ∧ d ≤ 20 := by
 unfold Xfu at h
 cases hi : isM a with
 | false => rw [hi, if_pos rfl] at h; simp at h
 | true =>
  rw [hi, if_neg (by simp)] at h
  cases hb : XaY 28 (XeB a) with
  | none => rw [hb] at h; simp at h
  | some c =>
   rw [hb] at h
   simp only at h
   by_cases h1 : 4000 < c.length
   ·rw [if_pos h1] at h; simp at h
   ·rw [if_neg h1] at h
    by_cases h2 : 20 < d
    ·rw [if_pos h2] at h; simp at h
    ·rw [if_neg h2] at h
     simp only [Prod.mk.injEq, and_true] at h
     subst h
     exact ⟨rfl, rfl, by omega, by omega⟩
theorem Xoz {a : Ms} {d : Nat} {b : Str} (h1 : isM a = true) (h2 : XaY 28 (XeB a) = some b) (h3 : b.length ≤ 4000) (h4 : d ≤ 20) : Xfu a d = (b, 0) := by
 unfold Xfu
 rw [h1, if_neg (by simp), h2]
 simp only
 rw [if_neg (by omega), if_neg (by omega)]
theorem XtY {k : Nat} (hk : 200200 ≤ k) (hk2 : k < 400000000000000) {a : Ms} (ha : Few a) {d : Nat} {b : Str} (he : Xfu a d = (b, 0)) (hd : isM a = true → ∀ n, Dpt n (XeB a) ↔ d ≤ n) :
  ∃ m, F15 k b = some (m, 0) ∧ nM m = nM a ∧ Few m := by
 obtain ⟨hi, hb, hl, hd20⟩ := Xli he
 have hO := XlS hi
 have hF := Xj7 ha hO
 have hD : Dpt 20 (XeB a) := (hd hi 20).2 hd20
 obtain ⟨e', r1, r2⟩ := Xla 28 k (by omega) (XeB a) (Xoy hO) hF.few hF.fm hD b [] hb (by simp)
 rw [List.append_nil] at r1
 obtain ⟨m, m1, m2⟩ := Xow hk ha hi hD r2
 obtain ⟨q1, q2, q3⟩ := Xtf ha m2.symm
 obtain ⟨d', g1, _, g3⟩ := Xj8 hk hk2 q1
 have hdm : d' ≤ 20 := (g3 (by rw [q2]; exact hi) 20).1 (by rw [q3]; exact hD)
 have hem : Xfu m d' = (b, 0) := Xoz (by rw [q2]; exact hi) (by rw [q3]; exact hb) hl hdm
 rw [hem] at g1
 refine ⟨m, ?_, m2, q1⟩
 have h45 : F45 k b = some (m, Er.nil) := by
  unfold F45
  rw [bnd r1, XaC (show ((0 : Int) != 0) = false from rfl), bnd m1, bnd g1]
  have c : ((((0 : Int) != 0) || ((b.length : Int) != (Str.len b))) || (!(b == b))) = false := by simp [Str.len]
  rw [XaC c]
 unfold F15
 rw [bnd h45]
theorem Xlj : ∀ (ps : List (Int × Str)) (i : Nat) (st : Str × List Str), st.1.length ≤ 5000 → (∀ s ∈ st.2, s.length ≤ 5000) → (∀ p ∈ ps, p.2.length ≤ 5000) →
  (Xen i st ps).1.length ≤ 5000 ∧ (∀ s ∈ (Xen i st ps).2, s.length ≤ 5000) ∧ (Xen i st ps).2.length ≤ st.2.length + ps.length
 | [], i, st, h1, h2, _ => ⟨h1, h2, by simp [Xen]⟩
 | p :: ps, i, st, h1, h2, h3 => by
  have hp := h3 p List.mem_cons_self
  have hs : (Xd0 i st p).1.length ≤ 5000 ∧ (∀ s ∈ (Xd0 i st p).2, s.length ≤ 5000) ∧ (Xd0 i st p).2.length ≤ st.2.length + 1 := by
   unfold Xd0
   split
   ·refine ⟨h1, fun s hs => ?_, by simp⟩
    rcases List.mem_or_eq_of_mem_set hs with h | h
    ·exact h2 s h
    ·rw [h]; exact hp
   ·split
    ·exact ⟨hp, h2, by simp⟩
    ·refine ⟨h1, fun s hs => ?_, by simp⟩
     rcases List.mem_append.1 hs with h | h
     ·exact h2 s h
     ·rw [List.mem_singleton.1 h]; exact hp
  obtain ⟨a, b, c⟩ := Xlj ps (i + 1) (Xd0 i st p) hs.1 hs.2.1 (fun q hq => h3 q (List.mem_cons_of_mem _ hq))
  refine ⟨a, b, ?_⟩
  simp only [Xen, List.length_cons]
  omega
theorem Xwq {k m : Nat} (hk : 6000 ≤ k) {e : El} (h : Xdj (m + 1) e) : ∃ l : List Str, XlO k e = some (some l) ∧ l.length ≤ 6000 ∧ ∀ s ∈ l, s.length ≤ 5000 := by
 have h1 := h.1
 have hL := Xov k e.Kids (by omega) (Sl.l e.Kids).length k 0 ([], [[]]) (by omega) (by omega) (by simp) (by simp only [List.length_singleton]; omega)
 obtain ⟨a, b, c⟩ := Xlj (((Sl.l e.Kids).drop 0).map pr) 0 ([], [[]]) (by simp) (by simp) (fun p hp => by
  obtain ⟨x, hx, rfl⟩ := List.mem_map.1 hp
  rw [List.drop_zero] at hx
  exact XcI (h.2.2 x hx))
 rw [List.length_map, List.drop_zero, List.length_singleton] at c
 rw [List.drop_zero] at hL a b
 refine ⟨(Xen 0 ([], [[]]) ((Sl.l e.Kids).map pr)).2 ++ [(Xen 0 ([], [[]]) ((Sl.l e.Kids).map pr)).1], ?_, by simp only [List.length_append, List.length_singleton]; omega, fun s hs => ?_⟩
 ·unfold XlO
  rw [bnd (show XcY k e.Kids (Sl.len e.Kids) k [] 0 (some [[]]) = _ from hL)]
  simp only
  rw [Sl.app?_ok (by simp [Sl.l]) (by simp only [Sl.l_some, List.length_singleton]; omega)]
  rfl
 ·rcases List.mem_append.1 hs with h | h
  ·exact b s h
  ·rw [List.mem_singleton.1 h]; exact a
theorem Xtp {m : Nat} (rc : El → Int → Option Fil) (k : Nat) (left : Int) (K : Sl El) (hK : (Sl.l K).length ≤ 5000) (f0 : Fil) (hg : ∀ x ∈ Sl.l K, ∃ g, rc x (sb .i64 left 1) = some g ∧ XcZ m g) (kd : Int) (at' vl : Str) (sb' : Sl Str) :
  ∀ (j n i : Nat) (acc : List Fil), i + j = (Sl.l K).length → j < n → acc.length + j ≤ 200000 → (∀ g ∈ acc, XcZ m g) →
  ∃ gs : List Fil, Xc6 rc k left K (Sl.len K) f0 n (i : Int) ⟨kd, at', vl, sb', row acc⟩ = some ((((Sl.l K).length : Nat) : Int), ⟨kd, at', vl, sb', row gs⟩) ∧ gs.length = acc.length + j ∧ ∀ g ∈ gs, XcZ m g
 | j, 0, i, acc, _, h, _, _ => by omega
 | 0, n + 1, i, acc, hij, _, _, ha => by
  have : i = (Sl.l K).length := by omega
  subst this
  exact ⟨acc, by rw [Xc6, if_neg (by simp [Sl.len])], by omega, ha⟩
 | j + 1, n + 1, i, acc, hij, hn, hl, ha => by
  have hi : i < (Sl.l K).length := by omega
  have e1 : Sl.at? K (i : Int) = some (Sl.l K)[i] := by rw [Sl.at?_nat, List.getElem?_eq_getElem hi]
  obtain ⟨g, g1, g2⟩ := hg _ (List.getElem_mem hi)
  obtain ⟨gs, r1, r2, r3⟩ := Xtp rc k left K hK f0 hg kd at' vl sb' j n (i + 1) (acc ++ [g]) (by omega) (by omega) (by simp only [List.length_append, List.length_singleton]; omega) (by
   intro x hx
   rcases List.mem_append.1 hx with hx | hx
   ·exact ha x hx
   ·rw [List.mem_singleton.1 hx]; exact g2)
  refine ⟨gs, ?_, by rw [r2]; simp only [List.length_append, List.length_singleton]; omega, r3⟩
  rw [Xc6, if_pos (decide_eq_true (by simp only [Sl.len]; omega)), bnd e1, bnd g1]
  simp only
  rw [bnd (Xg3 (by omega) (by omega)), XaK (by omega)]
  exact r1
theorem Xf4 {m : Nat} {f : Fil} (h1 : f.Attr.length ≤ 5000) (h2 : f.Value.length ≤ 5000) (h3 : (Sl.l f.Subs).length ≤ 6000) (h4 : ∀ s ∈ Sl.l f.Subs, s.length ≤ 5000) (h5 : Sl.l f.Kids = []) : XcZ (m + 1) f := by
 refine ⟨by rw [h5]; simp, by omega, by omega, by omega, fun s hs => by have := h4 s hs; omega, ?_⟩
 rw [h5]
 intro g hg
 cases hg
theorem f98T : ∀ (m k : Nat) (e : El) (left : Int), Xdj m e → m + 6000 ≤ k → ∃ f, F98 k e left = some f ∧ XcZ m f
 | 0, k, e, left, h, _ => h.elim
 | m + 1, k, e, left, h, hk => by
  obtain ⟨k, rfl⟩ : ∃ q, k = q + 1 := ⟨k - 1, by omega⟩
  have hb := h.2.1
  rw [F98]
  by_cases c0 : (e.Tag == 135) = true
  ·rw [XaN c0]
   exact ⟨_, rfl, Xf4 hb (by simp) (by simp [Sl.l]) (fun s hs => nomatch hs) rfl⟩
  rw [XaC (by simpa using c0)]
  by_cases c1 : (((decide (e.Tag < 160)) || (decide (e.Tag > 166))) || (left == 0)) = true
  ·rw [XaN c1]
   exact ⟨_, rfl, Xf4 (by simp) (by simp) (by simp [Sl.l]) (fun s hs => nomatch hs) rfl⟩
  have c1 : (((decide (e.Tag < 160)) || (decide (e.Tag > 166))) || (left == 0)) = false := by simpa using c1
  rw [XaC c1]
  have ht : e.Tag = 160 ∨ e.Tag = 161 ∨ e.Tag = 162 ∨ e.Tag = 163 ∨ e.Tag = 164 ∨ e.Tag = 165 ∨ e.Tag = 166 := by
   simp only [Bool.or_eq_false_iff, decide_eq_false_iff_not] at c1
   omega
  have kids : ∀ q : Int, ∃ f, (Option.bind (Option.bind (Xc6 (F98 k) k left e.Kids (Sl.len e.Kids) (Xae.mk 0 [] [] none none) k 0 (Xae.mk q [] [] none none)) fun y646 => some y646.2) fun y => some y) = some f ∧ XcZ (m + 1) f := by
   intro q
   obtain ⟨gs, r1, r2, r3⟩ := Xtp (m := m) (F98 k) k left e.Kids h.1 (Xae.mk 0 [] [] none none) (fun x hx => f98T m k x _ (h.2.2 x hx) (by omega)) q [] [] none (Sl.l e.Kids).length k 0 [] (by omega) (by have := h.1; omega) (by have := h.1; simp only [List.length_nil]; omega) (fun g hg => nomatch hg)
   rw [bnd (show Xc6 (F98 k) k left e.Kids (Sl.len e.Kids) (Xae.mk 0 [] [] none none) k 0 (Xae.mk q [] [] none none) = _ from r1)]
   refine ⟨_, rfl, ⟨?_, by simp, by simp, by simp [Sl.l], (fun s hs => nomatch hs), ?_⟩⟩
   ·show (Sl.l (row gs)).length ≤ 200000
    rw [XeV]; have := h.1; simp only [List.length_nil] at r2; omega
   ·intro g hg
    have hg : g ∈ Sl.l (row gs) := hg
    rw [XeV] at hg
    exact r3 g hg
  have pair : ∀ q : Int, ∃ f, (Option.bind (Option.bind (Option.bind (F94 k e 0) fun y669 => Option.bind (F94 k e 1) fun y670 => some (Xae.mk q y669.Body y670.Body none none)) fun y => some y) fun y => some y) = some f ∧ XcZ (m + 1) f := by
   intro q
   rw [bnd (show F94 k e 0 = some (XbL e 0) from f94 k e 0), bnd (show F94 k e 1 = some (XbL e 1) from f94 k e 1)]
   exact ⟨_, rfl, Xf4 (XcI (XbK h 0)) (XcI (XbK h 1)) (by simp [Sl.l]) (fun s hs => nomatch hs) rfl⟩
  rcases ht with e1 | e1 | e1 | e1 | e1 | e1 | e1 <;> rw [e1]
  ·exact kids 1
  ·exact kids 2
  ·exact kids 3
  ·exact pair 4
  ·obtain ⟨l, l1, l2, l3⟩ := Xwq (k := k) (by omega) (XbK h 1)
   show ∃ f, Option.bind (Option.bind (Option.bind (F94 k e 0) fun y666 => Option.bind (F94 k e 1) fun y667 => Option.bind (XlO k y667) fun y668 => some (Xae.mk 8 y666.Body [] y668 none)) fun y => some y) (fun y => some y) = some f ∧ XcZ (m + 1) f
   rw [bnd (show F94 k e 0 = some (XbL e 0) from f94 k e 0), bnd (show F94 k e 1 = some (XbL e 1) from f94 k e 1), bnd l1]
   exact ⟨_, rfl, Xf4 (XcI (XbK h 0)) (by simp) l2 l3 rfl⟩
  ·exact pair 5
  ·exact pair 6
theorem Xmb {m : Nat} (hm : m ≤ 22) {f : Fil} (h : XcZ m f) : XcZ 22 f := Xja m 22 f hm h
theorem Xo0 {k : Nat} (hk : 200200 ≤ k) {e : El} (h : Xdj 20 e) : ∃ m, F73 k e = some m ∧ Xlq m := by
 obtain ⟨v, hv⟩ := XoJ (k := k) (by omega) (XbL e 0)
 obtain ⟨op, of', ho⟩ := f96T (k := k) (by omega) (XbL e 1).Tag
 rw [f73 hv ho]
 have hy : Xdj 20 (XbL e 1) := XbK h 1
 clear hv ho h
 generalize XbL e 1 = y at hy
 have z0 := f94 k y 0
 have z1 := f94 k y 1
 have z2 := f94 k y 2
 have z3 := f94 k y 3
 have z6 := f94 k y 6
 have z7 := f94 k y 7
 rw [show ((0 : Nat) : Int) = 0 from rfl] at z0
 rw [show ((1 : Nat) : Int) = 1 from rfl] at z1
 rw [show ((2 : Nat) : Int) = 2 from rfl] at z2
 rw [show ((3 : Nat) : Int) = 3 from rfl] at z3
 rw [show ((6 : Nat) : Int) = 6 from rfl] at z6
 rw [show ((7 : Nat) : Int) = 7 from rfl] at z7
 have W0 : ∀ {a : Ms}, a.Wants = none → a.Mods = none → a.Filter = noF → Xlq a := by
  intro a h1 h2 h3
  exact ⟨by rw [h1]; simp [Sl.l], by rw [h2]; simp [Sl.l], (by rw [h2]; exact (fun m hm => nomatch hm)), by rw [h3]; exact Xh3 21⟩
 unfold XlY
 by_cases c1 : op = 1
 ·obtain ⟨w, hw⟩ := XoJ (k := k) (by omega) (XbL y 0)
  rw [if_pos c1, bnd z0, bnd hw, bnd z1, bnd z2]
  exact ⟨_, rfl, W0 rfl rfl rfl⟩
 rw [if_neg c1]
 by_cases c3 : op = 3
 ·obtain ⟨w, hw⟩ := XoJ (k := k) (by omega) (XbL y 1)
  obtain ⟨u, hu⟩ := XoJ (k := k) (by omega) (XbL y 3)
  obtain ⟨l, l1, l2, l3⟩ := f97T (k := k) (by omega) (XbK hy 7)
  obtain ⟨f, f1, f2⟩ := f98T 20 k (XbL y 6) 20 (XbK hy 6) (by omega)
  rw [if_pos c3, bnd z0, bnd z1, bnd hw, bnd z3, bnd hu, bnd z7, bnd l1, bnd z6, bnd f1]
  refine ⟨_, rfl, ⟨?_, by simp [Sl.l], (fun m hm => nomatch hm), Xmb (by omega) f2⟩⟩
  show (Sl.l (row l)).length ≤ 6000
  rw [XeV]; omega
 rw [if_neg c3]
 by_cases c4 : op = 4 ∨ op = 5 ∨ op = 10
 ·obtain ⟨l, l1, l2, l3⟩ := f99T (k := k) (by omega) (op == 4) (XbK hy 1)
  rw [if_pos c4, bnd z0, bnd z1, bnd l1]
  refine ⟨_, rfl, ⟨by simp [Sl.l], ?_, ?_, Xh3 21⟩⟩
  ·show (Sl.l (row l)).length ≤ 6000
   rw [XeV]; omega
  ·intro m hm
   have hm : m ∈ Sl.l (row l) := hm
   rw [XeV] at hm
   exact l3 m hm
 rw [if_neg c4]
 by_cases c6 : op = 6
 ·rw [if_pos c6]; exact ⟨_, rfl, W0 rfl rfl rfl⟩
 rw [if_neg c6]
 by_cases c7 : op = 7
 ·obtain ⟨r, hr⟩ := Xwp k (XbL y 2).Body
  rw [if_pos c7, bnd z0, bnd z1, bnd z2, bnd hr, bnd z3]
  exact ⟨_, rfl, W0 rfl rfl rfl⟩
 rw [if_neg c7]
 by_cases c8 : op = 8
 ·rw [if_pos c8, bnd z0, bnd z1, bnd (show F94 k (XbL y 1) 0 = some (XbL (XbL y 1) 0) from f94 k _ 0), bnd z1, bnd (show F94 k (XbL y 1) 1 = some (XbL (XbL y 1) 1) from f94 k _ 1)]
  exact ⟨_, rfl, W0 rfl rfl rfl⟩
 rw [if_neg c8]
 by_cases c9 : op = 9
 ·obtain ⟨w, hw⟩ := XoJ (k := k) (by omega) (XbL y 0)
  rw [if_pos c9, bnd z0, bnd hw, bnd z1]
  exact ⟨_, rfl, W0 rfl rfl rfl⟩
 rw [if_neg c9]
 exact ⟨_, rfl, W0 rfl rfl rfl⟩
/-! Reads -/
def zM : Ms := ⟨0, 0, 0, [], 0, [], 0, 0, noF, none, none, [], false, false, [], [], [], 0, []⟩
theorem Xo1 {k : Nat} (hk : 200200 ≤ k) (hk2 : k < 400000000000000) : F14 k zM zM = some true := by
 have h : Xlq zM := ⟨by simp [zM, Sl.l], by simp [zM, Sl.l], (fun m hm => nomatch hm), Xh3 21⟩
 rw [f14w hk hk2 h h.filter, (Xf2 h.filter).2 rfl]
theorem Xf5 {k : Nat} (hk : 200200 ≤ k) (hk2 : k < 400000000000000) {s : Str} (hs : s.length ≤ 5000) : F16 k s = some true := by
 obtain ⟨el, n, at', er, r1, r2, r3⟩ := Xma k (by omega) s hs
 have hz := Xo1 hk hk2
 have fin : ∀ c : Int, F15 k s = some (zM, c) → c ≠ 0 → (if er = 0 then 14 else er) = c → F16 k s = some true := by
  intro c h15 hc hw
  unfold F16
  rw [bnd h15, XaC (show ((zM, c).2 == 0) = false by simpa using hc), bnd r2]
  have h1 : (if ((el, n, at', er).2.2.2 == 0) = true then some (14 : Int) else some (el, n, at', er).2.2.2) = some c := by
   by_cases he : er = 0
   ·rw [XaN (show ((el, n, at', er).2.2.2 == 0) = true by simpa using he), ← hw, if_pos he]
   ·rw [XaC (show ((el, n, at', er).2.2.2 == 0) = false by simpa using he), ← hw, if_neg he]
  rw [bnd h1, Xi3, Xi3, XaN (show ((zM, c).2 == c) = true by simp)]
  exact hz
 rcases r3 with ⟨he, hsm⟩ | hne
 ·subst he
  obtain ⟨m, m1, m2⟩ := Xo0 hk hsm
  obtain ⟨d, e1, e2, _⟩ := Xiz hk hk2 m2
  by_cases hc : ((((Xfu m d).2 != 0) || (n != (Str.len s))) || (!((Xfu m d).1 == s))) = true
  ·refine fin 14 ?_ (by omega) (by simp)
   have h45 : F45 k s = some (zM, Er.at 14 0) := by
    unfold F45
    rw [bnd r1, XaC (show ((0 : Int) != 0) = false from rfl), bnd m1, bnd e1, XaN hc]
    rfl
   unfold F15
   rw [bnd h45]
   rfl
  ·have hc : ((((Xfu m d).2 != 0) || (n != (Str.len s))) || (!((Xfu m d).1 == s))) = false := by simpa using hc
   have h45 : F45 k s = some (m, Er.nil) := by
    unfold F45
    rw [bnd r1, XaC (show ((0 : Int) != 0) = false from rfl), bnd m1, bnd e1, XaC hc]
   have h15 : F15 k s = some (m, 0) := by unfold F15; rw [bnd h45]
   rw [Bool.or_eq_false_iff, Bool.or_eq_false_iff] at hc
   obtain ⟨⟨q1, _⟩, q3⟩ := hc
   unfold F16
   rw [bnd h15, XaN (show ((m, (0 : Int)).2 == 0) = true from rfl), bnd e2]
   have q1 : (Xfu m d).2 = 0 := by simpa using q1
   have q3 : ((Xfu m d).1 == s) = true := by simpa using q3
   rw [q1, q3]
   rfl
 ·refine fin er ?_ hne (by rw [if_neg hne])
  have h45 : F45 k s = some (zM, Er.at er at') := by
   unfold F45
   rw [bnd r1, XaN (show (er != 0) = true by simpa using hne)]
   rfl
  unfold F15
  rw [bnd h45]
  rfl
theorem Xo2 {a : Ms} {a1 a2 a3 : Int} {s : Str} (hA : (Sl.l a.Mods).length ≤ 9223372036854775807) (h1 : 0 ≤ a1 ∧ a1 ≤ 65535) (h2 : 0 ≤ a2 ∧ a2 ≤ 65535) : ∃ k, F5 k a a1 a2 a3 s = some true := by
 refine ⟨(if (Sl.l a.Mods).length < 100 then 0 else (Sl.l a.Mods).length) + 300000, ?_⟩
 generalize hn0 : (if (Sl.l a.Mods).length < 100 then 0 else (Sl.l a.Mods).length) = n
 obtain ⟨p, hp, hp2⟩ := f8 (k := n + 300000) (by omega) a (by split at hn0 <;> omega) hA
 unfold F5
 rw [bnd (show F7 (n + 300000) = some true from rfl), if_neg (by decide), bnd hp]
 by_cases hc : ((!p) || (decide ((Str.len s) > 600))) = true
 ·rw [XaN hc]
 have hc : ((!p) || (decide ((Str.len s) > 600))) = false := by simpa using hc
 rw [XaC hc]
 rw [Bool.or_eq_false_iff] at hc
 have hp1 : p = true := by simpa using hc.1
 have hs : s.length ≤ 600 := by have h := of_decide_eq_false hc.2; rw [Str.len_nat] at h; omega
 subst hp1
 have ha := hp2 rfl
 have hz : n = 0 := by have := ha.mods; rw [← hn0, if_pos (by omega)]
 subst hz
 obtain ⟨d, _, e2, _⟩ := Xj8 (k := 0 + 300000) (by omega) (by omega) ha
 have hS := Xf5 (k := 0 + 300000) (s := s) (by omega) (by omega) (by omega)
 rw [bnd e2]
 by_cases hq : (((Xfu a d).2 == 0) && (decide ((Str.len (Xfu a d).1) > 0))) = true
 ·rw [XaN hq]
  rw [Bool.and_eq_true, beq_iff_eq] at hq
  have he : Xfu a d = ((Xfu a d).1, 0) := by rw [← hq.1]
  obtain ⟨_, _, hl, _⟩ := Xli he
  have hpos := of_decide_eq_true hq.2
  rw [Str.len_nat] at hpos
  generalize (Xfu a d).1 = b at hl hpos
  have hbl : Sl.len (Str.bytes b) = ((b.length : Nat) : Int) := by simp [Sl.len, Str.bytes, Sl.l]
  obtain ⟨z, hzlt, hzr⟩ := Xjs h1.1 (n := b.length) (by omega)
  obtain ⟨z2, hzlt2, hzr2⟩ := Xjs h2.1 (n := b.length) (by omega)
  have hat : Sl.at? (Str.bytes b) (z : Int) = some ((b[z].toNat : Nat) : Int) := by
   rw [Sl.at?_nat, Str.bytes_l, List.getElem?_map, List.getElem?_eq_getElem hzlt]; rfl
  have hsub : Str.sub? b 0 (z2 : Int) = some ((b.take z2).drop 0) := by
   have := Str.sub?_nat (s := b) (l := 0) (h := z2) (by omega) (by omega)
   exact this
  rw [XmH (x := a1) (by omega), XmH (x := a2) (by omega), hbl, bnd hzr, bnd hzr, bnd hat, bnd hat]
  have l1 : (Str.of (Sl.set (Str.bytes b) (z : Int) (Xll .u8 ((b[z].toNat : Nat) : Int) a3))).length ≤ 5000 := by
   simp only [Str.of, Sl.set, Str.bytes, Option.map_some, Sl.l_some, List.length_map, List.length_set]
   omega
  rw [bnd (Xf5 (by omega) (by omega) l1)]
  have i1 : (Option.bind (Xl2 a2 (Str.len b)) fun z117 => Option.bind (Str.sub? b 0 z117) fun z118 => Option.bind (F16 (0 + 300000) z118) fun y119 => some (!y119)) = some false := by
   rw [Str.len_nat, bnd hzr2, bnd hsub, bnd (Xf5 (by omega) (by omega) (by simp only [List.length_drop, List.length_take]; omega))]
   rfl
  have happ : Str.app? b (Str.of (some [a3])) = some (b ++ Str.of (some [a3])) := by
   unfold Str.app?
   rw [if_neg]
   have : (Str.of (some [a3])).length = 1 := by simp [Str.of, Sl.l]
   rw [this]
   simp only [IntKind.max, IntKind.signed, IntKind.bits]
   omega
  have i2 : (Option.bind (Str.app? b (Str.of (some [a3]))) fun z133 => Option.bind (F16 (0 + 300000) z133) fun y134 => some (!y134)) = some false := by
   have : (Str.of (some [a3])).length = 1 := by simp [Str.of, Sl.l]
   rw [bnd happ, bnd (Xf5 (by omega) (by omega) (by rw [List.length_append, this]; omega))]
   rfl
  rw [bnd (show (if (!true) = true then some true else Option.bind (Xl2 a2 (Str.len b)) fun z117 => Option.bind (Str.sub? b 0 z117) fun z118 => Option.bind (F16 (0 + 300000) z118) fun y119 => some (!y119)) = some false from i1),
   bnd (show (if false = true then some true else Option.bind (Str.app? b (Str.of (some [a3]))) fun z133 => Option.bind (F16 (0 + 300000) z133) fun y134 => some (!y134)) = some false from i2)]
  show (Option.bind (F16 (0 + 300000) s) fun y139 => some y139) = some true
  rw [Xi3]; exact hS
 ·rw [XaC (by simpa using hq)]
  show (Option.bind (F16 (0 + 300000) s) fun y139 => some y139) = some true
  rw [Xi3]; exact hS
theorem XhA (a0 : Ms) (a1 a2 a3 : Int) (a4 : Str) {P3 P4 : Prop} (o0 : XgU a0) (o1 : (Lit.int .u16 a1).wf = true) (o2 : (Lit.int .u16 a2).wf = true) (o3 : P3) (o4 : P4) :
  evw env 5 [eM a0, .int .u16 a1, .int .u16 a2, .int .u8 a3, .str a4] [] = some (.bool true, [], false) := by
 have b1 : 0 ≤ a1 ∧ a1 ≤ 65535 := by simpa [Lit.wf, IntKind.min, IntKind.max, IntKind.signed, IntKind.bits] using o1
 have b2 : 0 ≤ a2 ∧ a2 ≤ 65535 := by simpa [Lit.wf, IntKind.min, IntKind.max, IntKind.signed, IntKind.bits] using o2
 obtain ⟨k, hk⟩ := Xo2 (a := a0) (a3 := a3) (s := a4) o0.h10.1 b1 b2
 refine s5 k hk ?_ []
 simp only [List.map_cons, List.map_nil, Xax, XaI, Xap, Xaq, XbN, Xai, Xig]
end Go.Proofs.YtbinlabnilidiaaGreatDoor.M
