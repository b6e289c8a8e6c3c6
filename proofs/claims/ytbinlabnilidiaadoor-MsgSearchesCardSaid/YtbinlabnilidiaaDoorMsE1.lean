/- Elements of messages: what is well formed, how deep, the bytes. -/
import Derived.Test.YtbinlabnilidiaaDoorMsE0
namespace Go.Proofs.YtbinlabnilidiaaDoor.M
open Go Go.Pam
set_option maxRecDepth 20000
set_option linter.unusedVariables false
set_option linter.unusedSimpArgs false

def FewE : Nat → El → Prop
 | 0, _ => False
 | n + 1, e => (Sl.l e.Kids).length ≤ 30 ∧ e.Body.length ≤ 5000 ∧ ∀ x ∈ Sl.l e.Kids, FewE n x

theorem drop_cons {α : Type} {l : List α} {i : Nat} (h : i < l.length) : l.drop i = l[i] :: l.drop (i + 1) := List.drop_eq_getElem_cons h

def Fm : Nat → El → Prop
 | 0, _ => False
 | n + 1, e => bAnd .u8 e.Tag 31 ≠ 31 ∧ (bAnd .u8 e.Tag 32 = 0 → Sl.l e.Kids = []) ∧ (bAnd .u8 e.Tag 32 ≠ 0 → e.Body = [] ∧ ∀ x ∈ Sl.l e.Kids, Fm n x)

theorem formed_loop (m k : Nat) (K : Sl El) (ih : ∀ x ∈ Sl.l K, ∃ b, F36 k x = some b ∧ (b = true ↔ Fm m x)) (hl : (Sl.l K).length ≤ 30) : ∀ (j fuel i : Nat), i + j = (Sl.l K).length → j < fuel →
  (∃ q : Int, F71_53_L0 (F36 k) k K (Sl.len K) fuel i = some (.brk q) ∧ ∀ x ∈ (Sl.l K).drop i, Fm m x) ∨
  (∃ q : Int, 0 ≤ q ∧ F71_53_L0 (F36 k) k K (Sl.len K) fuel i = some (.ret q) ∧ ¬ ∀ x ∈ (Sl.l K).drop i, Fm m x) := by
 intro j
 induction j with
 | zero =>
  intro fuel i h1 h2
  obtain ⟨f, rfl⟩ : ∃ f, fuel = f + 1 := ⟨fuel - 1, by omega⟩
  refine .inl ⟨i, by rw [F71_53_L0, if_neg (by simp [Sl.len_nat]; omega)], ?_⟩
  rw [List.drop_eq_nil_of_le (by omega)]; simp
 | succ j ihj =>
  intro fuel i h1 h2
  obtain ⟨f, rfl⟩ : ∃ f, fuel = f + 1 := ⟨fuel - 1, by omega⟩
  have hlt : i < (Sl.l K).length := by omega
  have e1 : Sl.at? K (i : Int) = some (Sl.l K)[i] := by rw [Sl.at?_nat, List.getElem?_eq_getElem hlt]
  obtain ⟨b, hb, hf⟩ := ih _ (List.getElem_mem hlt)
  have e2 : F53 k (F36 k) (Sl.l K)[i] = some (!b) := by unfold F53; rw [bnd hb]
  rw [F71_53_L0, if_pos (by simp [Sl.len_nat]; omega), bnd e1, bnd e2, drop_cons hlt]
  cases b with
  | false =>
   refine .inr ⟨i, by omega, by rw [ite_nf], fun h => ?_⟩
   have := hf.2 (h _ List.mem_cons_self)
   cases this
  | true =>
   rw [ite_nt, ad_nat (by omega)]
   rcases ihj f (i + 1) (by omega) (by omega) with ⟨q, h3, h4⟩ | ⟨q, h0, h3, h4⟩
   ·refine .inl ⟨q, h3, fun x hx => ?_⟩
    rcases List.mem_cons.1 hx with rfl | hx
    ·exact hf.1 rfl
    ·exact h4 x hx
   ·exact .inr ⟨q, h0, h3, fun h => h4 fun x hx => h x (List.mem_cons_of_mem _ hx)⟩

theorem formed_ok : ∀ (m k : Nat), m + 50 ≤ k → ∀ e : El, FewE m e → ∃ b, F36 k e = some b ∧ (b = true ↔ Fm m e)
 | 0, k, hk, e, h => h.elim
 | m + 1, k, hk, e, h => by
  obtain ⟨k, rfl⟩ : ∃ j, k = j + 1 := ⟨k - 1, by omega⟩
  have ih := fun x hx => formed_ok m k (by omega) x (h.2.2 x hx)
  have A := formed_loop m k e.Kids ih h.1 (Sl.l e.Kids).length k 0 (by omega) (by have := h.1; omega)
  rw [show ((0 : Nat) : Int) = 0 from rfl, List.drop_zero] at A
  rw [F36]
  by_cases t1 : bAnd .u8 e.Tag 31 = 31
  ·exact ⟨false, by rw [if_pos (by simpa using t1)], by simp [Fm, t1]⟩
  ·by_cases t2 : bAnd .u8 e.Tag 32 = 0
   ·rw [if_neg (by simpa using t1), if_pos (by simpa using t2)]
    by_cases hk0 : Sl.l e.Kids = []
    ·exact ⟨true, by simp [Sl.len_nat, hk0], by simp [Fm, t1, t2, hk0]⟩
    ·exact ⟨false, by simp [Sl.len_nat, hk0], by simp [Fm, t1, t2, hk0]⟩
   ·rw [if_neg (by simpa using t1), if_neg (by simpa using t2)]
    by_cases hb : e.Body = []
    ·have hb' : (e.Body == []) = true := by simp [hb]
     rw [ite_pos' hb']
     rcases A with ⟨q, h3, h4⟩ | ⟨q, h0, h3, h4⟩
     ·have g1 : F71_53 k (F36 k) e.Kids = some (-1) := by unfold F71_53; rw [bnd h3]
      have g2 : F52_53 k (F36 k) e.Kids = some false := by unfold F52_53; rw [bnd g1]; rfl
      have g3 : (F52_53 k (F36 k) e.Kids).bind (fun y17 => some (!y17)) = some true := by rw [bnd g2]; rfl
      exact ⟨true, by rw [bnd g3], by simp [Fm, t1, t2, hb]; exact h4⟩
     ·have g1 : F71_53 k (F36 k) e.Kids = some q := by unfold F71_53; rw [bnd h3]
      have g2 : F52_53 k (F36 k) e.Kids = some true := by unfold F52_53; rw [bnd g1]; simp [h0]
      have g3 : (F52_53 k (F36 k) e.Kids).bind (fun y17 => some (!y17)) = some false := by rw [bnd g2]; rfl
      exact ⟨false, by rw [bnd g3], ⟨fun h => (by cases h), fun h => absurd (h.2.2 t2).2 h4⟩⟩
    ·have hb' : (e.Body == []) = false := by simp [hb]
     rw [ite_neg' (by simp [hb])]
     exact ⟨false, by rw [bnd rfl], by simp [Fm, t1, t2, hb]⟩

def Dpt : Nat → El → Prop
 | 0, _ => False
 | n + 1, e => ∀ x ∈ Sl.l e.Kids, Dpt n x

theorem imax_nat (a b : Nat) : imax (a : Int) (b : Int) = ((max a b : Nat) : Int) := by unfold imax; split <;> omega

theorem deep_loop (k : Nat) (e : El) (ih : ∀ x ∈ Sl.l e.Kids, ∃ d : Nat, F37 k x = some (d : Int) ∧ R29 k x = some (d : Int) ∧ d ≤ 30 ∧ ∀ n, Dpt n x ↔ d ≤ n) (hl : (Sl.l e.Kids).length ≤ 30) : ∀ (j fuel i x : Nat), i + j = (Sl.l e.Kids).length → j < fuel → x ≤ 30 →
  ∃ q : Nat, F37_L0 (F37 k) k e.Kids (Sl.len e.Kids) fuel x i = some ((q : Int), ((Sl.l e.Kids).length : Int)) ∧ R29_L0 (R29 k) k e fuel x i = some ((q : Int), ((Sl.l e.Kids).length : Int)) ∧ q ≤ 30 ∧
   ∀ n, (x ≤ n ∧ ∀ y ∈ (Sl.l e.Kids).drop i, Dpt n y) ↔ q ≤ n := by
 intro j
 induction j with
 | zero =>
  intro fuel i x h1 h2 h3
  obtain ⟨f, rfl⟩ : ∃ f, fuel = f + 1 := ⟨fuel - 1, by omega⟩
  obtain rfl : i = (Sl.l e.Kids).length := by omega
  refine ⟨x, by rw [F37_L0, if_neg (by simp [Sl.len_nat])], by rw [R29_L0, if_neg (by simp [Sl.len_nat])], h3, fun n => ?_⟩
  rw [List.drop_eq_nil_of_le (by omega)]; simp
 | succ j ihj =>
  intro fuel i x h1 h2 h3
  obtain ⟨f, rfl⟩ : ∃ f, fuel = f + 1 := ⟨fuel - 1, by omega⟩
  have hlt : i < (Sl.l e.Kids).length := by omega
  have e1 : Sl.at? e.Kids (i : Int) = some (Sl.l e.Kids)[i] := by rw [Sl.at?_nat, List.getElem?_eq_getElem hlt]
  obtain ⟨d, d1, d2, d3, d4⟩ := ih _ (List.getElem_mem hlt)
  obtain ⟨q, q1, q2, q3, q4⟩ := ihj f (i + 1) (max x d) (by omega) (by omega) (by omega)
  refine ⟨q, ?_, ?_, q3, fun n => ?_⟩
  ·rw [F37_L0, if_pos (by simp [Sl.len_nat]; omega), bnd e1, bnd d1, imax_nat, ad_nat (by omega)]; exact q1
  ·rw [R29_L0, if_pos (by simp [Sl.len_nat]; omega), bnd e1, bnd d2, imax_nat, ad_nat (by omega)]; exact q2
  ·rw [← q4 n, drop_cons hlt]
   constructor
   ·rintro ⟨g1, g2⟩
    exact ⟨by have := (d4 n).1 (g2 _ List.mem_cons_self); omega, fun y hy => g2 y (List.mem_cons_of_mem _ hy)⟩
   ·rintro ⟨g1, g2⟩
    refine ⟨by omega, fun y hy => ?_⟩
    rcases List.mem_cons.1 hy with rfl | hy
    ·exact (d4 n).2 (by omega)
    ·exact g2 y hy

theorem deep_ok : ∀ (m k : Nat), m + 50 ≤ k → m ≤ 28 → ∀ e : El, FewE m e → ∃ d : Nat, F37 k e = some (d : Int) ∧ R29 k e = some (d : Int) ∧ d ≤ m ∧ 1 ≤ d ∧ ∀ n, Dpt n e ↔ d ≤ n
 | 0, k, hk, hm, e, h => h.elim
 | m + 1, k, hk, hm, e, h => by
  obtain ⟨k, rfl⟩ : ∃ j, k = j + 1 := ⟨k - 1, by omega⟩
  have ih := fun x hx => deep_ok m k (by omega) (by omega) x (h.2.2 x hx)
  obtain ⟨q, q1, q2, q3, q4⟩ := deep_loop k e (fun x hx => (ih x hx).elim fun d hd => ⟨d, hd.1, hd.2.1, by omega, hd.2.2.2.2⟩) h.1 (Sl.l e.Kids).length k 0 0 (by omega) (by have := h.1; omega) (by omega)
  rw [show ((0 : Nat) : Int) = 0 from rfl] at q1 q2
  rw [List.drop_zero] at q4
  have hq : q ≤ m := (q4 m).1 ⟨by omega, fun y hy => (ih y hy).elim fun d hd => (hd.2.2.2.2 m).2 hd.2.2.1⟩
  refine ⟨q + 1, ?_, ?_, by omega, by omega, fun n => ?_⟩
  ·rw [F37, bnd q1, ad_nat (by omega)]
  ·rw [R29, bnd q2, ad_nat (by omega)]
  ·cases n with
   | zero => simp [Dpt]
   | succ n =>
    have := q4 n
    simp only [Nat.zero_le, true_and] at this
    rw [show Dpt (n + 1) e = ∀ x ∈ Sl.l e.Kids, Dpt n x from rfl, this]
    omega

theorem lenS_len (n : Nat) : (lenS n).length ≤ 3 ∧ 1 ≤ (lenS n).length := by
 unfold lenS
 split
 ·simp
 ·split <;> simp

def cat (f : El → Option Str) : Str → List El → Option Str
 | acc, [] => some acc
 | acc, x :: l => match f x with
  | some b => cat f (acc ++ b) l
  | none => none

def bytesS : Nat → El → Option Str
 | 0, _ => none
 | m + 1, e => match cat (bytesS m) e.Body (Sl.l e.Kids) with
  | some b => if b.length ≤ 4000 then some (UInt8.ofNat e.Tag.toNat :: (lenS b.length ++ b)) else none
  | none => none

theorem cat_len {f : El → Option Str} : ∀ (l : List El) (acc b : Str), cat f acc l = some b → acc.length ≤ b.length
 | [], acc, b, h => by injection h with h; rw [h]; exact Nat.le_refl _
 | x :: l, acc, b, h => by
  simp only [cat] at h
  split at h
  ·have := cat_len l _ _ h; simp at this; omega
  ·cases h

theorem bytesS_len {m : Nat} {e : El} {b : Str} (h : bytesS m e = some b) : b.length ≤ 4004 ∧ 2 ≤ b.length := by
 cases m with
 | zero => cases h
 | succ m =>
  simp only [bytesS] at h
  split at h
  ·split at h
   ·rename_i b' _ hl
    injection h with h; subst h
    have := lenS_len b'.length
    simp; omega
   ·cases h
  ·cases h

def enc2 (r : Option Str) : Str × Bool := (r.getD [], r.isSome)

theorem bytes_loops (m k : Nat) (e w : El) (ih : ∀ x ∈ Sl.l e.Kids, F38 k x = some (enc2 (bytesS m x)) ∧ R28 k x = some (enc2 (bytesS m x))) (hl : (Sl.l e.Kids).length ≤ 30) : ∀ (j fuel i : Nat) (acc : Str), i + j = (Sl.l e.Kids).length → j < fuel → acc.length + 4004 * j ≤ 200000 →
  ((∃ b, cat (bytesS m) acc ((Sl.l e.Kids).drop i) = some b ∧ R28_L0 (R28 k) k e fuel acc i = some (.brk (b, ((Sl.l e.Kids).length : Int)))) ∨ (cat (bytesS m) acc ((Sl.l e.Kids).drop i) = none ∧ R28_L0 (R28 k) k e fuel acc i = some (.ret ([], false)))) ∧
  ((∃ b, cat (bytesS m) acc ((Sl.l e.Kids).drop i) = some b ∧ ∃ q : Int, F38_L0 (F38 k) k e.Kids (Sl.len e.Kids) w fuel (Str.bytes acc) i = some (.brk (Str.bytes b, q))) ∨ ((∀ b, cat (bytesS m) acc ((Sl.l e.Kids).drop i) = some b → 4000 < b.length) ∧ F38_L0 (F38 k) k e.Kids (Sl.len e.Kids) w fuel (Str.bytes acc) i = some (.ret ([], false)))) := by
 intro j
 induction j with
 | zero =>
  intro fuel i acc h1 h2 h3
  obtain ⟨f, rfl⟩ : ∃ f, fuel = f + 1 := ⟨fuel - 1, by omega⟩
  obtain rfl : i = (Sl.l e.Kids).length := by omega
  rw [List.drop_eq_nil_of_le (Nat.le_refl _)]
  exact ⟨.inl ⟨acc, rfl, by rw [R28_L0, if_neg (by simp [Sl.len_nat])]⟩, .inl ⟨acc, rfl, _, by rw [F38_L0, if_neg (by simp [Sl.len_nat])]⟩⟩
 | succ j ihj =>
  intro fuel i acc h1 h2 h3
  obtain ⟨f, rfl⟩ : ∃ f, fuel = f + 1 := ⟨fuel - 1, by omega⟩
  have hlt : i < (Sl.l e.Kids).length := by omega
  have e1 : Sl.at? e.Kids (i : Int) = some (Sl.l e.Kids)[i] := by rw [Sl.at?_nat, List.getElem?_eq_getElem hlt]
  obtain ⟨d1, d2⟩ := ih _ (List.getElem_mem hlt)
  rw [drop_cons hlt]
  cases hb : bytesS m (Sl.l e.Kids)[i] with
  | none =>
   rw [hb] at d1 d2
   simp only [cat, hb]
   refine ⟨.inr ⟨by first | rfl | trivial, ?_⟩, .inr ⟨by simp, ?_⟩⟩
   ·rw [R28_L0, if_pos (by simp [Sl.len_nat]; omega), bnd e1, bnd d2, if_pos (by rfl)]
   ·rw [F38_L0, if_pos (by simp [Sl.len_nat]; omega), bnd e1, bnd d1, if_pos (by simp [enc2])]
  | some b =>
   rw [hb] at d1 d2
   have hbl := (bytesS_len hb).1
   simp only [cat, hb]
   have a1 : Str.app? acc b = some (acc ++ b) := Str.app?_ok (by omega)
   obtain ⟨A, B⟩ := ihj f (i + 1) (acc ++ b) (by omega) (by omega) (by simp; omega)
   constructor
   ·have g : R28_L0 (R28 k) k e (f + 1) acc i = R28_L0 (R28 k) k e f (acc ++ b) ((i + 1 : Nat) : Int) := by
     rw [R28_L0, if_pos (by simp [Sl.len_nat]; omega), bnd e1, bnd d2, if_neg (by simp [enc2]), show (enc2 (some b)).1 = b from rfl, bnd a1, ad_nat (by omega)]
    rw [g]; exact A
   ·have hlen : Sl.len (Str.bytes acc) = (acc.length : Int) := by simp [Sl.len, Str.bytes, Sl.l]
    have hadd : ad .i64 (Sl.len (Str.bytes acc)) (Str.len (enc2 (some b)).1) = (acc.length : Int) + b.length := by
     rw [hlen, show (enc2 (some b)).1 = b from rfl, Str.len_nat]
     exact ad64 (by omega)
    by_cases hbig : 4000 < acc.length + b.length
    ·refine .inr ⟨fun b' h' => by have := cat_len _ _ _ h'; simp at this; omega, ?_⟩
     rw [F38_L0, if_pos (by simp [Sl.len_nat]; omega), bnd e1, bnd d1, if_pos]
     rw [hadd]
     simp [enc2]; omega
    ·have a2 : Sl.app? 1 (Str.bytes acc) (Sl.l (Str.bytes b)) = some (Str.bytes (acc ++ b)) := by
      have hb2 := (bytesS_len hb).2
      rw [Sl.app?_ok]
      ·simp [Str.bytes, Sl.l]
      ·rw [Str.bytes_l]; intro h; have h' := congrArg List.length h; rw [List.length_map] at h'; simp only [List.length_nil] at h'; omega
      ·simp [Str.bytes, Sl.l]; omega
     have g : F38_L0 (F38 k) k e.Kids (Sl.len e.Kids) w (f + 1) (Str.bytes acc) i = F38_L0 (F38 k) k e.Kids (Sl.len e.Kids) w f (Str.bytes (acc ++ b)) ((i + 1 : Nat) : Int) := by
      rw [F38_L0, if_pos (by simp [Sl.len_nat]; omega), bnd e1, bnd d1, if_neg, show (enc2 (some b)).1 = b from rfl, bnd a2]
      ·rw [ad_nat (by omega)]
      rw [hadd]
      simp [enc2]; omega
     rw [g]; exact B

theorem of_tag (t : Int) : Str.of (some [t]) = [UInt8.ofNat t.toNat] := rfl
theorem of_bytes (s : Str) : Str.of (Str.bytes s) = s := Str.of_bytes_map s

theorem bytes_ok : ∀ (m k : Nat), m + 50 ≤ k → ∀ e : El, FewE m e → F38 k e = some (enc2 (bytesS m e)) ∧ R28 k e = some (enc2 (bytesS m e))
 | 0, k, hk, e, h => h.elim
 | m + 1, k, hk, e, h => by
  obtain ⟨k, rfl⟩ : ∃ j, k = j + 1 := ⟨k - 1, by omega⟩
  have ih := fun x hx => bytes_ok m k (by omega) x (h.2.2 x hx)
  obtain ⟨A, B⟩ := bytes_loops m k e e ih h.1 (Sl.l e.Kids).length k 0 e.Body (by omega) (by have := h.1; omega) (by have := h.1; have := h.2.1; omega)
  rw [show ((0 : Nat) : Int) = 0 from rfl, List.drop_zero] at A B
  constructor
  ·rw [F38]
   rcases B with ⟨b, hc, q, h3⟩ | ⟨hc, h3⟩
   ·rw [bnd h3]
    have hlen : Sl.len (Str.bytes b) = (b.length : Int) := by simp [Sl.len, Str.bytes, Sl.l]
    simp only [bytesS, hc]
    by_cases hb : b.length ≤ 4000
    ·have hL := lenS_len b.length
     rw [if_neg (by rw [hlen]; simp; omega), if_pos hb, hlen, bnd (len_ok k b.length (by omega) hb).1, of_tag, bnd (Str.app?_ok (by simp; omega)), of_bytes, bnd (Str.app?_ok (by simp; omega))]
     simp [enc2]
    ·rw [if_pos (by rw [hlen]; simp; omega), if_neg hb]; rfl
   ·rw [bnd h3]
    have : bytesS (m + 1) e = none := by
     simp only [bytesS]
     split
     ·rename_i b hb; have := hc b hb; rw [if_neg (by omega)]
     ·rfl
    rw [this]; rfl
  ·rw [R28]
   rcases A with ⟨b, hc, h3⟩ | ⟨hc, h3⟩
   ·rw [bnd h3]
    simp only [bytesS, hc]
    by_cases hb : b.length ≤ 4000
    ·have hL := lenS_len b.length
     rw [if_neg (by rw [Str.len_nat]; simp; omega), if_pos hb, Str.len_nat, bnd (len_ok k b.length (by omega) hb).2, of_tag, bnd (Str.app?_ok (by simp; omega)), bnd (Str.app?_ok (by simp; omega))]
     simp [enc2]
    ·rw [if_pos (by rw [Str.len_nat]; simp; omega), if_neg hb]; rfl
   ·rw [bnd h3]
    have : bytesS (m + 1) e = none := by simp only [bytesS, hc]
    rw [this]; rfl
end Go.Proofs.YtbinlabnilidiaaDoor.M
