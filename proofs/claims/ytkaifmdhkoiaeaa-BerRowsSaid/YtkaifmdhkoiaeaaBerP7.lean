/- Part of the proof: the runs of functions on the abstract machine. -/
import Derived.Test.YtkaifmdhkoiaeaaBerP6
namespace Go.Proofs.Ytkaifmdhkoiaeaa.M
open Go Go.Pam
set_option maxRecDepth 20000

def All2 {α β : Type} (P : α → β → Prop) : List α → List β → Prop
  | [], [] => True
  | a :: l, b :: r => P a b ∧ All2 P l r
  | _, _ => False

theorem All2.len {α β : Type} {P : α → β → Prop} : ∀ {l : List α} {r : List β}, All2 P l r → l.length = r.length
  | [], [], _ => rfl
  | a :: l, b :: r, h => by simp [All2.len h.2]

theorem All2.get {α β : Type} {P : α → β → Prop} : ∀ {l : List α} {r : List β}, All2 P l r → ∀ (i : Nat) (h1 : i < l.length) (h2 : i < r.length), P l[i] r[i]
  | a :: l, b :: r, h, 0, _, _ => h.1
  | a :: l, b :: r, h, i + 1, h1, h2 => by
    simp only [List.getElem_cons_succ]
    exact All2.get h.2 i _ _

/-- Alike but for rows that are none. -/
def Eqv : Nat → El → El → Prop
  | 0, _, _ => False
  | n + 1, e, f => e.Tag = f.Tag ∧ e.Body = f.Body ∧ All2 (Eqv n) (Sl.l e.Kids) (Sl.l f.Kids)

theorem same_eqv : ∀ (m k : Nat), m + 20 ≤ k → ∀ e f : El, Few m e → Eqv m e f → F20 k e f = some true
  | 0, k, hk, e, f, h, _ => h.elim
  | m + 1, k, hk, e, f, h, h' => by
    obtain ⟨k, rfl⟩ : ∃ j, k = j + 1 := ⟨k - 1, by omega⟩
    obtain ⟨t1, t2, t3⟩ := h'
    have hn := t3.len
    rw [F20, if_pos (by simp [t1, t2])]
    have L : ∀ (j fuel i : Nat), i + j = (Sl.l e.Kids).length → j < fuel → F29_20_L0 (F20 k) k f.Kids e.Kids (Sl.len e.Kids) fuel i = some (.brk ((Sl.l e.Kids).length : Int)) := by
      intro j
      induction j with
      | zero =>
        intro fuel i h1 h2
        obtain ⟨g, rfl⟩ : ∃ g, fuel = g + 1 := ⟨fuel - 1, by omega⟩
        obtain rfl : i = (Sl.l e.Kids).length := by omega
        rw [F29_20_L0, if_neg (by simp [Sl.len_nat])]
      | succ j ihj =>
        intro fuel i h1 h2
        obtain ⟨g, rfl⟩ : ∃ g, fuel = g + 1 := ⟨fuel - 1, by omega⟩
        have hlt : i < (Sl.l e.Kids).length := by omega
        have hlt2 : i < (Sl.l f.Kids).length := by omega
        have e1 : Sl.at? e.Kids (i : Int) = some (Sl.l e.Kids)[i] := by rw [Sl.at?_nat, List.getElem?_eq_getElem hlt]
        have e2 : Sl.at? f.Kids (i : Int) = some (Sl.l f.Kids)[i] := by rw [Sl.at?_nat, List.getElem?_eq_getElem hlt2]
        have b1 := same_eqv m k (by omega) _ _ (h.2.2 _ (List.getElem_mem hlt)) (t3.get i hlt hlt2)
        have := h.1
        rw [F29_20_L0, if_pos (by simp [Sl.len_nat]; omega), bnd e1, bnd e2, bnd b1, ite_nt, ad_nat (by omega)]
        exact ihj g (i + 1) (by omega) (by omega)
    have := h.1
    have l1 := L (Sl.l e.Kids).length k 0 (by omega) (by omega)
    rw [show ((0 : Nat) : Int) = 0 from rfl] at l1
    have g1 : F29_20 k (F20 k) e.Kids f.Kids = some true := by
      unfold F29_20
      rw [if_neg (by simp [Sl.len_nat, hn]), bnd l1]
    rw [bnd (show (F29_20 k (F20 k) e.Kids f.Kids).bind (fun y9 => some y9) = some true from by rw [bnd g1])]

theorem cat_eq {f : El → Option Str} (l : List El) : ∀ acc : Str, cat f acc l = (cat f [] l).map (acc ++ ·) := by
  induction l with
  | nil => intro acc; simp [cat]
  | cons x l ih =>
    intro acc
    simp only [cat]
    cases f x with
    | none => rfl
    | some c =>
      simp only
      rw [ih (acc ++ c), ih ([] ++ c), Option.map_map]
      congr 1
      funext r
      simp

theorem cat_pre {f : El → Option Str} (l : List El) (acc b : Str) (h : cat f acc l = some b) : ∃ r, b = acc ++ r ∧ cat f [] l = some r := by
  rw [cat_eq] at h
  cases hc : cat f [] l with
  | none => rw [hc] at h; cases h
  | some r => rw [hc] at h; injection h with h; exact ⟨r, h.symm, rfl⟩

theorem byte_tag {t : Int} (h : (Lit.int .u8 t).wf = true) : ((UInt8.ofNat t.toNat).toNat : Int) = t := by
  have hb : 0 ≤ t ∧ t ≤ 255 := by simpa [Lit.wf, IntKind.min, IntKind.max, IntKind.signed, IntKind.bits] using h
  rw [UInt8.toNat_ofNat']
  omega

theorem of256 (n : Nat) (h : n < 256) : (UInt8.ofNat n).toNat = n := by rw [UInt8.toNat_ofNat']; omega

/-- The head of what is written. -/
theorem hd_write {t : Int} (ht : (Lit.int .u8 t).wf = true) (h31 : bAnd .u8 t 31 ≠ 31) (n : Nat) (hn : n ≤ 4000) (r : Str) :
    hd (UInt8.ofNat t.toNat :: (lenS n ++ r)) = (((1 + (lenS n).length : Nat) : Int), (n : Int), 0) := by
  unfold lenS
  split
  · simp only [List.cons_append, List.nil_append, hd, byte_tag ht, List.length_singleton]
    rw [if_neg h31, of256 n (by omega), if_pos (by omega)]
    rfl
  · split
    · simp only [List.cons_append, List.nil_append, hd, byte_tag ht]
      rw [if_neg h31, show (129 : UInt8).toNat = 129 from rfl, if_neg (by omega), if_neg (by omega), if_neg (by simp), if_neg]
      · simp only [List.take_succ_cons, List.take_zero, List.foldl_cons, List.foldl_nil, be, of256 n (by omega)]
        simp
      · simp only [List.take_succ_cons, List.take_zero, List.foldl_cons, List.foldl_nil, be, of256 n (by omega)]
        omega
    · simp only [List.cons_append, List.nil_append, hd, byte_tag ht]
      have hlo : (UInt8.ofNat n).toNat = n % 256 := by rw [UInt8.toNat_ofNat']
      rw [if_neg h31, show (130 : UInt8).toNat = 130 from rfl, if_neg (by omega), if_neg (by omega), if_neg (by simp), if_neg]
      · simp only [List.take_succ_cons, List.take_zero, List.foldl_cons, List.foldl_nil, be, of256 (n / 256) (by omega), hlo]
        simp only [Prod.mk.injEq, and_true]
        constructor
        · simp
        · omega
      · simp only [List.take_succ_cons, List.take_zero, List.foldl_cons, List.foldl_nil, be, of256 (n / 256) (by omega), hlo]
        omega

/-- What is written is read, one level. -/
def RB (m k : Nat) (e : El) : Prop := ∀ (j : Nat) (b s post : Str) (fr en : Nat) (d at0 : Int), Dpt j e → 1 ≤ d → d + j ≤ 21 → bytesS m e = some b → s.drop fr = b ++ post → fr + b.length ≤ en → en ≤ s.length → s.length ≤ 6000 →
  ∃ (at1 : Int) (e' : El), F22 k ⟨s, at0⟩ fr en d = some (⟨s, at1⟩, e', ((fr + b.length : Nat) : Int), 0) ∧ Eqv m e e'

theorem back_loop (m k : Nat) (_ : 40 ≤ k) (d : Int) (hd : 1 ≤ d ∧ d ≤ 20) (j : Nat) (hdj : d + 1 + j ≤ 21) (s : Str) (hs : s.length ≤ 6000) (sz p0 stop : Nat) (hst : p0 + sz = stop) (hstop : stop ≤ s.length) (w : El) (t : Int) :
    ∀ (l : List El), (∀ x ∈ l, RB m k x ∧ Dpt j x) → ∀ (r post : Str) (p fuel : Nat) (acc : Sl El) (at1 : Int), cat (bytesS m) [] l = some r → s.drop p = r ++ post → p + r.length = stop → l.length < fuel → acc.l.length + l.length ≤ 5000 →
    ∃ (at' : Int) (acc' : Sl El) (ys : List El), acc'.l = acc.l ++ ys ∧ All2 (Eqv m) l ys ∧ F22_L0 (F22 k) k d sz p0 w fuel p ⟨t, [], acc⟩ ⟨s, at1⟩ = some (.brk ((stop : Int), ⟨t, [], acc'⟩, ⟨s, at'⟩)) := by
  intro l
  have e1 : ad .i64 (p0 : Int) (sz : Int) = (stop : Int) := by rw [ad64 (by omega)]; omega
  have e3 : ad .i64 d 1 = d + 1 := ad64 (by omega)
  induction l with
  | nil =>
    intro hl r post p fuel acc at1 hc hsd hp hf ha
    obtain ⟨f, rfl⟩ : ∃ f, fuel = f + 1 := ⟨fuel - 1, by omega⟩
    injection hc with hc; subst hc
    simp only [List.length_nil, Nat.add_zero] at hp
    subst hp
    exact ⟨at1, acc, [], by simp, trivial, by rw [F22_L0, e1, if_neg (by simp)]⟩
  | cons x l ih =>
    intro hl r post p fuel acc at1 hc hsd hp hf ha
    obtain ⟨f, rfl⟩ : ∃ f, fuel = f + 1 := ⟨fuel - 1, by omega⟩
    simp only [cat] at hc
    cases hb : bytesS m x with
    | none => rw [hb] at hc; cases hc
    | some b =>
      rw [hb] at hc
      simp only at hc
      obtain ⟨r', hr, hc'⟩ := cat_pre l _ _ hc
      have hr : r = b ++ r' := by simpa using hr
      subst hr
      have hbl := bytesS_len hb
      simp only [List.length_append] at hp
      obtain ⟨at2, x', g1, g2⟩ := (hl x List.mem_cons_self).1 j b s (r' ++ post) p stop (d + 1) at1 (hl x List.mem_cons_self).2 (by omega) (by omega) hb (by rw [hsd, List.append_assoc]) (by omega) hstop hs
      obtain ⟨z, hz, hzl⟩ := Sl.app?_l (bytes := 48) (x := acc) (ys := [x']) (by simp only [List.length_singleton]; omega)
      have hsd' : s.drop (p + b.length) = r' ++ post := by rw [← List.drop_drop, hsd, List.append_assoc, List.drop_left]
      obtain ⟨at3, acc3, ys, h1, h2, h3⟩ := ih (fun y hy => hl y (List.mem_cons_of_mem _ hy)) r' post (p + b.length) f z at2 hc' hsd' (by omega) (by simp at hf; omega) (by rw [hzl]; simp at ha ⊢; omega)
      refine ⟨at3, acc3, x' :: ys, by rw [h1, hzl]; simp, ⟨g2, h2⟩, ?_⟩
      rw [F22_L0, e1, e3, if_pos (by simp; omega), bnd g1, if_neg (by simp), Sl.l_some, bnd hz]
      exact h3
end Go.Proofs.Ytkaifmdhkoiaeaa.M
