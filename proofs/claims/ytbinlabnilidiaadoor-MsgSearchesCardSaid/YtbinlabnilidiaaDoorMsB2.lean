/- Elements of messages: what is written is read. -/
import Derived.Test.YtbinlabnilidiaaDoorMsB0
namespace Go.Proofs.YtbinlabnilidiaaDoor.M
open Go Go.Pam
set_option maxRecDepth 20000
set_option linter.unusedVariables false
set_option linter.unusedSimpArgs false

def All2 {α β : Type} (P : α → β → Prop) : List α → List β → Prop
 | [], [] => True
 | a :: l, b :: r => P a b ∧ All2 P l r
 | _, _ => False

theorem All2.len {α β : Type} {P : α → β → Prop} : ∀ {l : List α} {r : List β}, All2 P l r → l.length = r.length
 | [], [], _ => rfl
 | a :: l, b :: r, h => by simp [All2.len h.2]

theorem All2.get {α β : Type} {P : α → β → Prop} : ∀ {l : List α} {r : List β}, All2 P l r → ∀ (i : Nat) (h1 : i < l.length) (h2 : i < r.length), P l[i] r[i]
 | a :: l, b :: r, h, 0, _, _ => h.1
 | a :: l, b :: r, h, i + 1, h1, h2 => by
  simp only [List.getElem_cons_succ]
  exact All2.get h.2 i _ _

def Eqv : Nat → El → El → Prop
 | 0, _, _ => False
 | n + 1, e, f => e.Tag = f.Tag ∧ e.Body = f.Body ∧ All2 (Eqv n) (Sl.l e.Kids) (Sl.l f.Kids)

def TagE : Nat → El → Prop
 | 0, _ => False
 | n + 1, e => (Lit.int .u8 e.Tag).wf = true ∧ ∀ x ∈ Sl.l e.Kids, TagE n x

theorem cat_eq {f : El → Option Str} (l : List El) : ∀ acc : Str, cat f acc l = (cat f [] l).map (acc ++ ·) := by
 induction l with
 | nil => intro acc; simp [cat]
 | cons x l ih =>
  intro acc
  simp only [cat]
  cases f x with
  | none => rfl
  | some c =>
   simp only
   rw [ih (acc ++ c), ih ([] ++ c), Option.map_map]
   congr 1
   funext r
   simp

theorem cat_pre {f : El → Option Str} (l : List El) (acc b : Str) (h : cat f acc l = some b) : ∃ r, b = acc ++ r ∧ cat f [] l = some r := by
 rw [cat_eq] at h
 cases hc : cat f [] l with
 | none => rw [hc] at h; cases h
 | some r => rw [hc] at h; injection h with h; exact ⟨r, h.symm, rfl⟩

theorem byte_tag {t : Int} (h : (Lit.int .u8 t).wf = true) : ((UInt8.ofNat t.toNat).toNat : Int) = t := by
 have hb : 0 ≤ t ∧ t ≤ 255 := by simpa [Lit.wf, IntKind.min, IntKind.max, IntKind.signed, IntKind.bits] using h
 rw [UInt8.toNat_ofNat']
 omega

theorem of256 (n : Nat) (h : n < 256) : (UInt8.ofNat n).toNat = n := by rw [UInt8.toNat_ofNat']; omega

theorem hd_write {t : Int} (ht : (Lit.int .u8 t).wf = true) (h31 : bAnd .u8 t 31 ≠ 31) (n : Nat) (hn : n ≤ 4000) (r : Str) :
  hd (UInt8.ofNat t.toNat :: (lenS n ++ r)) = (((1 + (lenS n).length : Nat) : Int), (n : Int), 0) := by
 unfold lenS
 split
 ·simp only [List.cons_append, List.nil_append, hd, byte_tag ht, List.length_singleton]
  rw [if_neg h31, of256 n (by omega), if_pos (by omega)]
  rfl
 ·split
  ·simp only [List.cons_append, List.nil_append, hd, byte_tag ht]
   rw [if_neg h31, show (129 : UInt8).toNat = 129 from rfl, if_neg (by omega), if_neg (by omega), if_neg (by simp), if_neg]
   ·simp only [List.take_succ_cons, List.take_zero, List.foldl_cons, List.foldl_nil, be, of256 n (by omega)]
    simp
   ·simp only [List.take_succ_cons, List.take_zero, List.foldl_cons, List.foldl_nil, be, of256 n (by omega)]
    omega
  ·simp only [List.cons_append, List.nil_append, hd, byte_tag ht]
   have hlo : (UInt8.ofNat n).toNat = n % 256 := by rw [UInt8.toNat_ofNat']
   rw [if_neg h31, show (130 : UInt8).toNat = 130 from rfl, if_neg (by omega), if_neg (by omega), if_neg (by simp), if_neg]
   ·simp only [List.take_succ_cons, List.take_zero, List.foldl_cons, List.foldl_nil, be, of256 (n / 256) (by omega), hlo]
    simp only [Prod.mk.injEq, and_true]
    constructor
    ·simp
    ·omega
   ·simp only [List.take_succ_cons, List.take_zero, List.foldl_cons, List.foldl_nil, be, of256 (n / 256) (by omega), hlo]
    omega

def RB (m k : Nat) (e : El) : Prop := ∀ (j : Nat) (b s post : Str) (fr en : Nat) (d at0 : Int), Dpt j e → 1 ≤ d → d + j ≤ 21 → bytesS m e = some b → s.drop fr = b ++ post → fr + b.length ≤ en → en ≤ s.length → s.length ≤ 6000 →
 ∃ (at1 : Int) (e' : El), F54 k ⟨s, at0⟩ fr en d = some (⟨s, at1⟩, e', ((fr + b.length : Nat) : Int), 0) ∧ Eqv m e e'

theorem back_loop (m k : Nat) (hk : 40 ≤ k) (d : Int) (hd : 1 ≤ d ∧ d ≤ 20) (j : Nat) (hdj : d + 1 + j ≤ 21) (s : Str) (hs : s.length ≤ 6000) (sz p0 stop : Nat) (hst : p0 + sz = stop) (hstop : stop ≤ s.length) (w : El) (t : Int) :
  ∀ (l : List El), (∀ x ∈ l, RB m k x ∧ Dpt j x) → ∀ (r post : Str) (p fuel : Nat) (acc : Sl El) (at1 : Int), cat (bytesS m) [] l = some r → s.drop p = r ++ post → p + r.length = stop → l.length < fuel → acc.l.length + l.length ≤ 5000 →
  ∃ (at' : Int) (acc' : Sl El) (ys : List El), acc'.l = acc.l ++ ys ∧ All2 (Eqv m) l ys ∧ F54_L0 (F54 k) k d sz p0 w fuel p ⟨t, [], acc⟩ ⟨s, at1⟩ = some (.brk ((stop : Int), ⟨t, [], acc'⟩, ⟨s, at'⟩)) := by
 intro l
 have e1 : ad .i64 (p0 : Int) (sz : Int) = (stop : Int) := by rw [ad64 (by omega)]; omega
 have e3 : ad .i64 d 1 = d + 1 := ad64 (by omega)
 induction l with
 | nil =>
  intro hl r post p fuel acc at1 hc hsd hp hf ha
  obtain ⟨f, rfl⟩ : ∃ f, fuel = f + 1 := ⟨fuel - 1, by omega⟩
  injection hc with hc; subst hc
  simp only [List.length_nil, Nat.add_zero] at hp
  subst hp
  exact ⟨at1, acc, [], by simp, trivial, by rw [F54_L0, e1, if_neg (by simp)]⟩
 | cons x l ih =>
  intro hl r post p fuel acc at1 hc hsd hp hf ha
  obtain ⟨f, rfl⟩ : ∃ f, fuel = f + 1 := ⟨fuel - 1, by omega⟩
  simp only [cat] at hc
  cases hb : bytesS m x with
  | none => rw [hb] at hc; cases hc
  | some b =>
   rw [hb] at hc
   simp only at hc
   obtain ⟨r', hr, hc'⟩ := cat_pre l _ _ hc
   have hr : r = b ++ r' := by simpa using hr
   subst hr
   have hbl := bytesS_len hb
   simp only [List.length_append] at hp
   obtain ⟨at2, x', g1, g2⟩ := (hl x List.mem_cons_self).1 j b s (r' ++ post) p stop (d + 1) at1 (hl x List.mem_cons_self).2 (by omega) (by omega) hb (by rw [hsd, List.append_assoc]) (by omega) hstop hs
   obtain ⟨z, hz, hzl⟩ := Sl.app?_l (bytes := 48) (x := acc) (ys := [x']) (by simp only [List.length_singleton]; omega)
   have hsd' : s.drop (p + b.length) = r' ++ post := by rw [← List.drop_drop, hsd, List.append_assoc, List.drop_left]
   obtain ⟨at3, acc3, ys, h1, h2, h3⟩ := ih (fun y hy => hl y (List.mem_cons_of_mem _ hy)) r' post (p + b.length) f z at2 hc' hsd' (by omega) (by simp at hf; omega) (by rw [hzl]; simp at ha ⊢; omega)
   refine ⟨at3, acc3, x' :: ys, by rw [h1, hzl]; simp, ⟨g2, h2⟩, ?_⟩
   rw [F54_L0, e1, e3, if_pos (by simp; omega), bnd g1, if_neg (by simp), Sl.l_some, bnd hz]
   exact h3
theorem rb_ok : ∀ (m k : Nat), m + 40 ≤ k → ∀ e : El, TagE m e → FewE m e → Fm m e → RB m k e
 | 0, k, hk, e, _, h, _ => h.elim
 | m + 1, k, hk, e, ho, h, hf => by
  obtain ⟨k, rfl⟩ : ∃ j, k = j + 1 := ⟨k - 1, by omega⟩
  intro j b s post fr en d at0 hD hd1 hdj hb hs he hen hs6
  obtain ⟨j, rfl⟩ : ∃ j', j = j' + 1 := by
   cases j with
   | zero => exact hD.elim
   | succ j => exact ⟨j, rfl⟩
  obtain ⟨fo1, fo2, r3⟩ := hf
  simp only [bytesS] at hb
  cases hc : cat (bytesS m) e.Body (Sl.l e.Kids) with
  | none => rw [hc] at hb; cases hb
  | some B =>
   rw [hc] at hb
   simp only at hb
   have hl : B.length ≤ 4000 := Classical.byContradiction fun hn => by rw [if_neg hn] at hb; cases hb
   rw [if_pos hl] at hb
   injection hb with hb
   obtain ⟨L, hL⟩ : ∃ L, L = (lenS B.length).length := ⟨_, rfl⟩
   have hL3 := lenS_len B.length
   have hbl : b.length = 1 + L + B.length := by rw [← hb, hL]; simp; omega
   obtain ⟨sub, hsub⟩ : ∃ sub, sub = (s.take en).drop fr := ⟨_, rfl⟩
   have hsub2 : sub = UInt8.ofNat e.Tag.toNat :: (lenS B.length ++ (B ++ post.take (en - fr - b.length))) := by
    rw [hsub, List.drop_take, hs, List.take_append, List.take_of_length_le (by omega), ← hb]
    simp
   have hhd : hd sub = (((1 + L : Nat) : Int), (B.length : Int), 0) := by rw [hsub2, hd_write ho.1 fo1 B.length hl, hL]
   have hsl : sub.length ≤ 6000 := by rw [hsub, List.length_drop, List.length_take]; omega
   have e1 : Str.sub? s (fr : Int) (en : Int) = some sub := by rw [Str.sub?_nat (by omega) hen, hsub]
   have e2 := F13_eq k (by omega) sub (by omega)
   rw [hhd] at e2
   have hd20 : decide (d > 20) = false := by simp; omega
   have a0 : sb .i64 (en : Int) fr = (en : Int) - fr := sb64 (by omega)
   have a1 : sb .i64 (sb .i64 (en : Int) fr) ((1 + L : Nat) : Int) = (en : Int) - fr - ((1 + L : Nat) : Int) := by rw [a0, sb64 (by omega)]
   have a2 : ad .i64 (fr : Int) ((1 + L : Nat) : Int) = ((fr + (1 + L) : Nat) : Int) := by rw [ad64 (by omega)]; omega
   have a3 : ad .i64 ((fr + (1 + L) : Nat) : Int) (B.length : Int) = ((fr + b.length : Nat) : Int) := by rw [ad64 (by omega)]; omega
   have c1 : decide ((B.length : Int) > (en : Int) - fr - ((1 + L : Nat) : Int)) = false := by simp; omega
   have hfr : s[fr]? = some (UInt8.ofNat e.Tag.toNat) := by
    have h0 : (s.drop fr)[0]? = s[fr + 0]? := List.getElem?_drop
    rw [hs, ← hb] at h0
    exact h0.symm
   have e5 : Str.at? s (fr : Int) = some e.Tag := by rw [Str.at?_nat, hfr]; simp only [Option.map_some]; rw [byte_tag ho.1]
   have hdrop : s.drop (fr + (1 + L)) = B ++ post := by
    rw [← List.drop_drop, hs, ← hb, hL]
    rw [show 1 + (lenS B.length).length = (lenS B.length).length + 1 by omega]
    simp
   rw [F54, ite_neg' hd20, bnd e1, bnd e2]
   simp only [a1, a2, a3, c1]
   rw [bnd (show (if ((0 : Int) == 0 && false) = true then some (10 : Int) else some 0) = some 0 from rfl), bnd (show (if ((0 : Int) == 10 && decide (d > 1)) = true then some (11 : Int) else some 0) = some 0 from rfl), ite_neg' (show ((0 : Int) != 0) = false from rfl), bnd e5]
   by_cases ht : bAnd .u8 e.Tag 32 = 0
   ·have hk0 := fo2 ht
    rw [hk0] at hc
    injection hc with hc
    have e6 : Str.sub? s ((fr + (1 + L) : Nat) : Int) ((fr + b.length : Nat) : Int) = some B := by
     rw [Str.sub?_nat (by omega) (by omega), List.drop_take, hdrop, show fr + b.length - (fr + (1 + L)) = B.length by omega, List.take_left']
     rfl
    rw [ite_pos' (by simpa using ht), bnd e6]
    exact ⟨fr, ⟨e.Tag, B, none⟩, rfl, rfl, hc, by rw [hk0]; trivial⟩
   ·obtain ⟨hb0, hkids⟩ := r3 ht
    rw [hb0] at hc
    have := h.1
    obtain ⟨at', acc', ys, g1, g2, g3⟩ := back_loop m k (by omega) d ⟨hd1, by omega⟩ j (by omega) s hs6 B.length (fr + (1 + L)) (fr + b.length) (by omega) (by omega) ⟨0, [], none⟩ e.Tag (Sl.l e.Kids)
     (fun x hx => ⟨rb_ok m k (by omega) x (ho.2 x hx) (h.2.2 x hx) (hkids x hx), hD x hx⟩) B post (fr + (1 + L)) k none fr hc hdrop (by omega) (by omega) (by have h0 : (Sl.l (none : Sl El)).length = 0 := rfl; omega)
    rw [ite_neg' (by simpa using ht), bnd g3]
    refine ⟨at', ⟨e.Tag, [], acc'⟩, rfl, rfl, hb0, ?_⟩
    show All2 (Eqv m) (Sl.l e.Kids) acc'.l
    rw [g1]
    exact g2

theorem read_back (m k : Nat) (hk : m + 40 ≤ k) (e : El) (ho : TagE m e) (h : FewE m e) (hf : Fm m e) (hd : Dpt 20 e) (b tail : Str) (hb : bytesS m e = some b) (ht : tail.length ≤ 1000) :
  ∃ e' : El, F39 k (b ++ tail) = some (e', (b.length : Int), 0, 0) ∧ Eqv m e e' := by
 have hbl := bytesS_len hb
 obtain ⟨at1, e', h1, h2⟩ := rb_ok m k hk e ho h hf 20 b (b ++ tail) tail 0 (b ++ tail).length 1 0 hd (by omega) (by omega) hb (by simp) (by simp) (by omega) (by simp; omega)
 refine ⟨e', ?_, h2⟩
 unfold F39
 have h1 : F54 k ⟨b ++ tail, 0⟩ 0 (((b ++ tail).length : Nat) : Int) 1 = _ := h1
 rw [Str.len_nat, bnd h1, ite_neg' (show ((0 : Int) != 0) = false from rfl)]
 simp

end Go.Proofs.YtbinlabnilidiaaDoor.M
