/- WalScans: the plain law. -/
import Derived.Test.YtfpgfgpbjadoaaaDoorWP2
import Derived.Test.YtfpgfgpbjadoaaaDoorWDu
namespace Go.Proofs.YtfpgfgpbjadoaaaDoor.M
set_option linter.unusedVariables false
set_option linter.unusedSimpArgs false
open Go Go.Pam
set_option maxRecDepth 4000
/-- A record. -/
def rec1 (b : Str) : Str := hdr b ++ b
def recs : List Str → Str
  | [] => []
  | b :: l => rec1 b ++ recs l
theorem hdr_len (b : Str) : (hdr b).length = 6 := rfl
theorem rec1_len (b : Str) : (rec1 b).length = b.length + 6 := by simp [rec1, hdr_len]; omega
theorem recs_append : ∀ l m : List Str, recs (l ++ m) = recs l ++ recs m
  | [], _ => rfl
  | b :: l, m => by simp [recs, recs_append l m]
theorem recs_len {l : List Str} (h : ∀ b ∈ l, b.length ≤ 100) : (recs l).length ≤ 106 * l.length := by
  induction l with
  | nil => simp [recs]
  | cons b l ih =>
    have h1 := h b (List.mem_cons_self ..)
    have h2 := ih fun c hc => h c (List.mem_cons_of_mem _ hc)
    rw [recs, List.length_append, rec1_len, List.length_cons]; omega
/-- One record at the front. -/
theorem scan_rec (m p : Nat) (b r : Str) (hb : b.length ≤ 60000) : scanN (m + 1) p (rec1 b ++ r) = (b :: (scanN m (p + 6 + b.length) r).1, (scanN m (p + 6 + b.length) r).2) := by
  have hn : 256 * (UInt8.ofNat (b.length / 256)).toNat + (UInt8.ofNat b.length).toNat = b.length := by
    rw [UInt8.toNat_ofNat', UInt8.toNat_ofNat']; omega
  unfold rec1 hdr
  simp only [List.cons_append, List.nil_append]
  rw [scanN, hn, if_neg (by rw [List.length_append]; omega), List.take_left, if_pos (show hdr b = [UInt8.ofNat (b.length / 256), UInt8.ofNat b.length, UInt8.ofNat (sumN b / 16777216), UInt8.ofNat (sumN b / 65536), UInt8.ofNat (sumN b / 256), UInt8.ofNat (sumN b)] from rfl), List.drop_left]
/-- Less than one record. -/
theorem scan_part (m p k : Nat) (b r : Str) (hb : b.length ≤ 60000) (hk : k < b.length + 6) : scanN m p ((rec1 b ++ r).take k) = ([], p, 0) := by
  by_cases h6 : k < 6
  · exact short6 (by rw [List.length_take]; omega) m p
  cases m with
  | zero => rfl
  | succ m =>
    have hn : 256 * (UInt8.ofNat (b.length / 256)).toNat + (UInt8.ofNat b.length).toNat = b.length := by
      rw [UInt8.toNat_ofNat', UInt8.toNat_ofNat']; omega
    obtain ⟨j, rfl⟩ : ∃ j, k = j + 1 + 1 + 1 + 1 + 1 + 1 := ⟨k - 6, by omega⟩
    unfold rec1 hdr
    simp only [List.cons_append, List.nil_append, List.take_succ_cons]
    rw [scanN, hn, if_pos (by rw [List.length_take]; omega)]
theorem scan_all : ∀ (l : List Str) (m p : Nat), l.length < m → (∀ b ∈ l, b.length ≤ 100) → scanN m p (recs l) = (l, p + (recs l).length, 0)
  | [], m, p, _, _ => by rw [recs, short6 (by simp)]; simp
  | b :: l, m + 1, p, hm, hl => by
    have hb := hl b (List.mem_cons_self ..)
    rw [recs, scan_rec m p b (recs l) (by omega), scan_all l m _ (by simp at hm; omega) (fun c hc => hl c (List.mem_cons_of_mem _ hc)), List.length_append, rec1_len]
    simp; omega
theorem scan_cut : ∀ (l : List Str) (m p k : Nat), (∀ b ∈ l, b.length ≤ 100) → ∃ j q, scanN m p ((recs l).take k) = (l.take j, q, 0) ∧ q ≤ p + k
  | [], m, p, k, _ => ⟨0, p, by rw [recs, List.take_nil, short6 (by simp)]; rfl, by omega⟩
  | b :: l, 0, p, k, _ => ⟨0, p, rfl, by omega⟩
  | b :: l, m + 1, p, k, hl => by
    have hb := hl b (List.mem_cons_self ..)
    by_cases hk : k < b.length + 6
    · exact ⟨0, p, by rw [recs, scan_part (m + 1) p k b (recs l) (by omega) hk]; rfl, by omega⟩
    · obtain ⟨j, q, h, hq⟩ := scan_cut l m (p + 6 + b.length) (k - (b.length + 6)) fun c hc => hl c (List.mem_cons_of_mem _ hc)
      refine ⟨j + 1, q, ?_, by omega⟩
      rw [recs, List.take_append, List.take_of_length_le (by rw [rec1_len]; omega), rec1_len, scan_rec m p b _ (by omega), h]
      rfl
/-- What is put together. -/
theorem f4L (k : Nat) (a : Sl Str) (c1 c2 c3 : Int) (hk : 200 ≤ k) (hn : a.l.length ≤ 12) : ∀ (j fuel i : Nat) (s : Str), i + j = a.l.length → j < fuel → s = recs (a.l.take i) → (∀ b ∈ a.l.take i, b.length ≤ 100) →
    (F4_L0 k a c1 c2 c3 fuel s i = some (.ret true)) ∨ (F4_L0 k a c1 c2 c3 fuel s i = some (.brk (recs a.l, (a.l.length : Int))) ∧ ∀ b ∈ a.l, b.length ≤ 100) := by
  intro j
  induction j with
  | zero =>
    intro fuel i s hi hf hs hb
    obtain ⟨f, rfl⟩ : ∃ f, fuel = f + 1 := ⟨fuel - 1, by omega⟩
    obtain rfl : i = a.l.length := by omega
    rw [List.take_length] at hs hb
    rw [F4_L0, if_neg (by rw [Sl.len_nat]; simp), hs]
    exact .inr ⟨rfl, hb⟩
  | succ j ih =>
    intro fuel i s hi hf hs hb
    obtain ⟨f, rfl⟩ : ∃ f, fuel = f + 1 := ⟨fuel - 1, by omega⟩
    have hlt : i < a.l.length := by omega
    have e1 : Sl.at? a (i : Int) = some (a.l[i]) := by rw [Sl.at?_nat, List.getElem?_eq_getElem hlt]
    rw [F4_L0, if_pos (by rw [Sl.len_nat]; simp; omega), bnd e1]
    by_cases h : (a.l[i]).length ≤ 100
    · have ht : a.l.take (i + 1) = a.l.take i ++ [a.l[i]] := by rw [List.take_add_one, List.getElem?_eq_getElem hlt]; rfl
      have hsl := recs_len hb
      rw [List.length_take] at hsl
      rw [if_neg (by rw [Str.len_nat]; simp; omega), bnd e1, bnd (F13_eq k _ (by omega) (by omega)), bnd (Str.app?_ok (by rw [hs, List.length_append, hdr_len]; omega)), ad_nat (by omega)]
      refine ih f (i + 1) _ (by omega) (by omega) ?_ ?_
      · rw [ht, recs_append, hs, recs, recs, List.append_nil]; rfl
      · intro b hb'
        rw [ht] at hb'
        rcases List.mem_append.1 hb' with h1 | h1
        · exact hb b h1
        · obtain rfl := List.mem_singleton.1 h1; exact h
    · rw [if_pos (by rw [Str.len_nat]; simp; omega)]
      exact .inl rfl
theorem F4_true (a : Sl Str) (c1 c2 c3 : Int) (h1 : 0 ≤ c1 ∧ c1 < 65536) (h2 : 0 ≤ c2 ∧ c2 < 65536) : F4 100000 a c1 c2 c3 = some true := by
  unfold F4
  rw [bnd (show F7 100000 = some true from rfl), if_neg (by decide)]
  by_cases hn : a.l.length ≤ 12
  case neg => rw [if_pos (by rw [Sl.len_nat]; simp; omega)]
  rw [if_neg (by rw [Sl.len_nat]; simp; omega)]
  have hL := f4L 100000 a c1 c2 c3 (by omega) hn a.l.length 100000 0 [] (by omega) (by omega) rfl (by simp)
  rw [show ((0 : Nat) : Int) = 0 from rfl] at hL
  rcases hL with e | ⟨e, hb⟩
  · rw [bnd e]
  rw [bnd e]
  dsimp only
  have hs := recs_len hb
  generalize hS : recs a.l = s at *
  obtain ⟨X, e1, l1⟩ := F8_eq 100000 s (by omega) (by omega)
  have ha := scan_all a.l 100000 0 (by omega) hb
  rw [hS] at ha
  rw [ha] at e1 l1
  dsimp only at e1 l1
  rw [Nat.zero_add] at e1
  rw [bnd e1]
  dsimp only
  rw [if_neg (by rw [Str.len_nat]; simp), bnd (F14_same _ X a l1 (by rw [l1]; omega) (by rw [l1]; omega)), bind_some', if_neg (by decide)]
  by_cases h0 : s.length = 0
  · rw [if_pos (by rw [Str.len_nat, h0]; rfl)]
  rw [if_neg (by rw [Str.len_nat]; simp; intro h; exact h0 (by rw [h]; rfl))]
  have hc1 : cv .i64 c1 = c1 := cv64 (by omega)
  have hc2 : cv .i64 c2 = c2 := cv64 (by omega)
  obtain ⟨z, hz, ez⟩ := rem?_nat (a := c1) h1.1 (n := s.length) (by omega)
  obtain ⟨y, hy, ey⟩ := rem?_nat (a := c2) h2.1 (n := s.length) (by omega)
  have e2 : Str.sub? s 0 (z : Int) = some (s.take z) := by
    have := Str.sub?_nat (s := s) (l := 0) (h := z) (by omega) (by omega)
    simpa using this
  obtain ⟨Y, e3, l3⟩ := F8_eq 100000 (s.take z) (by rw [List.length_take]; omega) (by rw [List.length_take]; omega)
  obtain ⟨j, q, hj, hq⟩ := scan_cut a.l 100000 0 z hb
  rw [hS] at hj
  rw [hj] at e3 l3
  dsimp only at e3 l3
  rw [hc1, Str.len_nat, bnd ez, bnd e2, bnd e3]
  dsimp only
  have hl3 : Y.l.length ≤ a.l.length := by rw [l3, List.length_take]; omega
  have c1' : ((((0 : Int) != 0) || decide ((q : Int) > (z : Int))) || decide (Sl.len Y > Sl.len a)) = false := by
    rw [Sl.len_nat, Sl.len_nat]
    simp only [bne_self_eq_false, Bool.false_or, Bool.or_eq_false_iff, decide_eq_false_iff_not]
    omega
  rw [if_neg (by rw [c1']; decide)]
  have e4 : Sl.sub? a 0 (Sl.len Y) = some (a.map fun xs => (xs.take Y.l.length).drop 0) := by
    unfold Sl.sub?
    rw [Sl.len_nat, if_pos (by omega)]
    simp
  have l4 : (Sl.l (a.map fun xs => (xs.take Y.l.length).drop 0)) = Y.l := by
    cases a with
    | none => rw [l3]; simp [Sl.l]
    | some xs =>
      simp only [Option.map_some, Sl.l_some, List.drop_zero] at l3 ⊢
      rw [l3, List.length_take]
      by_cases hj : j ≤ xs.length
      · rw [Nat.min_eq_left hj]
      · rw [Nat.min_eq_right (by omega), List.take_length, List.take_of_length_le (by omega)]
  rw [bnd e4, bnd (F14_same _ Y _ l4.symm (by omega) (by omega)), bind_some', if_neg (by decide)]
  have hbl : Sl.len (Str.bytes s) = ((s.length : Nat) : Int) := by rw [Sl.len_nat, Str.bytes_l, List.length_map]
  have e5 : Sl.at? (Str.bytes s) (y : Int) = some (((s[y]).toNat : Nat) : Int) := by
    rw [Sl.at?_nat, Str.bytes_l]; simp [List.getElem?_eq_getElem hy]
  rw [hbl, hc2, bnd ey, bnd ey, bnd e5, bnd e5]
  have hT : (Str.of (Sl.set (Str.bytes s) (y : Int) (bXor .u8 (((s[y]).toNat : Nat) : Int) c3))).length = s.length := by
    simp [Str.of, Sl.set, Str.bytes, Sl.l]
  generalize Str.of (Sl.set (Str.bytes s) (y : Int) (bXor .u8 (((s[y]).toNat : Nat) : Int) c3)) = t at *
  obtain ⟨U, e6, l6⟩ := F8_eq 100000 t (by omega) (by omega)
  obtain ⟨W, e7, l7⟩ := F9_eq 100000 t (by omega) (by omega)
  have hb6 : U.l.length < 100000 := by rw [l6]; exact scan_len _ _ _ (by omega)
  rw [bnd e6, bnd e7, bnd (F14_same _ U W (by rw [l6, l7]) (by omega) (by omega))]
  simp
theorem walScans_true (a0 : Sl Str) (a1 a2 a3 : Int) (_ : ((Sl.l a0).length ≤ maxLen ∧ ∀ a ∈ Sl.l a0, a.length ≤ maxLen)) (o1 : (Lit.int .u16 a1).wf = true) (o2 : (Lit.int .u16 a2).wf = true) (_ : (Lit.int .u8 a3).wf = true) :
    evw env 4 [encSl eS a0, .int .u16 a1, .int .u16 a2, .int .u8 a3] [] = some (.bool true, [], false) := by
  have q : ∀ x : Int, (Lit.int .u16 x).wf = true → 0 ≤ x ∧ x < 65536 := fun x h => by
    simp only [Lit.wf, IntKind.min, IntKind.max, IntKind.signed, IntKind.bits, Bool.and_eq_true] at h
    have : (2 : Int) ^ 16 = 65536 := by decide
    simp at h
    omega
  refine s4 100000 (F4_true a0 a1 a2 a3 (q _ o1) (q _ o2)) ?_ []
  simp only [List.map_cons, List.map_nil, st_int, strip_enc]
end Go.Proofs.YtfpgfgpbjadoaaaDoor.M
