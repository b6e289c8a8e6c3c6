/- Part of the proof: the runs of functions on the abstract machine. -/
import Derived.Test.YtkaifmdhkoiaeaaBerP9
namespace Go.Proofs.Ytkaifmdhkoiaeaa.M
open Go Go.Pam
set_option maxRecDepth 20000

/-- What all the bodies take. -/
def tot : List Str → Nat
  | [] => 0
  | b :: l => 2 + b.length + tot l

theorem rows_build (k : Nat) (a : Sl Str) (t : Int) (hl : (Sl.l a).length ≤ 12) : ∀ (j fuel i c : Nat) (acc : Sl El), i + j = (Sl.l a).length → j < fuel → (Sl.l acc).length = i → c ≤ 100 * i →
    F8_L0 k a t fuel c i ⟨49, [], acc⟩ = some (.ret true) ∨
    ((∀ b ∈ (Sl.l a).drop i, b.length ≤ 60) ∧ ∃ acc' : Sl El, Sl.l acc' = Sl.l acc ++ ((Sl.l a).drop i).map (fun b => (⟨t, b, none⟩ : El)) ∧
      F8_L0 k a t fuel c i ⟨49, [], acc⟩ = some (.brk (((c + tot ((Sl.l a).drop i) : Nat) : Int), ((Sl.l a).length : Int), ⟨49, [], acc'⟩))) := by
  intro j
  induction j with
  | zero =>
    intro fuel i c acc h1 h2 h3 h4
    obtain ⟨f, rfl⟩ : ∃ f, fuel = f + 1 := ⟨fuel - 1, by omega⟩
    obtain rfl : i = (Sl.l a).length := by omega
    rw [List.drop_eq_nil_of_le (Nat.le_refl _)]
    exact .inr ⟨by simp, acc, by simp, by rw [F8_L0, if_neg (by simp [Sl.len_nat])]; rfl⟩
  | succ j ih =>
    intro fuel i c acc h1 h2 h3 h4
    obtain ⟨f, rfl⟩ : ∃ f, fuel = f + 1 := ⟨fuel - 1, by omega⟩
    have hlt : i < (Sl.l a).length := by omega
    obtain ⟨b, hb⟩ : ∃ b, b = (Sl.l a)[i] := ⟨_, rfl⟩
    have e1 : Sl.at? a (i : Int) = some b := by rw [Sl.at?_nat, List.getElem?_eq_getElem hlt, hb]
    rw [drop_cons hlt, ← hb]
    rw [F8_L0, if_pos (by simp [Sl.len_nat]; omega), bnd e1]
    by_cases hbig : b.length ≤ 60
    · obtain ⟨z, hz, hzl⟩ := Sl.app?_l (bytes := 48) (x := acc) (ys := [(⟨t, b, none⟩ : El)]) (by simp only [List.length_singleton]; omega)
      have e2 : ad .i64 (ad .i64 (c : Int) 2) (Str.len b) = ((c + (2 + b.length) : Nat) : Int) := by
        rw [Str.len_nat, ad64 (by omega : -9223372036854775808 ≤ (c : Int) + 2 ∧ (c : Int) + 2 < 9223372036854775808), ad64 (by omega)]; omega
      rw [if_neg (by rw [Str.len_nat]; simp; omega), bnd e1, Sl.l_some, bnd hz, bnd e1, e2, ad_nat (by omega)]
      rcases ih f (i + 1) (c + (2 + b.length)) z (by omega) (by omega) (by rw [hzl]; simp; omega) (by omega) with h | ⟨h, acc', g1, g2⟩
      · exact .inl h
      · refine .inr ⟨?_, acc', by rw [g1, hzl]; simp, by rw [g2]; simp [tot]; omega⟩
        intro x hx
        rcases List.mem_cons.1 hx with rfl | hx
        · exact hbig
        · exact h x hx
    · rw [if_pos (by rw [Str.len_nat]; simp; omega)]
      exact .inl rfl

theorem kid_bytes (t : Int) (b : Str) (hb : b.length ≤ 60) (m : Nat) : bytesS (m + 1) ⟨t, b, none⟩ = some (UInt8.ofNat t.toNat :: UInt8.ofNat b.length :: b) := by
  show (match cat (bytesS m) b [] with | some b => if b.length ≤ 4000 then some (UInt8.ofNat t.toNat :: (lenS b.length ++ b)) else none | none => none) = _
  simp only [cat]
  rw [if_pos (by omega)]
  unfold lenS
  rw [if_pos (by omega)]
  rfl

theorem kids_cat (t : Int) (m : Nat) : ∀ (l : List Str), (∀ b ∈ l, b.length ≤ 60) → ∃ B, cat (bytesS (m + 1)) [] (l.map fun b => (⟨t, b, none⟩ : El)) = some B ∧ B.length = tot l
  | [], _ => ⟨[], rfl, rfl⟩
  | b :: l, h => by
    obtain ⟨B, h1, h2⟩ := kids_cat t m l fun x hx => h x (List.mem_cons_of_mem _ hx)
    simp only [List.map_cons, cat, kid_bytes t b (h b List.mem_cons_self) m]
    rw [cat_eq, h1]
    exact ⟨_, rfl, by simp [tot, h2]; omega⟩

theorem tot_le : ∀ (l : List Str), (∀ b ∈ l, b.length ≤ 60) → tot l ≤ 62 * l.length
  | [], _ => by simp [tot]
  | b :: l, h => by
    have := tot_le l fun x hx => h x (List.mem_cons_of_mem _ hx)
    have := h b List.mem_cons_self
    simp [tot]; omega

theorem tag_all : (List.range 256).all (fun n => (Lit.int .u8 (bAnd .u8 (bNot .u8 (n : Int) 32) 254)).wf && (bAnd .u8 (bAnd .u8 (bNot .u8 (n : Int) 32) 254) 31 != 31) && (bAnd .u8 (bAnd .u8 (bNot .u8 (n : Int) 32) 254) 32 == 0)) = true := by kernel_rfl

theorem tag_ok {a : Int} (h : 0 ≤ a ∧ a ≤ 255) : ∃ t, t = bAnd .u8 (bNot .u8 a 32) 254 ∧ (Lit.int .u8 t).wf = true ∧ bAnd .u8 t 31 ≠ 31 ∧ bAnd .u8 t 32 = 0 := by
  obtain ⟨n, rfl⟩ : ∃ n : Nat, a = n := ⟨a.toNat, by omega⟩
  have := List.all_eq_true.1 tag_all n (by simp; omega)
  simp only [Bool.and_eq_true, bne_iff_ne, ne_eq, beq_iff_eq] at this
  exact ⟨_, rfl, this.1.1, this.1.2, this.2⟩

theorem rows_check (k : Nat) (a : Sl Str) (t : Int) (f : El) (m : Nat) (hl : (Sl.l a).length ≤ 12) (h : All2 (Eqv (m + 1)) ((Sl.l a).map fun b => (⟨t, b, none⟩ : El)) (Sl.l f.Kids)) : ∀ (j fuel i : Nat), i + j = (Sl.l a).length → j < fuel →
    F8_L2 k a t f fuel i = some (.brk ((Sl.l a).length : Int)) := by
  intro j
  have hn := h.len
  rw [List.length_map] at hn
  induction j with
  | zero =>
    intro fuel i h1 h2
    obtain ⟨g, rfl⟩ : ∃ g, fuel = g + 1 := ⟨fuel - 1, by omega⟩
    obtain rfl : i = (Sl.l a).length := by omega
    rw [F8_L2, if_neg (by simp [Sl.len_nat])]
  | succ j ih =>
    intro fuel i h1 h2
    obtain ⟨g, rfl⟩ : ∃ g, fuel = g + 1 := ⟨fuel - 1, by omega⟩
    have hlt : i < (Sl.l a).length := by omega
    have hlt2 : i < (Sl.l f.Kids).length := by omega
    have e1 : Sl.at? a (i : Int) = some (Sl.l a)[i] := by rw [Sl.at?_nat, List.getElem?_eq_getElem hlt]
    have e2 : Sl.at? f.Kids (i : Int) = some (Sl.l f.Kids)[i] := by rw [Sl.at?_nat, List.getElem?_eq_getElem hlt2]
    have hq := h.get i (by rw [List.length_map]; exact hlt) hlt2
    rw [List.getElem_map] at hq
    obtain ⟨q1, q2, _⟩ := hq
    simp only at q1 q2
    have hbody : (!((Sl.l f.Kids)[i].Body == (Sl.l a)[i])) = false := by simp [← q2]
    have htag : ((Sl.l f.Kids)[i].Tag != t) = false := by simp [← q1]
    rw [F8_L2, if_pos (by simp [Sl.len_nat]; omega), bnd e2, bnd e1, hbody]
    rw [bnd (show (if false = true then some true else (Sl.at? f.Kids (i : Int)).bind fun y170 => some (y170.Tag != t)) = some false from by rw [if_neg (by simp), bnd e2, htag]), ite_neg' rfl, ad_nat (by omega)]
    exact ih g (i + 1) (by omega) (by omega)

theorem F8_true (a : Sl Str) (t0 : Int) (ht0 : 0 ≤ t0 ∧ t0 ≤ 255) : F8 100 a t0 = some true := by
  unfold F8
  rw [bnd (F10_true 100 (by omega)), ite_nt]
  by_cases hl : (Sl.l a).length ≤ 12
  · rw [if_neg (by simp [Sl.len_nat]; omega)]
    obtain ⟨t, ht, t1, t2, t3⟩ := tag_ok ht0
    rw [← ht]
    have hL := rows_build 100 a t hl (Sl.l a).length 100 0 0 none (by omega) (by omega) rfl (by omega)
    rw [show ((0 : Nat) : Int) = 0 from rfl, List.drop_zero] at hL
    rcases hL with hL | ⟨hb, acc, g1, g2⟩
    · rw [bnd hL]
    · rw [bnd g2]
      simp only [Nat.zero_add]
      have g1 : Sl.l acc = (Sl.l a).map fun b => (⟨t, b, none⟩ : El) := by rw [g1]; rfl
      obtain ⟨e, he⟩ : ∃ e : El, e = ⟨49, [], acc⟩ := ⟨_, rfl⟩
      rw [← he]
      have hek : Sl.l e.Kids = (Sl.l a).map fun b => (⟨t, b, none⟩ : El) := by rw [he]; exact g1
      have hmem : ∀ x ∈ Sl.l e.Kids, ∃ b ∈ Sl.l a, x = ⟨t, b, none⟩ := by
        intro x hx
        rw [hek, List.mem_map] at hx
        obtain ⟨b, h1, h2⟩ := hx
        exact ⟨b, h1, h2.symm⟩
      have hnil : ∀ b : Str, Sl.l (⟨t, b, none⟩ : El).Kids = [] := fun _ => rfl
      have hfew : Few 27 e := by
        refine ⟨by rw [hek, List.length_map]; exact hl, by rw [he]; simp, fun x hx => ?_⟩
        obtain ⟨b, h1, rfl⟩ := hmem x hx
        have := hb b h1
        exact ⟨by rw [hnil]; simp, by simp; omega, by rw [hnil]; simp⟩
      have hfm : Fm 27 e := by
        refine ⟨by rw [he]; show bAnd .u8 49 31 ≠ 31; decide, fun h => absurd h (by rw [he]; show bAnd .u8 49 32 ≠ 0; decide), fun _ => ⟨by rw [he], fun x hx => ?_⟩⟩
        obtain ⟨b, h1, rfl⟩ := hmem x hx
        exact ⟨t2, fun _ => hnil b, fun h => absurd t3 h⟩
      have hdp : Dpt 20 e := fun x hx => by
        obtain ⟨b, h1, rfl⟩ := hmem x hx
        intro y hy
        rw [hnil] at hy; cases hy
      have h60 : (60 : Nat) ≤ maxLen := by decide
      have hok : Ok_Api_Element e := by
        refine .mk _ (by rw [he]; show (Lit.int .u8 49).wf = true; decide) (by rw [he]; simp) (by rw [hek, List.length_map]; omega) fun x hx => ?_
        obtain ⟨b, h1, rfl⟩ := hmem x hx
        have := hb b h1
        exact .mk _ t1 (by simp only; omega) (by rw [hnil]; simp) (by rw [hnil]; simp)
      obtain ⟨B, hB, hBl⟩ := kids_cat t 25 (Sl.l a) hb
      have htot := tot_le (Sl.l a) hb
      have hbs : bytesS 27 e = some (UInt8.ofNat e.Tag.toNat :: (lenS B.length ++ B)) := by
        show (match cat (bytesS 26) e.Body (Sl.l e.Kids) with | some b => if b.length ≤ 4000 then some (UInt8.ofNat e.Tag.toNat :: (lenS b.length ++ b)) else none | none => none) = _
        rw [hek, show e.Body = [] from by rw [he], hB]
        simp only
        rw [if_pos (by omega)]
      obtain ⟨fm, d, w1, w2, w3, _⟩ := write_ok 27 100 (by omega) (by omega) e hfew
      have hfmt : fm = true := w1.2 hfm
      have hd := (w2 20).1 hdp
      rw [hbs] at w3
      have w3 : F17 100 e = some (UInt8.ofNat e.Tag.toNat :: (lenS B.length ++ B), 0) := by
        rw [w3]
        unfold writeS
        rw [hfmt, if_neg (by simp), if_neg (by omega)]
      obtain ⟨e', r1, r2⟩ := read_back 27 100 (by omega) e hok hfew hfm hdp _ [] hbs (by simp)
      rw [List.append_nil] at r1
      rw [bnd w3, bnd r1]
      have hlen : (UInt8.ofNat e.Tag.toNat :: (lenS B.length ++ B)).length = 1 + (lenS B.length).length + tot (Sl.l a) := by rw [← hBl]; simp; omega
      obtain ⟨y, hy1, hy2⟩ : ∃ y : Nat, ((if decide (((tot (Sl.l a) : Nat) : Int) ≥ 128) = true then some (3 : Int) else some 2).bind fun y93 => if decide (((tot (Sl.l a) : Nat) : Int) ≥ 256) = true then some (4 : Int) else some y93) = some (y : Int) ∧ 1 + (lenS B.length).length = y := by
        rw [hBl]
        unfold lenS
        by_cases q1 : tot (Sl.l a) < 128
        · exact ⟨2, by rw [if_neg (by simp; omega), bnd rfl, if_neg (by simp; omega)]; rfl, by rw [if_pos q1]; rfl⟩
        · by_cases q2 : tot (Sl.l a) < 256
          · exact ⟨3, by rw [if_pos (by simp; omega), bnd rfl, if_neg (by simp; omega)]; rfl, by rw [if_neg q1, if_pos q2]; rfl⟩
          · exact ⟨4, by rw [if_pos (by simp; omega), bnd rfl, if_pos (by simp; omega)]; rfl, by rw [if_neg q1, if_neg q2]; rfl⟩
      have hkl : (Sl.l e'.Kids).length = (Sl.l a).length := by rw [← r2.2.2.len, hek, List.length_map]
      have hyb : y ≤ 4 := by have := lenS_len B.length; omega
      have hfin : (rest : Int → Option Bool) → (hrest : rest y = some true) → ((if decide (((tot (Sl.l a) : Nat) : Int) ≥ 128) = true then some (3 : Int) else some 2).bind fun y93 => (if decide (((tot (Sl.l a) : Nat) : Int) ≥ 256) = true then some (4 : Int) else some y93).bind rest) = some true := by
        intro rest hrest
        cases hx : (if decide (((tot (Sl.l a) : Nat) : Int) ≥ 128) = true then some (3 : Int) else some 2) with
        | none => rw [hx] at hy1; cases hy1
        | some v =>
          rw [hx] at hy1
          have hy1 : (if decide (((tot (Sl.l a) : Nat) : Int) ≥ 256) = true then some (4 : Int) else some v) = some (y : Int) := hy1
          rw [bnd rfl, bnd hy1]
          exact hrest
      refine hfin _ ?_
      have e9 : ad .i64 ((tot (Sl.l a) : Nat) : Int) (y : Int) = ((tot (Sl.l a) + y : Nat) : Int) := by rw [ad64 (by omega)]; omega
      rw [if_neg]
      · have hc := rows_check 100 a t e' 25 hl (by have := r2.2.2; rw [hek] at this; exact this) (Sl.l a).length 100 0 (by omega) (by omega)
        rw [show ((0 : Nat) : Int) = 0 from rfl] at hc
        rw [bnd hc]
      · rw [e9, Str.len_nat, Sl.len_nat, Sl.len_nat, hkl, hlen]
        simp
        omega
  · rw [if_pos (by simp [Sl.len_nat]; omega)]

theorem berRows_true (a0 : Sl Str) (a1 : Int) (_ : (Sl.l a0).length ≤ maxLen ∧ ∀ a ∈ Sl.l a0, a.length ≤ maxLen) (o1 : (Lit.int .u8 a1).wf = true) : evw env 8 [encSl eS a0, .int .u8 a1] [] = some (.bool true, [], false) := by
  refine s8 100 (F8_true a0 a1 ?_) ?_ []
  · simpa [Lit.wf, IntKind.min, IntKind.max, IntKind.signed, IntKind.bits] using o1
  · simp only [List.map_cons, List.map_nil, strip_enc, st_int]
end Go.Proofs.Ytkaifmdhkoiaeaa.M
