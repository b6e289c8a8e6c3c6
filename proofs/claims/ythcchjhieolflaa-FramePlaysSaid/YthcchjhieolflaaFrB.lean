/- Part of the proof: the runs of functions on the abstract machine. -/
import Derived.Test.YthcchjhieolflaaDV
import Derived.Test.YthcchjhieolflaaBerHd
namespace Go.Proofs.Ythcchjhieolflaa.M
open Go Go.Pam
set_option maxRecDepth 20000

theorem f14L (k : Nat) (a b : UInt8) (r : Str) (n : Nat) (hn : n ≤ 4) (hr : n ≤ r.length) : ∀ (j fuel i : Nat) (z : Int), i + j = n → j < fuel → 0 ≤ z → z < 256 ^ i →
    F43_L0 k (a :: b :: r) n fuel z i = some (((r.take n).drop i).foldl be z, (n : Int))
  | j, 0, i, z, _, hf, _, _ => by omega
  | 0, fuel + 1, i, z, hi, _, _, _ => by
    obtain rfl : i = n := by omega
    rw [F43_L0]
    simp
  | j + 1, fuel + 1, i, z, hi, hf, h0, h1 => by
    have hlt : i < r.length := by omega
    have hp := pow_le4 (k := i) (by omega)
    have hc := (r[i]).toNat_lt
    have e1 : ad .i64 2 (i : Int) = ((2 + i : Nat) : Int) := by rw [ad64 (by omega)]; omega
    have e2 : Str.at? (a :: b :: r) ((2 + i : Nat) : Int) = some (((r[i]).toNat : Nat) : Int) := by
      rw [Str.at?_nat, show 2 + i = i + 1 + 1 by omega]
      simp [List.getElem?_eq_getElem hlt]
    have e3 : ad .i64 (ml .i64 256 z) (cv .i64 ((r[i]).toNat : Int)) = be z r[i] := by
      rw [cv64 (by omega), ml64 (by omega), ad64 (by omega)]; rfl
    have ih := f14L k a b r n hn hr j fuel (i + 1) (be z r[i]) (by omega) (by omega) (by unfold be; omega) (by unfold be; rw [Int.pow_succ]; omega)
    have e4 : (r.take n).drop i = r[i] :: (r.take n).drop (i + 1) := by
      rw [List.drop_eq_getElem_cons (by rw [List.length_take]; omega), List.getElem_take]
    rw [F43_L0]
    rw [if_pos (by simp; omega), e1, e2]
    simp only [Option.bind_some]
    rw [e3, ad_nat (by omega), ih, e4]
    rfl


theorem f13L1 (k : Nat) (q : Int) (l : Str) (hn : l.length ≤ 4) (n i : Nat) (z : Int) (hlt : i < l.length) (h0 : 0 ≤ z) (h1 : z < 256 ^ i) :
    F41_L4 k q (Str.bytes l) (Sl.len (Str.bytes l)) (n + 1) z i = F41_L4 k q (Str.bytes l) (Sl.len (Str.bytes l)) n (be z l[i]) ((i + 1 : Nat) : Int) := by
  have hp := pow_le4 (k := i) (by omega)
  have hc := (l[i]).toNat_lt
  have e2 : Sl.at? (Str.bytes l) (i : Int) = some (((l[i]).toNat : Nat) : Int) := by
    rw [Sl.at?_nat, Str.bytes_l]
    simp [List.getElem?_eq_getElem hlt]
  have e3 : bOr .i64 (256 * z) (cv .i64 ((l[i]).toNat : Int)) = be z l[i] := by
    rw [cv64 (by omega), or64_byte (by omega) (by omega)]; rfl
  have e4 : shl? .i64 z 8 = some (256 * z) := shl64_8 (by omega)
  have e5 : decide ((i : Int) < Sl.len (Str.bytes l)) = true := by simp [Sl.len, Str.bytes, Sl.l]; omega
  have e6 : ad .i64 (i : Int) 1 = ((i + 1 : Nat) : Int) := ad_nat (by omega)
  rw [F41_L4, if_pos e5, bnd e2, bnd e4, e3, e6]


theorem f13L (k : Nat) (q : Int) (l : Str) (hn : l.length ≤ 4) : ∀ (j fuel i : Nat) (z : Int), i + j = l.length → j < fuel → 0 ≤ z → z < 256 ^ i →
    F41_L4 k q (Str.bytes l) (Sl.len (Str.bytes l)) fuel z i = some ((l.drop i).foldl be z, (l.length : Int)) := by
  intro j
  induction j with
  | zero =>
    intro fuel i z hi hf _ _
    obtain ⟨f, rfl⟩ : ∃ f, fuel = f + 1 := ⟨fuel - 1, by omega⟩
    obtain rfl : i = l.length := by omega
    rw [F41_L4, if_neg (by simp [Sl.len, Str.bytes, Sl.l])]
    simp
  | succ j ih =>
    intro fuel i z hi hf h0 h1
    obtain ⟨f, rfl⟩ : ∃ f, fuel = f + 1 := ⟨fuel - 1, by omega⟩
    have hlt : i < l.length := by omega
    have hc := (l[i]).toNat_lt
    rw [f13L1 k q l hn f i z hlt h0 h1, ih f (i + 1) (be z l[i]) (by omega) (by omega) (by unfold be; omega) (by unfold be; rw [Int.pow_succ]; omega), List.drop_eq_getElem_cons hlt, List.foldl_cons]


theorem F43_eq (k : Nat) (hk : 6 ≤ k) (s : Str) (hs : s.length < 4294967296) : F43 k s = some (hd s) := by
  match s with
  | [] => rfl
  | [a] =>
    unfold F43
    have e0 : Str.at? [a] 0 = some (a.toNat : Int) := rfl
    have l0 : (Str.len [a] == 0) = false := rfl
    have l1 : (Str.len [a] == 1) = true := rfl
    simp only [l0, l1, e0, Option.bind_some, Bool.false_eq_true, if_false, if_true, hd, beq_iff_eq]
    split <;> rfl
  | a :: b :: r =>
    unfold F43
    have e0 : Str.at? (a :: b :: r) 0 = some (a.toNat : Int) := rfl
    have e1 : Str.at? (a :: b :: r) 1 = some (b.toNat : Int) := rfl
    have l0 : (Str.len (a :: b :: r) == 0) = false := by simp [Str.len]; omega
    have l1 : (Str.len (a :: b :: r) == 1) = false := by simp [Str.len]; omega
    have hb := b.toNat_lt
    simp only [l0, l1, e0, e1, Option.bind_some, Bool.false_eq_true, if_false, hd, beq_iff_eq, decide_eq_true_eq]
    rw [cv64 (by omega), sb64 (by omega)]
    split
    · rfl
    by_cases h2 : b.toNat < 128
    · rw [if_pos (by omega), if_pos h2]
    rw [if_neg (by omega), if_neg h2]
    by_cases h3 : b.toNat = 128 ∨ 132 < b.toNat
    · rw [if_pos h3, if_pos (by simp; omega)]
    rw [if_neg h3, if_neg (by simp; omega)]
    obtain ⟨n, hn⟩ : ∃ n, n = b.toNat - 128 := ⟨_, rfl⟩
    have hn' : (b.toNat : Int) - 128 = n := by omega
    simp only [← hn, hn']
    have hlen : Str.len (a :: b :: r) = ((r.length + 2 : Nat) : Int) := rfl
    rw [ad64 (by omega), hlen]
    by_cases h4 : r.length < n
    · rw [if_pos (by omega), if_pos h4]
    rw [if_neg (by omega), if_neg h4]
    have := f14L k a b r n (by omega) (by omega) n k 0 0 (by omega) (by omega) (by omega) (by decide)
    rw [show ((0 : Nat) : Int) = 0 from rfl] at this
    rw [this]
    simp only [Option.bind_some, List.drop_zero]
    by_cases h5 : 4000 < (r.take n).foldl be 0
    · rw [if_pos h5, if_pos h5]
    · rw [if_neg h5, if_neg h5]


theorem F41_eq (k : Nat) (hk : 6 ≤ k) (s : Str) (hs : s.length < 4294967296) : F41 k s = some (hd s) := by
  match s with
  | [] => rfl
  | [a] =>
    unfold F41
    have e0 : Str.at? [a] 0 = some (a.toNat : Int) := rfl
    have l0 : ([a] == ([] : Str)) = false := rfl
    have l1 : (Str.len [a] == 1) = true := rfl
    simp only [l0, l1, e0, Option.bind_some, Bool.false_eq_true, if_false, if_true, hd, beq_iff_eq]
    split <;> rfl
  | a :: b :: r =>
    unfold F41
    have e0 : Str.at? (a :: b :: r) 0 = some (a.toNat : Int) := rfl
    have e1 : Str.at? (a :: b :: r) 1 = some (b.toNat : Int) := rfl
    have l0 : ((a :: b :: r) == ([] : Str)) = false := rfl
    have l1 : (Str.len (a :: b :: r) == 1) = false := by simp [Str.len]; omega
    have hb := b.toNat_lt
    simp only [l0, l1, e0, e1, Option.bind_some, Bool.false_eq_true, if_false, hd, beq_iff_eq, decide_eq_true_eq]
    rw [cv64 (by omega), sb64 (by omega)]
    split
    · rfl
    by_cases h2 : b.toNat < 128
    · rw [if_neg (by simp; omega), if_neg (by omega), if_pos h2]
      simp only [Option.bind_some]
      rw [if_neg (by omega), ad64 (by omega)]
      rfl
    rw [if_neg h2]
    by_cases h3 : b.toNat = 128 ∨ 132 < b.toNat
    · rw [if_pos h3, if_pos (by simp; omega)]
      rfl
    rw [if_neg h3, if_neg (by simp; omega), if_pos (by omega)]
    obtain ⟨n, hn⟩ : ∃ n, n = b.toNat - 128 := ⟨_, rfl⟩
    have hn' : (b.toNat : Int) - 128 = n := by omega
    simp only [← hn, hn']
    have hlen : Str.len (a :: b :: r) = ((r.length + 2 : Nat) : Int) := rfl
    have e2 : ad .i64 2 (n : Int) = ((2 + n : Nat) : Int) := by rw [ad64 (by omega)]; omega
    rw [e2, hlen]
    by_cases h4 : r.length < n
    · rw [if_pos (by omega), if_pos h4]
      rfl
    rw [if_neg (by omega), if_neg h4]
    have e3 : Str.sub? (a :: b :: r) 2 ((2 + n : Nat) : Int) = some (r.take n) := by
      have := Str.sub?_nat (s := a :: b :: r) (l := 2) (h := 2 + n) (by omega) (by simp; omega)
      rw [show ((2 : Nat) : Int) = 2 from rfl] at this
      rw [this, show 2 + n = n + 1 + 1 by omega]
      rfl
    rw [e3]
    simp only [Option.bind_some]
    have hl : (r.take n).length = n := by rw [List.length_take]; omega
    have := f13L k n (r.take n) (by omega) n k 0 0 (by omega) (by omega) (by omega) (by decide)
    rw [show ((0 : Nat) : Int) = 0 from rfl] at this
    rw [this]
    simp only [Option.bind_some, List.drop_zero]
    by_cases h5 : 4000 < (r.take n).foldl be 0
    · rw [if_pos h5, if_pos h5]
    · rw [if_neg h5, if_neg h5]
      simp only [Option.some.injEq, Prod.mk.injEq, and_true]
      omega

/-- A message: tag, length, body. -/
def msg (t : Int) (b : Str) : Str := UInt8.ofNat t.toNat :: (lenS b.length ++ b)

theorem len_all (k : Nat) : (List.range 301).all (fun n => F55 (k + 9) n == some (lenS n)) = true := by kernel_rfl
theorem len_ok (k n : Nat) (hk : 9 ≤ k) (hn : n ≤ 300) : F55 k n = some (lenS n) := by
  have h2 := List.all_eq_true.1 (len_all (k - 9)) n (by simp; omega)
  rw [show k - 9 + 9 = k by omega] at h2
  simpa using h2

theorem tag_all : (List.range 256).all (fun n => (Lit.int .u8 (bNot .u8 (n : Int) 33)).wf && (bAnd .u8 (bNot .u8 (n : Int) 33) 31 != 31) && (bAnd .u8 (bNot .u8 (n : Int) 33) 32 == 0)) = true := by kernel_rfl
theorem tag_ok {a : Int} (h : (Lit.int .u8 a).wf = true) : (Lit.int .u8 (bNot .u8 a 33)).wf = true ∧ bAnd .u8 (bNot .u8 a 33) 31 ≠ 31 ∧ bAnd .u8 (bNot .u8 a 33) 32 = 0 := by
  have h : 0 ≤ a ∧ a ≤ 255 := by simpa [Lit.wf, IntKind.min, IntKind.max, IntKind.signed, IntKind.bits] using h
  obtain ⟨n, rfl⟩ : ∃ n : Nat, a = n := ⟨a.toNat, by omega⟩
  have := List.all_eq_true.1 tag_all n (by simp; omega)
  simp only [Bool.and_eq_true, bne_iff_ne, ne_eq, beq_iff_eq] at this
  exact ⟨this.1.1, this.1.2, this.2⟩

theorem write_leaf (k : Nat) (hk : 40 ≤ k) (t : Int) (b : Str) (hb : b.length ≤ 300) (h1 : bAnd .u8 t 31 ≠ 31) (h2 : bAnd .u8 t 32 = 0) : F10 k ⟨t, b, none⟩ = some (msg t b, 0) := by
  obtain ⟨k, rfl⟩ : ∃ j, k = j + 2 := ⟨k - 2, by omega⟩
  have c1 : F38 (k + 2) ⟨t, b, none⟩ = some true := by
    rw [F38, if_neg (by simp [h1, h2, Sl.len, Sl.l])]
    rfl
  have c2 : F39 (k + 2) ⟨t, b, none⟩ = some 1 := by rw [F39]; rfl
  have hL := lenS_len b.length
  have c3 : F40 (k + 2) ⟨t, b, none⟩ = some (msg t b, true) := by
    rw [F40]
    have hl : F40_L0 (F40 (k + 1)) (k + 1) ⟨t, b, none⟩ (k + 1) b 0 = some (.brk (b, 0)) := by rw [F40_L0, if_neg (by simp [Sl.len, Sl.l])]
    rw [bnd hl]
    simp only
    rw [if_neg (by rw [Str.len_nat]; simp; omega), Str.len_nat, bnd (len_ok (k + 1) b.length (by omega) hb), show Str.of (some [t]) = [UInt8.ofNat t.toNat] from rfl, bnd (Str.app?_ok (by simp; omega)), bnd (Str.app?_ok (by simp; omega))]
    simp [msg]
  unfold F10
  rw [bnd c1, ite_nt, bnd c2, if_neg (by simp), bnd c3, if_neg (by simp)]

theorem msg_len (t : Int) (b : Str) : (msg t b).length = 1 + (lenS b.length).length + b.length := by simp [msg]; omega

/-- Are they all messages? -/
def Msgs (ws : List Str) : Prop := ∀ w ∈ ws, ∃ (t : Int) (b : Str), w = msg t b ∧ b.length ≤ 300 ∧ (Lit.int .u8 t).wf = true ∧ bAnd .u8 t 31 ≠ 31

theorem build_loop (k : Nat) (hk : 40 ≤ k) (a : Sl Api_Element) (cuts : Sl Int) (ho : ∀ e ∈ Sl.l a, (Lit.int .u8 e.Tag).wf = true) (hl : (Sl.l a).length ≤ 8) : ∀ (j fuel i : Nat) (acc : Sl Str) (all : Str), i + j = (Sl.l a).length → j < fuel → (Sl.l acc).length = i → all.length ≤ 400 * i → all = (Sl.l acc).flatten → Msgs (Sl.l acc) →
    F3_L0 k a cuts fuel acc all i = some (.ret true) ∨ ∃ (acc' : Sl Str) (all' : Str) (q : Int), all'.length ≤ 3200 ∧ (Sl.l acc').length ≤ 8 ∧ all' = (Sl.l acc').flatten ∧ Msgs (Sl.l acc') ∧ F3_L0 k a cuts fuel acc all i = some (.brk (acc', all', q)) := by
  intro j
  induction j with
  | zero =>
    intro fuel i acc all h1 h2 h3 h4 h5 h6
    obtain ⟨f, rfl⟩ : ∃ f, fuel = f + 1 := ⟨fuel - 1, by omega⟩
    exact .inr ⟨acc, all, i, by omega, by omega, h5, h6, by rw [F3_L0, if_neg (by simp [Sl.len_nat]; omega)]⟩
  | succ j ih =>
    intro fuel i acc all h1 h2 h3 h4 h5 h6
    obtain ⟨f, rfl⟩ : ∃ f, fuel = f + 1 := ⟨fuel - 1, by omega⟩
    have hlt : i < (Sl.l a).length := by omega
    have e1 : Sl.at? a (i : Int) = some (Sl.l a)[i] := by rw [Sl.at?_nat, List.getElem?_eq_getElem hlt]
    have hmem := List.getElem_mem hlt
    generalize (Sl.l a)[i] = e at e1 hmem
    rw [F3_L0, if_pos (by simp [Sl.len_nat]; omega), bnd e1]
    by_cases hb : e.Body.length ≤ 300
    · obtain ⟨t1, t2, t3⟩ := tag_ok (ho e hmem)
      have hm := msg_len (bNot .u8 e.Tag 33) e.Body
      have hL := lenS_len e.Body.length
      obtain ⟨z, hz, hzl⟩ := Sl.app?_l (bytes := 16) (x := acc) (ys := [msg (bNot .u8 e.Tag 33) e.Body]) (by simp only [List.length_singleton]; omega)
      rw [if_neg (by rw [Str.len_nat]; simp; omega), bnd (write_leaf k hk _ e.Body hb t2 t3), if_neg (by simp), Sl.l_some, bnd hz, bnd (Str.app?_ok (by dsimp only; omega)), ad_nat (by omega)]
      exact ih f (i + 1) z (all ++ msg (bNot .u8 e.Tag 33) e.Body) (by omega) (by omega) (by rw [hzl]; simp; omega) (by simp only [List.length_append]; omega) (by rw [hzl, h5]; simp) (by
        rw [hzl]
        intro w hw
        rcases List.mem_append.1 hw with hw | hw
        · exact h6 w hw
        · rw [List.mem_singleton] at hw; exact ⟨_, _, hw, hb, t1, t2⟩)
    · rw [if_pos (by rw [Str.len_nat]; simp; omega)]
      exact .inl rfl

/-- A cutter that holds a beginning of messages. -/
theorem next_ok (k : Nat) (hk : 10 ≤ k) (ws : List Str) (hw : Msgs ws) (q : Nat) (hq : q ≤ ws.flatten.length) (hl : ws.flatten.length ≤ 3300) :
    (F13 k ⟨ws.flatten.take q⟩ = some (⟨ws.flatten.take q⟩, [], 10) ∧ (ws = [] ∨ ∃ w r, ws = w :: r ∧ q < w.length)) ∨
    ∃ w r, ws = w :: r ∧ w.length ≤ q ∧ F13 k ⟨ws.flatten.take q⟩ = some (⟨r.flatten.take (q - w.length)⟩, w, 0) := by
  cases ws with
  | nil =>
    left
    refine ⟨?_, .inl rfl⟩
    simp only [List.flatten_nil, List.take_nil]
    obtain ⟨k, rfl⟩ : ∃ j, k = j + 10 := ⟨k - 10, by omega⟩
    unfold F13
    rw [bnd (F41_eq (k + 10) (by omega) [] (by simp))]
    rfl
  | cons w r =>
    obtain ⟨t, b, rfl, hb, ht, h31⟩ := hw w List.mem_cons_self
    have hm := msg_len t b
    have hL := lenS_len b.length
    rw [List.flatten_cons] at hq hl ⊢
    obtain ⟨s, hs⟩ : ∃ s, s = (msg t b ++ r.flatten).take q := ⟨_, rfl⟩
    have hsl : s.length = q := by rw [hs, List.length_take]; omega
    rw [← hs]
    have e1 := F41_eq k (by omega) s (by simp only [List.length_append] at hq hl; omega)
    by_cases hc : q < (msg t b).length
    · left
      refine ⟨?_, .inr ⟨_, _, rfl, hc⟩⟩
      have hs2 : s = (msg t b).take q := by rw [hs, List.take_append_of_le_length (by omega)]
      obtain ⟨hh, sz, e0, g1, g2⟩ := hd_cut ht h31 b (by omega) q (by omega)
      have g1 : hd s = (hh, sz, e0) := by rw [hs2]; exact g1
      rw [g1] at e1
      unfold F13
      rw [bnd e1]
      rcases g2 with rfl | ⟨rfl, g3, g4, g5⟩
      · rw [bnd (show (if ((10 : Int) == 0 && decide (sz > sb .i64 (Str.len s) hh)) = true then some (10 : Int) else some 10) = some 10 from by split <;> rfl)]
        rfl
      · have a1 : sb .i64 (Str.len s) hh = (q : Int) - hh := by rw [Str.len_nat, sb64 (by omega), hsl]
        rw [a1, bnd (show (if ((0 : Int) == 0 && decide (sz > (q : Int) - hh)) = true then some (10 : Int) else some 0) = some 10 from if_pos (by simp; omega))]
        rfl
    · right
      refine ⟨_, _, rfl, by omega, ?_⟩
      have hs2 : s = msg t b ++ r.flatten.take (q - (msg t b).length) := by rw [hs, List.take_append, List.take_of_length_le (by omega)]
      have g1 : hd s = (((1 + (lenS b.length).length : Nat) : Int), (b.length : Int), 0) := by
        rw [hs2]
        have := hd_write ht h31 b.length (by omega) (b ++ r.flatten.take (q - (msg t b).length))
        rw [← this]
        simp [msg]
      rw [g1] at e1
      have a1 : sb .i64 (Str.len s) ((1 + (lenS b.length).length : Nat) : Int) = (q : Int) - ((1 + (lenS b.length).length : Nat) : Int) := by rw [Str.len_nat, sb64 (by omega), hsl]
      have a2 : ad .i64 ((1 + (lenS b.length).length : Nat) : Int) (b.length : Int) = ((msg t b).length : Int) := by rw [ad64 (by omega)]; omega
      unfold F13
      rw [bnd e1]
      simp only [a1, a2]
      rw [bnd (show (if ((0 : Int) == 0 && decide ((b.length : Int) > (q : Int) - ((1 + (lenS b.length).length : Nat) : Int))) = true then some (10 : Int) else some 0) = some 0 from if_neg (by simp; omega)), ite_neg' (show (!((0 : Int) == 0)) = false from rfl)]
      have s1 : Str.sub? s 0 ((msg t b).length : Int) = some (msg t b) := by
        have := Str.sub?_nat (s := s) (l := 0) (h := (msg t b).length) (by omega) (by omega)
        rw [show ((0 : Nat) : Int) = 0 from rfl] at this
        rw [this, hs2]; simp
      have s2 : Str.sub? s ((msg t b).length : Int) (Str.len s) = some (r.flatten.take (q - (msg t b).length)) := by
        rw [Str.len_nat, Str.sub?_nat (by omega) (Nat.le_refl _), List.take_of_length_le (Nat.le_refl _)]
        rw [hs2]; simp
      rw [bnd s1, bnd s2]

theorem next_loop (k : Nat) (hk : 10 ≤ k) (cuts : Sl Int) (want : Sl Str) (all : Str) (x y : Int) (hwl : (Sl.l want).length ≤ 8) : ∀ (ws : List Str) (got fuel q : Nat), Msgs ws → (Sl.l want).drop got = ws → ws.length + got = (Sl.l want).length → q ≤ ws.flatten.length → ws.flatten.length ≤ 3300 → ws.length < fuel →
    ∃ (ws' : List Str) (got' q' : Nat), F3_L4 k cuts want all x y fuel got ⟨ws.flatten.take q⟩ = some (.brk ((got' : Int), ⟨ws'.flatten.take q'⟩)) ∧ Msgs ws' ∧ (Sl.l want).drop got' = ws' ∧ ws'.length + got' = (Sl.l want).length ∧ q' ≤ ws'.flatten.length ∧ ws'.flatten.length ≤ 3300 ∧ ws'.flatten.drop q' = ws.flatten.drop q ∧ (ws' = [] ∨ ∃ w r, ws' = w :: r ∧ q' < w.length) := by
  intro ws
  induction ws with
  | nil =>
    intro got fuel q h1 h2 h3 h4 h5 h6
    obtain ⟨f, rfl⟩ : ∃ f, fuel = f + 1 := ⟨fuel - 1, by omega⟩
    rcases next_ok k hk [] h1 q h4 h5 with ⟨n1, _⟩ | ⟨w, r, hr, _⟩
    · exact ⟨[], got, q, by rw [F3_L4, bnd n1, if_pos (by rfl)], h1, h2, h3, h4, h5, rfl, .inl rfl⟩
    · cases hr
  | cons w r ih =>
    intro got fuel q h1 h2 h3 h4 h5 h6
    obtain ⟨f, rfl⟩ : ∃ f, fuel = f + 1 := ⟨fuel - 1, by omega⟩
    rcases next_ok k hk (w :: r) h1 q h4 h5 with ⟨n1, n2⟩ | ⟨w', r', hr, n1, n2⟩
    · exact ⟨w :: r, got, q, by rw [F3_L4, bnd n1, if_pos (by rfl)], h1, h2, h3, h4, h5, rfl, .inr (by
        rcases n2 with n2 | n2
        · cases n2
        · exact n2)⟩
    · injection hr with hr1 hr2
      subst hr1 hr2
      simp only [List.length_cons] at h3 h6
      have hlt : got < (Sl.l want).length := by omega
      have hget : (Sl.l want)[got]? = some w := by
        have h0 : ((Sl.l want).drop got)[0]? = (Sl.l want)[got + 0]? := List.getElem?_drop
        rw [h2] at h0
        exact h0.symm
      have e1 : Sl.at? want (got : Int) = some w := by rw [Sl.at?_nat, hget]
      rw [List.flatten_cons, List.length_append] at h4 h5
      obtain ⟨ws', got', q', g1, g2, g3, g4, g5, g6, g7, g8⟩ := ih (got + 1) f (q - w.length) (fun x hx => h1 x (List.mem_cons_of_mem _ hx)) (by rw [← List.drop_drop, h2]; rfl) (by omega) (by omega) (by omega) (by omega)
      refine ⟨ws', got', q', ?_, g2, g3, g4, g5, g6, ?_, g8⟩
      · rw [F3_L4, bnd n2, if_neg (by simp)]
        rw [bnd (show (if ((0 : Int) != 0 || decide ((got : Int) ≥ Sl.len want)) = true then some true else (Sl.at? want (got : Int)).bind fun y821 => some (!(w == y821))) = some false from by
          rw [if_neg (by simp [Sl.len_nat]; omega), bnd e1]; simp), ite_neg' rfl, ad_nat (by omega)]
        exact g1
      · rw [g7, List.flatten_cons, List.drop_append, show List.drop q w = [] from List.drop_eq_nil_of_le n1, List.nil_append]
end Go.Proofs.Ythcchjhieolflaa.M
