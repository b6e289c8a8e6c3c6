/- Part of the proof: the runs of functions on the abstract machine. -/
import Derived.Test.YtkaifmdhkoiaeaaBerP8
namespace Go.Proofs.Ytkaifmdhkoiaeaa.M
open Go Go.Pam
set_option maxRecDepth 20000

/-- Reading from the top what was written. -/
theorem read_back (m k : Nat) (hk : m + 40 ≤ k) (e : El) (ho : Ok_Api_Element e) (h : Few m e) (hf : Fm m e) (hd : Dpt 20 e) (b tail : Str) (hb : bytesS m e = some b) (ht : tail.length ≤ 1000) :
    ∃ e' : El, F11 k (b ++ tail) = some (e', (b.length : Int), 0, 0) ∧ Eqv m e e' := by
  have hbl := bytesS_len hb
  obtain ⟨at1, e', h1, h2⟩ := rb_ok m k hk e ho h hf 20 b (b ++ tail) tail 0 (b ++ tail).length 1 0 hd (by omega) (by omega) hb (by simp) (by simp) (by omega) (by simp; omega)
  refine ⟨e', ?_, h2⟩
  unfold F11
  have h1 : F22 k ⟨b ++ tail, 0⟩ 0 (((b ++ tail).length : Nat) : Int) 1 = _ := h1
  rw [Str.len_nat, bnd h1, ite_neg' (show ((0 : Int) != 0) = false from rfl)]
  simp

/-- Reading a beginning of it. -/
theorem read_cut (m k : Nat) (hk : 40 ≤ k) (e : El) (ho : Ok_Api_Element e) (hf : Fm (m + 1) e) (b : Str) (hb : bytesS (m + 1) e = some b) (q : Nat) (hq : q < b.length) :
    ∃ at' : Int, F11 k (b.take q) = some (zel, 0, at', 10) := by
  obtain ⟨k, rfl⟩ : ∃ j, k = j + 1 := ⟨k - 1, by omega⟩
  have hbl := bytesS_len hb
  simp only [bytesS] at hb
  cases hc : cat (bytesS m) e.Body (Sl.l e.Kids) with
  | none => rw [hc] at hb; cases hb
  | some B =>
    rw [hc] at hb
    simp only at hb
    have hl : B.length ≤ 4000 := Classical.byContradiction fun hn => by rw [if_neg hn] at hb; cases hb
    rw [if_pos hl] at hb
    injection hb with hb
    have hlen : b.length = 1 + (lenS B.length).length + B.length := by rw [← hb]; simp; omega
    obtain ⟨hh, sz, e0, g1, g2⟩ := hd_cut ho.h0 hf.1 B hl q (by omega)
    rw [hb] at g1
    obtain ⟨s, hs⟩ : ∃ s, s = b.take q := ⟨_, rfl⟩
    have hsl : s.length = q := by rw [hs, List.length_take]; omega
    rw [← hs] at g1 ⊢
    have e1 : Str.sub? s 0 (s.length : Int) = some s := by
      have := Str.sub?_nat (s := s) (l := 0) (h := s.length) (by omega) (by omega)
      rw [show ((0 : Nat) : Int) = 0 from rfl] at this
      rw [this]; simp
    have e2 := F13_eq k (by omega) s (by omega)
    rw [g1] at e2
    have hF : F22 (k + 1) ⟨s, 0⟩ 0 (s.length : Int) 1 = some (⟨s, 0⟩, zel, 0, 10) := by
      rw [F22, ite_neg' (show decide ((1 : Int) > 20) = false from rfl), bnd e1, bnd e2]
      rcases g2 with rfl | ⟨rfl, g3, g4, g5⟩
      · rw [bnd (show (if ((10 : Int) == 0 && decide (sz > sb .i64 (sb .i64 (s.length : Int) 0) hh)) = true then some (10 : Int) else some 10) = some 10 from by split <;> rfl),
          bnd (show (if ((10 : Int) == 10 && decide ((1 : Int) > 1)) = true then some (11 : Int) else some 10) = some 10 from rfl), ite_pos' (show ((10 : Int) != 0) = true from rfl)]
        rfl
      · have a0 : sb .i64 (s.length : Int) 0 = (q : Int) := by rw [sb64 (by omega)]; omega
        have a1 : sb .i64 (sb .i64 (s.length : Int) 0) hh = (q : Int) - hh := by rw [a0, sb64 (by omega)]
        rw [a1, bnd (show (if ((0 : Int) == 0 && decide (sz > (q : Int) - hh)) = true then some (10 : Int) else some 0) = some 10 from if_pos (by simp; omega)),
          bnd (show (if ((10 : Int) == 10 && decide ((1 : Int) > 1)) = true then some (11 : Int) else some 10) = some 10 from rfl), ite_pos' (show ((10 : Int) != 0) = true from rfl)]
        rfl
    refine ⟨0, ?_⟩
    unfold F11
    rw [Str.len_nat, bnd hF, ite_pos' (show ((10 : Int) != 0) = true from rfl)]
    rfl

theorem F5_true (e : El) (tail : Str) (cut : Int) (ho : Ok_Api_Element e) (hc : 0 ≤ cut ∧ cut ≤ 65535) : F5 100 e tail cut = some true := by
  unfold F5
  rw [bnd (F10_true 100 (by omega)), ite_nt]
  obtain ⟨b1, h1, g1⟩ := few_ok 27 100 (by omega) (by omega) e
  have h1 : F16 100 e 0 = some b1 := h1
  rw [bnd h1]
  by_cases hc1 : b1 = true ∧ tail.length ≤ 100
  · obtain ⟨rfl, htl⟩ := hc1
    rw [if_neg (by simp [Str.len_nat]; omega)]
    have hfew := g1 rfl
    obtain ⟨fm, d, w1, w2, w3, _⟩ := write_ok 27 100 (by omega) (by omega) e hfew
    rw [bnd w3]
    unfold writeS
    by_cases hfm : fm = false
    · rw [if_pos hfm]
      have i1 : F19 100 e = some false := by unfold F19; rw [bnd w3]; unfold writeS; rw [if_pos hfm]; rfl
      rw [ite_pos' (by rfl), ite_pos' (by rfl), bnd (show (F19 100 e).bind (fun y21 => some (!y21)) = some true from by rw [bnd i1]; rfl)]
    · rw [if_neg hfm]
      have hFm := w1.1 (by simpa using hfm)
      by_cases hd : 20 < d
      · rw [if_pos hd]
        have i1 : F19 100 e = some false := by unfold F19; rw [bnd w3]; unfold writeS; rw [if_neg hfm, if_pos hd]; rfl
        rw [ite_pos' (by rfl), ite_pos' (by rfl), bnd (show (F19 100 e).bind (fun y21 => some (!y21)) = some true from by rw [bnd i1]; rfl)]
      · rw [if_neg hd]
        have hDp := (w2 20).2 (by omega)
        cases hb : bytesS 27 e with
        | none =>
          have i1 : F19 100 e = some false := by unfold F19; rw [bnd w3]; unfold writeS; rw [if_neg hfm, if_neg hd, hb]; rfl
          simp only
          rw [ite_pos' (by rfl), ite_pos' (by rfl), bnd (show (F19 100 e).bind (fun y21 => some (!y21)) = some true from by rw [bnd i1]; rfl)]
        | some b =>
          have hbl := bytesS_len hb
          simp only
          obtain ⟨e', r1, r2⟩ := read_back 27 100 (by omega) e ho hfew hFm hDp b tail hb (by omega)
          have hlt2 : decide (Str.len b < 2) = false := decide_eq_false (by rw [Str.len_nat]; omega)
          have s1 := same_eqv 27 100 (by omega) e e' hfew r2
          rw [ite_neg' (by rfl), bnd (Str.app?_ok (by omega)), bnd r1]
          rw [if_neg (by simp [Str.len_nat]), bnd (show (F20 100 e e').bind (fun y33 => some (!y33)) = some false from by rw [bnd s1]; rfl), hlt2, ite_neg' (show (false || false) = false from rfl)]
          rw [cv64 (by omega)]
          obtain ⟨q, hq, hrem⟩ := rem?_nat (a := cut) hc.1 (n := b.length) (by omega)
          rw [Str.len_nat, bnd hrem]
          have hsub : Str.sub? b 0 (q : Int) = some (b.take q) := by
            have := Str.sub?_nat (s := b) (l := 0) (h := q) (by omega) (by omega)
            rw [show ((0 : Nat) : Int) = 0 from rfl] at this
            rw [this]; simp
          rw [bnd hsub]
          obtain ⟨at', r3⟩ := read_cut 26 100 (by omega) e ho hFm b hb q hq
          rw [bnd r3]
          rfl
  · rw [if_pos]
    simp [Str.len_nat]
    cases b1 with
    | false => left; rfl
    | true => right; simp at hc1; omega

theorem berBack_true (a0 : Api_Element) (a1 : Str) (a2 : Int) (o0 : Ok_Api_Element a0) (_ : a1.length ≤ maxLen) (o2 : (Lit.int .u16 a2).wf = true) : evw env 5 [(.agg [(.int .u8 a0.Tag), (.str a0.Body), (encSl e_Api_Element a0.Kids)]), .str a1, .int .u16 a2] [] = some (.bool true, [], false) := by
  refine s5 100 (F5_true a0 a1 a2 o0 ?_) ?_ []
  · simpa [Lit.wf, IntKind.min, IntKind.max, IntKind.signed, IntKind.bits] using o2
  · simp only [List.map_cons, List.map_nil, st_agg, st1_int, st1_str, strip1_enc, st_str, st_int]
end Go.Proofs.Ytkaifmdhkoiaeaa.M
