/- Part of the proof: the runs of functions on the abstract machine. -/
import Derived.Test.YthcchjhieolflaaFrC
namespace Go.Proofs.Ythcchjhieolflaa.M
open Go Go.Pam
set_option maxRecDepth 20000

/-- A message from the front: what is left, the message, what is wrong. -/
def nx (b : Str) : Str × Str × Int :=
  if (hd b).2.2 = 0 then (if (b.length : Int) < (hd b).1 + (hd b).2.1 then (b, [], 10) else (b.drop ((hd b).1 + (hd b).2.1).toNat, b.take ((hd b).1 + (hd b).2.1).toNat, 0)) else (b, [], (hd b).2.2)

theorem nx_len (b : Str) : (nx b).1.length ≤ b.length := by
  unfold nx
  split
  · split
    · exact Nat.le_refl _
    · simp only [List.length_drop]; omega
  · exact Nat.le_refl _

theorem nextA (k : Nat) (hk : 6 ≤ k) (b : Str) (hb : b.length ≤ 16000) : F13 k ⟨b⟩ = some (⟨(nx b).1⟩, (nx b).2.1, (nx b).2.2) := by
  obtain ⟨hh, sz, e, h1, h2, h3, h4⟩ := hd_bounds b
  unfold F13
  dsimp only
  rw [bnd (F41_eq k hk b (by omega)), h1]
  dsimp only
  rw [Str.len_nat, sb64 (by omega), ad64 (by omega)]
  unfold nx
  rw [h1]
  dsimp only
  by_cases he : e = 0
  · have h5 := h4 he
    subst he
    by_cases hl : (b.length : Int) < hh + sz
    · rw [bnd (show (if (((0 : Int) == 0) && decide ((sz : Int) > (b.length : Int) - hh)) = true then some (10 : Int) else some 0) = some 10 from by rw [if_pos (by simp; omega)]), if_pos (by rfl), if_pos rfl, if_pos hl]
    · rw [bnd (show (if (((0 : Int) == 0) && decide ((sz : Int) > (b.length : Int) - hh)) = true then some (10 : Int) else some 0) = some 0 from by rw [if_neg (by simp; omega)]), if_neg (by simp), if_pos rfl, if_neg hl]
      have e1 : Str.sub? b 0 ((hh : Int) + sz) = some (b.take (hh + sz)) := by
        have := Str.sub?_nat (s := b) (l := 0) (h := hh + sz) (by omega) (by omega)
        simpa using this
      have e2 : Str.sub? b ((hh : Int) + sz) (b.length : Int) = some (b.drop (hh + sz)) := by
        have := Str.sub?_nat (s := b) (l := hh + sz) (h := b.length) (by omega) (by omega)
        simpa using this
      rw [bnd e1, bnd e2, show ((hh : Int) + sz).toNat = hh + sz by omega]
  · rw [bnd (show (if ((e == 0) && decide ((sz : Int) > (b.length : Int) - hh)) = true then some (10 : Int) else some e) = some e from by rw [if_neg (by simp; omega)]), if_pos (by simp [he]), if_neg he]

theorem nextB (k : Nat) (hk : 6 ≤ k) (b : Str) (hb : b.length ≤ 16000) : F17 k ⟨b⟩ = some (⟨(nx b).1⟩, (nx b).2.1, (nx b).2.2) := by
  obtain ⟨hh, sz, e, h1, h2, h3, h4⟩ := hd_bounds b
  unfold F17
  dsimp only
  rw [bnd (F43_eq k hk b (by omega)), h1]
  dsimp only
  rw [Str.len_nat, ad64 (by omega)]
  unfold nx
  rw [h1]
  dsimp only
  by_cases he : e = 0
  · have h5 := h4 he
    subst he
    rw [if_neg (by simp), if_pos rfl]
    by_cases hl : (b.length : Int) < hh + sz
    · rw [if_pos (by simp; omega), if_pos hl]
    · rw [if_neg (by simp; omega), if_neg hl]
      have e1 : Str.sub? b 0 ((hh : Int) + sz) = some (b.take (hh + sz)) := by
        have := Str.sub?_nat (s := b) (l := 0) (h := hh + sz) (by omega) (by omega)
        simpa using this
      have e2 : Str.sub? b ((hh : Int) + sz) (b.length : Int) = some (b.drop (hh + sz)) := by
        have := Str.sub?_nat (s := b) (l := hh + sz) (h := b.length) (by omega) (by omega)
        simpa using this
      rw [bnd e1, bnd e2, show ((hh : Int) + sz).toNat = hh + sz by omega]
  · rw [if_pos (by simp [he]), if_neg he]

theorem ask_loop (k : Nat) (hk : 6 ≤ k) (l : Sl Str) (asks : Sl Int) (i : Int) (n : Nat) (hn : n ≤ 3) : ∀ (j fuel c : Nat) (b : Str), c + j = n → j < fuel → b.length ≤ 16000 →
    ∃ (x : Int) (b' : Str), b'.length ≤ 16000 ∧ F5_L2 k l asks i n fuel c ⟨b⟩ ⟨b⟩ = some (.brk (x, ⟨b'⟩, ⟨b'⟩)) := by
  intro j
  induction j with
  | zero =>
    intro fuel c b h1 h2 h3
    obtain ⟨f, rfl⟩ : ∃ f, fuel = f + 1 := ⟨fuel - 1, by omega⟩
    exact ⟨c, b, h3, by rw [F5_L2, if_neg (by simp; omega)]⟩
  | succ j ih =>
    intro fuel c b h1 h2 h3
    obtain ⟨f, rfl⟩ : ∃ f, fuel = f + 1 := ⟨fuel - 1, by omega⟩
    have hl := nx_len b
    obtain ⟨x, b', g1, g2⟩ := ih f (c + 1) (nx b).1 (by omega) (by omega) (by omega)
    refine ⟨x, b', g1, ?_⟩
    rw [F5_L2, if_pos (by simp; omega), bnd (nextA k hk b h3), bnd (nextB k hk b h3)]
    dsimp only
    rw [bnd (show (if (!((nx b).2.1 == (nx b).2.1)) = true then some (true, (⟨(nx b).1⟩ : Frame_Cutter)) else if ((nx b).2.2 != (nx b).2.2) = true then some (true, ⟨(nx b).1⟩) else Option.bind (F14 k ⟨(nx b).1⟩) fun y778 => some (y778.2 != Str.len (nx b).1, y778.1)) = some (false, ⟨(nx b).1⟩) from by
      rw [if_neg (by simp), if_neg (by simp)]
      unfold F14
      rw [Option.bind_some]
      simp)]
    rw [ite_neg' rfl, ad_nat (by omega)]
    exact g2

theorem feed_loop (k : Nat) (hk : 10 ≤ k) (l : Sl Str) (asks : Sl Int) (ha : ∀ a ∈ Sl.l asks, (Lit.int .u8 a).wf = true) (hl : (Sl.l l).length ≤ 40) : ∀ (j fuel i : Nat) (b : Str), i + j = (Sl.l l).length → j < fuel → b.length ≤ 16000 →
    F5_L0 k l asks fuel i ⟨b⟩ ⟨b⟩ = some (.ret true) ∨ ∃ (x : Int) (b' : Str), F5_L0 k l asks fuel i ⟨b⟩ ⟨b⟩ = some (.brk (x, ⟨b'⟩, ⟨b'⟩)) := by
  intro j
  induction j with
  | zero =>
    intro fuel i b h1 h2 h3
    obtain ⟨f, rfl⟩ : ∃ f, fuel = f + 1 := ⟨fuel - 1, by omega⟩
    exact .inr ⟨i, b, by rw [F5_L0, if_neg (by simp [Sl.len_nat]; omega)]⟩
  | succ j ih =>
    intro fuel i b h1 h2 h3
    obtain ⟨f, rfl⟩ : ∃ f, fuel = f + 1 := ⟨fuel - 1, by omega⟩
    have hlt : i < (Sl.l l).length := by omega
    have e1 : Sl.at? l (i : Int) = some (Sl.l l)[i] := by rw [Sl.at?_nat, List.getElem?_eq_getElem hlt]
    generalize (Sl.l l)[i] = t at e1
    rw [F5_L0, if_pos (by simp [Sl.len_nat]; omega), bnd e1]
    by_cases hb : t.length ≤ 6000
    · rw [if_neg (by rw [Str.len_nat]; simp; omega), bnd (show F15 k ⟨b⟩ = some (⟨b⟩, ⟨b⟩) from rfl), bnd e1]
      dsimp only
      -- both are fed
      obtain ⟨b1, e, hb1, f1, f2⟩ : ∃ (b1 : Str) (e : Int), b1.length ≤ 16000 ∧ F12 k ⟨b⟩ t = some (⟨b1⟩, e) ∧ F16 k ⟨b⟩ t = some (⟨b1⟩, e) := by
        unfold F12 F16
        dsimp only
        rw [Str.len_nat, Str.len_nat, sb64 (by omega), ad64 (by omega)]
        by_cases hr : b.length + t.length ≤ 16000
        · exact ⟨b ++ t, 0, by simp; omega, by rw [if_neg (by simp; omega), bnd (Str.app?_ok (by omega))], by rw [if_neg (by simp; omega), bnd (Str.app?_ok (by omega))]⟩
        · exact ⟨b, 13, h3, by rw [if_pos (by simp; omega)], by rw [if_pos (by simp; omega)]⟩
      obtain ⟨d, f3⟩ : ∃ d, F12 k ⟨b⟩ [120] = some d := by
        unfold F12
        dsimp only
        by_cases hr : decide (Str.len [120] > sb .i64 16000 (Str.len b)) = true
        · exact ⟨_, if_pos hr⟩
        · exact ⟨_, by rw [if_neg hr, bnd (Str.app?_ok (by simp; omega))]⟩
      rw [bnd f1, bnd e1, bnd f2]
      dsimp only
      rw [if_neg (by simp), bnd f3]
      obtain ⟨n, hn, e2⟩ : ∃ n : Nat, n ≤ 3 ∧ (if decide ((i : Int) < Sl.len asks) = true then Option.bind (Sl.at? asks i) fun y678 => Option.bind (rem? y678 4) fun z679 => some (cv .i64 z679) else some 1) = some (n : Int) := by
        by_cases hi : i < (Sl.l asks).length
        · have e3 : Sl.at? asks (i : Int) = some (Sl.l asks)[i] := by rw [Sl.at?_nat, List.getElem?_eq_getElem hi]
          have hm := ha _ (List.getElem_mem hi)
          have hm : 0 ≤ (Sl.l asks)[i] ∧ (Sl.l asks)[i] ≤ 255 := by simpa [Lit.wf, IntKind.min, IntKind.max, IntKind.signed, IntKind.bits] using hm
          generalize (Sl.l asks)[i] = y at e3 hm
          obtain ⟨m, hm', e4⟩ := rem?_nat (a := y) (n := 4) hm.1 (by omega)
          refine ⟨m, by omega, ?_⟩
          rw [show ((4 : Nat) : Int) = 4 from rfl] at e4
          rw [if_pos (by simp [Sl.len_nat]; omega), bnd e3, bnd e4, cv64 (by omega)]
        · exact ⟨1, by omega, by rw [if_neg (by simp [Sl.len_nat]; omega)]; rfl⟩
      rw [bnd e2]
      obtain ⟨x, b2, g1, g2⟩ := ask_loop k (by omega) l asks i n hn n k 0 b1 (by omega) (by omega) hb1
      rw [show ((0 : Nat) : Int) = 0 from rfl] at g2
      rw [bnd g2]
      dsimp only
      rw [ad_nat (by omega)]
      exact ih f (i + 1) b2 (by omega) (by omega) g1
    · rw [if_pos (by rw [Str.len_nat]; simp; omega)]
      exact .inl rfl

theorem F5_true (a : Sl Str) (asks : Sl Int) (hc : ∀ c ∈ Sl.l asks, (Lit.int .u8 c).wf = true) : F5 4000 a asks = some true := by
  unfold F5
  rw [bnd (F9_true 4000 (by omega)), ite_nt]
  by_cases hl : (Sl.l a).length ≤ 40
  · rw [if_neg (by simp [Sl.len_nat]; omega), bnd (show F11 4000 = some ⟨[]⟩ from rfl)]
    have := feed_loop 4000 (by omega) a asks hc hl (Sl.l a).length 4000 0 [] (by omega) (by omega) (by simp)
    rw [show ((0 : Nat) : Int) = 0 from rfl] at this
    rcases this with h | ⟨x, b, h⟩
    · rw [bnd h]
    · rw [bnd h]
      dsimp only
      rw [bnd (show F14 4000 ⟨b⟩ = some (⟨b⟩, Str.len b) from rfl)]
      simp
  · rw [if_pos (by simp [Sl.len_nat]; omega)]

theorem framePlays_true (a0 : Sl Str) (a1 : Sl Int) (o0 : (Sl.l a0).length ≤ maxLen ∧ ∀ a ∈ Sl.l a0, a.length ≤ maxLen) (o1 : (Sl.l a1).length ≤ maxLen ∧ ∀ a ∈ Sl.l a1, (Lit.int .u8 a).wf = true) : evw env 5 [encSl eS a0, encSl (eI .u8) a1] [] = some (.bool true, [], false) := by
  refine s5 4000 (F5_true a0 a1 o1.2) ?_ []
  simp only [List.map_cons, List.map_nil, strip_enc]
end Go.Proofs.Ythcchjhieolflaa.M
