/- Part of the proof: the runs of functions on the abstract machine. -/
import Derived.Test.YtkaifmdhkoiaeaaBerP9
namespace Go.Proofs.Ytkaifmdhkoiaeaa.M
open Go Go.Pam
set_option maxRecDepth 20000

/-- The levels. -/
def ch (body : Str) : Nat → El
  | 0 => ⟨4, body, none⟩
  | i + 1 => ⟨48, [], some [ch body i]⟩
def chb (body : Str) : Nat → Str
  | 0 => 4 :: UInt8.ofNat body.length :: body
  | i + 1 => 48 :: UInt8.ofNat (chb body i).length :: chb body i

theorem chb_len (body : Str) : ∀ i, (chb body i).length = body.length + 2 + 2 * i
  | 0 => by simp [chb]
  | i + 1 => by simp [chb, chb_len body i]; omega

theorem ch_few (body : Str) (hb : body.length ≤ 60) : ∀ i n, i < n → Few n (ch body i)
  | 0, n + 1, _ => ⟨by simp [ch, Sl.l], by simp [ch]; omega, by simp [ch, Sl.l]⟩
  | i + 1, n + 1, h => ⟨by simp [ch, Sl.l], by simp [ch], by
    intro x hx
    simp only [ch, Sl.l, Option.getD_some, List.mem_singleton] at hx
    subst hx
    exact ch_few body hb i n (by omega)⟩

theorem ch_ok (body : Str) (hb : body.length ≤ maxLen) : ∀ i, Ok_Api_Element (ch body i)
  | 0 => .mk _ (show (Lit.int .u8 4).wf = true by decide) hb (by simp [ch, Sl.l]) (by simp [ch, Sl.l])
  | i + 1 => .mk _ (show (Lit.int .u8 48).wf = true by decide) (by simp [ch]) (by simp [ch, Sl.l]; decide) (by
    intro x hx
    simp only [ch, Sl.l, Option.getD_some, List.mem_singleton] at hx
    subst hx
    exact ch_ok body hb i)

theorem ch_fm (body : Str) : ∀ i n, i < n → Fm n (ch body i)
  | 0, n + 1, _ => ⟨show bAnd .u8 4 31 ≠ 31 by decide, fun _ => rfl, fun h => absurd (show bAnd .u8 4 32 = 0 by decide) h⟩
  | i + 1, n + 1, h => ⟨show bAnd .u8 48 31 ≠ 31 by decide, fun h => absurd h (show bAnd .u8 48 32 ≠ 0 by decide), fun _ => ⟨rfl, by
    intro x hx
    simp only [ch, Sl.l, Option.getD_some, List.mem_singleton] at hx
    subst hx
    exact ch_fm body i n (by omega)⟩⟩

theorem ch_dpt (body : Str) : ∀ i n, Dpt n (ch body i) ↔ i + 1 ≤ n
  | 0, 0 => by simp [Dpt]
  | 0, n + 1 => by simp [Dpt, ch, Sl.l]
  | i + 1, 0 => by simp [Dpt]
  | i + 1, n + 1 => by
    have := ch_dpt body i n
    simp [Dpt, ch, Sl.l, this]

theorem lenS_small {n : Nat} (h : n < 128) : lenS n = [UInt8.ofNat n] := if_pos h

theorem ch_bytes (body : Str) (hb : body.length ≤ 60) : ∀ i n, i < n → i ≤ 25 → bytesS n (ch body i) = some (chb body i)
  | 0, n + 1, _, _ => by
    show (match cat (bytesS n) body [] with | some b => if b.length ≤ 4000 then some (UInt8.ofNat (4 : Int).toNat :: (lenS b.length ++ b)) else none | none => none) = _
    simp only [cat]
    rw [if_pos (by omega), lenS_small (by omega)]
    rfl
  | i + 1, n + 1, h, hi => by
    have ih := ch_bytes body hb i n (by omega) (by omega)
    show (match cat (bytesS n) [] [ch body i] with | some b => if b.length ≤ 4000 then some (UInt8.ofNat (48 : Int).toNat :: (lenS b.length ++ b)) else none | none => none) = _
    simp only [cat, ih, List.nil_append]
    have := chb_len body i
    rw [if_pos (by omega), lenS_small (by omega)]
    rfl

theorem deep_build (k : Nat) (hk : 50 ≤ k) (body : Str) (hb : body.length ≤ 60) (N : Nat) (hN : N ≤ 21) : ∀ (j fuel i : Nat), i + j + 1 = N → j < fuel →
    F7_L0 k (N : Int) fuel (chb body i) ((i + 1 : Nat) : Int) (ch body i) = some (chb body (N - 1), (N : Int), ch body (N - 1)) := by
  intro j
  induction j with
  | zero =>
    intro fuel i h1 h2
    obtain ⟨f, rfl⟩ : ∃ f, fuel = f + 1 := ⟨fuel - 1, by omega⟩
    rw [F7_L0, if_neg (by simp; omega), show N - 1 = i by omega, show i + 1 = N by omega]
  | succ j ih =>
    intro fuel i h1 h2
    obtain ⟨f, rfl⟩ : ∃ f, fuel = f + 1 := ⟨fuel - 1, by omega⟩
    have h3 := (bytes_ok 25 k (by omega) (ch body (i + 1)) (ch_few body hb (i + 1) 25 (by omega))).2
    rw [ch_bytes body hb (i + 1) 25 (by omega) (by omega)] at h3
    have h3 : F21 k ⟨48, [], some [ch body i]⟩ = some (chb body (i + 1), true) := h3
    rw [F7_L0, if_pos (by simp; omega), bnd h3, ad_nat (by omega)]
    exact ih f (i + 1) (by omega) (by omega)

/-- One too deep. -/
theorem too_deep (body : Str) (hb : body.length ≤ 60) : ∀ (i k : Nat), i + 40 ≤ k → i ≤ 20 → ∀ (s post : Str) (fr en : Nat) (at0 : Int), s.drop fr = chb body i ++ post → fr + (chb body i).length ≤ en → en ≤ s.length → s.length ≤ 6000 →
    F22 k ⟨s, at0⟩ fr en (21 - i) = some (⟨s, ((fr + 2 * i : Nat) : Int)⟩, zel, 0, 12)
  | 0, k, hk, hi, s, post, fr, en, at0, hs, he, hen, hs6 => by
    obtain ⟨k, rfl⟩ : ∃ j, k = j + 1 := ⟨k - 1, by omega⟩
    rw [F22, if_pos (by simp)]
    rfl
  | i + 1, k, hk, hi, s, post, fr, en, at0, hs, he, hen, hs6 => by
    obtain ⟨k, rfl⟩ : ∃ j, k = j + 1 := ⟨k - 1, by omega⟩
    have hl := chb_len body i
    have hl1 := chb_len body (i + 1)
    obtain ⟨B, hB⟩ : ∃ B, B = chb body i := ⟨_, rfl⟩
    have hbB : chb body (i + 1) = UInt8.ofNat (48 : Int).toNat :: (lenS B.length ++ B) := by rw [hB, lenS_small (by omega)]; rfl
    obtain ⟨d, hdd⟩ : ∃ d : Int, d = 21 - ((i + 1 : Nat) : Int) := ⟨_, rfl⟩
    rw [← hdd]
    obtain ⟨sub, hsub⟩ : ∃ sub, sub = (s.take en).drop fr := ⟨_, rfl⟩
    have hsub2 : sub = UInt8.ofNat (48 : Int).toNat :: (lenS B.length ++ (B ++ post.take (en - fr - (chb body (i + 1)).length))) := by
      rw [hsub, List.drop_take, hs, List.take_append, List.take_of_length_le (by omega), hbB]
      simp
    have hBl : B.length = body.length + 2 + 2 * i := by rw [hB]; exact hl
    have hhd : hd sub = (2, (B.length : Int), 0) := by rw [hsub2, hd_write (by decide) (by decide) B.length (by omega), lenS_small (by omega)]; rfl
    have hsl : sub.length ≤ 6000 := by rw [hsub, List.length_drop, List.length_take]; omega
    have e1 : Str.sub? s (fr : Int) (en : Int) = some sub := by rw [Str.sub?_nat (by omega) hen, hsub]
    have e2 := F13_eq k (by omega) sub (by omega)
    rw [hhd] at e2
    have hd20 : decide (d > 20) = false := by simp; omega
    have a0 : sb .i64 (en : Int) fr = (en : Int) - fr := sb64 (by omega)
    have a1 : sb .i64 (sb .i64 (en : Int) fr) 2 = (en : Int) - fr - 2 := by rw [a0, sb64 (by omega)]
    have a2 : ad .i64 (fr : Int) 2 = ((fr + 2 : Nat) : Int) := by rw [ad64 (by omega)]; omega
    have a3 : ad .i64 ((fr + 2 : Nat) : Int) (B.length : Int) = ((fr + 2 + B.length : Nat) : Int) := by rw [ad64 (by omega)]; omega
    have a4 : ad .i64 d 1 = 21 - (i : Int) := by rw [ad64 (by omega)]; omega
    have c1 : decide ((B.length : Int) > (en : Int) - fr - 2) = false := by simp; omega
    have hfr : s[fr]? = some 48 := by
      have h0 : (s.drop fr)[0]? = s[fr + 0]? := List.getElem?_drop
      rw [hs, hbB] at h0
      exact h0.symm
    have e5 : Str.at? s (fr : Int) = some 48 := by rw [Str.at?_nat, hfr]; rfl
    have hdrop : s.drop (fr + 2) = B ++ post := by
      rw [← List.drop_drop, hs, hbB, lenS_small (by omega)]
      rfl
    rw [hB] at hdrop
    have ih := too_deep body hb i k (by omega) (by omega) s post (fr + 2) (fr + 2 + B.length) fr hdrop (by rw [hB]; omega) (by omega) hs6
    have hloop : F22_L0 (F22 k) k d (B.length : Int) ((fr + 2 : Nat) : Int) ⟨0, [], none⟩ k ((fr + 2 : Nat) : Int) ⟨48, [], none⟩ ⟨s, fr⟩ = some (.ret (⟨s, ((fr + 2 + 2 * i : Nat) : Int)⟩, zel, 0, 12)) := by
      obtain ⟨k, rfl⟩ : ∃ j, k = j + 1 := ⟨k - 1, by omega⟩
      rw [F22_L0, a3, a4, if_pos (by simp; omega), bnd ih, if_pos (by rfl)]
      rfl
    rw [F22, ite_neg' hd20, bnd e1, bnd e2]
    simp only [a1, a2, a3, c1]
    rw [bnd (show (if ((0 : Int) == 0 && false) = true then some (10 : Int) else some 0) = some 0 from rfl), bnd (show (if ((0 : Int) == 10 && decide (d > 1)) = true then some (11 : Int) else some 0) = some 0 from rfl), ite_neg' (show ((0 : Int) != 0) = false from rfl), bnd e5,
      ite_neg' (show (bAnd .u8 48 32 == 0) = false from by decide), bnd hloop]
    simp only [Option.some.injEq, Prod.mk.injEq, and_true, Ber_reader.mk.injEq, true_and]
    omega

theorem F7_true (n : Int) (body : Str) (hn : 0 ≤ n ∧ n ≤ 255) : F7 100 n body = some true := by
  unfold F7
  rw [bnd (F10_true 100 (by omega)), ite_nt]
  by_cases hb : body.length ≤ 60
  · rw [if_neg (by simp [Str.len_nat]; omega)]
    obtain ⟨z, hz, hr⟩ := rem?_nat hn.1 (n := 4) (by decide)
    have hr : rem? n 4 = some (z : Int) := hr
    have a1 : sb .i64 (ad .i64 (cv .i64 (z : Int)) 20) 2 = ((z + 18 : Nat) : Int) := by rw [cv64 (by omega), ad64 (by omega), sb64 (by omega)]; omega
    have h0 := (bytes_ok 25 100 (by omega) (ch body 0) (ch_few body hb 0 25 (by omega))).2
    rw [ch_bytes body hb 0 25 (by omega) (by omega)] at h0
    have h0 : F21 100 ⟨4, body, none⟩ = some (chb body 0, true) := h0
    have hL := deep_build 100 (by omega) body hb (z + 18) (by omega) (z + 17) 100 0 (by omega) (by omega)
    have hL : F7_L0 100 ((z + 18 : Nat) : Int) 100 (chb body 0) 1 ⟨4, body, none⟩ = some (chb body (z + 17), ((z + 18 : Nat) : Int), ch body (z + 17)) := hL
    rw [bnd hr, a1, bnd h0, bnd hL]
    have hfew := ch_few body hb (z + 17) 27 (by omega)
    have hok := ch_ok body (by have : (60 : Nat) ≤ maxLen := by decide
                               omega) (z + 17)
    have hfm := ch_fm body (z + 17) 27 (by omega)
    have hbs := ch_bytes body hb (z + 17) 27 (by omega) (by omega)
    obtain ⟨fm, d, w1, w2, w3, _⟩ := write_ok 27 100 (by omega) (by omega) _ hfew
    have hfmt : fm = true := w1.2 hfm
    have hd : d = z + 18 := by
      have h1 := (w2 (z + 18)).1 ((ch_dpt body (z + 17) (z + 18)).2 (by omega))
      have h2 := (ch_dpt body (z + 17) d).1 ((w2 d).2 (Nat.le_refl _))
      omega
    subst hfmt hd
    rw [hbs] at w3
    by_cases hz3 : z = 3
    · subst hz3
      have w3 : F17 100 (ch body 20) = some ([], 12) := w3
      have hlen := chb_len body 20
      have r1 := too_deep body hb 20 100 (by omega) (by omega) (chb body 20) [] 0 (chb body 20).length 0 (by simp) (by omega) (by omega) (by omega)
      have r2 : F11 100 (chb body 20) = some (zel, 0, 40, 12) := by
        unfold F11
        have r1 : F22 100 ⟨chb body 20, 0⟩ 0 (((chb body 20).length : Nat) : Int) 1 = some (⟨chb body 20, 40⟩, zel, 0, 12) := r1
        rw [Str.len_nat, bnd r1]
        rfl
      have i1 : F19 100 (ch body 20) = some false := by unfold F19; rw [bnd w3]; rfl
      rw [bnd w3, bnd r2, if_pos (by decide), if_pos (by rfl), bnd (show (F19 100 (ch body 20)).bind (fun y61 => some (!y61)) = some true from by rw [bnd i1]; rfl)]
    · have w3 : F17 100 (ch body (z + 17)) = some (chb body (z + 17), 0) := by
        rw [w3]
        unfold writeS
        rw [if_neg (by simp), if_neg (by omega)]
      obtain ⟨e', r1, _⟩ := read_back 27 100 (by omega) _ hok hfew hfm ((ch_dpt body (z + 17) 20).2 (by omega)) (chb body (z + 17)) [] hbs (by simp)
      rw [List.append_nil] at r1
      have i1 : F19 100 (ch body (z + 17)) = some true := by unfold F19; rw [bnd w3]; rfl
      rw [bnd w3, bnd r1, if_neg (by simp; omega), if_pos (by rfl), bnd (show (F19 100 (ch body (z + 17))).bind (fun y69 => some y69) = some true from by rw [bnd i1])]
  · rw [if_pos (by simp [Str.len_nat]; omega)]

theorem berDeep_true (a0 : Int) (a1 : Str) (o0 : (Lit.int .u8 a0).wf = true) (_ : a1.length ≤ maxLen) : evw env 7 [.int .u8 a0, .str a1] [] = some (.bool true, [], false) := by
  refine s7 100 (F7_true a0 a1 ?_) rfl []
  simpa [Lit.wf, IntKind.min, IntKind.max, IntKind.signed, IntKind.bits] using o0
end Go.Proofs.Ytkaifmdhkoiaeaa.M
