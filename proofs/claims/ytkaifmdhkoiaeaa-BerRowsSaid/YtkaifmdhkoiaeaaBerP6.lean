/- Part of the proof: the runs of functions on the abstract machine. -/
import Derived.Test.YtkaifmdhkoiaeaaBerP5
namespace Go.Proofs.Ytkaifmdhkoiaeaa.M
open Go Go.Pam
set_option maxRecDepth 20000

theorem same_loop (k : Nat) (e f : El) (hn : (Sl.l e.Kids).length = (Sl.l f.Kids).length) (hl : (Sl.l e.Kids).length ≤ 12)
    (ih : ∀ x ∈ Sl.l e.Kids, ∀ y ∈ Sl.l f.Kids, ∃ b, F20 k x y = some b ∧ F15 k x y = some b) : ∀ (j fuel i : Nat), i + j = (Sl.l e.Kids).length → j < fuel →
    (∃ p q : Int, F29_20_L0 (F20 k) k f.Kids e.Kids (Sl.len e.Kids) fuel i = some (.brk p) ∧ F15_L0 (F15 k) k f e fuel i = some (.brk q)) ∨
    (F29_20_L0 (F20 k) k f.Kids e.Kids (Sl.len e.Kids) fuel i = some (.ret false) ∧ F15_L0 (F15 k) k f e fuel i = some (.ret false)) := by
  intro j
  induction j with
  | zero =>
    intro fuel i h1 h2
    obtain ⟨g, rfl⟩ : ∃ g, fuel = g + 1 := ⟨fuel - 1, by omega⟩
    exact .inl ⟨i, i, by rw [F29_20_L0, if_neg (by simp [Sl.len_nat]; omega)], by rw [F15_L0, if_neg (by simp [Sl.len_nat]; omega)]⟩
  | succ j ihj =>
    intro fuel i h1 h2
    obtain ⟨g, rfl⟩ : ∃ g, fuel = g + 1 := ⟨fuel - 1, by omega⟩
    have hlt : i < (Sl.l e.Kids).length := by omega
    have hlt2 : i < (Sl.l f.Kids).length := by omega
    have e1 : Sl.at? e.Kids (i : Int) = some (Sl.l e.Kids)[i] := by rw [Sl.at?_nat, List.getElem?_eq_getElem hlt]
    have e2 : Sl.at? f.Kids (i : Int) = some (Sl.l f.Kids)[i] := by rw [Sl.at?_nat, List.getElem?_eq_getElem hlt2]
    obtain ⟨b, b1, b2⟩ := ih _ (List.getElem_mem hlt) _ (List.getElem_mem hlt2)
    have A : F29_20_L0 (F20 k) k f.Kids e.Kids (Sl.len e.Kids) (g + 1) i = if (!b) = true then some (.ret false) else F29_20_L0 (F20 k) k f.Kids e.Kids (Sl.len e.Kids) g (ad .i64 i 1) := by
      rw [F29_20_L0, if_pos (by simp [Sl.len_nat]; omega), bnd e1, bnd e2, bnd b1]
    have B : F15_L0 (F15 k) k f e (g + 1) i = if (!b) = true then some (.ret false) else F15_L0 (F15 k) k f e g (ad .i64 i 1) := by
      rw [F15_L0, if_pos (by simp [Sl.len_nat]; omega), bnd e1, bnd e2, bnd b2]
    rw [A, B]
    cases b with
    | false => exact .inr ⟨rfl, rfl⟩
    | true =>
      rw [ite_nt, ite_nt, ad_nat (by omega)]
      exact ihj g (i + 1) (by omega) (by omega)

theorem same_both : ∀ (m k : Nat), m + 20 ≤ k → ∀ e f : El, Few m e → Few m f → ∃ b, F20 k e f = some b ∧ F15 k e f = some b
  | 0, k, hk, e, f, h, _ => h.elim
  | m + 1, k, hk, e, f, h, h' => by
    obtain ⟨k, rfl⟩ : ∃ j, k = j + 1 := ⟨k - 1, by omega⟩
    rw [F20, F15]
    by_cases ht : e.Tag = f.Tag ∧ e.Body = f.Body
    · rw [if_pos (by simp [ht.1, ht.2])]
      unfold F29_20
      by_cases hn : (Sl.l e.Kids).length = (Sl.l f.Kids).length
      · rw [if_neg (by simp [Sl.len_nat, hn]), if_neg (by simp [ht.1, ht.2, Sl.len_nat, hn])]
        rcases same_loop k e f hn h.1 (fun x hx y hy => same_both m k (by omega) x y (h.2.2 x hx) (h'.2.2 y hy)) (Sl.l e.Kids).length k 0 (by omega) (by have := h.1; omega) with ⟨p, q, l1, l2⟩ | ⟨l1, l2⟩
        · rw [show ((0 : Nat) : Int) = 0 from rfl] at l1 l2
          rw [bnd l1, bnd l2]
          exact ⟨true, rfl, rfl⟩
        · rw [show ((0 : Nat) : Int) = 0 from rfl] at l1 l2
          rw [bnd l1, bnd l2]
          exact ⟨false, rfl, rfl⟩
      · rw [if_pos (by simp [Sl.len_nat]; omega), if_pos (by simp [Sl.len_nat]; omega)]
        exact ⟨false, rfl, rfl⟩
    · have : (e.Tag == f.Tag && e.Body == f.Body) = false := by
        cases h1 : (e.Tag == f.Tag) <;> cases h2 : (e.Body == f.Body) <;> simp_all
      rw [ite_neg' this, if_pos]
      · exact ⟨false, rfl, rfl⟩
      · cases h1 : (e.Tag == f.Tag) <;> cases h2 : (e.Body == f.Body) <;> simp_all

/-- What 'Write' tells. -/
def writeS (fm : Bool) (d : Nat) (r : Option Str) : Str × Int :=
  if fm = false then ([], 14) else if 20 < d then ([], 12) else match r with
    | some b => (b, 0)
    | none => ([], 13)

theorem write_ok (m k : Nat) (hk : m + 20 ≤ k) (hm : m ≤ 28) (e : El) (h : Few m e) : ∃ (fm : Bool) (d : Nat), (fm = true ↔ Fm m e) ∧ (∀ n, Dpt n e ↔ d ≤ n) ∧ F17 k e = some (writeS fm d (bytesS m e)) ∧ F18 k e = some (writeS fm d (bytesS m e)) := by
  obtain ⟨b, f1, f2, f3⟩ := formed_ok m k hk e h
  obtain ⟨d, d1, d2, _, _, d4⟩ := deep_ok m k hk hm e h
  obtain ⟨b1, b2⟩ := bytes_ok m k hk e h
  refine ⟨b, d, f3, d4, ?_, ?_⟩
  · unfold F17 writeS
    rw [bnd f1]
    cases b with
    | false => rw [ite_nf, if_pos rfl]
    | true =>
      rw [ite_nt, if_neg (by simp), bnd d1]
      by_cases hd : 20 < d
      · rw [if_pos (by simp; omega), if_pos hd]
      · rw [if_neg (by simp; omega), if_neg hd, bnd b1]
        cases bytesS m e <;> rfl
  · unfold F18 writeS
    rw [bnd f2]
    cases b with
    | false => rw [ite_nf, if_pos rfl]
    | true =>
      rw [ite_nt, if_neg (by simp), bnd d2]
      by_cases hd : 20 < d
      · rw [if_pos (by simp; omega), if_pos hd]
      · rw [if_neg (by simp; omega), if_neg hd, bnd b2]
        cases bytesS m e <;> rfl

theorem F4_true (e f : El) : F4 60 e f = some true := by
  unfold F4
  rw [bnd (F10_true 60 (by omega)), ite_nt]
  obtain ⟨b1, h1, g1⟩ := few_ok 27 60 (by omega) (by omega) e
  obtain ⟨b2, h2, g2⟩ := few_ok 27 60 (by omega) (by omega) f
  have h1 : F16 60 e 0 = some b1 := h1
  have h2 : F16 60 f 0 = some b2 := h2
  rw [bnd h1]
  cases b1 with
  | false => rw [ite_nf, bnd rfl]; rfl
  | true =>
    rw [ite_nt, bnd h2]
    cases b2 with
    | false => rw [bnd rfl]; rfl
    | true =>
      rw [bnd rfl, ite_nt]
      obtain ⟨fm, d, _, _, w1, w2⟩ := write_ok 27 60 (by omega) (by omega) e (g1 rfl)
      obtain ⟨b, s1, s2⟩ := same_both 27 60 (by omega) e f (g1 rfl) (g2 rfl)
      rw [bnd w1, bnd w2, if_pos (by simp)]
      have i1 : F19 60 e = some ((writeS fm d (bytesS 27 e)).2 == 0) := by unfold F19; rw [bnd w1]
      rw [bnd (show (F19 60 e).bind (fun y22 => some (y22 == ((writeS fm d (bytesS 27 e)).2 == 0))) = some true from by rw [bnd i1]; simp), if_pos rfl]
      rw [bnd (show ((F20 60 e f).bind fun y28 => (F15 60 e f).bind fun y29 => some (y28 == y29)) = some true from by rw [bnd s1, bnd s2]; simp)]

theorem berWrites_true (a0 a1 : Api_Element) (_ : Ok_Api_Element a0) (_ : Ok_Api_Element a1) : evw env 4 [(.agg [(.int .u8 a0.Tag), (.str a0.Body), (encSl e_Api_Element a0.Kids)]), (.agg [(.int .u8 a1.Tag), (.str a1.Body), (encSl e_Api_Element a1.Kids)])] [] = some (.bool true, [], false) := by
  refine s4 60 (F4_true a0 a1) ?_ []
  simp only [List.map_cons, List.map_nil, st_agg, st1_int, st1_str, strip1_enc]
end Go.Proofs.Ytkaifmdhkoiaeaa.M
