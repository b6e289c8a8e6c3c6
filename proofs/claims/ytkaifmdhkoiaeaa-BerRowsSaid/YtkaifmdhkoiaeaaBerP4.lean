/- Part of the proof: the runs of functions on the abstract machine. -/
import Derived.Test.YtkaifmdhkoiaeaaBerP2
namespace Go.Proofs.Ytkaifmdhkoiaeaa.M
open Go Go.Pam
set_option maxRecDepth 20000

/-- Few enough. -/
def Few : Nat → El → Prop
  | 0, _ => False
  | n + 1, e => (Sl.l e.Kids).length ≤ 12 ∧ e.Body.length ≤ 5000 ∧ ∀ x ∈ Sl.l e.Kids, Few n x

theorem drop_cons {α : Type} {l : List α} {i : Nat} (h : i < l.length) : l.drop i = l[i] :: l.drop (i + 1) := List.drop_eq_getElem_cons h

theorem few_ok : ∀ (m k : Nat), m + 10 ≤ k → m ≤ 27 → ∀ e : El, ∃ b, F16 k e (27 - m) = some b ∧ (b = true → Few m e)
  | 0, k, hk, hm, e => by
    obtain ⟨k, rfl⟩ : ∃ j, k = j + 1 := ⟨k - 1, by omega⟩
    exact ⟨false, by rw [F16, if_pos (by simp)], by simp⟩
  | m + 1, k, hk, hm, e => by
    obtain ⟨k, rfl⟩ : ∃ j, k = j + 1 := ⟨k - 1, by omega⟩
    rw [F16]
    by_cases hc : ((decide ((27 - ((m + 1 : Nat) : Int)) > 26) || decide ((Sl.len e.Kids) > 8)) || decide ((Str.len e.Body) > 5000)) = true
    · exact ⟨false, by rw [if_pos hc], by simp⟩
    · rw [if_neg hc]
      have hc8 : (Sl.l e.Kids).length ≤ 8 ∧ e.Body.length ≤ 5000 := by simp [Sl.len_nat, Str.len_nat] at hc; omega
      have hmm : (27 - ((m + 1 : Nat) : Int)) = 26 - m := by omega
      have L : ∀ (j fuel i : Nat), i + j = (Sl.l e.Kids).length → j < fuel →
          (∃ q, F16_L0 (F16 k) k (27 - ((m + 1 : Nat) : Int)) e fuel i = some (.brk q) ∧ ∀ x ∈ (Sl.l e.Kids).drop i, Few m x) ∨ F16_L0 (F16 k) k (27 - ((m + 1 : Nat) : Int)) e fuel i = some (.ret false) := by
        intro j
        induction j with
        | zero =>
          intro fuel i h1 h2
          obtain ⟨f, rfl⟩ : ∃ f, fuel = f + 1 := ⟨fuel - 1, by omega⟩
          refine .inl ⟨i, by rw [F16_L0, if_neg (by simp [Sl.len_nat]; omega)], ?_⟩
          rw [List.drop_eq_nil_of_le (by omega)]; simp
        | succ j ih =>
          intro fuel i h1 h2
          obtain ⟨f, rfl⟩ : ∃ f, fuel = f + 1 := ⟨fuel - 1, by omega⟩
          have hlt : i < (Sl.l e.Kids).length := by omega
          have e1 : Sl.at? e.Kids (i : Int) = some (Sl.l e.Kids)[i] := by rw [Sl.at?_nat, List.getElem?_eq_getElem hlt]
          have e2 : ad .i64 (27 - ((m + 1 : Nat) : Int)) 1 = 27 - (m : Int) := by rw [hmm, ad64 (by omega)]; omega
          obtain ⟨b, hb, hf⟩ := few_ok m k (by omega) (by omega) (Sl.l e.Kids)[i]
          rw [F16_L0, if_pos (by simp [Sl.len_nat]; omega), bnd e1, e2, bnd hb]
          cases b with
          | false => rw [ite_nf]; exact .inr rfl
          | true =>
            rw [ite_nt, ad_nat (by omega)]
            rcases ih f (i + 1) (by omega) (by omega) with ⟨q, h3, h4⟩ | h3
            · refine .inl ⟨q, h3, ?_⟩
              rw [drop_cons hlt]
              intro x hx
              rcases List.mem_cons.1 hx with rfl | hx
              · exact hf rfl
              · exact h4 x hx
            · exact .inr h3
      rcases L (Sl.l e.Kids).length k 0 (by omega) (by omega) with ⟨q, h3, h4⟩ | h3
      · rw [show ((0 : Nat) : Int) = 0 from rfl] at h3
        refine ⟨true, by rw [bnd h3], fun _ => ⟨by omega, by omega, ?_⟩⟩
        simpa using h4
      · rw [show ((0 : Nat) : Int) = 0 from rfl] at h3
        exact ⟨false, by rw [bnd h3], by simp⟩

/-- Tags, bodies, kids are where they may be. -/
def Fm : Nat → El → Prop
  | 0, _ => False
  | n + 1, e => bAnd .u8 e.Tag 31 ≠ 31 ∧ (bAnd .u8 e.Tag 32 = 0 → Sl.l e.Kids = []) ∧ (bAnd .u8 e.Tag 32 ≠ 0 → e.Body = [] ∧ ∀ x ∈ Sl.l e.Kids, Fm n x)

theorem formed_loop (m k : Nat) (K : Sl El) (ih : ∀ x ∈ Sl.l K, ∃ b, F24 k x = some b ∧ (b = true ↔ Fm m x)) (hl : (Sl.l K).length ≤ 12) : ∀ (j fuel i : Nat), i + j = (Sl.l K).length → j < fuel →
    (∃ q : Int, F34_32_L0 (F24 k) k K (Sl.len K) fuel i = some (.brk q) ∧ ∀ x ∈ (Sl.l K).drop i, Fm m x) ∨
    (∃ q : Int, 0 ≤ q ∧ F34_32_L0 (F24 k) k K (Sl.len K) fuel i = some (.ret q) ∧ ¬ ∀ x ∈ (Sl.l K).drop i, Fm m x) := by
  intro j
  induction j with
  | zero =>
    intro fuel i h1 h2
    obtain ⟨f, rfl⟩ : ∃ f, fuel = f + 1 := ⟨fuel - 1, by omega⟩
    refine .inl ⟨i, by rw [F34_32_L0, if_neg (by simp [Sl.len_nat]; omega)], ?_⟩
    rw [List.drop_eq_nil_of_le (by omega)]; simp
  | succ j ihj =>
    intro fuel i h1 h2
    obtain ⟨f, rfl⟩ : ∃ f, fuel = f + 1 := ⟨fuel - 1, by omega⟩
    have hlt : i < (Sl.l K).length := by omega
    have e1 : Sl.at? K (i : Int) = some (Sl.l K)[i] := by rw [Sl.at?_nat, List.getElem?_eq_getElem hlt]
    obtain ⟨b, hb, hf⟩ := ih _ (List.getElem_mem hlt)
    have e2 : F32 k (F24 k) (Sl.l K)[i] = some (!b) := by unfold F32; rw [bnd hb]
    rw [F34_32_L0, if_pos (by simp [Sl.len_nat]; omega), bnd e1, bnd e2, drop_cons hlt]
    cases b with
    | false =>
      refine .inr ⟨i, by omega, by rw [ite_nf], fun h => ?_⟩
      have := hf.2 (h _ List.mem_cons_self)
      cases this
    | true =>
      rw [ite_nt, ad_nat (by omega)]
      rcases ihj f (i + 1) (by omega) (by omega) with ⟨q, h3, h4⟩ | ⟨q, h0, h3, h4⟩
      · refine .inl ⟨q, h3, fun x hx => ?_⟩
        rcases List.mem_cons.1 hx with rfl | hx
        · exact hf.1 rfl
        · exact h4 x hx
      · exact .inr ⟨q, h0, h3, fun h => h4 fun x hx => h x (List.mem_cons_of_mem _ hx)⟩

theorem right_loop (m k : Nat) (w : El) (ih : ∀ x ∈ Sl.l w.Kids, ∃ b, F27 k x = some b ∧ (b = true ↔ Fm m x)) (hl : (Sl.l w.Kids).length ≤ 12) : ∀ (j fuel i : Nat), i + j = (Sl.l w.Kids).length → j < fuel →
    (∃ q : Int, F27_L0 (F27 k) k w fuel i = some (.brk q) ∧ ∀ x ∈ (Sl.l w.Kids).drop i, Fm m x) ∨
    (F27_L0 (F27 k) k w fuel i = some (.ret false) ∧ ¬ ∀ x ∈ (Sl.l w.Kids).drop i, Fm m x) := by
  intro j
  induction j with
  | zero =>
    intro fuel i h1 h2
    obtain ⟨f, rfl⟩ : ∃ f, fuel = f + 1 := ⟨fuel - 1, by omega⟩
    refine .inl ⟨i, by rw [F27_L0, if_neg (by simp [Sl.len_nat]; omega)], ?_⟩
    rw [List.drop_eq_nil_of_le (by omega)]; simp
  | succ j ihj =>
    intro fuel i h1 h2
    obtain ⟨f, rfl⟩ : ∃ f, fuel = f + 1 := ⟨fuel - 1, by omega⟩
    have hlt : i < (Sl.l w.Kids).length := by omega
    have e1 : Sl.at? w.Kids (i : Int) = some (Sl.l w.Kids)[i] := by rw [Sl.at?_nat, List.getElem?_eq_getElem hlt]
    obtain ⟨b, hb, hf⟩ := ih _ (List.getElem_mem hlt)
    rw [F27_L0, if_pos (by simp [Sl.len_nat]; omega), bnd e1, bnd hb, drop_cons hlt]
    cases b with
    | false =>
      refine .inr ⟨by rw [ite_nf], fun h => ?_⟩
      have := hf.2 (h _ List.mem_cons_self)
      cases this
    | true =>
      rw [ite_nt, ad_nat (by omega)]
      rcases ihj f (i + 1) (by omega) (by omega) with ⟨q, h3, h4⟩ | ⟨h3, h4⟩
      · refine .inl ⟨q, h3, fun x hx => ?_⟩
        rcases List.mem_cons.1 hx with rfl | hx
        · exact hf.1 rfl
        · exact h4 x hx
      · exact .inr ⟨h3, fun h => h4 fun x hx => h x (List.mem_cons_of_mem _ hx)⟩

theorem formed_ok : ∀ (m k : Nat), m + 20 ≤ k → ∀ e : El, Few m e → ∃ b, F24 k e = some b ∧ F27 k e = some b ∧ (b = true ↔ Fm m e)
  | 0, k, hk, e, h => h.elim
  | m + 1, k, hk, e, h => by
    obtain ⟨k, rfl⟩ : ∃ j, k = j + 1 := ⟨k - 1, by omega⟩
    have ih := fun x hx => formed_ok m k (by omega) x (h.2.2 x hx)
    have A := formed_loop m k e.Kids (fun x hx => (ih x hx).elim fun b hb => ⟨b, hb.1, hb.2.2⟩) h.1 (Sl.l e.Kids).length k 0 (by omega) (by have := h.1; omega)
    have B := right_loop m k e (fun x hx => (ih x hx).elim fun b hb => ⟨b, hb.2.1, hb.2.2⟩) h.1 (Sl.l e.Kids).length k 0 (by omega) (by have := h.1; omega)
    rw [show ((0 : Nat) : Int) = 0 from rfl, List.drop_zero] at A B
    rw [F24, F27]
    by_cases t1 : bAnd .u8 e.Tag 31 = 31
    · exact ⟨false, by rw [if_pos (by simpa using t1)], by rw [if_pos (by simp [t1])], by simp [Fm, t1]⟩
    · by_cases t2 : bAnd .u8 e.Tag 32 = 0
      · rw [if_neg (by simpa using t1), if_pos (by simpa using t2)]
        by_cases hk0 : Sl.l e.Kids = []
        · refine ⟨true, by simp [Sl.len_nat, hk0], ?_, by simp [Fm, t1, t2, hk0]⟩
          rw [if_neg (by simp [t1, t2, Sl.len_nat, hk0])]
          rcases B with ⟨q, h3, _⟩ | ⟨_, h4⟩
          · rw [bnd h3]
          · exact absurd (by simp [hk0]) h4
        · refine ⟨false, by simp [Sl.len_nat, hk0], ?_, by simp [Fm, t1, t2, hk0]⟩
          rw [if_pos]
          have : 0 < (Sl.l e.Kids).length := List.length_pos_iff.2 hk0
          simp [t2, Sl.len_nat]; omega
      · rw [if_neg (by simpa using t1), if_neg (by simpa using t2)]
        by_cases hb : e.Body = []
        · have hb' : (e.Body == []) = true := by simp [hb]
          rw [ite_pos' hb', if_neg (by simp [t1, t2, hb])]
          rcases A with ⟨q, h3, h4⟩ | ⟨q, h0, h3, h4⟩
          · rcases B with ⟨q', h5, _⟩ | ⟨_, h6⟩
            · have g1 : F34_32 k (F24 k) e.Kids = some (-1) := by unfold F34_32; rw [bnd h3]
              have g2 : F31_32 k (F24 k) e.Kids = some false := by unfold F31_32; rw [bnd g1]; rfl
              have g3 : (F31_32 k (F24 k) e.Kids).bind (fun y17 => some (!y17)) = some true := by rw [bnd g2]; rfl
              exact ⟨true, by rw [bnd g3], by rw [bnd h5], by simp [Fm, t1, t2, hb]; exact h4⟩
            · exact absurd h4 h6
          · rcases B with ⟨q', _, h6⟩ | ⟨h5, h6⟩
            · exact absurd h6 h4
            · have g1 : F34_32 k (F24 k) e.Kids = some q := by unfold F34_32; rw [bnd h3]
              have g2 : F31_32 k (F24 k) e.Kids = some true := by unfold F31_32; rw [bnd g1]; simp [h0]
              have g3 : (F31_32 k (F24 k) e.Kids).bind (fun y17 => some (!y17)) = some false := by rw [bnd g2]; rfl
              refine ⟨false, by rw [bnd g3], by rw [bnd h5], ?_⟩
              simp only [Fm, Bool.false_eq_true, false_iff, not_and]
              intro _ _ h
              exact absurd (h t2).2 h4
        · have hb' : (e.Body == []) = false := by simpa using hb
          rw [ite_neg' hb']
          exact ⟨false, rfl, by rw [if_pos (by simp [t2, hb])], by simp [Fm, t1, t2, hb]⟩
end Go.Proofs.Ytkaifmdhkoiaeaa.M
