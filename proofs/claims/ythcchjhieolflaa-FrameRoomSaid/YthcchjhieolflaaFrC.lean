/- Part of the proof: the runs of functions on the abstract machine. -/
import Derived.Test.YthcchjhieolflaaFrB
namespace Go.Proofs.Ythcchjhieolflaa.M
open Go Go.Pam
set_option maxRecDepth 20000

theorem cut_loop (k : Nat) (hk : 100 ≤ k) (cuts : Sl Int) (hc : ∀ c ∈ Sl.l cuts, (Lit.int .u8 c).wf = true) (want : Sl Str) (all : Str) (hall : all.length ≤ 3200) (hwl : (Sl.l want).length ≤ 8) :
    ∀ (fuel at' got kk q : Nat) (ws : List Str), Msgs ws → (Sl.l want).drop got = ws → ws.length + got = (Sl.l want).length → q ≤ ws.flatten.length → ws.flatten.length ≤ 3300 → all.drop at' = ws.flatten.drop q →
    (ws = [] ∨ ∃ w r, ws = w :: r ∧ q < w.length) → at' ≤ all.length → all.length - at' < fuel → kk ≤ at' →
    ∃ x y : Int, F3_L2 k cuts want all fuel got at' kk ⟨ws.flatten.take q⟩ = some (.brk (((Sl.l want).length : Int), x, y, ⟨[]⟩)) := by
  intro fuel
  induction fuel with
  | zero => intro at' got kk q ws _ _ _ _ _ _ _ _ h; omega
  | succ fuel ih =>
    intro at' got kk q ws h1 h2 h3 h4 h5 h6 h7 h8 h9 h10
    have hlen := congrArg List.length h6
    simp only [List.length_drop] at hlen
    by_cases hlt : at' < all.length
    · obtain ⟨n, hn1, hn2, hn3⟩ : ∃ n : Nat, (if decide ((kk : Int) < Sl.len cuts) = true then (Sl.at? cuts (kk : Int)).bind fun y718 => (rem? y718 40).bind fun z719 => some (imin (sb .i64 (Str.len all) (at' : Int)) (ad .i64 (cv .i64 z719) 1)) else some (sb .i64 (Str.len all) (at' : Int))) = some (n : Int) ∧ 1 ≤ n ∧ at' + n ≤ all.length := by
        have e0 : sb .i64 (Str.len all) (at' : Int) = ((all.length - at' : Nat) : Int) := by rw [Str.len_nat, sb64 (by omega)]; omega
        by_cases hkc : kk < (Sl.l cuts).length
        · have e1 : Sl.at? cuts (kk : Int) = some (Sl.l cuts)[kk] := by rw [Sl.at?_nat, List.getElem?_eq_getElem hkc]
          have hw := hc _ (List.getElem_mem hkc)
          have hw : 0 ≤ (Sl.l cuts)[kk] ∧ (Sl.l cuts)[kk] ≤ 255 := by simpa [Lit.wf, IntKind.min, IntKind.max, IntKind.signed, IntKind.bits] using hw
          obtain ⟨z, hz, hr⟩ := rem?_nat hw.1 (n := 40) (by decide)
          have hr : rem? (Sl.l cuts)[kk] 40 = some (z : Int) := hr
          refine ⟨min (all.length - at') (z + 1), ?_, by omega, by omega⟩
          rw [if_pos (by simp [Sl.len_nat]; omega), bnd e1, bnd hr, e0, cv64 (by omega), ad64 (by omega)]
          unfold imin
          split <;> (congr 1; omega)
        · exact ⟨all.length - at', by rw [if_neg (by simp [Sl.len_nat]; omega), e0], by omega, by omega⟩
      have e1 : ad .i64 (at' : Int) (n : Int) = ((at' + n : Nat) : Int) := by rw [ad64 (by omega)]; omega
      have e2 : Str.sub? all (at' : Int) ((at' + n : Nat) : Int) = some ((ws.flatten.drop q).take n) := by
        rw [Str.sub?_nat (by omega) (by omega), List.drop_take, h6, show at' + n - at' = n by omega]
      have e3 : F12 k ⟨ws.flatten.take q⟩ ((ws.flatten.drop q).take n) = some (⟨ws.flatten.take (q + n)⟩, 0) := by
        unfold F12
        have l1 : (ws.flatten.take q).length = q := by rw [List.length_take]; omega
        have l2 : ((ws.flatten.drop q).take n).length = n := by rw [List.length_take, List.length_drop]; omega
        rw [if_neg, bnd (Str.app?_ok (by dsimp only; omega)), List.take_add]
        show ¬ decide (Str.len ((ws.flatten.drop q).take n) > sb .i64 16000 (Str.len (ws.flatten.take q))) = true
        rw [Str.len_nat, Str.len_nat, l1, l2, sb64 (by omega)]
        simp; omega
      obtain ⟨ws', got', q', g1, g2, g3, g4, g5, g6, g7, g8⟩ := next_loop k (by omega) cuts want all ((at' + n : Nat) : Int) (kk : Int) hwl ws got k (q + n) h1 h2 h3 (by omega) h5 (by omega)
      obtain ⟨x, y, hxy⟩ := ih (at' + n) got' (kk + 1) q' ws' g2 g3 g4 g5 g6 (by rw [g7, ← List.drop_drop, h6, List.drop_drop]) g8 (by omega) (by omega) (by omega)
      refine ⟨x, y, ?_⟩
      rw [F3_L2, if_pos (by rw [Str.len_nat]; simp; omega), bnd hn1, e1, bnd e2, bnd e3, if_neg (by simp), bnd g1, ad_nat (by omega)]
      exact hxy
    · have hq : q = ws.flatten.length := by omega
      have hws : ws = [] := by
        rcases h7 with h7 | ⟨w, r, h7, h7'⟩
        · exact h7
        · exfalso
          rw [h7, List.flatten_cons, List.length_append] at hq
          omega
      subst hws
      simp only [List.length_nil, Nat.zero_add] at h3
      refine ⟨at', kk, ?_⟩
      rw [F3_L2, if_neg (by rw [Str.len_nat]; simp; omega), h3]
      simp

theorem F9_true (k : Nat) (hk : 40 ≤ k) : F9 k = some true := by
  obtain ⟨k, rfl⟩ : ∃ j, k = j + 40 := ⟨k - 40, by omega⟩
  kernel_rfl

theorem F3_true (a : Sl Api_Element) (cuts : Sl Int) (ho : ∀ e ∈ Sl.l a, (Lit.int .u8 e.Tag).wf = true) (hc : ∀ c ∈ Sl.l cuts, (Lit.int .u8 c).wf = true) : F3 4000 a cuts = some true := by
  unfold F3
  rw [bnd (F9_true 4000 (by omega)), ite_nt]
  by_cases hl : (Sl.l a).length ≤ 8
  · rw [if_neg (by simp [Sl.len_nat]; omega)]
    rcases build_loop 4000 (by omega) a cuts ho hl (Sl.l a).length 4000 0 none [] (by omega) (by omega) rfl (by simp) rfl (by intro w hw; cases hw) with h | ⟨want, all, q, b1, b2, b3, b4, h⟩
    · rw [show ((0 : Nat) : Int) = 0 from rfl] at h
      rw [bnd h]
    · rw [show ((0 : Nat) : Int) = 0 from rfl] at h
      rw [bnd h]
      simp only
      rw [bnd (show F11 4000 = some ⟨[]⟩ from rfl)]
      obtain ⟨x, y, hxy⟩ := cut_loop 4000 (by omega) cuts hc want all b1 b2 4000 0 0 0 0 (Sl.l want) b4 rfl rfl (by omega) (by rw [← b3]; omega) (by rw [b3]) (by
        cases hw : Sl.l want with
        | nil => exact .inl rfl
        | cons w r =>
          obtain ⟨t, b, rfl, _⟩ := b4 w (by rw [hw]; exact List.mem_cons_self)
          exact .inr ⟨_, _, rfl, by have := msg_len t b; omega⟩) (by omega) (by omega) (by omega)
      rw [show ((0 : Nat) : Int) = 0 from rfl, List.take_zero] at hxy
      rw [bnd hxy]
      simp only
      rw [bnd (show (if (((Sl.l want).length : Int) == Sl.len want) = true then (F14 4000 ⟨[]⟩).bind fun y834 => some (y834.2 == 0, y834.1) else some (false, ⟨[]⟩)) = some (true, ⟨[]⟩) from by rw [if_pos (by simp [Sl.len_nat])]; rfl)]
  · rw [if_pos (by simp [Sl.len_nat]; omega)]

theorem frameCuts_true (a0 : Sl Api_Element) (a1 : Sl Int) (o0 : (Sl.l a0).length ≤ maxLen ∧ ∀ a ∈ Sl.l a0, Ok_Api_Element a) (o1 : (Sl.l a1).length ≤ maxLen ∧ ∀ a ∈ Sl.l a1, (Lit.int .u8 a).wf = true) : evw env 3 [encSl e_Api_Element a0, encSl (eI .u8) a1] [] = some (.bool true, [], false) := by
  refine s3 4000 (F3_true a0 a1 (fun e he => (o0.2 e he).h0) o1.2) ?_ []
  simp only [List.map_cons, List.map_nil, strip_enc]
end Go.Proofs.Ythcchjhieolflaa.M
