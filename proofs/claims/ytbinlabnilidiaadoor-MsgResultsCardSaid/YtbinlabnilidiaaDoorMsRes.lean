/- Messages: MsgResults. -/
import Derived.Test.YtbinlabnilidiaaDoorMsBk
namespace Go.Proofs.YtbinlabnilidiaaDoor.M
open Go Go.Pam
set_option maxRecDepth 20000
set_option linter.unusedVariables false
set_option linter.unusedSimpArgs false

theorem enc_ok {k : Nat} (hk : 200200 ≤ k) (hk2 : k < 400000000000000) {a : Ms} (ha : Few a) (hi : isM a = true) (hs : szS 28 (msgE a) ≤ 4000) (hd : Dpt 20 (msgE a)) :
  ∃ (b : Str) (d : Nat), F6 k a = some (b, 0) ∧ encS a d = (b, 0) ∧ (isM a = true → ∀ n, Dpt n (msgE a) ↔ d ≤ n) := by
 obtain ⟨d, e1, _, e3⟩ := enc_both hk hk2 ha
 have hF := fine_msg ha (op_of hi)
 have hb := bytes_sz 28 (msgE a) hF.few
 cases hc : bytesS 28 (msgE a) with
 | none => rw [hc] at hb; simp only at hb; omega
 | some b =>
  rw [hc] at hb; simp only at hb
  have := encS_mk hi hc (by omega) ((e3 hi 20).1 hd)
  exact ⟨b, d, by rw [e1, this], this, e3⟩

theorem isM_mk {a : Ms} (ha : Few a) (h1 : 0 ≤ a.ID ∧ a.ID ≤ 2147483647) (h2 : nM a = nM (coreS a)) (h3 : textsS (ownS a) = true) (h4 : opS a = true) : isM a = true := by
 unfold isM
 rw [(msgEq_nM ha.filter).2 h2, h3, h4, decide_eq_true h1.1, decide_eq_true h1.2]
 rfl

theorem dpt_tx {n : Nat} {t : Int} {s : Str} : Dpt (n + 1) (tx t s) := fun x hx => nomatch hx
theorem dpt_nm {n : Nat} {t v : Int} : Dpt (n + 1) (nm t v) := fun x hx => nomatch hx

theorem rem_eq {a n : Int} (h : 0 ≤ a) (hn : 0 < n) : rem? a n = some (a % n) := by
 unfold rem?; rw [if_neg (by omega), Int.tmod_eq_emod_of_nonneg h]

def resM (id of' code : Int) (m : Str) : Ms := ⟨id, 9, of', [], 0, [], 0, 0, noF, none, none, [], false, false, [], [], [], code, m⟩
def oz (z : Int) : Int := if z = 0 then 1 else z + 2
theorem oz_at {z : Int} (h : 0 ≤ z ∧ z < 7) : Sl.at? (some [1, 3, 4, 5, 6, 7, 8]) z = some (oz z) := by
 have : z = 0 ∨ z = 1 ∨ z = 2 ∨ z = 3 ∨ z = 4 ∨ z = 5 ∨ z = 6 := by omega
 rcases this with rfl | rfl | rfl | rfl | rfl | rfl | rfl <;> rfl
theorem oz_in {z : Int} (h : 0 ≤ z ∧ z < 7) : oz z = 1 ∨ oz z = 3 ∨ oz z = 4 ∨ oz z = 5 ∨ oz z = 6 ∨ oz z = 7 ∨ oz z = 8 := by unfold oz; split <;> omega
theorem oz_inj {z w : Int} (h : 0 ≤ z ∧ z < 7) (h2 : 0 ≤ w ∧ w < 7) (e : oz z = oz w) : z = w := by unfold oz at e; split at e <;> split at e <;> omega

theorem few_res {id of' code : Int} {m : Str} (h4 : m.length ≤ 400) : Few (resM id of' code m) :=
 ⟨by simp [resM], by simp [resM], by simp [resM], by simp [resM], by simp [resM], by simp [resM], by show m.length ≤ 500; omega, by simp [resM, Sl.l], (fun s hs => nomatch hs), by simp [resM, Sl.l], (fun s hs => nomatch hs), few_noF 21⟩
theorem isM_res {id of' code : Int} {m : Str} (h1 : 0 ≤ id ∧ id ≤ 65535) (h2 : of' = 1 ∨ of' = 3 ∨ of' = 4 ∨ of' = 5 ∨ of' = 6 ∨ of' = 7 ∨ of' = 8) (h3 : 0 ≤ code ∧ code ≤ 127) (h4 : m.length ≤ 400) : isM (resM id of' code m) = true := by
 refine isM_mk (few_res h4) ⟨h1.1, by show id ≤ _; omega⟩ rfl ?_ ?_
 ·show textsS [[], [], [], [], [], [], m] = true
  simp [textsS, h4]
 ·show (decide (1 ≤ of') && decide (of' ≤ 8) && decide (of' ≠ 2) && decide (0 ≤ code) && decide (code ≤ 127)) = true
  simp only [Bool.and_eq_true, decide_eq_true_eq]
  omega
theorem fine_res {id of' code : Int} {m : Str} (h2 : of' = 1 ∨ of' = 3 ∨ of' = 4 ∨ of' = 5 ∨ of' = 6 ∨ of' = 7 ∨ of' = 8) (h4 : m.length ≤ 400) : Fine 28 434 (msgE (resM id of' code m)) ∧ Dpt 20 (msgE (resM id of' code m)) := by
 have he : msgE (resM id of' code m) = ls 48 (some [nm 2 id, ls (tagOf (resM id of' code m)) (some [nm 10 code, tx 4 m, tx 4 []])]) := rfl
 have ht : consT (tagOf (resM id of' code m)) = true := by
  rcases h2 with e | e | e | e | e | e | e <;> subst e
  ·exact (by decide +kernel : consT 97 = true)
  ·exact (by decide +kernel : consT 101 = true)
  ·exact (by decide +kernel : consT 103 = true)
  ·exact (by decide +kernel : consT 105 = true)
  ·exact (by decide +kernel : consT 107 = true)
  ·exact (by decide +kernel : consT 109 = true)
  ·exact (by decide +kernel : consT 111 = true)
 rw [he]
 have p1 : Fine 26 9 (nm 10 code) := fine_nm (by decide +kernel)
 have p2 : Fine 26 404 (tx 4 m) := fine_tx p4 h4 (by omega)
 have p3 : Fine 26 4 (tx 4 []) := fine_tx (c := 0) p4 (by simp) (by omega)
 have q : Fine 27 421 (ls (tagOf (resM id of' code m)) (some [nm 10 code, tx 4 m, tx 4 []])) := by
  refine fine_ls' (c := 417) ht (by simp [Sl.l]) ?_ ?_
  ·intro x hx
   have hx : x ∈ [nm 10 code, tx 4 m, tx 4 []] := hx
   simp only [List.mem_cons, List.not_mem_nil, or_false] at hx
   rcases hx with rfl | rfl | rfl
   ·exact ⟨p1.few, p1.fm⟩
   ·exact ⟨p2.few, p2.fm⟩
   ·exact ⟨p3.few, p3.fm⟩
  ·have := p1.sz; have := p2.sz; have := p3.sz
   simp only [Sl.l_some, List.map_cons, List.map_nil, List.sum_cons, List.sum_nil]
   omega
 refine ⟨?_, ?_⟩
 ·have p : Fine 27 9 (nm 2 id) := fine_nm (by decide +kernel)
  refine fine_ls' (c := 430) c48 (by simp [Sl.l]) (mem2 ⟨p.few, p.fm⟩ ⟨q.few, q.fm⟩) ?_
  have := p.sz; have := q.sz
  simp only [Sl.l_some, List.map_cons, List.map_nil, List.sum_cons, List.sum_nil]
  omega
 ·refine mem2 dpt_nm ?_
  intro x hx
  have hx : x ∈ [nm 10 code, tx 4 m, tx 4 []] := hx
  simp only [List.mem_cons, List.not_mem_nil, or_false] at hx
  rcases hx with rfl | rfl | rfl
  ·exact dpt_nm
  ·exact dpt_tx
  ·exact dpt_tx

theorem F3_true {a0 a1 a2 a4 : Int} {a3 : Str} (h0 : 0 ≤ a0) (h1 : 0 ≤ a1) (h2 : 0 ≤ a2) (h4 : 0 ≤ a4 ∧ a4 ≤ 65535) : F3 300000 a0 a1 a2 a3 a4 = some true := by
 unfold F3
 rw [bnd (show F5 300000 = some true from rfl), if_neg (by decide)]
 by_cases hl : Str.len a3 > 400
 ·rw [if_pos (decide_eq_true hl)]
 rw [if_neg (by simpa using hl)]
 have hl : a3.length ≤ 400 := by rw [Str.len_nat] at hl; omega
 have z0 : 0 ≤ a0 % 7 ∧ a0 % 7 < 7 := by omega
 have z2 : 0 ≤ a2 % 7 ∧ a2 % 7 < 7 := by omega
 rw [bnd (rem_eq h0 (by omega)), bnd (oz_at z0), bnd (rem_eq h1 (by omega)), bnd (rem_eq h2 (by omega)), bnd (oz_at z2), cv64 (x := a4) (by omega), cv64 (x := a1 % 128) (by omega)]
 have c1 : 0 ≤ a1 % 128 ∧ a1 % 128 ≤ 127 := by omega
 generalize a1 % 128 = code at c1
 have g1 := fine_res (id := a4) (code := code) (oz_in z0) hl
 have g2 := fine_res (id := a4) (code := code) (oz_in z2) hl
 have f1 : Few (resM a4 (oz (a0 % 7)) code a3) := few_res hl
 have f2 : Few (resM a4 (oz (a2 % 7)) code a3) := few_res hl
 obtain ⟨b, d, e1, e2, e3⟩ := enc_ok (k := 300000) (by omega) (by omega) f1 (isM_res h4 (oz_in z0) c1 hl) (by have := g1.1.sz; omega) g1.2
 obtain ⟨b', d', e1', e2', e3'⟩ := enc_ok (k := 300000) (by omega) (by omega) f2 (isM_res h4 (oz_in z2) c1 hl) (by have := g2.1.sz; omega) g2.2
 rw [bnd (show F6 300000 (Api_Msg.mk a4 9 (oz (a0 % 7)) [] 0 [] 0 0 (Api_Filter.mk 0 [] [] none none) none none [] false false [] [] [] code a3) = some (b, 0) from e1), bnd (show F6 300000 (Api_Msg.mk a4 9 (oz (a2 % 7)) [] 0 [] 0 0 (Api_Filter.mk 0 [] [] none none) none none [] false false [] [] [] code a3) = some (b', 0) from e1')]
 obtain ⟨r, r1, r2, r3⟩ := back (k := 300000) (by omega) (by omega) f1 e2 e3
 rw [bnd r1]
 simp only [bnd_id]
 have h8 := f8 (k := 300000) (by omega) (by omega) r3 f1.filter
 rw [(msgEq_nM r3.filter).2 r2] at h8
 have hc : (if ((((b, (0 : Int)).2 == 0) && ((b', (0 : Int)).2 == 0)) && ((r, (0 : Int)).2 == 0)) = true then Option.bind (F8 300000 (r, (0 : Int)).1 (Api_Msg.mk a4 9 (oz (a0 % 7)) [] 0 [] 0 0 (Api_Filter.mk 0 [] [] none none) none none [] false false [] [] [] code a3)) fun y23 => some y23 else some false) = some true := by
  rw [ite_pos' (show ((((b, (0 : Int)).2 == 0) && ((b', (0 : Int)).2 == 0)) && ((r, (0 : Int)).2 == 0)) = true from rfl), bnd_id]
  exact h8
 simp only [bnd_id] at hc
 rw [bnd hc, if_pos rfl, bnd (rem_eq h0 (by omega)), bnd (rem_eq h2 (by omega))]
 congr 1
 rw [beq_iff_eq, Bool.eq_iff_iff, beq_iff_eq, beq_iff_eq]
 constructor
 ·intro hbb
  have hbb : b = b' := hbb
  obtain ⟨r', w1, w2, w3⟩ := back (k := 300000) (by omega) (by omega) f2 e2' e3'
  rw [← hbb, r1] at w1
  simp only [Option.some.injEq, Prod.mk.injEq, and_true] at w1
  subst w1
  have : nM (resM a4 (oz (a0 % 7)) code a3) = nM (resM a4 (oz (a2 % 7)) code a3) := by rw [← r2, w2]
  have := congrArg Api_Msg.Of this
  exact oz_inj z0 z2 this
 ·intro he
  rw [he] at e1
  rw [e1] at e1'
  simp only [Option.some.injEq, Prod.mk.injEq, and_true] at e1'
  exact e1'

theorem msgResults_true (a0 a1 a2 : Int) (a3 : Str) (a4 : Int) (o0 : (Lit.int .u8 a0).wf = true) (o1 : (Lit.int .u8 a1).wf = true) (o2 : (Lit.int .u8 a2).wf = true) (o3 : a3.length ≤ maxLen) (o4 : (Lit.int .u16 a4).wf = true) :
  evw env 3 [.int .u8 a0, .int .u8 a1, .int .u8 a2, .str a3, .int .u16 a4] [] = some (.bool true, [], false) := by
 have b0 : 0 ≤ a0 ∧ a0 ≤ 255 := by simpa [Lit.wf, IntKind.min, IntKind.max, IntKind.signed, IntKind.bits] using o0
 have b1 : 0 ≤ a1 ∧ a1 ≤ 255 := by simpa [Lit.wf, IntKind.min, IntKind.max, IntKind.signed, IntKind.bits] using o1
 have b2 : 0 ≤ a2 ∧ a2 ≤ 255 := by simpa [Lit.wf, IntKind.min, IntKind.max, IntKind.signed, IntKind.bits] using o2
 have b4 : 0 ≤ a4 ∧ a4 ≤ 65535 := by simpa [Lit.wf, IntKind.min, IntKind.max, IntKind.signed, IntKind.bits] using o4
 exact s3 300000 (F3_true b0.1 b1.1 b2.1 b4) rfl []
end Go.Proofs.YtbinlabnilidiaaDoor.M
