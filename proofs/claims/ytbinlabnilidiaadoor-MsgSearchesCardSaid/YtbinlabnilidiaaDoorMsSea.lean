/- Messages: MsgSearches. -/
import Derived.Test.YtbinlabnilidiaaDoorMsRes
namespace Go.Proofs.YtbinlabnilidiaaDoor.M
open Go Go.Pam
set_option maxRecDepth 20000
set_option linter.unusedVariables false
set_option linter.unusedSimpArgs false

def seaG (v : Str) : Fil := ⟨4, [99, 110], v, none, none⟩
def seaF (v : Str) : Fil := ⟨3, [], [], none, some [seaG v]⟩
def seaM (base : Str) (sc sz : Int) (wants : Sl Str) (v : Str) : Ms := ⟨7, 3, 0, base, 0, [], sc, sz, seaF v, wants, none, [], false, false, [], [], [], 0, []⟩

theorem f4L (k : Nat) (a0 : Str) (a1 a2 : Int) (w : Sl Str) (a4 : Str) (hw : (Sl.l w).length ≤ 12) : ∀ (j n i : Nat), i + j = (Sl.l w).length → j < n →
  F4_L0 k a0 a1 a2 w a4 n (i : Int) = some (.ret true) ∨ F4_L0 k a0 a1 a2 w a4 n (i : Int) = some (.brk (((Sl.l w).length : Nat) : Int)) ∧ ∀ s ∈ (Sl.l w).drop i, s.length ≤ 100
 | j, 0, i, _, h => by omega
 | 0, n + 1, i, hij, _ => by
  have : i = (Sl.l w).length := by omega
  subst this
  refine .inr ⟨by rw [F4_L0, if_neg (by simp [Sl.len])], ?_⟩
  rw [List.drop_eq_nil_of_le (Nat.le_refl _)]
  intro s hs; cases hs
 | j + 1, n + 1, i, hij, hn => by
  have hi : i < (Sl.l w).length := by omega
  have e1 : Sl.at? w (i : Int) = some (Sl.l w)[i] := by rw [Sl.at?_nat, List.getElem?_eq_getElem hi]
  rw [F4_L0, if_pos (decide_eq_true (by simp only [Sl.len]; omega)), bnd e1]
  by_cases h : Str.len (Sl.l w)[i] > 100
  ·rw [if_pos (decide_eq_true h)]; exact .inl rfl
  ·rw [if_neg (by simpa using h), ad_nat (by omega)]
   rcases f4L k a0 a1 a2 w a4 hw j n (i + 1) (by omega) (by omega) with r | ⟨r, q⟩
   ·exact .inl r
   ·refine .inr ⟨r, fun s hs => ?_⟩
    rw [List.drop_eq_getElem_cons hi] at hs
    rcases List.mem_cons.1 hs with rfl | hs
    ·rw [Str.len_nat] at h; omega
    ·exact q s hs

theorem few_seaF {v : Str} (h6 : v.length ≤ 60) : fewP 22 (seaF v) := by
 refine ⟨by simp [seaF, Sl.l], by simp [seaF], by simp [seaF], by simp [seaF, Sl.l], (fun s hs => nomatch hs), ?_⟩
 intro g hg
 have hg : g ∈ [seaG v] := hg
 rw [List.mem_singleton.1 hg]
 exact ⟨by simp [seaG, Sl.l], by simp [seaG], by show v.length ≤ _; omega, by simp [seaG, Sl.l], (fun s hs => nomatch hs), (fun s hs => nomatch hs)⟩
theorem is_seaG {v : Str} (h6 : v.length ≤ 60) (n : Nat) : isS (n + 1) (seaG v) = true := by
 have h0 : isTy [99, 110] = true := by decide +kernel
 rw [isS]
 show (isTy [99, 110] && decide (v.length ≤ 60) && decide ((Sl.l (none : Sl Str)).length = 0) && decide ((Sl.l (none : Sl Fil)).length = 0)) = true
 rw [h0, decide_eq_true h6]
 rfl
theorem fil_sea {v : Str} (h6 : v.length ≤ 60) : filS (seaF v) = true := by
 have hc : cS 22 (seaF v) = 2 := rfl
 have hs : isS 22 (seaF v) = true := by
  rw [isS]
  show (([] == ([] : Str)) && ([] == ([] : Str)) && decide ((Sl.l (none : Sl Str)).length = 0) && (decide ((3 : Int) ≠ 3) || decide ([seaG v].length = 1)) && [seaG v].all (isS 21)) = true
  simp only [List.all_cons, List.all_nil, is_seaG h6 20]
  rfl
 unfold filS
 rw [hc, hs]
 rfl
theorem few_sea {base v : Str} {sc sz : Int} {wants : Sl Str} (h1 : base.length ≤ 400) (h4 : (Sl.l wants).length ≤ 12) (h5 : ∀ s ∈ Sl.l wants, s.length ≤ 100) (h6 : v.length ≤ 60) : Few (seaM base sc sz wants v) :=
 ⟨by show base.length ≤ 500; omega, by simp [seaM], by simp [seaM], by simp [seaM], by simp [seaM], by simp [seaM], by simp [seaM], by show (Sl.l wants).length ≤ 14; omega, (fun s hs => by have := h5 s hs; omega), by simp [seaM, Sl.l], (fun s hs => nomatch hs), few_seaF h6⟩
theorem isM_sea {base v : Str} {sc sz : Int} {wants : Sl Str} (h1 : base.length ≤ 400) (h2 : 0 ≤ sc ∧ sc ≤ 2) (h3 : 0 ≤ sz ∧ sz ≤ 65535) (h4 : (Sl.l wants).length ≤ 12) (h5 : ∀ s ∈ Sl.l wants, s.length ≤ 100) (h6 : v.length ≤ 60) : isM (seaM base sc sz wants v) = true := by
 refine isM_mk (few_sea h1 h4 h5 h6) ⟨by show (0 : Int) ≤ 7; omega, by show (7 : Int) ≤ _; omega⟩ rfl ?_ ?_
 ·show textsS [base, [], [], [], [], [], []] = true
  simp [textsS, h1]
 ·show (decide (0 ≤ sc) && decide (sc ≤ 2) && decide (0 ≤ sz) && decide (sz ≤ 2147483647) && filS (seaF v) && decide ((Sl.l wants).length ≤ 12) && textsS (Sl.l wants)) = true
  have ht : textsS (Sl.l wants) = true := by
   unfold textsS
   rw [List.all_eq_true]
   intro s hs
   have := h5 s hs
   exact decide_eq_true (by omega)
  rw [fil_sea h6, ht, decide_eq_true h2.1, decide_eq_true h2.2, decide_eq_true h3.1, decide_eq_true (show sz ≤ 2147483647 by omega), decide_eq_true h4]
  rfl
theorem fine_sea {base v : Str} {sc sz : Int} {wants : Sl Str} (h1 : base.length ≤ 400) (h4 : (Sl.l wants).length ≤ 12) (h5 : ∀ s ∈ Sl.l wants, s.length ≤ 100) (h6 : v.length ≤ 60) : Fine 28 1800 (msgE (seaM base sc sz wants v)) ∧ Dpt 20 (msgE (seaM base sc sz wants v)) := by
 have hfE : elF 22 (seaF v) = ls 162 (some [ls 163 (some [tx 4 [99, 110], tx 4 v])]) := rfl
 have he : msgE (seaM base sc sz wants v) = ls 48 (some [nm 2 7, ls 99 (some [tx 4 base, nm 10 sc, nm 10 0, nm 2 sz, nm 2 0, bl false, elF 22 (seaF v), ls 48 (rowE ((Sl.l wants).map (tx 4)))])]) := rfl
 rw [he, hfE]
 have q10 : primT 10 = true := by decide +kernel
 have q2 : primT 2 = true := by decide +kernel
 have c162 : consT 162 = true := by decide +kernel
 have c163 : consT 163 = true := by decide +kernel
 have c99 : consT 99 = true := by decide +kernel
 have p1 : Fine 26 404 (tx 4 base) := fine_tx p4 h1 (by omega)
 have p2 : Fine 26 9 (nm 10 sc) := fine_nm q10
 have p3 : Fine 26 9 (nm 10 0) := fine_nm q10
 have p5 : Fine 26 9 (nm 2 sz) := fine_nm q2
 have p6 : Fine 26 9 (nm 2 0) := fine_nm q2
 have p7 : Fine 26 5 (bl false) := fine_bl false
 have p8 : Fine 26 78 (ls 162 (some [ls 163 (some [tx 4 [99, 110], tx 4 v])])) := by
  have t1 : Fine 24 6 (tx 4 [99, 110]) := fine_tx (c := 2) p4 (by simp) (by omega)
  have t2 : Fine 24 64 (tx 4 v) := fine_tx (c := 60) p4 h6 (by omega)
  have t3 : Fine 25 74 (ls 163 (some [tx 4 [99, 110], tx 4 v])) := by
   refine fine_ls' (c := 70) c163 (by simp [Sl.l]) (mem2 ⟨t1.few, t1.fm⟩ ⟨t2.few, t2.fm⟩) ?_
   have := t1.sz; have := t2.sz
   simp only [Sl.l_some, List.map_cons, List.map_nil, List.sum_cons, List.sum_nil]
   omega
  refine fine_ls' (c := 74) c162 (by simp [Sl.l]) ?_ ?_
  ·intro x hx
   have hx : x ∈ [ls 163 (some [tx 4 [99, 110], tx 4 v])] := hx
   rw [List.mem_singleton.1 hx]
   exact ⟨t3.few, t3.fm⟩
  ·have := t3.sz
   simp only [Sl.l_some, List.map_cons, List.map_nil, List.sum_cons, List.sum_nil]
   omega
 have p9 : Fine 26 1252 (ls 48 (rowE ((Sl.l wants).map (tx 4)))) := by
  have hw : ∀ x ∈ Sl.l (rowE ((Sl.l wants).map (tx 4))), Fine 25 104 x := mem_map fun s hs => fine_tx (c := 100) p4 (h5 s hs) (by omega)
  refine fine_ls' (c := 1248) c48 (by rw [rowE_l, List.length_map]; omega) (fun x hx => ⟨(hw x hx).few, (hw x hx).fm⟩) ?_
  have := sum_le (szS 25) 104 (Sl.l (rowE ((Sl.l wants).map (tx 4)))) (fun x hx => (hw x hx).sz)
  rw [rowE_l] at this ⊢
  rw [List.length_map] at this
  omega
 have q : Fine 27 1779 (ls 99 (some [tx 4 base, nm 10 sc, nm 10 0, nm 2 sz, nm 2 0, bl false, ls 162 (some [ls 163 (some [tx 4 [99, 110], tx 4 v])]), ls 48 (rowE ((Sl.l wants).map (tx 4)))])) := by
  refine fine_ls' (c := 1775) c99 (by simp [Sl.l]) ?_ ?_
  ·intro x hx
   rw [Sl.l_some] at hx
   simp only [List.mem_cons, List.not_mem_nil, or_false] at hx
   rcases hx with rfl | rfl | rfl | rfl | rfl | rfl | rfl | rfl
   ·exact ⟨p1.few, p1.fm⟩
   ·exact ⟨p2.few, p2.fm⟩
   ·exact ⟨p3.few, p3.fm⟩
   ·exact ⟨p5.few, p5.fm⟩
   ·exact ⟨p6.few, p6.fm⟩
   ·exact ⟨p7.few, p7.fm⟩
   ·exact ⟨p8.few, p8.fm⟩
   ·exact ⟨p9.few, p9.fm⟩
  ·have := p1.sz; have := p2.sz; have := p3.sz; have := p5.sz; have := p6.sz; have := p7.sz; have := p8.sz; have := p9.sz
   simp only [Sl.l_some, List.map_cons, List.map_nil, List.sum_cons, List.sum_nil]
   omega
 refine ⟨?_, ?_⟩
 ·have p : Fine 27 9 (nm 2 7) := fine_nm q2
  refine Fine.up (fine_ls' (c := 1788) c48 (by simp [Sl.l]) (mem2 ⟨p.few, p.fm⟩ ⟨q.few, q.fm⟩) ?_) (by omega)
  have := p.sz; have := q.sz
  simp only [Sl.l_some, List.map_cons, List.map_nil, List.sum_cons, List.sum_nil]
  omega
 ·refine mem2 dpt_nm ?_
  intro x hx
  simp only [ls, Sl.l_some, List.mem_cons, List.not_mem_nil, or_false] at hx
  rcases hx with rfl | rfl | rfl | rfl | rfl | rfl | rfl | rfl
  ·exact dpt_tx
  ·exact dpt_nm
  ·exact dpt_nm
  ·exact dpt_nm
  ·exact dpt_nm
  ·exact dpt_tx
  ·intro y hy
   simp only [Sl.l_some, List.mem_cons, List.not_mem_nil, or_false] at hy
   subst hy
   exact mem2 dpt_tx dpt_tx
  ·exact mem_map fun s hs => dpt_tx

theorem F4_true {a0 a4 : Str} {a1 a2 : Int} {a3 : Sl Str} (h1 : 0 ≤ a1) (h2 : 0 ≤ a2 ∧ a2 ≤ 65535) : F4 300000 a0 a1 a2 a3 a4 = some true := by
 unfold F4
 rw [bnd (show F5 300000 = some true from rfl), if_neg (by decide)]
 by_cases hl : (decide (Str.len a0 > 400) || decide (Sl.len a3 > 12) || decide (Str.len a4 > 60)) = true
 ·rw [if_pos hl]
 rw [if_neg hl]
 simp only [Bool.or_eq_true, decide_eq_true_eq, not_or] at hl
 obtain ⟨⟨l0, l3⟩, l4⟩ := hl
 rw [Str.len_nat] at l0 l4
 rw [Sl.len_nat] at l3
 rcases f4L 300000 a0 a1 a2 a3 a4 (by omega) (Sl.l a3).length 300000 0 (by omega) (by omega) with r | ⟨r, q⟩
 ·rw [bnd (show F4_L0 300000 a0 a1 a2 a3 a4 300000 0 = some (.ret true) from r)]
 rw [bnd (show F4_L0 300000 a0 a1 a2 a3 a4 300000 0 = _ from r)]
 rw [List.drop_zero] at q
 simp only
 have z1 : 0 ≤ a1 % 3 ∧ a1 % 3 ≤ 2 := by omega
 rw [bnd (rem_eq h1 (by omega)), cv64 (x := a1 % 3) (by omega), cv64 (x := a2) (by omega)]
 generalize a1 % 3 = sc at z1
 have b0 : a0.length ≤ 400 := by omega
 have b3 : (Sl.l a3).length ≤ 12 := by omega
 have b4 : a4.length ≤ 60 := by omega
 have g1 := fine_sea (sc := sc) (sz := a2) b0 b3 q b4
 have f1 := few_sea (sc := sc) (sz := a2) b0 b3 q b4
 have i1 := isM_sea b0 z1 h2 b3 q b4
 obtain ⟨b, d, e1, e2, e3⟩ := enc_ok (k := 300000) (by omega) (by omega) f1 i1 (by have := g1.1.sz; omega) g1.2
 obtain ⟨r, r1, r2, r3⟩ := back (k := 300000) (by omega) (by omega) f1 e2 e3
 have h8 := f8 (k := 300000) (by omega) (by omega) r3 f1.filter
 rw [(msgEq_nM r3.filter).2 r2] at h8
 have h9 := f9 (k := 300000) (by omega) (by omega) f1
 rw [i1] at h9
 obtain ⟨y, hy, hv⟩ : ∃ y, Sl.at? r.Filter.Kids 0 = some y ∧ y.Value = a4 := by
  have := congrArg (fun x : Ms => Sl.l x.Filter.Kids) r2
  have this : (Sl.l r.Filter.Kids).map (nF 21) = [nF 21 (seaG a4)] := this
  cases hk : Sl.l r.Filter.Kids with
  | nil => rw [hk] at this; simp at this
  | cons y l =>
   rw [hk] at this
   simp only [List.map_cons, List.cons.injEq] at this
   refine ⟨y, ?_, ?_⟩
   ·have e : Sl.at? r.Filter.Kids ((0 : Nat) : Int) = _ := Sl.at?_nat _ _
    rw [hk] at e
    exact e
   ·exact congrArg Api_Filter.Value this.1
 rw [bnd (show F6 300000 (Api_Msg.mk 7 3 0 a0 0 [] sc a2 (Api_Filter.mk 3 [] [] none (some [(Api_Filter.mk 4 [99, 110] a4 none none)])) a3 none [] false false [] [] [] 0 []) = some (b, 0) from e1), bnd (show F7 300000 (b, (0 : Int)).1 = some (r, 0) from r1)]
 simp only [bnd_id]
 rw [ite_pos' (show (((b, (0 : Int)).2 == 0) && ((r, (0 : Int)).2 == 0)) = true from rfl), bnd (show F8 300000 (r, (0 : Int)).1 (Api_Msg.mk 7 3 0 a0 0 [] sc a2 (Api_Filter.mk 3 [] [] none (some [(Api_Filter.mk 4 [99, 110] a4 none none)])) a3 none [] false false [] [] [] 0 []) = some true from h8), if_pos rfl,
  bnd (show Option.bind (Sl.at? (r, (0 : Int)).1.Filter.Kids 0) (fun y68 => some (y68.Value == a4)) = some true by rw [bnd (show Sl.at? (r, (0 : Int)).1.Filter.Kids 0 = some y from hy), hv]; simp), if_pos rfl]
 exact h9

theorem msgSearches_true (a0 : Str) (a1 a2 : Int) (a3 : Sl Str) (a4 : Str) {P0 P3 P4 : Prop} (o0 : P0) (o1 : (Lit.int .u8 a1).wf = true) (o2 : (Lit.int .u16 a2).wf = true) (o3 : P3) (o4 : P4) :
  evw env 4 [.str a0, .int .u8 a1, .int .u16 a2, encSl eS a3, .str a4] [] = some (.bool true, [], false) := by
 have b1 : 0 ≤ a1 ∧ a1 ≤ 255 := by simpa [Lit.wf, IntKind.min, IntKind.max, IntKind.signed, IntKind.bits] using o1
 have b2 : 0 ≤ a2 ∧ a2 ≤ 65535 := by simpa [Lit.wf, IntKind.min, IntKind.max, IntKind.signed, IntKind.bits] using o2
 exact @s4 300000 a0 a1 a2 a3 a4 true (F4_true b1.1 b2) _ (by simp only [List.map_cons, List.map_nil, strip_enc, st_str, st_int]) []
end Go.Proofs.YtbinlabnilidiaaDoor.M
