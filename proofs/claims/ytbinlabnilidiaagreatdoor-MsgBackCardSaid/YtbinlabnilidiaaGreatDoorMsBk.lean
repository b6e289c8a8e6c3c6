/- Messages: MsgBack. -/
import Derived.Test.YtbinlabnilidiaaGreatDoorMsD4
namespace Go.Proofs.YtbinlabnilidiaaGreatDoor.M
open Go Go.Pam
set_option maxRecDepth 20000
set_option linter.unusedVariables false
set_option linter.unusedSimpArgs false

/-! Tags are bytes -/
abbrev tb (t : Int) : Prop := (Lit.int .u8 t).wf = true
theorem tag_tx {m : Nat} {t : Int} {s : Str} (h : tb t) : TagE (m + 1) (tx t s) := ⟨h, fun x hx => nomatch hx⟩
theorem tag_nm {m : Nat} {t v : Int} (h : tb t) : TagE (m + 1) (nm t v) := ⟨h, fun x hx => nomatch hx⟩
theorem tag_ls {m : Nat} {t : Int} {l : Sl El} (h : tb t) (hl : ∀ x ∈ Sl.l l, TagE m x) : TagE (m + 1) (ls t l) := ⟨h, hl⟩
theorem tag2 {m : Nat} {t : Int} {a b : El} (h : tb t) (ha : TagE m a) (hb : TagE m b) : TagE (m + 1) (ls t (some [a, b])) := tag_ls h (mem2 ha hb)
theorem tag_map {m : Nat} {α : Type} {t : Int} {g : α → El} {l : List α} (h : tb t) (hg : ∀ a ∈ l, TagE m (g a)) : TagE (m + 1) (ls t (rowE (l.map g))) := tag_ls h (mem_map hg)

theorem tag_filter : ∀ (n : Nat) (f : Fil), isS n f = true → TagE (n + 4) (elF n f)
 | 0, f, h => by simp [isS] at h
 | n + 1, f, h => by
  by_cases hK : kidsK f.Kind = true
  ·rw [isS, if_pos hK] at h
   simp only [Bool.and_eq_true, List.all_eq_true] at h
   rw [elF, if_pos hK]
   refine tag_map ?_ fun g hg => tag_filter n g (h.2 g hg)
   have hk3 : f.Kind = 1 ∨ f.Kind = 2 ∨ f.Kind = 3 := by unfold kidsK at hK; simp only [Bool.and_eq_true, decide_eq_true_eq] at hK; omega
   rcases hk3 with e | e | e <;> rw [e] <;> rfl
  ·rw [elF, if_neg hK]
   split
   ·exact tag_tx rfl
   split
   ·refine tag2 rfl (tag_tx rfl) (tag_ls rfl fun x hx => ?_)
    rw [rowE_l] at hx
    obtain ⟨j, s, _, hs⟩ := flat_mem hx
    unfold subE at hs
    split at hs
    ·cases hs
    ·rw [List.mem_singleton.1 hs]
     refine tag_tx ?_
     unfold subT
     split
     ·rfl
     split <;> rfl
   ·refine tag2 ?_ (tag_tx rfl) (tag_tx rfl)
    split
    ·rfl
    split <;> rfl

theorem tag_attr {m : Nat} (x : Api_Mod) : TagE (m + 3) (attrE x) := tag2 rfl (tag_tx rfl) (tag_map rfl fun _ _ => tag_tx rfl)
theorem tag_mods {m : Nat} (c : Bool) (l : List Api_Mod) : TagE (m + 5) (modsE c l) := by
 refine tag_map rfl fun x _ => ?_
 unfold modE
 split
 ·exact tag2 rfl (tag_nm rfl) (tag_attr (m := m) x)
 ·exact tag_attr (m := m + 1) x
theorem tag_tag {a : Ms} (h : Op a) : tb (tagOf a) := by
 unfold tagOf
 (repeat' split) <;> rfl
theorem tag_op {a : Ms} (h : Op a) : TagE 27 (opE a) := by
 unfold opE
 split
 ·exact tag_tx rfl
 split
 ·exact tag_ls rfl fun x hx => nomatch hx
 refine tag_ls (tag_tag h) ?_
 show ∀ x ∈ bodyE a, TagE 26 x
 unfold bodyE
 split
 ·intro x hx
  simp only [List.mem_cons, List.not_mem_nil, or_false] at hx
  rcases hx with rfl | rfl | rfl
  ·exact tag_nm rfl
  ·exact tag_tx rfl
  ·exact tag_tx rfl
 split
 ·rename_i c3
  have hs : isS 22 a.Filter = true := by
   have s3 := (h.search c3).2.2.1
   unfold filS at s3; rw [Bool.and_eq_true] at s3; exact s3.2
  intro x hx
  simp only [List.mem_cons, List.not_mem_nil, or_false] at hx
  rcases hx with rfl | rfl | rfl | rfl | rfl | rfl | rfl | rfl
  ·exact tag_tx rfl
  ·exact tag_nm rfl
  ·exact tag_nm rfl
  ·exact tag_nm rfl
  ·exact tag_nm rfl
  ·exact tag_tx rfl
  ·exact tag_filter 22 a.Filter hs
  ·exact tag_map rfl fun _ _ => tag_tx rfl
 split
 ·exact mem2 (tag_tx rfl) (tag_mods true _)
 split
 ·exact mem2 (tag_tx rfl) (tag_mods false _)
 split
 ·intro x hx
  simp only [List.mem_append, List.mem_cons, List.not_mem_nil, or_false] at hx
  rcases hx with (rfl | rfl | rfl) | hx
  ·exact tag_tx rfl
  ·exact tag_tx rfl
  ·exact tag_tx rfl
  ·split at hx
   ·rw [List.mem_singleton.1 hx]; exact tag_tx rfl
   ·cases hx
 split
 ·exact mem2 (tag_tx rfl) (tag2 rfl (tag_tx rfl) (tag_tx rfl))
 ·intro x hx
  simp only [List.mem_cons, List.not_mem_nil, or_false] at hx
  rcases hx with rfl | rfl | rfl
  ·exact tag_nm rfl
  ·exact tag_tx rfl
  ·exact tag_tx rfl
theorem tag_msg {a : Ms} (h : Op a) : TagE 28 (msgE a) := tag2 rfl (tag_nm rfl) (tag_op h)

/-! Back -/
theorem encS_ok {a : Ms} {d : Nat} {b : Str} (h : encS a d = (b, 0)) : isM a = true ∧ bytesS 28 (msgE a) = some b ∧ b.length ≤ 4000 ∧ d ≤ 20 := by
 unfold encS at h
 cases hi : isM a with
 | false => rw [hi, if_pos rfl] at h; simp at h
 | true =>
  rw [hi, if_neg (by simp)] at h
  cases hb : bytesS 28 (msgE a) with
  | none => rw [hb] at h; simp at h
  | some c =>
   rw [hb] at h
   simp only at h
   by_cases h1 : 4000 < c.length
   ·rw [if_pos h1] at h; simp at h
   ·rw [if_neg h1] at h
    by_cases h2 : 20 < d
    ·rw [if_pos h2] at h; simp at h
    ·rw [if_neg h2] at h
     simp only [Prod.mk.injEq, and_true] at h
     subst h
     exact ⟨rfl, rfl, by omega, by omega⟩
theorem encS_err {a : Ms} {d : Nat} (h : (encS a d).2 ≠ 0) : (encS a d).1 = [] := by
 unfold encS at h ⊢
 split
 ·rfl
 ·rename_i hi
  rw [if_neg hi] at h
  split
  ·rfl
  ·rename_i b hb
   rw [hb] at h
   simp only at h
   split
   ·rfl
   ·rename_i h1
    rw [if_neg h1] at h
    split
    ·rfl
    ·rename_i h2
     rw [if_neg h2] at h
     exact absurd rfl h
theorem encS_mk {a : Ms} {d : Nat} {b : Str} (h1 : isM a = true) (h2 : bytesS 28 (msgE a) = some b) (h3 : b.length ≤ 4000) (h4 : d ≤ 20) : encS a d = (b, 0) := by
 unfold encS
 rw [h1, if_neg (by simp), h2]
 simp only
 rw [if_neg (by omega), if_neg (by omega)]

theorem back {k : Nat} (hk : 200200 ≤ k) (hk2 : k < 400000000000000) {a : Ms} (ha : Few a) {d : Nat} {b : Str} (he : encS a d = (b, 0)) (hd : isM a = true → ∀ n, Dpt n (msgE a) ↔ d ≤ n) :
  ∃ m, F15 k b = some (m, 0) ∧ nM m = nM a ∧ Few m := by
 obtain ⟨hi, hb, hl, hd20⟩ := encS_ok he
 have hO := op_of hi
 have hF := fine_msg ha hO
 have hD : Dpt 20 (msgE a) := (hd hi 20).2 hd20
 obtain ⟨e', r1, r2⟩ := read_back 28 k (by omega) (msgE a) (tag_msg hO) hF.few hF.fm hD b [] hb (by simp)
 rw [List.append_nil] at r1
 obtain ⟨m, m1, m2⟩ := dec_msg hk ha hi hD r2
 obtain ⟨q1, q2, q3⟩ := eq_all ha m2.symm
 obtain ⟨d', g1, _, g3⟩ := enc_both hk hk2 q1
 have hdm : d' ≤ 20 := (g3 (by rw [q2]; exact hi) 20).1 (by rw [q3]; exact hD)
 have hem : encS m d' = (b, 0) := encS_mk (by rw [q2]; exact hi) (by rw [q3]; exact hb) hl hdm
 rw [hem] at g1
 refine ⟨m, ?_, m2, q1⟩
 have h45 : F45 k b = some (m, Er.nil) := by
  unfold F45
  rw [bnd r1, ite_neg' (show ((0 : Int) != 0) = false from rfl), bnd m1, bnd g1]
  have c : ((((0 : Int) != 0) || ((b.length : Int) != (Str.len b))) || (!(b == b))) = false := by simp [Str.len]
  rw [ite_neg' c]
 unfold F15
 rw [bnd h45]

theorem F4_true {a b : Ms} (hA : (Sl.l a.Mods).length ≤ 9223372036854775807) (hB : (Sl.l b.Mods).length ≤ 9223372036854775807) : ∃ k, F4 k a b = some true := by
 refine ⟨(if (Sl.l a.Mods).length < 100 then 0 else (Sl.l a.Mods).length) + (if (Sl.l b.Mods).length < 100 then 0 else (Sl.l b.Mods).length) + 300000, ?_⟩
 generalize hn0 : (if (Sl.l a.Mods).length < 100 then 0 else (Sl.l a.Mods).length) = n
 generalize hm0 : (if (Sl.l b.Mods).length < 100 then 0 else (Sl.l b.Mods).length) = m
 obtain ⟨p, hp, hp2⟩ := f8 (k := n + m + 300000) (by omega) a (by split at hn0 <;> omega) hA
 obtain ⟨q, hq, hq2⟩ := f8 (k := n + m + 300000) (by omega) b (by split at hm0 <;> omega) hB
 unfold F4
 rw [bnd (show F7 (n + m + 300000) = some true from rfl), if_neg (by decide), bnd hp]
 cases p with
 | false => rfl
 | true =>
  rw [if_neg (by decide), bnd hq]
  cases q with
  | false => rfl
  | true =>
   have ha := hp2 rfl
   have hb := hq2 rfl
   have hz : n = 0 := by have := ha.mods; rw [← hn0, if_pos (by omega)]
   have hy : m = 0 := by have := hb.mods; rw [← hm0, if_pos (by omega)]
   subst hz; subst hy
   obtain ⟨d, e1, _, e3⟩ := enc_both (k := 0 + 0 + 300000) (by omega) (by omega) ha
   obtain ⟨d', g1, _, g3⟩ := enc_both (k := 0 + 0 + 300000) (by omega) (by omega) hb
   rw [bnd rfl, if_neg (by decide), bnd e1]
   by_cases c0 : (encS a d).2 = 0
   ·rw [ite_neg' (show ((encS a d).2 != 0) = false by rw [c0]; rfl), bnd g1]
    have he : encS a d = ((encS a d).1, 0) := by rw [← c0]
    obtain ⟨r, r1, r2, r3⟩ := back (k := 0 + 0 + 300000) (by omega) (by omega) ha he e3
    have h14 := f14 (k := 0 + 0 + 300000) (by omega) (by omega) ha r3.filter
    rw [(msgEq_nM ha.filter).2 r2.symm] at h14
    rw [bnd r1]
    have hc : (Option.bind (if ((r, (0 : Int)).2 == 0) = true then Option.bind (F14 (0 + 0 + 300000) a (r, (0 : Int)).1) fun y24 => some y24 else some false) fun y => some y) = some true := by
     rw [ite_pos' (show ((r, (0 : Int)).2 == 0) = true from rfl), bnd (show (Option.bind (F14 (0 + 0 + 300000) a (r, (0 : Int)).1) fun y24 => some y24) = some true by rw [bnd h14])]
    rw [bnd_id] at hc
    rw [bnd hc, if_pos rfl, bnd_id, bnd_id]
    by_cases c1 : (encS b d').2 = 0
    ·rw [ite_neg' (show ((encS b d').2 != 0) = false by rw [c1]; rfl), bnd (f14 (by omega) (by omega) ha hb.filter)]
     have he2 : encS b d' = ((encS b d').1, 0) := by rw [← c1]
     congr 1
     rw [beq_iff_eq, Bool.eq_iff_iff, beq_iff_eq, msgEq_nM ha.filter]
     constructor
     ·intro hbb
      obtain ⟨r', w1, w2, w3⟩ := back (k := 0 + 0 + 300000) (by omega) (by omega) hb he2 g3
      rw [← hbb, r1] at w1
      simp only [Option.some.injEq, Prod.mk.injEq, and_true] at w1
      subst w1
      rw [← r2, w2]
     ·intro hN
      obtain ⟨_, q2, q3⟩ := eq_all ha hN
      obtain ⟨_, s1, _, _⟩ := encS_ok he
      obtain ⟨_, s2, _, _⟩ := encS_ok he2
      rw [q3, s1] at s2
      injection s2
    ·rw [ite_pos' (show ((encS b d').2 != 0) = true by simpa using c1)]
   ·rw [ite_pos' (show ((encS a d).2 != 0) = true by simpa using c0), encS_err c0]
    rfl

theorem msgBack_true (a0 a1 : Ms) (o0 : Ok_Api_Msg a0) (o1 : Ok_Api_Msg a1) : evw env 4 [eM a0, eM a1] [] = some (.bool true, [], false) := by
 obtain ⟨k, hk⟩ := F4_true (a := a0) (b := a1) o0.h10.1 o1.h10.1
 refine s4 k hk ?_ []
 simp only [List.map_cons, List.map_nil, st_agg, st_int, st1_int, st1_str, st1_bool, strip1_enc]
end Go.Proofs.YtbinlabnilidiaaGreatDoor.M
