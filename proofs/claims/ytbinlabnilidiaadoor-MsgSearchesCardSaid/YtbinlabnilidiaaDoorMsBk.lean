/- Messages: MsgBack. -/
import Derived.Test.YtbinlabnilidiaaDoorMsD4
namespace Go.Proofs.YtbinlabnilidiaaDoor.M
open Go Go.Pam
set_option maxRecDepth 20000
set_option linter.unusedVariables false
set_option linter.unusedSimpArgs false

/-! Tags are bytes -/
abbrev tb (t : Int) : Prop := (Lit.int .u8 t).wf = true
theorem tag_tx {m : Nat} {t : Int} {s : Str} (h : tb t) : TagE (m + 1) (tx t s) := ⟨h, fun x hx => nomatch hx⟩
theorem tag_nm {m : Nat} {t v : Int} (h : tb t) : TagE (m + 1) (nm t v) := ⟨h, fun x hx => nomatch hx⟩
theorem tag_ls {m : Nat} {t : Int} {l : Sl El} (h : tb t) (hl : ∀ x ∈ Sl.l l, TagE m x) : TagE (m + 1) (ls t l) := ⟨h, hl⟩
theorem tag2 {m : Nat} {t : Int} {a b : El} (h : tb t) (ha : TagE m a) (hb : TagE m b) : TagE (m + 1) (ls t (some [a, b])) := tag_ls h (mem2 ha hb)
theorem tag_map {m : Nat} {α : Type} {t : Int} {g : α → El} {l : List α} (h : tb t) (hg : ∀ a ∈ l, TagE m (g a)) : TagE (m + 1) (ls t (rowE (l.map g))) := tag_ls h (mem_map hg)

theorem tag_filter : ∀ (n : Nat) (f : Fil), isS n f = true → TagE (n + 4) (elF n f)
 | 0, f, h => by simp [isS] at h
 | n + 1, f, h => by
  by_cases hK : kidsK f.Kind = true
  ·rw [isS, if_pos hK] at h
   simp only [Bool.and_eq_true, List.all_eq_true] at h
   rw [elF, if_pos hK]
   refine tag_map ?_ fun g hg => tag_filter n g (h.2 g hg)
   have hk3 : f.Kind = 1 ∨ f.Kind = 2 ∨ f.Kind = 3 := by unfold kidsK at hK; simp only [Bool.and_eq_true, decide_eq_true_eq] at hK; omega
   rcases hk3 with e | e | e <;> rw [e] <;> rfl
  ·rw [elF, if_neg hK]
   split
   ·exact tag_tx rfl
   split
   ·refine tag2 rfl (tag_tx rfl) (tag_ls rfl fun x hx => ?_)
    rw [rowE_l] at hx
    obtain ⟨j, s, _, hs⟩ := flat_mem hx
    unfold subE at hs
    split at hs
    ·cases hs
    ·rw [List.mem_singleton.1 hs]
     refine tag_tx ?_
     unfold subT
     split
     ·rfl
     split <;> rfl
   ·refine tag2 ?_ (tag_tx rfl) (tag_tx rfl)
    split
    ·rfl
    split <;> rfl

theorem tag_attr {m : Nat} (x : Api_Mod) : TagE (m + 3) (attrE x) := tag2 rfl (tag_tx rfl) (tag_map rfl fun _ _ => tag_tx rfl)
theorem tag_mods {m : Nat} (c : Bool) (l : List Api_Mod) : TagE (m + 5) (modsE c l) := by
 refine tag_map rfl fun x _ => ?_
 unfold modE
 split
 ·exact tag2 rfl (tag_nm rfl) (tag_attr (m := m) x)
 ·exact tag_attr (m := m + 1) x
theorem tag_tag {a : Ms} (h : Op a) : tb (tagOf a) := by
 unfold tagOf
 (repeat' split) <;> rfl
theorem tag_op {a : Ms} (h : Op a) : TagE 27 (opE a) := by
 unfold opE
 split
 ·exact tag_tx rfl
 split
 ·exact tag_ls rfl fun x hx => nomatch hx
 refine tag_ls (tag_tag h) ?_
 show ∀ x ∈ bodyE a, TagE 26 x
 unfold bodyE
 split
 ·intro x hx
  simp only [List.mem_cons, List.not_mem_nil, or_false] at hx
  rcases hx with rfl | rfl | rfl
  ·exact tag_nm rfl
  ·exact tag_tx rfl
  ·exact tag_tx rfl
 split
 ·rename_i c3
  have hs : isS 22 a.Filter = true := by
   have s3 := (h.search c3).2.2.1
   unfold filS at s3; rw [Bool.and_eq_true] at s3; exact s3.2
  intro x hx
  simp only [List.mem_cons, List.not_mem_nil, or_false] at hx
  rcases hx with rfl | rfl | rfl | rfl | rfl | rfl | rfl | rfl
  ·exact tag_tx rfl
  ·exact tag_nm rfl
  ·exact tag_nm rfl
  ·exact tag_nm rfl
  ·exact tag_nm rfl
  ·exact tag_tx rfl
  ·exact tag_filter 22 a.Filter hs
  ·exact tag_map rfl fun _ _ => tag_tx rfl
 split
 ·exact mem2 (tag_tx rfl) (tag_mods true _)
 split
 ·exact mem2 (tag_tx rfl) (tag_mods false _)
 split
 ·intro x hx
  simp only [List.mem_append, List.mem_cons, List.not_mem_nil, or_false] at hx
  rcases hx with (rfl | rfl | rfl) | hx
  ·exact tag_tx rfl
  ·exact tag_tx rfl
  ·exact tag_tx rfl
  ·split at hx
   ·rw [List.mem_singleton.1 hx]; exact tag_tx rfl
   ·cases hx
 split
 ·exact mem2 (tag_tx rfl) (tag2 rfl (tag_tx rfl) (tag_tx rfl))
 ·intro x hx
  simp only [List.mem_cons, List.not_mem_nil, or_false] at hx
  rcases hx with rfl | rfl | rfl
  ·exact tag_nm rfl
  ·exact tag_tx rfl
  ·exact tag_tx rfl
theorem tag_msg {a : Ms} (h : Op a) : TagE 28 (msgE a) := tag2 rfl (tag_nm rfl) (tag_op h)

/-! Back -/
theorem encS_ok {a : Ms} {d : Nat} {b : Str} (h : encS a d = (b, 0)) : isM a = true ∧ bytesS 28 (msgE a) = some b ∧ b.length ≤ 4000 ∧ d ≤ 20 := by
 unfold encS at h
 cases hi : isM a with
 | false => rw [hi, if_pos rfl] at h; simp at h
 | true =>
  rw [hi, if_neg (by simp)] at h
  cases hb : bytesS 28 (msgE a) with
  | none => rw [hb] at h; simp at h
  | some c =>
   rw [hb] at h
   simp only at h
   by_cases h1 : 4000 < c.length
   ·rw [if_pos h1] at h; simp at h
   ·rw [if_neg h1] at h
    by_cases h2 : 20 < d
    ·rw [if_pos h2] at h; simp at h
    ·rw [if_neg h2] at h
     simp only [Prod.mk.injEq, and_true] at h
     subst h
     exact ⟨rfl, rfl, by omega, by omega⟩
theorem encS_mk {a : Ms} {d : Nat} {b : Str} (h1 : isM a = true) (h2 : bytesS 28 (msgE a) = some b) (h3 : b.length ≤ 4000) (h4 : d ≤ 20) : encS a d = (b, 0) := by
 unfold encS
 rw [h1, if_neg (by simp), h2]
 simp only
 rw [if_neg (by omega), if_neg (by omega)]

theorem back {k : Nat} (hk : 200200 ≤ k) (hk2 : k < 400000000000000) {a : Ms} (ha : Few a) {d : Nat} {b : Str} (he : encS a d = (b, 0)) (hd : isM a = true → ∀ n, Dpt n (msgE a) ↔ d ≤ n) :
  ∃ m, F7 k b = some (m, 0) ∧ nM m = nM a ∧ Few m := by
 obtain ⟨hi, hb, hl, hd20⟩ := encS_ok he
 have hO := op_of hi
 have hF := fine_msg ha hO
 have hD : Dpt 20 (msgE a) := (hd hi 20).2 hd20
 obtain ⟨e', r1, r2⟩ := read_back 28 k (by omega) (msgE a) (tag_msg hO) hF.few hF.fm hD b [] hb (by simp)
 rw [List.append_nil] at r1
 obtain ⟨m, m1, m2⟩ := dec_msg hk ha hi hD r2
 obtain ⟨q1, q2, q3⟩ := eq_all ha m2.symm
 obtain ⟨d', g1, _, g3⟩ := enc_both hk hk2 q1
 have hdm : d' ≤ 20 := (g3 (by rw [q2]; exact hi) 20).1 (by rw [q3]; exact hD)
 have hem : encS m d' = (b, 0) := encS_mk (by rw [q2]; exact hi) (by rw [q3]; exact hb) hl hdm
 rw [hem] at g1
 refine ⟨m, ?_, m2, q1⟩
 have h45 : F18 k b = some (m, Er.nil) := by
  unfold F18
  rw [bnd r1, ite_neg' (show ((0 : Int) != 0) = false from rfl), bnd m1, bnd g1]
  have c : ((((0 : Int) != 0) || ((b.length : Int) != (Str.len b))) || (!(b == b))) = false := by simp [Str.len]
  rw [ite_neg' c]
 unfold F7
 rw [bnd h45]

end Go.Proofs.YtbinlabnilidiaaDoor.M
