/- Soundness of the single steps, fourth part: numbers, texts, composites. -/
import Derived.Test.YthkjepoaddfoiaaPam8
import Derived.Laws.StructEq
import Derived.Laws.Strings
namespace Go.Pam
set_option linter.unusedVariables false
set_option linter.unusedSimpArgs false
open Go.RowKit

section
variable {P : Program} {ctx : Ctx} {S : List SObj} {g : G} {w : World} {n : Nat}

theorem bitsOf_sound {op : BinOp} {k : IntKind} {x y : Int} {z : PV} (h : bitsOf op k x y = some z) : ∃ i, z = .int k i ∧ (Op.intBits op k x y).run P w = .ok (.int k i) w := by
  cases op <;> first
    | (simp only [bitsOf] at h; injection h with h; subst h; exact ⟨_, rfl, rfl⟩)
    | cases h

theorem intOp_sound {op : BinOp} (hsl : op ≠ .shl) (hsr : op ≠ .shr) {k : IntKind} {x y : Int} {z : PV} (t : TypeId) (h : intOp op k x y = some z) :
    ∃ v, (binOp op t (.int k x) (.int k y)).run P w = .ok v w ∧ V g w n z v := by
  cases op <;> simp only [intOp] at h
  all_goals first
    | (injection h with h; subst h; refine ⟨_, ?_, by constructor⟩; simp [binOp, Op.intArith, Op.intCmp]; done)
    | (obtain ⟨i, rfl, hr⟩ := bitsOf_sound (P := P) (w := w) h; refine ⟨_, ?_, .int _ _⟩; simpa [binOp] using hr)
    | (split at h
       · cases h
       · rename_i hy
         injection h with h; subst h
         refine ⟨_, ?_, .int _ _⟩
         simp [binOp, Op.intDiv, hy]; done)
    | (exact absurd rfl hsl)
    | (exact absurd rfl hsr)

theorem shiftOp_sound {op : BinOp} {k k' : IntKind} {x y : Int} {z : PV} (h : shiftOp op k x y = some z) :
    ∃ v, (Op.shift op k x k' y).run P w = .ok v w ∧ V g w n z v := by
  unfold shiftOp at h
  split at h
  · cases h
  rename_i hy
  cases op <;> first
    | (injection h with h; subst h; refine ⟨_, ?_, .int _ _⟩; simp [Op.shift, hy]; done)
    | cases h

theorem ba_toList (s : ByteArray) : s.toList = s.data.toList := by
  exact ByteArray.toList_eq s

theorem ba_beq (a b : ByteArray) : (a == b) = (a.data.toList == b.data.toList) := by
  show (a.data == b.data) = _
  rw [Bool.eq_iff_iff, beq_iff_eq, beq_iff_eq]
  exact ⟨fun h => by rw [h], fun h => Array.toList_inj.1 h⟩

theorem strOp_sound {op : BinOp} {a b : ByteArray} {z : PV} (h : strOp op a.data.toList b.data.toList = some z) :
    ∃ v, (Op.stringOp op a b).run P w = .ok v w ∧ V g w n z v := by
  have la : a.data.toList.length = a.size := by simp
  have lb : b.data.toList.length = b.size := by simp
  cases op <;> simp only [strOp] at h
  case add =>
    split at h
    · cases h
    · rename_i hle
      injection h with h; subst h
      refine ⟨.string (a ++ b), ?_, ?_⟩
      · rw [la, lb] at hle
        simp only [Op.stringOp]
        rw [if_neg hle]; rfl
      · have := V.str (g := g) (w := w) (n := n) (a ++ b)
        simpa using this
  all_goals first
    | (injection h with h; subst h; refine ⟨_, rfl, ?_⟩; simp only [ba_toList]; constructor)
    | cases h

theorem eqIn_sound (hc : CtxTy P ctx) : ∀ (d : Nat) (t : TypeId) (x y : PV) (v v' : Value) (r : Bool) (D : Nat), d ≤ D → V g w n x v → V g w n y v' → eqIn ctx d t x y = some r → (Op.equalIn D t v v').run P w = .ok r w
  | 0, _, _, _, _, _, _, _, _, _, _, h => by simp [eqIn] at h
  | d + 1, t, x, y, v, v', r, D, hD, hx, hy, h => by
    obtain ⟨D, rfl⟩ : ∃ D', D = D' + 1 := ⟨D - 1, by omega⟩
    unfold eqIn at h
    split at h
    · cases h
    rename_i ti hti
    have ht := hc.ty _ _ hti
    simp only [Op.equalIn, Sem.run_bind, ht.run_und, Result.andThen_ok]
    split at h
    · rename_i hund; rw [hx.inv_bool, hy.inv_bool, hund]; injection h with h; subst h; rfl
    · rename_i hund; rw [hx.inv_int, hy.inv_int, hund]
      split at h
      · rename_i hk; injection h with h; subst h; simp [hk]
      · cases h
    · rename_i hund
      obtain ⟨s, rfl, h1⟩ := hx.inv_str
      obtain ⟨s', rfl, h2⟩ := hy.inv_str
      rw [hund]; injection h with h; subst h
      subst h1; subst h2
      simp only [Sem.run_pure]
      rw [ba_beq]
    · rename_i hund; rw [hx.inv_nilp, hy.inv_nilp, hund]; injection h with h; subst h; rfl
    · rename_i hund; rw [hx.inv_nilp, hy.inv_ptr.1, hund]; injection h with h; subst h; rfl
    · rename_i hund; rw [hx.inv_ptr.1, hy.inv_nilp, hund]; injection h with h; subst h; rfl
    · rename_i hund
      obtain ⟨b, o, u, rfl, _⟩ := hy.inv_iptr
      rw [hx.inv_nilp, hund]; injection h with h; subst h; rfl
    · rename_i hund
      obtain ⟨b, o, u, rfl, _⟩ := hx.inv_iptr
      rw [hy.inv_nilp, hund]; injection h with h; subst h; rfl
    · rename_i hund; rw [hx.inv_nili, hy.inv_nili, hund]; injection h with h; subst h; rfl
    · rename_i hund
      obtain ⟨y', rfl, _⟩ := hy.inv_ifc
      rw [hx.inv_nili, hund]; injection h with h; subst h; rfl
    · rename_i hund
      obtain ⟨y', rfl, _⟩ := hx.inv_ifc
      rw [hy.inv_nili, hund]; injection h with h; subst h; rfl
    · rename_i hund
      obtain ⟨x', rfl, hx'⟩ := hx.inv_ifc
      obtain ⟨y', rfl, hy'⟩ := hy.inv_ifc
      rw [hund]
      split at h
      · rename_i hne; injection h with h; subst h; simp [hne]
      · rename_i heq
        simp only [Decidable.not_not] at heq
        subst heq
        split at h
        · cases h
        rename_i tj htj
        split at h
        · rename_i hcomp
          have htj' := hc.ty _ _ htj
          obtain ⟨i, z, i1, _, _, _, _, _, i7, _⟩ := htj'.info
          have := eqIn_sound hc d _ _ _ x' y' r D (by omega) hx' hy' h
          simp [typeInfo, i1, i7, hcomp, this]
        · cases h
    · rename_i fs xs ys hund
      obtain ⟨xs', rfl, x1, x2, x3⟩ := hx.inv_agg
      obtain ⟨ys', rfl, y1, y2, y3⟩ := hy.inv_agg
      rw [hund]
      split at h
      case isFalse => cases h
      rename_i hok
      obtain ⟨k1, k2⟩ := ht.eqok hok
      have hf : P.fieldsOf t = fs := by simp [Program.fieldsOf, ht.und, hund]
      have key : ∀ (l : List Field) (r : Bool), eqFields ctx (eqIn ctx d) l xs ys = some r → (Op.eqFields D xs' ys' l).run P w = .ok r w := by
        intro l
        induction l with
        | nil => intro r h; simp [eqFields] at h; subst h; simp [Op.eqFields]
        | cons f l ih =>
          intro r h
          simp only [eqFields] at h
          simp only [Op.eqFields]
          split at h
          · rename_i hn
            rw [if_neg (by simpa using hn)]
            exact ih r h
          · rename_i hn
            rw [if_pos hn]
            split at h
            case h_2 => cases h
            rename_i p q hp hq
            obtain ⟨p', hp1, hp2⟩ := part_sound (P := P) hc x1 x2 x3 hp
            obtain ⟨q', hq1, hq2⟩ := part_sound (P := P) hc y1 y2 y3 hq
            split at h
            · rename_i he
              have := eqIn_sound hc d _ _ _ p' q' true D (by omega) hp2 hq2 he
              simp [hp1, hq1, this]
              exact ih r h
            · rename_i he
              have := eqIn_sound hc d _ _ _ p' q' false D (by omega) hp2 hq2 he
              injection h with h; subst h
              simp [hp1, hq1, this]
            · cases h
      have := run_equalIn_struct (P := P) w D t xs' ys' (by rw [hf, ht.und, hund]) k2
      rw [hf] at this
      unfold Op.equalIn at this
      rw [Sem.run_bind, ht.run_und, Result.andThen_ok, hund] at this
      rw [this]
      exact key _ _ h
    · rename_i hund; rw [hx.inv_nils, hy.inv_nils, hund]; injection h with h; subst h; rfl
    · rename_i hund
      rcases hy.inv_lst with ⟨_, _, a, rfl⟩ | ⟨b, o, cap, sz, u, rfl, _⟩ <;> (rw [hx.inv_nils, hund]; injection h with h; subst h; rfl)
    · rename_i hund
      rcases hx.inv_lst with ⟨_, _, a, rfl⟩ | ⟨b, o, cap, sz, u, rfl, _⟩ <;> (rw [hy.inv_nils, hund]; injection h with h; subst h; rfl)
    · rename_i hund
      obtain ⟨cap, rfl, _⟩ := hy.inv_hsl
      rw [hx.inv_nils, hund]; injection h with h; subst h; rfl
    · rename_i hund
      obtain ⟨cap, rfl, _⟩ := hx.inv_hsl
      rw [hy.inv_nils, hund]; injection h with h; subst h; rfl
    · rename_i hund
      obtain ⟨rfl, _⟩ := hy.inv_rsl
      rw [hx.inv_nils, hund]; injection h with h; subst h; rfl
    · rename_i hund
      obtain ⟨rfl, _⟩ := hx.inv_rsl
      rw [hy.inv_nils, hund]; injection h with h; subst h; rfl
    · rename_i hund
      obtain ⟨a, rfl⟩ := hy.inv_emp
      rw [hx.inv_nils, hund]; injection h with h; subst h; rfl
    · rename_i hund
      obtain ⟨a, rfl⟩ := hx.inv_emp
      rw [hy.inv_nils, hund]; injection h with h; subst h; rfl
    · rename_i hund; rw [hx.inv_nilm, hy.inv_nilm, hund]; injection h with h; subst h; rfl
    · rename_i hund; rw [hx.inv_nilm, hy.inv_map.1, hund]; injection h with h; subst h; rfl
    · rename_i hund; rw [hx.inv_map.1, hy.inv_nilm, hund]; injection h with h; subst h; rfl
    · rename_i hund; rw [hx.inv_nilf, hy.inv_nilf, hund]; injection h with h; subst h; rfl
    · rename_i hund
      obtain ⟨as, bs, rfl, _⟩ := hy.inv_fn
      rw [hx.inv_nilf, hund]; injection h with h; subst h; rfl
    · rename_i hund
      obtain ⟨as, bs, rfl, _⟩ := hx.inv_fn
      rw [hy.inv_nilf, hund]; injection h with h; subst h; rfl
    · cases h
end
end Go.Pam
