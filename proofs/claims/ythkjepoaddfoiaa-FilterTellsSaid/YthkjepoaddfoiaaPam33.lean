/- Arguments of a function that hands on a row as such; literals that may be written to. -/
import Derived.Test.YthkjepoaddfoiaaPam32
namespace Go.Pam
set_option linter.unusedVariables false
set_option linter.unusedSimpArgs false
variable {env : Env} {fr : Fr} {σ : Nat → PV} {S : List SObj} {S0 : List SObj} {R : List Nat} {C : List (Nat × SObj)} {A : List (PV × Nat)} {W : List (PV × SObj)}

theorem sl_of_strip {α : Type} {f : α → PV} {x : Sl α} {v : PV} (h : v.strip = encSl f x) : IsSl f x v := by
  cases x with
  | none =>
    simp only [encSl] at h
    cases v <;> simp [PV.strip] at h
    rfl
  | some l =>
    simp only [encSl] at h
    cases v <;> simp [PV.strip] at h
    exact ⟨_, by rw [h]⟩
theorem int_of_strip {k : IntKind} {n : Int} {v : PV} (h : v.strip = .int k n) : v = .int k n := by
  cases v <;> simp [PV.strip] at h
  rw [h.1, h.2]
theorem bool_of_strip {b : Bool} {v : PV} (h : v.strip = .bool b) : v = .bool b := by
  cases v <;> simp [PV.strip] at h
  rw [h]
theorem str_of_strip {b : List UInt8} {v : PV} (h : v.strip = .str b) : v = .str b := by
  cases v <;> simp [PV.strip] at h
  rw [h]
theorem arg_nil {vs : List PV} (h : vs.map PV.strip = []) : vs = [] := by simpa using h
theorem arg_cons {vs as : List PV} {a : PV} (h : vs.map PV.strip = a :: as) : ∃ u us, vs = u :: us ∧ u.strip = a ∧ us.map PV.strip = as := by
  match vs, h with
  | u :: us, h => simp only [List.map_cons, List.cons.injEq] at h; exact ⟨u, us, rfl, h.1, h.2⟩

theorem born_build {α : Type} {f : α → PV} {ys : List α} {t e : TypeId} {n : Nat} {ps : Array (Nat × Operand)} {ei : TyI} (hs : stp env fr σ S (.buildSlice t n ps) = some (.lst (ys.map f) .full, S, false))
    (ht : (env.ctx.ty t).map (·.und) = some (.slice e)) (he : env.ctx.ty e = some ei) (H : Hp S0 R S C A W) :
    ∃ v' S', birthPV env.ctx σ S (.buildSlice t n ps) = some (v', S') ∧ IsW (some ys) v' ∧ Hp S0 R S' C A ((v', rowO f ei.size false (some ys)) :: W) := by
  cases hti : env.ctx.ty t with
  | none => rw [hti] at ht; cases ht
  | some ti =>
  rw [hti] at ht
  have ht' : ti.und = .slice e := by simpa using ht
  have hb : buildSlicePV env.ctx t n (ps.toList.map fun p => (p.1, opd σ p.2)) = some (.lst (ys.map f) .full) := by
    simp only [stp, evStep] at hs
    cases hq : buildSlicePV env.ctx t n (ps.toList.map fun p => (p.1, opd σ p.2)) with
    | none => rw [hq] at hs; cases hs
    | some y => rw [hq] at hs; simp at hs; rw [hs]
  refine ⟨.rsl S.length ys.length, S ++ [.row (ys.map f) ei.size false], ?_, .inr ⟨S.length, rfl⟩, H.addW ys.length _ rfl⟩
  simp only [birthPV, hti, ht', he, hb, List.length_map]

/-! Arrays of their own -/
def IsArr {α : Type} (n : Nat) (x : Sl α) (v : PV) : Prop := (∃ id, v = .ptr id 0) ∧ x.l.length = n

variable {α : Type} {f : α → PV} {sz n : Nat} {x : Sl α} {v : PV}

theorem IsArr.id (h : IsArr n x v) : ∃ id, rowAt v = some id := by
  obtain ⟨⟨id, rfl⟩, _⟩ := h
  exact ⟨id, rfl⟩

theorem IsArr.frz (h : IsArr n x v) : frzQ v S = none := by
  obtain ⟨⟨id, rfl⟩, _⟩ := h
  rfl

theorem IsArr.set (h : IsArr n x v) (i : Int) (y : α) : IsArr n (x.set i y) v := ⟨h.1, by rw [Sl.set_l, List.length_set]; exact h.2⟩

theorem stp_idxA {a i : Operand} {t e : TypeId} {k : IntKind} {m : Int} {y : α} {id : Nat} (ho : opd σ a = v) (h : IsArr n x v) (hi : opd σ i = .int k m)
    (ht : (env.ctx.ty t).map (·.und) = some (.array n e)) (he : (env.ctx.ty e).map (·.size) = some sz) (hy : Sl.at? x m = some y) (hid : rowAt v = some id) :
    stp env fr σ S (.indexAddr t a i) = some (.ptr id (m.toNat * sz), S, false) := by
  obtain ⟨⟨id', rfl⟩, hl⟩ := h
  injection hid with hid; subst hid
  unfold Sl.at? at hy
  split at hy
  case isFalse => cases hy
  rename_i h0
  have hlt : m.toNat < x.l.length := (List.getElem?_eq_some_iff.1 hy).1
  cases hti : env.ctx.ty t with
  | none => rw [hti] at ht; cases ht
  | some ti =>
    rw [hti] at ht
    have hu : ti.und = .array n e := by simpa using ht
    cases hei : env.ctx.ty e with
    | none => rw [hei] at he; cases he
    | some ei =>
      rw [hei] at he
      have hs : ei.size = sz := by simpa using he
      simp only [stp, evStep, hi, ho, indexAddrPV, hti, hu, hei]
      rw [if_pos ⟨h0, by omega⟩, hs, Nat.zero_add]
      rfl

theorem born_arr {z : α} {t e : TypeId} {ti ei : TyI} (ht : env.ctx.ty t = some ti) (hu : ti.und = .array n e) (he : env.ctx.ty e = some ei)
    (hok : (sameL ti.zero.cells ((List.replicate n ei.zero).flatMap PV.cells) && decide (ei.zero.cells.length = ei.size) && ti.zero.storable) = true) (hz : f z = ei.zero) (H : Hp S0 R S C A W) :
    ∃ v' S', birthPV env.ctx σ S (.alloc t) = some (v', S') ∧ IsArr n (some (List.replicate n z)) v' ∧ Hp S0 R S' C A ((v', rowO f ei.size false (some (List.replicate n z))) :: W) := by
  simp only [Bool.and_eq_true, decide_eq_true_eq] at hok
  obtain ⟨⟨k1, k2⟩, k3⟩ := hok
  have hr : rowO f ei.size false (some (List.replicate n z)) = .row (List.replicate n ei.zero) ei.size false := by
    show SObj.row ((List.replicate n z).map f) ei.size false = _
    rw [List.map_replicate, hz]
  refine ⟨.ptr S.length 0, S ++ [.row (List.replicate n ei.zero) ei.size false], ?_, ⟨⟨_, rfl⟩, by simp [Sl.l]⟩, ?_⟩
  · simp only [birthPV, ht, hu, he]
    rw [if_pos ⟨k1, k2, k3⟩]
  · rw [hr]
    have hn := H.more (.row (List.replicate n ei.zero) ei.size false)
    refine { hn with row := fun q hq id hid => ?_, rdis := List.pairwise_cons.2 ⟨fun q hq => .inr fun he => ?_, H.rdis⟩ }
    · rcases List.mem_cons.1 hq with rfl | hq
      · injection hid with hid; subst hid
        exact ⟨.inl H.len, by simp, rfl⟩
      · exact hn.row q hq id hid
    · have := lt_of_get (H.row q hq S.length he.symm).2.1
      omega
end Go.Pam
