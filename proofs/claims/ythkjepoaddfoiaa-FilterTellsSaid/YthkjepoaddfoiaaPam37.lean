/- strings.Builder: the rules. -/
import Derived.Test.YthkjepoaddfoiaaPam36
namespace Go.Pam
set_option linter.unusedSimpArgs false
set_option linter.unusedVariables false
variable {env : Env} {fr : Fr} {σ : Nat → PV} {S : List SObj} {S0 : List SObj} {R : List Nat} {C : List (Nat × SObj)} {A : List (PV × Nat)} {W : List (PV × SObj)}

def bdO (T : TypeId) : PV → SObj
  | .poison => .bld T false none
  | .rsl j n => .bld T true (some (j, n))
  | _ => .bld T true none
def IsBd (x : Str) (p : PV) : Prop := (p = .poison ∧ x = []) ∨ (p = .nils ∧ x = []) ∨ ∃ j, p = .rsl j x.length ∧ x ≠ []
def Str.put? (x ys : Str) : Option Str := if x.length + ys.length ≤ 140737488355328 then some (x ++ ys) else none
def Str.byte? (x : Str) (c : Int) : Option Str := if 0 ≤ c ∧ c < 256 then Str.put? x [UInt8.ofNat c.toNat] else none

theorem isBd_new : IsBd [] .poison := .inl ⟨rfl, rfl⟩
theorem bdO_kind {T : TypeId} {p : PV} : (bdO T p).kind = 0 := by unfold bdO; split <;> rfl

theorem Hp.pushB (h : Hp S0 R S C A W) (T t : TypeId) : Hp S0 R (S ++ [.bld T false none]) (C ++ [(S.length, bdO T .poison)]) A ((.poison, .buf [] t) :: W) := by
  have hn := h.more (.bld T false none)
  have h2 : Hp S0 R (S ++ [.bld T false none]) (C ++ [(S.length, bdO T .poison)]) A W := by
    refine ⟨hn.len, hn.old, fun p hp => ?_, List.pairwise_append.2 ⟨h.nod, List.pairwise_singleton _ _, fun p hp q hq => ?_⟩, hn.app, hn.dis, hn.row, hn.rdis⟩
    · rcases List.mem_append.1 hp with hp | hp
      · exact hn.cel p hp
      · rw [List.mem_singleton] at hp; subst hp; exact ⟨.inl h.len, by simp [bdO], rfl⟩
    · rw [List.mem_singleton] at hq; subst hq
      have := lt_of_get (h.cel p hp).2.1; simp; omega
  exact h2.addNoW .poison (.buf [] t) rfl

theorem born_bd {T t : TypeId} {ti : TyI} {fs : Array Field} (H : Hp S0 R S C A W) (ht : env.ctx.ty T = some ti) (hu : ti.und = .struct fs) (hz : PV.same ti.zero (.agg [.nilp, .nils]) = true) :
    ∃ S' i, birthPV env.ctx σ S (.alloc T) = some (.ptr i 0, S') ∧ S0.length ≤ i ∧ Hp S0 R S' (C ++ [(i, bdO T .poison)]) A ((.poison, .buf [] t) :: W) :=
  ⟨_, _, by simp only [birthPV, ht, hu, hz, if_true], H.len, H.pushB T t⟩

theorem WO.bdNew {T : TypeId} (t : TypeId) {ti : TyI} {fs : Array Field} {d : Option Nat} {rest : List POp} {e : Bool} {K : KS} (hd : dstOk fr.ntmps d = true) (H : Hp S0 R S C A W) (ht : env.ctx.ty T = some ti) (hu : ti.und = .struct fs) (hz : PV.same ti.zero (.agg [.nilp, .nils]) = true)
    (h : ∀ i S', S0.length ≤ i → Hp S0 R S' (C ++ [(i, bdO T .poison)]) A ((.poison, .buf [] t) :: W) → WO env fr rest (upd σ d (.ptr i 0)) S' (e || false) K) : WO env fr (⟨d, .alloc T, none, true⟩ :: rest) σ S e K := by
  obtain ⟨S', i, h1, h2, h3⟩ := born_bd (env := env) (σ := σ) (t := t) H ht hu hz
  exact WO.step hd (bz rfl h1) (h i S' h2 h3)

theorem Hp.putW (h : Hp S0 R S C A W) (k : Nat) {v : PV} {o : SObj} (hk : W[k]? = some (v, o)) (n : Nat) (o' : SObj) (hkd : o'.kind = 1) : Hp S0 R (S ++ [o']) C A (W.set k (.rsl S.length n, o')) := by
  have hn := h.more o'
  refine ⟨hn.len, hn.old, hn.cel, hn.nod, hn.app, hn.dis, fun q hq id hid => ?_, pw_opt h.rdis (x := (PV.rsl S.length n, o')) fun m hm j q hne hj he => ?_⟩
  · rcases mem_set_of hq with rfl | ⟨j, hne, hj⟩
    · injection hid with hid; subst hid
      exact ⟨.inl h.len, by simp, hkd⟩
    · exact hn.row q (List.mem_of_getElem? hj) id hid
  · injection hm with hm; subst hm
    have := lt_of_get (h.row q (List.mem_of_getElem? hj) _ he).2.1
    omega

theorem Hp.dropW (h : Hp S0 R S C A W) (k : Nat) {v : PV} {o : SObj} {id : Nat} (hk : W[k]? = some (v, o)) (hv : rowAt v = some id) : Hp S0 R (S.set id .dead) C A (W.eraseIdx k) := by
  obtain ⟨hm, hg, hm1⟩ := h.row _ (List.mem_of_getElem? hk) id hv
  have hm1 : o.kind = 1 := hm1
  have hdis := rows_dis h hk hv
  refine ⟨by simpa using h.len, fun i hi hr => ?_, fun p hp => ⟨(h.cel p hp).1, ?_, (h.cel p hp).2.2⟩, h.nod, fun q hq => ⟨(h.app q hq).1.keep fun j hj => ?_, (h.app q hq).2⟩, h.dis, fun q hq j hj => ?_, h.rdis.sublist (List.eraseIdx_sublist ..)⟩
  · have : id ≠ i := by
      rintro rfl
      rcases hm with h1 | h1
      · omega
      · exact hr h1
    rw [List.getElem?_set, if_neg this]; exact h.old i hi hr
  · obtain ⟨_, hc, hck⟩ := h.cel p hp
    have : id ≠ p.1 := by rintro rfl; rw [hc] at hg; injection hg with hg; rw [hg] at hck; omega
    rw [List.getElem?_set, if_neg this]; exact hc
  · obtain ⟨_, n, hn⟩ := (h.app q hq).1.lt hj
    have : id ≠ j := by rintro rfl; rw [hn] at hg; injection hg with hg; subst hg; cases hm1
    rw [List.getElem?_set, if_neg this]
  · obtain ⟨i, hi⟩ := List.getElem?_of_mem hq
    rw [List.getElem?_eraseIdx] at hi
    have hk' : ∃ i', i' ≠ k ∧ W[i']? = some q := by
      split at hi
      · exact ⟨i, by omega, hi⟩
      · exact ⟨i + 1, by omega, hi⟩
    obtain ⟨i', hne, hi'⟩ := hk'
    obtain ⟨h1, h2, h3⟩ := h.row q (List.mem_of_getElem? hi') j hj
    refine ⟨h1, ?_, h3⟩
    have : id ≠ j := by rintro rfl; exact hdis i' q hne hi' hj
    rw [List.getElem?_set, if_neg this]; exact h2

theorem bd_wr (H : Hp S0 R S C A W) (c k : Nat) {i : Nat} {T t : TypeId} {p : PV} {x ys z : Str} (hC : C[c]? = some (i, bdO T p)) (hW : W[k]? = some (p, .buf x t)) (hp : IsBd x p) (hz : Str.put? x ys = some z) (r : PV) :
    ∃ p' S', wrCore T t i ys r S = some (r, S', true) ∧ IsBd z p' ∧ Hp S0 R S' (C.set c (i, bdO T p')) A (W.set k (p', .buf z t)) := by
  have hg := H.get c hC
  unfold Str.put? at hz
  split at hz
  case isFalse => cases hz
  rename_i hle
  injection hz with hz
  have first : (p = .poison ∨ p = .nils) → x = [] → ∃ p' S', wrCore T t i ys r S = some (r, S', true) ∧ IsBd z p' ∧ Hp S0 R S' (C.set c (i, bdO T p')) A (W.set k (p', .buf z t)) := by
    intro hpn hx
    subst hx
    simp only [List.nil_append] at hz
    subst hz
    have hr0 : rowAt p = none := by rcases hpn with rfl | rfl <;> rfl
    have hb : ∃ u, bdO T p = .bld T u none := by rcases hpn with rfl | rfl <;> exact ⟨_, rfl⟩
    obtain ⟨u, hb⟩ := hb
    rw [hb] at hg
    by_cases hy : ys = []
    · subst hy
      refine ⟨.nils, S.set i (.bld T true none), by unfold wrCore; rw [hg]; simp, .inr (.inl ⟨rfl, rfl⟩), ?_⟩
      have h1 := H.setO c hC (bdO T .nils) rfl
      have h2 : Hp S0 R (S.set i (bdO T .nils)) (C.set c (i, bdO T .nils)) A (W.set k (.nils, .buf [] t)) := by
        refine { h1 with row := fun q hq id hid => ?_, rdis := pw_opt h1.rdis (x := (PV.nils, SObj.buf [] t)) fun n hn => by cases hn }
        rcases mem_set_of hq with rfl | ⟨j, hne, hj⟩
        · cases hid
        · exact h1.row q (List.mem_of_getElem? hj) id hid
      exact h2
    · refine ⟨.rsl S.length ys.length, S.set i (.bld T true (some (S.length, ys.length))) ++ [.buf ys t], ?_, .inr (.inr ⟨_, rfl, hy⟩), ?_⟩
      · unfold wrCore; rw [hg]; simp only [if_true, hy, if_false]; rw [if_pos (by simpa using hle)]
      · have h1 := (H.setO c hC (bdO T (.rsl S.length ys.length)) rfl).putW k hW ys.length (.buf ys t) rfl
        rw [List.length_set] at h1
        exact h1
  rcases hp with ⟨rfl, hx⟩ | ⟨rfl, hx⟩ | ⟨j, rfl, hx⟩
  · exact first (.inl rfl) hx
  · exact first (.inr rfl) hx
  · have hj := H.getW k hW rfl
    subst hz
    refine ⟨.rsl S.length (x ++ ys).length, (S.set j .dead).set i (.bld T true (some (S.length, (x ++ ys).length))) ++ [.buf (x ++ ys) t], ?_, .inr (.inr ⟨_, rfl, by simp [hx]⟩), ?_⟩
    · unfold wrCore; rw [hg]; simp only [bdO, if_true, hj]; rw [if_pos ⟨trivial, trivial, hle⟩]
    · have h1 := H.growW k hW rfl (x ++ ys).length (.buf (x ++ ys) t) rfl
      have h2 := h1.setO c hC (bdO T (.rsl S.length (x ++ ys).length)) rfl
      have hi : i < (S.set j .dead).length := by rw [List.length_set]; exact lt_of_get hg
      rw [List.set_append_left _ _ hi] at h2
      exact h2

theorem bd_st (H : Hp S0 R S C A W) (c k : Nat) {i : Nat} {T t : TypeId} {p : PV} {x : Str} (hC : C[c]? = some (i, bdO T p)) (hW : W[k]? = some (p, .buf x t)) (hp : IsBd x p) :
    ∃ S', stH T t [.ptr i 0] S = some (.str x, S', false) ∧ Hp S0 R S' (C.eraseIdx c) A (W.eraseIdx k) := by
  have hg := H.get c hC
  rcases hp with ⟨rfl, rfl⟩ | ⟨rfl, rfl⟩ | ⟨j, rfl, hx⟩
  · exact ⟨S, by simp only [stH, hg, bdO, if_true], H.sub (List.eraseIdx_sublist ..) (List.Sublist.refl _) (List.eraseIdx_sublist ..)⟩
  · exact ⟨S, by simp only [stH, hg, bdO, if_true], H.sub (List.eraseIdx_sublist ..) (List.Sublist.refl _) (List.eraseIdx_sublist ..)⟩
  · have hj := H.getW k hW rfl
    refine ⟨S.set j .dead, by simp only [stH, hg, bdO, if_true, hj, and_self], (H.dropW k hW rfl).sub (List.eraseIdx_sublist ..) (List.Sublist.refl _) (List.Sublist.refl _)⟩

variable {hist : List (List SObj)} {pend : List (TypeId × PV × PV)} {rest : List POp} {d : Option Nat} {e : Bool} {K : KS}

theorem call_bdB (c k : Nat) {f : FuncId} {op : Operand} {args : Array Operand} {ts : Array TypeId} {i : Nat} {T t : TypeId} {p : PV} {x z : Str} {n : Int}
    (hf : opd σ op = .fn (.func f) [] []) (ha : args.toList.map (opd σ) ++ [] = [.ptr i 0, .int .u8 n]) (hz : frzT (frzArgs env.ctx σ (.call ⟨.value op, args, ts⟩)) σ S = (σ, S)) (H : Hp S0 R S C A W)
    (hi : env.intr f = some (wbH T t)) (hC : C[c]? = some (i, bdO T p)) (hW : W[k]? = some (p, .buf x t)) (hp : IsBd x p) (hq : Str.byte? x n = some z) :
    ∃ p' S', stF env fr σ S ⟨d, .call ⟨.value op, args, ts⟩, none, false⟩ = some (.nili, S', true) ∧ IsBd z p' ∧ Hp S0 R S' (C.set c (i, bdO T p')) A (W.set k (p', .buf z t)) := by
  unfold Str.byte? at hq
  split at hq
  case isFalse => cases hq
  rename_i hn
  obtain ⟨p', S', h1, h2, h3⟩ := bd_wr H c k hC hW hp hq .nili
  exact ⟨p', S', nz hz (stp_call hf ha (evw_intr hi (by simp only [wbH, if_pos hn]; exact h1))), h2, h3⟩

theorem call_bdS (c k : Nat) {f : FuncId} {op : Operand} {args : Array Operand} {ts : Array TypeId} {i : Nat} {T t : TypeId} {p : PV} {x z s : Str}
    (hf : opd σ op = .fn (.func f) [] []) (ha : args.toList.map (opd σ) ++ [] = [.ptr i 0, .str s]) (hz : frzT (frzArgs env.ctx σ (.call ⟨.value op, args, ts⟩)) σ S = (σ, S)) (H : Hp S0 R S C A W)
    (hi : env.intr f = some (wsH T t)) (hC : C[c]? = some (i, bdO T p)) (hW : W[k]? = some (p, .buf x t)) (hp : IsBd x p) (hq : Str.put? x s = some z) :
    ∃ p' S', stF env fr σ S ⟨d, .call ⟨.value op, args, ts⟩, none, false⟩ = some (.tup [.int .i64 (Str.len s), .nili], S', true) ∧ IsBd z p' ∧ Hp S0 R S' (C.set c (i, bdO T p')) A (W.set k (p', .buf z t)) := by
  obtain ⟨p', S', h1, h2, h3⟩ := bd_wr H c k hC hW hp hq (.tup [.int .i64 (Str.len s), .nili])
  exact ⟨p', S', nz hz (stp_call hf ha (evw_intr hi (by simp only [wsH]; exact h1))), h2, h3⟩

theorem call_bdT (c k : Nat) {f : FuncId} {op : Operand} {args : Array Operand} {ts : Array TypeId} {i : Nat} {T t : TypeId} {p : PV} {x : Str}
    (hf : opd σ op = .fn (.func f) [] []) (ha : args.toList.map (opd σ) ++ [] = [.ptr i 0]) (hz : frzT (frzArgs env.ctx σ (.call ⟨.value op, args, ts⟩)) σ S = (σ, S)) (H : Hp S0 R S C A W)
    (hi : env.intr f = some (stH T t)) (hC : C[c]? = some (i, bdO T p)) (hW : W[k]? = some (p, .buf x t)) (hp : IsBd x p) :
    ∃ S', stF env fr σ S ⟨d, .call ⟨.value op, args, ts⟩, none, false⟩ = some (.str x, S', false) ∧ Hp S0 R S' (C.eraseIdx c) A (W.eraseIdx k) := by
  obtain ⟨S', h1, h2⟩ := bd_st H c k hC hW hp
  exact ⟨S', nz hz (stp_call hf ha (evw_intr hi h1)), h2⟩

theorem WO.bdW {op : Op} {v : PV} {P : PV → List SObj → Prop} (hd : dstOk fr.ntmps d = true) (hs : ∃ p' S', stF env fr σ S ⟨d, op, none, false⟩ = some (v, S', true) ∧ P p' S')
    (h : ∀ p' S', P p' S' → WO env fr rest (upd σ d v) S' (e || true) K) : WO env fr (⟨d, op, none, false⟩ :: rest) σ S e K := by
  obtain ⟨p', S', h1, h2⟩ := hs
  exact WO.step hd h1 (h p' S' h2)
theorem WK.bdW {op : Op} {v : PV} {P : PV → List SObj → Prop} (hd : dstOk fr.ntmps d = true) (hs : ∃ p' S', stF env fr σ S ⟨d, op, none, false⟩ = some (v, S', true) ∧ P p' S') (hc : chained ⟨d, op, none, false⟩ = true)
    (h : ∀ p' S', P p' S' → PendOk env.ctx pend S' ∧ WK env fr rest (S :: hist) pend (upd σ d v) S' (e || true) K) : WK env fr (⟨d, op, none, false⟩ :: rest) hist pend σ S e K := by
  obtain ⟨p', S', h1, h2⟩ := hs
  exact WK.turn hd h1 hc (h p' S' h2)
theorem WO.bdT {op : Op} {v : PV} {P : List SObj → Prop} (hd : dstOk fr.ntmps d = true) (hs : ∃ S', stF env fr σ S ⟨d, op, none, false⟩ = some (v, S', false) ∧ P S')
    (h : ∀ S', P S' → WO env fr rest (upd σ d v) S' (e || false) K) : WO env fr (⟨d, op, none, false⟩ :: rest) σ S e K := by
  obtain ⟨S', h1, h2⟩ := hs
  exact WO.step hd h1 (h S' h2)
theorem WK.bdT {op : Op} {v : PV} {P : List SObj → Prop} (hd : dstOk fr.ntmps d = true) (hs : ∃ S', stF env fr σ S ⟨d, op, none, false⟩ = some (v, S', false) ∧ P S') (hc : chained ⟨d, op, none, false⟩ = true)
    (h : ∀ S', P S' → PendOk env.ctx pend S' ∧ WK env fr rest (S :: hist) pend (upd σ d v) S' (e || false) K) : WK env fr (⟨d, op, none, false⟩ :: rest) hist pend σ S e K := by
  obtain ⟨S', h1, h2⟩ := hs
  exact WK.turn hd h1 hc (h S' h2)
end Go.Pam
namespace Go.Pam
variable {env : Env} {fr : Fr} {σ : Nat → PV} {S : List SObj} {S0 : List SObj} {R : List Nat} {C : List (Nat × SObj)} {A : List (PV × Nat)} {W : List (PV × SObj)}
theorem stp_idxAgg {α : Type} {f : α → PV} {xs : List α} {a i : Operand} {t e : TypeId} {n : Nat} {k : IntKind} {m : Int} {y : α} (ho : opd σ a = .agg (xs.map f)) (hi : opd σ i = .int k m) (ht : (env.ctx.ty t).map (·.und) = some (.array n e)) (hn : n = xs.length)
    (he : (env.ctx.ty e).map (fun ei => (ei.size, ei.agg)) = some (1, false)) (hy : Sl.at? (some xs) m = some y) : stp env fr σ S (.index t a i) = some (f y, S, false) := by
  cases hti : env.ctx.ty t with
  | none => rw [hti] at ht; cases ht
  | some ti =>
    rw [hti] at ht
    have hu : ti.und = .array n e := by simpa using ht
    cases hei : env.ctx.ty e with
    | none => rw [hei] at he; cases he
    | some ei =>
      rw [hei] at he
      simp only [Option.map_some, Option.some.injEq, Prod.mk.injEq] at he
      unfold Sl.at? at hy
      split at hy
      case isFalse => cases hy
      rename_i h0
      rw [Sl.l_some] at hy
      have hlt := (List.getElem?_eq_some_iff.1 hy).1
      simp only [stp, evStep, hi, ho, indexPV, hti, hu, hei]
      rw [if_pos ⟨h0, by omega⟩]
      simp only [partOf, hei, he.1, he.2, Bool.false_eq_true, if_false, Nat.mul_one, List.getElem?_map, hy, Option.map_some]

theorem leave_ro {S' : List SObj} {id : Nat} {v v' : PV} {c0 : List PV} (h0 : S0[id]? = some (.cells c0)) (H : Hp S0 [id] S' C A W) (j : Nat) (hj : C[j]? = some (id, .cells c0)) (hv : v.strip = v') (hc : v'.clean = true) :
    leave S0.length v S' false = (v', S0, false) := by
  rw [leave_hp h0 H j hj hv hc, set_same h0]
end Go.Pam
