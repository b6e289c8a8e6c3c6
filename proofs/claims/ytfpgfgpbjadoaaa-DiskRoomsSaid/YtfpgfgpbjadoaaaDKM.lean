/- A loop over a file's map that adds lengths: in whatever order. -/
import Derived.Test.YtfpgfgpbjadoaaaDK1
namespace Go.Proofs.Ytfpgfgpbjadoaaa.M
set_option linter.unusedVariables false
set_option linter.unusedSimpArgs false
open Go Go.Pam
set_option maxRecDepth 4000
abbrev pm2 : List POp := [⟨some 30, .extract (.tmp 29) 0, none, false⟩]
abbrev pm6 : List POp := [⟨some 31, .entry (.tmp 28), none, false⟩, ⟨some 32, .extract (.tmp 31) 1, none, false⟩, ⟨some 11, .assign (.tmp 32), none, false⟩]
abbrev pm7 : List POp := [⟨some 33, .move (.tmp 9), none, false⟩, ⟨some 34, .move (.tmp 11), none, false⟩, ⟨some 35, .call ⟨.builtin .len, #[.tmp 34], #[9]⟩, none, false⟩,
  ⟨some 36, .binOp .add 3 (.tmp 33) (.tmp 35) 3, none, false⟩, ⟨some 9, .assign (.tmp 36), none, false⟩]
abbrev kps : List Nat := [0, 1, 2, 7, 9]
abbrev KN (a0 a1 a2 a7 : PV) (ip : Nat) (x : Int) : List (Nat × PV) := [(0, a0), (1, a1), (2, a2), (7, a7), (28, .ptr ip 0), (9, .int .i64 x)]
section
variable {S S0 : List SObj} {R : List Nat} {C : List (Nat × SObj)} {A : List (PV × Nat)} {W : List (PV × SObj)}
/-- What is known of in front goes. -/
theorem killC {id : Nat} {o : SObj} (h : Hp S0 R S ((id, o) :: C) A W) : Hp S0 R (S.set id .dead) C A W := by
  have hg := Hp.get h 0 (id := id) (o := o) rfl
  have hm := h.cel (id, o) List.mem_cons_self
  have hm0 : o.kind = 0 := hm.2.2
  have nod := List.pairwise_cons.1 h.nod
  refine ⟨by simpa using h.len, fun j hj hr => ?_, fun p hp => ?_, nod.2, fun q hq => ⟨(h.app q hq).1.keep fun k hk => ?_, (h.app q hq).2⟩, h.dis, fun q hq k hk => ⟨(h.row q hq k hk).1, ?_, (h.row q hq k hk).2.2⟩, h.rdis⟩
  · rw [List.getElem?_set]
    split
    · rename_i he; subst he
      rcases hm.1 with h1 | h1
      · simp only at h1; omega
      · exact absurd h1 hr
    · exact h.old j hj hr
  · have hp' := h.cel p (List.mem_cons_of_mem _ hp)
    refine ⟨hp'.1, ?_, hp'.2.2⟩
    rw [List.getElem?_set, if_neg (nod.1 p hp)]
    exact hp'.2.1
  · obtain ⟨_, n, hn⟩ := (h.app q hq).1.lt hk
    rw [List.getElem?_set, if_neg]
    rintro rfl
    rw [hg] at hn; injection hn with hn; subst hn; simp [SObj.kind] at hm0
  · have hr := h.row q hq k hk
    rw [List.getElem?_set, if_neg]
    · exact hr.2.1
    · rintro rfl
      rw [hg] at hr
      have := hr.2.2
      have e := Option.some.inj hr.2.1
      rw [← e, hm0] at this; cases this
end
section
variable {S : List SObj} {mm : Mp Str} {ip id base : Nat} {seen : List Nat} {x : Int} {σ : Nat → PV} {e : Bool} {a0 a1 a2 a7 : PV}
theorem view_sum (hk : Known (KN a0 a1 a2 a7 ip x) σ) (hi : S[ip]? = some (.iter (some id) mm.length seen)) (hm : S[id]? = some (encM eS mm)) : mview 28 (σ, S, e) = some (ip, id, seen, encL eS mm) := by
  have h28 : σ 28 = .ptr ip 0 := hk (28, .ptr ip 0) (by simp)
  unfold mview
  simp only [h28, hi, hm, encM]
  rw [if_pos (by simp [encL])]
theorem round_sum (hk : Known (KN a0 a1 a2 a7 ip x) σ) (hi : S[ip]? = some (.iter (some id) mm.length seen)) (hm : S[id]? = some (encM eS mm)) (hne : ip ≠ id) {j : Nat} {k v : Str} (hj : mm[j]? = some (k, v)) :
    ∃ σ' e', mround env.ctx (evw env) ⟨61, base⟩ 28 29 pm2 (.tmp 30) pm6 pm7 mm.length seen j (σ, S, e) = some (σ', S.set ip (.iter (some id) mm.length (seen ++ [j])), e') ∧ Known (KN a0 a1 a2 a7 ip (ad .i64 x (Str.len v))) σ' := by
  have hlt : ip < S.length := (List.getElem?_eq_some_iff.1 hi).1
  have hi' : (S.set ip (.iter (some id) mm.length (seen ++ [j])))[ip]? = some (.iter (some id) mm.length (seen ++ [j])) := by rw [List.getElem?_set_self hlt]
  have hm' : (S.set ip (.iter (some id) mm.length (seen ++ [j])))[id]? = some (encM eS mm) := by rw [List.getElem?_set_ne hne]; exact hm
  generalize hS1 : S.set ip (.iter (some id) mm.length (seen ++ [j])) = S1 at hi' hm'
  have w2 : WO env ⟨61, base⟩ pm2 (upd σ (some 29) (.tup [.bool true, .str k, .str v])) S1 e (fun σ' S' e' => S' = S1 ∧ Known ((30, .bool true) :: KN a0 a1 a2 a7 ip x) σ') := by
    have hk' : Known ((29, .tup [.bool true, .str k, .str v]) :: KN a0 a1 a2 a7 ip x) (upd σ (some 29) (.tup [.bool true, .str k, .str v])) := by
      intro p hp
      simp only [KN, List.mem_cons, List.not_mem_nil, or_false] at hp
      rcases hp with rfl | rfl | rfl | rfl | rfl | rfl | rfl
      · rfl
      · exact hk (0, a0) (by simp)
      · exact hk (1, a1) (by simp)
      · exact hk (2, a2) (by simp)
      · exact hk (7, a7) (by simp)
      · exact hk (28, .ptr ip 0) (by simp)
      · exact hk (9, .int .i64 x) (by simp)
    refine WO.of_known hk' (us 1 rfl (WO.nil ⟨rfl, ?_⟩))
    exact known_cons rfl (known_cons rfl (known_cons rfl (known_cons rfl (known_cons rfl (known_cons rfl (known_cons rfl known_nil))))))
  obtain ⟨σ2, S2, e2, h2, rfl, hk2⟩ := w2
  have w6 : WO env ⟨61, base⟩ pm6 σ2 S2 e2 (fun σ' S' e' => S' = S2 ∧ Known ((11, .str v) :: KN a0 a1 a2 a7 ip x) σ') := by
    refine WO.of_known hk2 ?_
    refine WO.step (v := .tup [.str k, .str v]) (S' := S2) (e' := false) rfl (nz rfl ?_) (us 2 rfl (WO.nil ⟨rfl, ?_⟩))
    · have h28 : opd (Go.Pam.put ((30, .bool true) :: KN a0 a1 a2 a7 ip x) σ2) (.tmp 28) = .ptr ip 0 := rfl
      simp [stp, evStep, entryPV, h28, hi', hm', encM, encL, hj, eS]
    · exact known_cons rfl (known_cons rfl (known_cons rfl (known_cons rfl (known_cons rfl (known_cons rfl (known_cons rfl known_nil))))))
  obtain ⟨σ3, S3, e3, h3, rfl, hk3⟩ := w6
  have w7 : WO env ⟨61, base⟩ pm7 σ3 S3 e3 (fun σ' S' e' => S' = S3 ∧ Known (KN a0 a1 a2 a7 ip (ad .i64 x (Str.len v))) σ') := by
    refine WO.of_known hk3 (us 5 rfl (WO.nil ⟨rfl, ?_⟩))
    exact known_cons rfl (known_cons rfl (known_cons rfl (known_cons rfl (known_cons rfl (known_cons rfl known_nil)))))
  obtain ⟨σ4, S4, e4, h4, rfl, hk4⟩ := w7
  refine ⟨σ4, e4, ?_, hk4⟩
  have hc : opd σ2 (.tmp 30) = .bool true := hk2 (30, .bool true) (by simp)
  have hjj : (encL eS mm)[j]? = some (.str k, .str v) := by simp [encL, hj, eS]
  unfold mround
  rw [view_sum hk hi hm]
  simp only
  rw [if_pos ⟨trivial, by simp [encL], by decide⟩]
  simp only [hjj, hS1, h2, hc, h3, h4]
theorem fin_sum (hk : Known (KN a0 a1 a2 a7 ip x) σ) (hi : S[ip]? = some (.iter (some id) mm.length seen)) (hm : S[id]? = some (encM eS mm)) :
    ∃ σ' e', mfin env.ctx (evw env) ⟨61, base⟩ 28 29 pm2 (.tmp 30) mm.length seen (σ, S, e) = some (σ', S.set ip .dead, e') ∧ Known (KN a0 a1 a2 a7 ip x) σ' := by
  have w2 : WO env ⟨61, base⟩ pm2 (upd σ (some 29) (.tup [.bool false])) S e (fun σ' S' e' => S' = S ∧ Known ((30, .bool false) :: KN a0 a1 a2 a7 ip x) σ') := by
    have hk' : Known ((29, .tup [.bool false]) :: KN a0 a1 a2 a7 ip x) (upd σ (some 29) (.tup [.bool false])) := by
      intro p hp
      simp only [KN, List.mem_cons, List.not_mem_nil, or_false] at hp
      rcases hp with rfl | rfl | rfl | rfl | rfl | rfl | rfl
      · rfl
      · exact hk (0, a0) (by simp)
      · exact hk (1, a1) (by simp)
      · exact hk (2, a2) (by simp)
      · exact hk (7, a7) (by simp)
      · exact hk (28, .ptr ip 0) (by simp)
      · exact hk (9, .int .i64 x) (by simp)
    refine WO.of_known hk' (us 1 rfl (WO.nil ⟨rfl, ?_⟩))
    exact known_cons rfl (known_cons rfl (known_cons rfl (known_cons rfl (known_cons rfl (known_cons rfl (known_cons rfl known_nil))))))
  obtain ⟨σ2, S2, e2, h2, rfl, hk2⟩ := w2
  refine ⟨σ2, e2, ?_, fun p hp => hk2 p (List.mem_cons_of_mem _ hp)⟩
  have hc : opd σ2 (.tmp 30) = .bool false := hk2 (30, .bool false) (by simp)
  unfold mfin
  rw [view_sum hk hi hm]
  simp only
  rw [if_pos ⟨trivial, by simp [encL], by decide⟩]
  simp only [h2, hc, hi]
theorem ad_swap (x a b : Int) : ad .i64 (ad .i64 x a) b = ad .i64 (ad .i64 x b) a := by
  simp only [ad, IntKind.wrap, IntKind.signed, IntKind.bits]
  simp
  omega
theorem sum_all (hm : S[id]? = some (encM eS mm)) (hne : ip ≠ id) (hn : mm.length ≤ 2) (hk : Known (KN a0 a1 a2 a7 ip x) σ) (hi : S[ip]? = some (.iter (some id) mm.length [])) :
    ∃ σ' e', allM (mround env.ctx (evw env) ⟨61, base⟩ 28 29 pm2 (.tmp 30) pm6 pm7 mm.length) (mfin env.ctx (evw env) ⟨61, base⟩ 28 29 pm2 (.tmp 30) mm.length) kps mm.length (mm.length + 1) [] (σ, S, e) = some (σ', S.set ip .dead, e') ∧
      Known (KN a0 a1 a2 a7 ip (mm.foldl (fun x p => ad .i64 x (Str.len p.2)) x)) σ' := by
  have hlt : ip < S.length := (List.getElem?_eq_some_iff.1 hi).1
  -- one round more
  have rnd : ∀ {T : List SObj} {sn : List Nat} {σ : Nat → PV} {x : Int} {e : Bool} {j : Nat} {k v : Str}, Known (KN a0 a1 a2 a7 ip x) σ → T = S.set ip (.iter (some id) mm.length sn) → mm[j]? = some (k, v) →
      ∃ σ' e', mround env.ctx (evw env) ⟨61, base⟩ 28 29 pm2 (.tmp 30) pm6 pm7 mm.length sn j (σ, T, e) = some (σ', S.set ip (.iter (some id) mm.length (sn ++ [j])), e') ∧ Known (KN a0 a1 a2 a7 ip (ad .i64 x (Str.len v))) σ' := by
    rintro T sn σ x e j k v hk rfl hj
    obtain ⟨σ', e', h1, h2⟩ := round_sum (e := e) (base := base) hk (S := S.set ip (.iter (some id) mm.length sn)) (by rw [List.getElem?_set_self hlt]) (by rw [List.getElem?_set_ne hne]; exact hm) hne hj
    rw [List.set_set] at h1
    exact ⟨σ', e', h1, h2⟩
  have fin : ∀ {T : List SObj} {sn : List Nat} {σ : Nat → PV} {x : Int} {e : Bool}, Known (KN a0 a1 a2 a7 ip x) σ → T = S.set ip (.iter (some id) mm.length sn) →
      ∃ σ' e', mfin env.ctx (evw env) ⟨61, base⟩ 28 29 pm2 (.tmp 30) mm.length sn (σ, T, e) = some (σ', S.set ip .dead, e') ∧ Known (KN a0 a1 a2 a7 ip x) σ' := by
    rintro T sn σ x e hk rfl
    obtain ⟨σ', e', h1, h2⟩ := fin_sum (e := e) (base := base) hk (S := S.set ip (.iter (some id) mm.length sn)) (by rw [List.getElem?_set_self hlt]) (by rw [List.getElem?_set_ne hne]; exact hm)
    rw [List.set_set] at h1
    exact ⟨σ', e', h1, h2⟩
  have hS : S = S.set ip (.iter (some id) mm.length []) := by
    apply List.ext_getElem?
    intro q
    by_cases hq : q = ip
    · subst hq; rw [List.getElem?_set_self hlt]; exact hi
    · rw [List.getElem?_set_ne (Ne.symm hq)]
  rcases mm with _ | ⟨⟨k, v⟩, _ | ⟨⟨k', v'⟩, _ | ⟨p, l⟩⟩⟩
  · obtain ⟨σ', e', h1, h2⟩ := fin (e := e) hk hS
    exact ⟨σ', e', by simp only [allM]; exact h1, h2⟩
  · obtain ⟨σ1, e1, h1, q1⟩ := rnd (e := e) (j := 0) (k := k) (v := v) hk hS rfl
    obtain ⟨σ2, e2, h2, q2⟩ := fin (e := e1) q1 rfl
    refine ⟨σ2, e2, ?_, q2⟩
    have f0 : (List.range [(k, v)].length).filter (fun j => !([] : List Nat).contains j) = [0] := rfl
    have f1 : (List.range [(k, v)].length).filter (fun j => !([] ++ [0] : List Nat).contains j) = [] := rfl
    have g1 : allM (mround env.ctx (evw env) ⟨61, base⟩ 28 29 pm2 (.tmp 30) pm6 pm7 [(k, v)].length) (mfin env.ctx (evw env) ⟨61, base⟩ 28 29 pm2 (.tmp 30) [(k, v)].length) kps [(k, v)].length [(k, v)].length ([] ++ [0]) (σ1, S.set ip (.iter (some id) [(k, v)].length ([] ++ [0])), e1) = some (σ2, S.set ip .dead, e2) := by
      show allM _ _ _ _ (0 + 1) _ _ = _
      simp only [allM, f1]; exact h2
    simp only [allM, f0, h1, Option.bind_some, g1]
    simp only [List.all_nil, if_true]
  · obtain ⟨σ1, e1, h1, q1⟩ := rnd (e := e) (j := 0) (k := k) (v := v) hk hS rfl
    obtain ⟨σ2, e2, h2, q2⟩ := rnd (sn := [] ++ [0]) (e := e1) (j := 1) (k := k') (v := v') q1 rfl rfl
    obtain ⟨σ3, e3, h3, q3⟩ := fin (sn := [] ++ [0] ++ [1]) (e := e2) q2 rfl
    obtain ⟨σ4, e4, h4, q4⟩ := rnd (e := e) (j := 1) (k := k') (v := v') hk hS rfl
    obtain ⟨σ5, e5, h5, q5⟩ := rnd (sn := [] ++ [1]) (e := e4) (j := 0) (k := k) (v := v) q4 rfl rfl
    obtain ⟨σ6, e6, h6, q6⟩ := fin (sn := [] ++ [1] ++ [0]) (e := e5) q5 rfl
    refine ⟨σ3, e3, ?_, q3⟩
    have f0 : (List.range [(k, v), (k', v')].length).filter (fun j => !([] : List Nat).contains j) = [0, 1] := rfl
    have f1 : (List.range [(k, v), (k', v')].length).filter (fun j => !([] ++ [0] : List Nat).contains j) = [1] := rfl
    have f2 : (List.range [(k, v), (k', v')].length).filter (fun j => !([] ++ [1] : List Nat).contains j) = [0] := rfl
    have f3 : (List.range [(k, v), (k', v')].length).filter (fun j => !([] ++ [0] ++ [1] : List Nat).contains j) = [] := rfl
    have f4 : (List.range [(k, v), (k', v')].length).filter (fun j => !([] ++ [1] ++ [0] : List Nat).contains j) = [] := rfl
    have step2 : ∀ {sn : List Nat} {j : Nat} {σ τ ρ : Nat → PV} {e f h : Bool} {T U : List SObj}, (List.range [(k, v), (k', v')].length).filter (fun j => !sn.contains j) = [j] → (List.range [(k, v), (k', v')].length).filter (fun i => !(sn ++ [j]).contains i) = [] →
        mround env.ctx (evw env) ⟨61, base⟩ 28 29 pm2 (.tmp 30) pm6 pm7 [(k, v), (k', v')].length sn j (σ, T, e) = some (τ, U, f) → mfin env.ctx (evw env) ⟨61, base⟩ 28 29 pm2 (.tmp 30) [(k, v), (k', v')].length (sn ++ [j]) (τ, U, f) = some (ρ, S.set ip .dead, h) →
        allM (mround env.ctx (evw env) ⟨61, base⟩ 28 29 pm2 (.tmp 30) pm6 pm7 [(k, v), (k', v')].length) (mfin env.ctx (evw env) ⟨61, base⟩ 28 29 pm2 (.tmp 30) [(k, v), (k', v')].length) kps [(k, v), (k', v')].length (0 + 1 + 1) sn (σ, T, e) = some (ρ, S.set ip .dead, h) := by
      intro sn j σ τ ρ e f h T U c1 c2 c3 c4
      have g1 : allM (mround env.ctx (evw env) ⟨61, base⟩ 28 29 pm2 (.tmp 30) pm6 pm7 [(k, v), (k', v')].length) (mfin env.ctx (evw env) ⟨61, base⟩ 28 29 pm2 (.tmp 30) [(k, v), (k', v')].length) kps [(k, v), (k', v')].length (0 + 1) (sn ++ [j]) (τ, U, f) = some (ρ, S.set ip .dead, h) := by
        simp only [allM, c2]; exact c4
      rw [allM]
      simp only [c1, c3, Option.bind_some, g1]
      simp only [List.all_nil, if_true]
    have g1 := step2 f1 f3 h2 h3
    have g2 := step2 f2 f4 h5 h6
    show allM _ _ _ _ (0 + 1 + 1 + 1) _ _ = _
    rw [allM]
    simp only [f0, h1, Option.bind_some, g1]
    rw [if_pos]
    simp only [List.all_cons, List.all_nil, Bool.and_true]
    rw [h4, Option.bind_some, g2]
    simp only [agree, sameSt, Bool.and_eq_true, List.all_eq_true]
    refine ⟨sameS_refl _, fun t ht => ?_⟩
    have : σ6 t = σ3 t := by
      simp only [List.mem_cons, List.not_mem_nil, or_false] at ht
      rcases ht with rfl | rfl | rfl | rfl | rfl
      · exact (q6 (0, a0) (by simp)).trans (q3 (0, a0) (by simp)).symm
      · exact (q6 (1, a1) (by simp)).trans (q3 (1, a1) (by simp)).symm
      · exact (q6 (2, a2) (by simp)).trans (q3 (2, a2) (by simp)).symm
      · exact (q6 (7, a7) (by simp)).trans (q3 (7, a7) (by simp)).symm
      · have z6 := q6 (9, _) (by simp; rfl)
        have z3 := q3 (9, _) (by simp; rfl)
        rw [z6, z3, ad_swap]
    rw [this]
    exact PV.same_refl _
  · simp at hn
/-- The loop. -/
theorem WC.sum {K : KX} (hm : S[id]? = some (encM eS mm)) (hne : ip ≠ id) (hn : mm.length ≤ 2) (hk : Known (KN a0 a1 a2 a7 ip x) σ) (hi : S[ip]? = some (.iter (some id) mm.length []))
    (h : ∀ σ', Known [(0, a0), (1, a1), (2, a2), (7, a7), (9, .int .i64 (mm.foldl (fun x p => ad .i64 x (Str.len p.2)) x))] σ' → K .normal σ' (S.set ip .dead) true) : WC env ⟨61, base⟩ (.mloop 28 29 pm2 (.tmp 30) kps pm6 pm7) σ S e K := by
  obtain ⟨σ', e', h1, h2⟩ := sum_all (e := e) (base := base) hm hne hn hk hi
  have hl : (encL eS mm).length = mm.length := by simp [encL]
  refine ⟨.normal, _, _, _, ?_, h (normM kps (σ', S.set ip .dead, e')).1 ?_⟩
  · simp only [codeW, view_sum hk hi hm, hl, h1]
    rfl
  · exact known_cons (h2 (0, a0) (by simp)) (known_cons (h2 (1, a1) (by simp)) (known_cons (h2 (2, a2) (by simp)) (known_cons (h2 (7, a7) (by simp)) (known_cons (h2 (9, _) (by simp)) known_nil))))
end
end Go.Proofs.Ytfpgfgpbjadoaaa.M
