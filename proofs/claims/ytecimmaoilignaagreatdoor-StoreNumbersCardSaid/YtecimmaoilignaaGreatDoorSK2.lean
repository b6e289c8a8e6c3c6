/- The disk's functions walked: write, Append, Put. -/
import Derived.Test.YtecimmaoilignaaGreatDoorSK1
namespace Go.Proofs.YtecimmaoilignaaGreatDoor.M.L
set_option linter.unusedVariables false
set_option linter.unusedSimpArgs false
open Go Go.Pam
set_option maxRecDepth 4000
section
variable {S S0 : List SObj} {R : List Nat} {C : List (Nat × SObj)} {A : List (PV × Nat)} {W : List (PV × SObj)} {i j1 j2 : Nat} {v : PV} {o : SObj} {d d' : Dsk}
/-- One more that is pending. -/
theorem app_dk {σ : Nat → PV} {a b : Operand} {y : DOp} {w : PV} (hp : IsP d.pend v o) (H : Hp S0 R S C A ((v, o) :: W)) (ho : opd σ a = v) (hb : opd σ b = w) (hw : IsSl eOp (some [y]) w) (hl : d.pend.length ≤ 1000000) :
    ∃ v' S', birthPV env.ctx σ S (.call ⟨.builtin .append, #[a, b], #[56, 56]⟩) = some (v', S') ∧ (∃ o', IsP (d.pend ++ [y]) v' o' ∧ Hp S0 R S' C A ((v', o') :: W)) ∧ (v'.storable, v'.cells, v'.clean, v'.strip) = (true, [v'], false, v') := by
  have fin : ∀ {x : List DOp} {v' : PV} {S' : List SObj}, IsW (some (x ++ [y])) v' → Hp S0 R S' C A ((v', rowO eOp 3 false (some (x ++ [y]))) :: W) →
      (∃ o', IsP (x ++ [y]) v' o' ∧ Hp S0 R S' C A ((v', o') :: W)) ∧ (v'.storable, v'.cells, v'.clean, v'.strip) = (true, [v'], false, v') := fun {x v' S'} h1 h2 => by
    rcases h1 with ⟨rfl, h1⟩ | ⟨id, rfl⟩
    · simp at h1
    · refine ⟨⟨_, .row id ((x ++ [y]).map eOp) (by simp), h2⟩, rfl⟩
  have hz : ∀ x : Sl DOp, x.l.length ≤ 1000000 → Sl.app? 40 x (Sl.l (some [y])) = some (some (x.l ++ [y])) := fun x hx => Sl.app?_ok (by rw [Sl.l_some]; simp) (by rw [Sl.l_some]; show (x.l.length + 1) * 40 ≤ 2 ^ 47; omega)
  cases hp with
  | nil o h =>
    have H1 := (H.sub (C' := C) (A' := A) (W' := W) (List.Sublist.refl _) (List.Sublist.refl _) (List.sublist_cons_self _ _)).addNoW .nils (rowO eOp 3 false none) rfl
    obtain ⟨v', S', h1, h2, h3⟩ := born_app (env := env) (σ := σ) (x := (none : Sl DOp)) (ei := ty164) (e := 164) H1 0 (a := a) (b := b) (t := 56) (u := 56) rfl ho rfl hb hw rfl rfl rfl rfl (fun _ => rfl) (hz none (by simp [Sl.l]))
    rw [h]
    exact ⟨v', S', h1, fin (x := []) h2 h3⟩
  | row r xs h =>
    have hle : d.pend.length ≤ xs.length := by rw [← h]; simp
    have ht : xs.take d.pend.length = d.pend.map eOp := by rw [← h]; exact List.take_left' (by simp)
    by_cases heq : d.pend.length = xs.length
    · have hx : xs = d.pend.map eOp := by rw [← ht, heq, List.take_length]
      subst hx
      obtain ⟨v', S', h1, h2, h3⟩ := born_app (env := env) (σ := σ) (x := (some d.pend : Sl DOp)) (ei := ty164) (e := 164) H 0 (a := a) (b := b) (t := 56) (u := 56) rfl ho (.inr ⟨r, by simp⟩) hb hw rfl rfl rfl rfl (fun _ => rfl) (hz (some d.pend) hl)
      exact ⟨v', S', h1, fin h2 h3⟩
    · have hg := H.getW 0 (v := .rsl r d.pend.length) rfl (id := r) rfl
      have H1 := H.setW 0 (v := .rsl r d.pend.length) rfl (id := r) rfl (.row (d.pend.map eOp) 3 false) rfl
      obtain ⟨v', S', h1, h2, h3⟩ := born_app (env := env) (σ := σ) (x := (some d.pend : Sl DOp)) (ei := ty164) (e := 164) H1 0 (a := a) (b := b) (t := 56) (u := 56) rfl ho (.inr ⟨r, by simp⟩) hb hw rfl rfl rfl rfl (fun _ => rfl) (hz (some d.pend) hl)
      refine ⟨v', S', ?_, fin h2 h3⟩
      rw [← h1]
      have hlt := (List.getElem?_eq_some_iff.1 hg).1
      have e1 : truncS (.rsl r d.pend.length) S = S.set r (.row (d.pend.map eOp) 3 false) := by
        simp only [truncS, hg]
        rw [if_pos (by omega), ht]
      have e2 : truncS (.rsl r d.pend.length) (S.set r (.row (d.pend.map eOp) 3 false)) = S.set r (.row (d.pend.map eOp) 3 false) := by
        simp only [truncS, List.getElem?_set_self hlt]
        rw [if_neg (by simp)]
      simp only [birthPV, List.map_cons, List.map_nil, ho, e1, e2]
def Dsk.total (d : Dsk) (n b : Str) : Int := match d.now with
  | [] => sb .i64 (Str.len b) (Str.len ((Mp.get? d.now n).getD []))
  | p :: _ => ad .i64 (sb .i64 (Str.len b) (Str.len ((Mp.get? d.now n).getD []))) (Str.len p.2)
def Dsk.write (d : Dsk) (n b : Str) (y : DOp) : Dsk × Int :=
  if d.left == 0 then (d, 22) else if decide (d.total n b > d.room) then (d, 21) else (({ d with now := Mp.put d.now n b, pend := d.pend ++ [y] } : Dsk).step, 0)
theorem write_dk {n b : Str} {y : DOp} (hp : IsP d.pend v o) (H : DH S0 R S i j1 j2 v o d C A W) (hl : d.pend.length ≤ 1000000) (hn : d.now.length ≤ 1) :
    DR 93 [.ptr i 0, .str n, .str b, eOp y] (.int .i64 (d.write n b y).2) S0 R S i j1 j2 v (d.write n b y).1 C A W := by
  have hlt : i < S.length := H.ltC (i, SObj.cells (dcell j1 j2 v d)) (by simp)
  refine DR.of (pf := fn93) rfl rfl rfl rfl rfl H (WB.of (pf := fn93) rfl ?_)
  refine WC.seqR (Wb (v := eOp y) (cs := [.str y.name, .str y.b, .bool y.put]) H rfl fun ib S1 _ H => ?_)
  refine us 1 rfl (WO.nil ?_)
  refine WC.seq (WC.seqR (us 1 rfl ?_))
  refine WO.step (v := .bool (d.left == 0)) rfl (nz rfl (stp_call rfl rfl (off_dk H.rot))) (WO.nil ?_)
  by_cases h0 : (d.left == 0) = true
  · refine WC.condT rfl h0 (WC.seqR (us 1 rfl (WO.nil ?_)))
    unfold Dsk.write
    rw [if_pos h0]
    exact WC.ret (KX.seq_r (Kr (.int .i64 22) rfl ⟨rfl, v, o, hp, H.dropC, .inr rfl⟩))
  have h0' : (d.left == 0) = false := by simpa using h0
  refine WC.condF rfl h0' (WC.skip ?_)
  unfold Dsk.write
  rw [if_neg h0]
  refine WC.seqR (us 5 rfl ?_)
  refine Wg H 1 rfl ?_
  refine us 1 rfl ?_
  refine WO.look 3 (z := []) H rfl rfl ?_
  refine us 3 rfl (WO.nil ?_)
  refine WC.seqJ (fun σ' S' e' => Known [(0, .ptr i 0), (1, .str n), (2, .str b), (7, .ptr ib 0), (9, .int .i64 (d.total n b))] σ' ∧ Hp S0 R S' ((ib, .cells [.str y.name, .str y.b, .bool y.put]) :: DC i j1 j2 v d C) A ((v, o) :: W) ∧ e' = false) ?_ ?_
  · refine WC.seqR (us 3 rfl ?_)
    refine Wg H 1 rfl ?_
    refine WO.rng 3 (mm := d.now) H rfl fun it S2 _ H => WO.nil ?_
    refine WC.block (WC.loop ?_)
    rcases hm : d.now with _ | ⟨p, l⟩
    · have ht : d.total n b = sb .i64 (Str.len b) (Str.len ((Mp.get? ([] : Mp Str) n).getD [])) := by unfold Dsk.total; rw [hm]
      refine WC.seqR (WO.nxt0 hm 0 4 H rfl (us 1 rfl (WO.nil ?_)))
      refine WC.seq (WC.condF rfl rfl (WC.exit ?_))
      exact KX.seq_x (KX.seq_x (KX.block_x (KX.seq_n ⟨known_cons rfl (known_cons rfl (known_cons rfl (known_cons rfl (known_cons (Eq.trans rfl (congrArg (PV.int .i64) ht.symm)) known_nil)))), H.dropC, rfl⟩)))
    · have hl0 : l = [] := by rw [hm] at hn; simpa using hn
      subst hl0
      have ht : d.total n b = ad .i64 (sb .i64 (Str.len b) (Str.len ((Mp.get? [p] n).getD []))) (Str.len p.2) := by unfold Dsk.total; rw [hm]
      refine WC.seqR (WO.nxt1 hm 0 4 H rfl fun S3 H => us 1 rfl (WO.nil ?_))
      refine WC.seq (WC.condT rfl rfl (WC.skip ?_))
      refine WC.block (WC.seqR (WO.ent hm 0 4 H rfl (us 2 rfl (WO.nil ?_))))
      refine WC.region (us 5 rfl (WO.nil ?_))
      refine KX.block_n (KX.seq_n ?_)
      refine WC.loop (WC.seqR (WO.nxt2 hm 0 4 H rfl (us 1 rfl (WO.nil ?_))))
      refine WC.seq (WC.condF rfl rfl (WC.exit ?_))
      exact KX.seq_x (KX.seq_x (KX.block_x (KX.seq_n ⟨known_cons rfl (known_cons rfl (known_cons rfl (known_cons rfl (known_cons (Eq.trans rfl (congrArg (PV.int .i64) ht.symm)) known_nil)))), H.dropC, rfl⟩)))
  · rintro σ' S2 e' ⟨hk, H, rfl⟩
    refine WC.of_known hk ?_
    refine WC.seq (WC.seqR (us 4 rfl ?_))
    refine Wg H 1 rfl (us 1 rfl (WO.nil ?_))
    by_cases h1 : decide (d.total n b > d.room) = true
    · refine WC.condT rfl h1 (WC.seqR (us 1 rfl (WO.nil ?_)))
      rw [if_pos h1]
      exact WC.ret (KX.seq_r (Kr (.int .i64 21) rfl ⟨rfl, v, o, hp, H.dropC, .inr rfl⟩))
    have h1' : decide (d.total n b > d.room) = false := by simpa using h1
    refine WC.condF rfl h1' (WC.skip ?_)
    rw [if_neg h1]
    refine WC.seqR (us 3 rfl ?_)
    refine Wg H 1 rfl (us 2 rfl ?_)
    refine WO.mupd 3 (y := b) H rfl rfl fun S3 H => WO.nil ?_
    refine WC.seq (WC.drawC ?_)
    refine wk (.ptr i 0) rfl rfl rfl rfl (wk (.ptr i 0) rfl rfl rfl rfl (wk (.ptr i 0) rfl rfl rfl rfl (wk (.ptr i 3) rfl rfl rfl rfl ?_)))
    refine wkl H 1 rfl rfl rfl rfl (v := v) ?_
    refine wkl H 0 rfl rfl rfl rfl (v := eOp y) ?_
    refine wk (.lst [eOp y] .full) rfl rfl rfl rfl ?_
    refine WK.ex (P := fun v' S' => (∃ o', IsP (d.pend ++ [y]) v' o' ∧ Hp S0 R S' ((ib, .cells [.str y.name, .str y.b, .bool y.put]) :: DC i j1 j2 v { d with now := Mp.put d.now n b } C) A ((v', o') :: W)) ∧ (v'.storable, v'.cells, v'.clean, v'.strip) = (true, [v'], false, v')) rfl
      (bzn rfl (app_dk hp H rfl rfl ⟨_, rfl⟩ hl)) rfl fun v' S4 h => ?_
    obtain ⟨⟨o', hp', H⟩, hv'⟩ := h
    refine ⟨pend_cons (ld (H.get 0 rfl) rfl) (pend_cons (ld (H.get 1 rfl) rfl) pend_nil), WK.nil ?_⟩
    refine us 2 rfl ?_
    obtain ⟨g1, hv'⟩ := Go.Pam.p2 hv'; obtain ⟨g2, hv'⟩ := Go.Pam.p2 hv'; obtain ⟨g3, g4⟩ := Go.Pam.p2 hv'
    refine WO.ste 1 H hlt (off := 3) (sz := 1) (cs := dcell j1 j2 v { d with now := Mp.put d.now n b }) (v := v') (xc := [v']) (cs' := dcell j1 j2 v' d) ?_ fun S5 H => WO.nil ?_
    · rw [g1, g2, g3]; rfl
    refine WC.seqR (us 1 rfl ?_)
    obtain ⟨S6, v6, o6, e6, h6, hp6, H6, _⟩ := step_dk (d := { d with now := Mp.put d.now n b, pend := d.pend ++ [y] }) hp' H.rot
    refine WO.step (v := .int .i64 0) rfl (nz rfl (stp_call rfl rfl h6)) (us 1 rfl (WO.nil ?_))
    exact WC.ret (Kr (.int .i64 0) rfl ⟨rfl, v6, o6, hp6, H6.unrot.dropC, .inl rfl⟩)
theorem append_dk {n b x : Str} (hp : IsP d.pend v o) (H : DH S0 R S i j1 j2 v o d C A W) (hl : d.pend.length ≤ 1000000) (hn : d.now.length ≤ 1) (hx : Str.app? ((Mp.get? d.now n).getD []) b = some x) :
    DR 107 [.ptr i 0, .str n, .str b] (.int .i64 (d.write n x ⟨n, b, false⟩).2) S0 R S i j1 j2 v (d.write n x ⟨n, b, false⟩).1 C A W := by
  refine DR.of (pf := fn107) rfl rfl rfl rfl rfl H (WB.of (pf := fn107) rfl ?_)
  refine WC.seqR (us 1 rfl (WO.nil ?_))
  refine WC.seqR (us 5 rfl ?_)
  refine Wg H 0 rfl (us 1 rfl ?_)
  refine WO.look 2 (z := []) H rfl rfl (us 1 rfl ?_)
  refine WO.step (v := .str x) rfl (nz rfl (stp_strApp rfl rfl hx)) ?_
  refine us 2 rfl ?_
  refine WO.step (v := eOp ⟨n, b, false⟩) rfl (nz rfl rfl) ?_
  obtain ⟨S6, v6, o6, e6, h6, hp6, H6, he6⟩ := write_dk (n := n) (b := x) (y := ⟨n, b, false⟩) hp H hl hn
  refine WO.step rfl (nz rfl (stp_call rfl rfl h6)) (us 1 rfl (WO.nil ?_))
  exact WC.ret (Kr _ rfl ⟨rfl, v6, o6, hp6, H6, by simpa using he6⟩)
theorem put_dk {n b : Str} (hp : IsP d.pend v o) (H : DH S0 R S i j1 j2 v o d C A W) (hl : d.pend.length ≤ 1000000) (hn : d.now.length ≤ 1) :
    DR 48 [.ptr i 0, .str n, .str b] (.int .i64 (d.write n b ⟨n, b, true⟩).2) S0 R S i j1 j2 v (d.write n b ⟨n, b, true⟩).1 C A W := by
  refine DR.of (pf := fn48) rfl rfl rfl rfl rfl H (WB.of (pf := fn48) rfl ?_)
  refine WC.seqR (us 1 rfl (WO.nil ?_))
  refine WC.seqR (us 5 rfl ?_)
  refine WO.step (v := eOp ⟨n, b, true⟩) rfl (nz rfl rfl) ?_
  obtain ⟨S6, v6, o6, e6, h6, hp6, H6, he6⟩ := write_dk (n := n) (b := b) (y := ⟨n, b, true⟩) hp H hl hn
  refine WO.step rfl (nz rfl (stp_call rfl rfl h6)) (us 1 rfl (WO.nil ?_))
  exact WC.ret (Kr _ rfl ⟨rfl, v6, o6, hp6, H6, by simpa using he6⟩)
end
end Go.Proofs.YtecimmaoilignaaGreatDoor.M.L
