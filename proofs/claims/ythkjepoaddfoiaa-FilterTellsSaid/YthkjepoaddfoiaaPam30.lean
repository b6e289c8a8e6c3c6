/- Calls that hand on a new object; errors.Is of two numbers. -/
import Derived.Test.YthkjepoaddfoiaaPam29
namespace Go.Pam
set_option linter.unusedVariables false
set_option linter.unusedSimpArgs false
variable {env : Env} {fr : Fr} {σ : Nat → PV} {S : List SObj} {S0 : List SObj} {R : List Nat} {C : List (Nat × SObj)} {A : List (PV × Nat)} {W : List (PV × SObj)}

theorem WB.mono' {pf : PFn} {args : List PV} {K K' : KV} (h : WB env pf args S K) (hk : ∀ v S' e, K v S' e → K' v S' e) : WB env pf args S K' := by
  refine WC.mono h fun x σ S' e hx => ?_
  cases x with
  | normal => obtain ⟨vs, h1, h2⟩ := hx; refine ⟨vs, h1, ?_⟩; split at h2 <;> rename_i hr <;> simp only [hr] <;> exact hk _ _ _ h2
  | exit i => exact hx.elim
  | ret => obtain ⟨vs, h1, h2⟩ := hx; refine ⟨vs, h1, ?_⟩; split at h2 <;> rename_i hr <;> simp only [hr] <;> exact hk _ _ _ h2

theorem leave_ptr {n i : Nat} {S' : List SObj} {e : Bool} : leave n (.ptr i 0) S' e = (.ptr i 0, S', e) := by
  unfold leave
  rw [if_neg (by simp [PV.strip, PV.clean])]

theorem evw_newW {f : FuncId} {pf : PFn} (hi : env.intr f = none) (hf : env.fn f = some pf) {bs : List PV} {cs : List PV} (hs : bs.map PV.strip = bs) (hl : bs.length ≤ pf.ntmps) (hc : cleanL bs = true)
    (h : ∀ S, WB env pf bs S fun v S' e => ∃ i, v = .ptr i 0 ∧ e = false ∧ Hp S [] S' [(i, .cells cs)] [] []) (S : List SObj) : ∃ i S', evw env f bs S = some (.ptr i 0, S', false) ∧ Hp S [] S' [(i, .cells cs)] [] [] := by
  obtain ⟨w0, S1, e1, hb0, i0, rfl, _, _⟩ := (h []).run
  obtain ⟨w, S2, e2, hb, i, rfl, rfl, hp⟩ := (h S).run
  obtain ⟨k0, hk0⟩ := body_lim hb0
  obtain ⟨k, hk⟩ := body_lim hb
  refine ⟨i, S2, lim_of (k0 + k + 1) fun k' hk' => ?_, hp⟩
  obtain ⟨j, rfl⟩ : ∃ j, k' = j + 1 := ⟨k' - 1, by omega⟩
  simp only [ev, hi, hf, hl, if_true, hs, hc, hk0 j (by omega), hk j (by omega), leave_ptr]
  simp [PV.strip, PV.clean]

theorem evw_newR {f : FuncId} {pf : PFn} (hi : env.intr f = none) (hf : env.fn f = some pf) {args : List PV} {S : List SObj} {id : Nat} {c' cs : List PV} (hl : args.length ≤ pf.ntmps) (hc : cleanL (args.map PV.strip) = false)
    (h : WB env pf args S fun v S' e => ∃ i, v = .ptr i 0 ∧ e = false ∧ Hp S [id] S' [(i, .cells cs), (id, .cells c')] [] []) : ∃ i S', evw env f args S = some (.ptr i 0, S', false) ∧ Hp S [id] S' [(i, .cells cs), (id, .cells c')] [] [] := by
  obtain ⟨r, h1, i, S', h2, h3⟩ := evw_storeW (K := fun r => ∃ i S', r = (.ptr i 0, S', false) ∧ Hp S [id] S' [(i, .cells cs), (id, .cells c')] [] []) hi hf hl hc (h.mono' fun v S' e hv => by
    obtain ⟨i, rfl, rfl, hp⟩ := hv
    exact ⟨i, S', leave_ptr, hp⟩)
  subst h2
  exact ⟨i, S', h1, h3⟩

theorem Hp.new_lt {S' : List SObj} {i : Nat} {o : SObj} {C' : List (Nat × SObj)} {A' : List (PV × Nat)} {W' : List (PV × SObj)} (N : Hp S [] S' ((i, o) :: C') A' W') : S.length ≤ i := by
  rcases (N.cel _ List.mem_cons_self).1 with h | h
  · exact h
  · cases h

theorem Hp.after {S' : List SObj} {R' : List Nat} {C' : List (Nat × SObj)} {A' : List (PV × Nat)} {W' : List (PV × SObj)} (H : Hp S0 R S C A W) (N : Hp S R' S' C' A' W') (hC : ∀ p ∈ C, p.1 ∉ R') (hR : ∀ i ∈ R', S0.length ≤ i ∨ i ∈ R)
    (hA : ∀ q ∈ A, ∀ i, tipOf q.1 = some i → i ∉ R') (hW : ∀ q ∈ W, ∀ i, rowAt q.1 = some i → i ∉ R') : Hp S0 R S' C A W := by
  have hl := H.len
  have hn := N.len
  have keep : ∀ k, k < S.length → k ∉ R' → S'[k]? = S[k]? := fun k hk hr => N.old k hk hr
  refine ⟨by omega, fun k hk hr => ?_, fun p hp => ⟨(H.cel p hp).1, (keep p.1 (lt_of_get (H.cel p hp).2.1) (hC p hp)).trans (H.cel p hp).2.1, (H.cel p hp).2.2⟩, H.nod,
    fun q hq => ⟨(H.app q hq).1.keep fun id hid => keep id ((H.app q hq).1.lt hid).1 (hA q hq id hid), (H.app q hq).2⟩, H.dis,
    fun q hq id hid => ⟨(H.row q hq id hid).1, (keep id (lt_of_get (H.row q hq id hid).2.1) (hW q hq id hid)).trans (H.row q hq id hid).2.1, (H.row q hq id hid).2.2⟩, H.rdis⟩
  have : k ∉ R' := fun h => by
    rcases hR k h with h | h
    · omega
    · exact hr h
  exact (keep k (by omega) this).trans (H.old k hk hr)

theorem Hp.callNew {S' : List SObj} {i : Nat} {o : SObj} (H : Hp S0 R S C A W) (N : Hp S [] S' [(i, o)] [] []) : Hp S0 R S' ((i, o) :: C) A W := by
  have hi := N.new_lt
  have hl := H.len
  have M := H.after N (fun _ _ h => by cases h) (fun _ h => by cases h) (fun _ _ _ _ h => by cases h) (fun _ _ _ _ h => by cases h)
  refine { M with cel := fun p hp => ?_, nod := List.pairwise_cons.2 ⟨fun p hp => by have := lt_of_get (H.cel p hp).2.1; simp only; omega, H.nod⟩ }
  rcases List.mem_cons.1 hp with rfl | hp
  · exact ⟨.inl (by simp only; omega), (N.cel _ List.mem_cons_self).2⟩
  · exact M.cel p hp

theorem Hp.callNewR {S' : List SObj} {i id : Nat} {cs c c' : List PV} (H : Hp S0 R S C A W) (j : Nat) (hj : C[j]? = some (id, .cells c)) (N : Hp S [id] S' [(i, .cells cs), (id, .cells c')] [] []) : Hp S0 R S' ((i, .cells cs) :: C.set j (id, .cells c')) A W := by
  have hl := H.len
  have hn := N.len
  have hid := H.get j hj
  have hidlt := lt_of_get hid
  have hi : S.length ≤ i := by
    rcases (N.cel _ List.mem_cons_self).1 with h | h
    · exact h
    · have h1 := List.pairwise_cons.1 N.nod
      exact absurd (List.mem_singleton.1 h) (h1.1 _ List.mem_cons_self)
  have keep : ∀ k, k < S.length → k ≠ id → S'[k]? = S[k]? := fun k hk hne => N.old k hk (by simpa using hne)
  have hm := H.cel _ (List.mem_of_getElem? hj)
  have hset : ∀ p ∈ C.set j (id, .cells c'), p = (id, .cells c') ∨ p ∈ C ∧ p.1 ≠ id := by
    intro p hp
    rcases mem_set_of hp with rfl | ⟨k, hne, hk⟩
    · exact .inl rfl
    · exact .inr ⟨List.mem_of_getElem? hk, pw_get (P := fun p q : Nat × SObj => p.1 ≠ q.1) H.nod (fun _ _ h => Ne.symm h) hk hj hne⟩
  refine ⟨by omega, fun k hk hr => ?_, fun p hp => ?_, List.pairwise_cons.2 ⟨fun p hp => ?_, (H.set j hj c').nod⟩, fun q hq => ⟨(H.app q hq).1.keep fun k hk => ?_, (H.app q hq).2⟩, H.dis, fun q hq k hk => ⟨(H.row q hq k hk).1, ?_, (H.row q hq k hk).2.2⟩, H.rdis⟩
  · have : k ≠ id := by
      rintro rfl
      rcases hm.1 with h | h
      · simp only at h; omega
      · exact hr h
    exact (keep k (by omega) this).trans (H.old k hk hr)
  · rcases List.mem_cons.1 hp with rfl | hp
    · exact ⟨.inl (by simp only; omega), N.get 0 rfl, rfl⟩
    · rcases hset p hp with rfl | ⟨hp, hne⟩
      · exact ⟨hm.1, N.get 1 rfl, rfl⟩
      · exact ⟨(H.cel p hp).1, (keep p.1 (lt_of_get (H.cel p hp).2.1) hne).trans (H.cel p hp).2.1, (H.cel p hp).2.2⟩
  · rcases hset p hp with rfl | ⟨hp, hne⟩
    · simp only; omega
    · have := lt_of_get (H.cel p hp).2.1; simp only; omega
  · obtain ⟨hlt, n, hn'⟩ := (H.app q hq).1.lt hk
    refine keep k hlt ?_
    rintro rfl
    rw [hn'] at hid; cases hid
  · obtain ⟨_, hn', hk'⟩ := H.row q hq k hk
    refine (keep k (lt_of_get hn') ?_).trans hn'
    rintro rfl
    rw [hn'] at hid; injection hid with hid; rw [hid] at hk'; cases hk'

theorem WO.callN {f : FuncId} {op : Operand} {args : Array Operand} {ts : Array TypeId} {d : Option Nat} {rest : List POp} {cap vs cs : List PV} {e : Bool} {K : KS} (hd : dstOk fr.ntmps d = true)
    (hf : opd σ op = .fn (.func f) [] cap) (ha : args.toList.map (opd σ) ++ cap = vs) (hz : frzT (frzArgs env.ctx σ (.call ⟨.value op, args, ts⟩)) σ S = (σ, S)) (H : Hp S0 R S C A W) (hc : ∃ i S', evw env f vs S = some (.ptr i 0, S', false) ∧ Hp S [] S' [(i, .cells cs)] [] [])
    (h : ∀ i S', S0.length ≤ i → Hp S0 R S' ((i, .cells cs) :: C) A W → WO env fr rest (upd σ d (.ptr i 0)) S' (e || false) K) : WO env fr (⟨d, .call ⟨.value op, args, ts⟩, none, false⟩ :: rest) σ S e K := by
  obtain ⟨i, S', h1, N⟩ := hc
  have := N.new_lt
  have := H.len
  exact WO.step hd (nz hz (stp_call hf ha h1)) (h i S' (by omega) (H.callNew N))

theorem WO.callNR (j : Nat) {f : FuncId} {op : Operand} {args : Array Operand} {ts : Array TypeId} {d : Option Nat} {rest : List POp} {id : Nat} {cap vs cs c c' : List PV} {e : Bool} {K : KS} (hd : dstOk fr.ntmps d = true)
    (hf : opd σ op = .fn (.func f) [] cap) (ha : args.toList.map (opd σ) ++ cap = vs) (hz : frzT (frzArgs env.ctx σ (.call ⟨.value op, args, ts⟩)) σ S = (σ, S)) (H : Hp S0 R S C A W) (hj : C[j]? = some (id, .cells c)) (hc : ∃ i S', evw env f vs S = some (.ptr i 0, S', false) ∧ Hp S [id] S' [(i, .cells cs), (id, .cells c')] [] [])
    (h : ∀ i S', S0.length ≤ i → Hp S0 R S' ((i, .cells cs) :: C.set j (id, .cells c')) A W → WO env fr rest (upd σ d (.ptr i 0)) S' (e || false) K) : WO env fr (⟨d, .call ⟨.value op, args, ts⟩, none, false⟩ :: rest) σ S e K := by
  obtain ⟨i, S', h1, N⟩ := hc
  have hi : S.length ≤ i := by
    rcases (N.cel _ List.mem_cons_self).1 with h | h
    · exact h
    · have h1 := List.pairwise_cons.1 N.nod
      exact absurd (List.mem_singleton.1 h) (h1.1 _ List.mem_cons_self)
  have := H.len
  exact WO.step hd (nz hz (stp_call hf ha h1)) (h i S' (by omega) (H.callNewR j hj N))

/-! errors.Is of two errors that are numbers of one type -/
def isErrH (t : TypeId) : List PV → List SObj → Option (PV × List SObj × Bool)
  | [.ifc t1 (.int .i64 a), .ifc t2 (.int .i64 b)], S => if t1 = t ∧ t2 = t then some (.bool (a == b), S, false) else none
  | _, _ => none

theorem evw_intr {f : FuncId} {h : List PV → List SObj → Option (PV × List SObj × Bool)} {args : List PV} {r : PV × List SObj × Bool} (hi : env.intr f = some h) (hr : h args S = some r) : evw env f args S = some r := by
  refine lim_of 1 fun k hk => ?_
  obtain ⟨j, rfl⟩ : ∃ j, k = j + 1 := ⟨k - 1, by omega⟩
  simp only [ev, hi, hr]

theorem evw_isErr {f : FuncId} {t : TypeId} (hi : env.intr f = some (isErrH t)) (a b : Int) (S : List SObj) : evw env f [.ifc t (.int .i64 a), .ifc t (.int .i64 b)] S = some (.bool (a == b), S, false) :=
  evw_intr hi (by simp [isErrH])

theorem isErr_ok {P : Program} {f : FuncId} {t : TypeId} (hfn : ∃ fn, P.funcs[f]? = some fn ∧ fn.body.isNone = false ∧ fn.name ≠ "runtime.NumGoroutine")
    (hcall : ∀ (a b : Int) (w : World), Calls P f #[.iface t (.int .i64 a), .iface t (.int .i64 b)] w fun e w' => e = .returned (.bool (a == b)) ∧ w' = w)
    (args : List PV) (S : List SObj) (v : PV) (S' : List SObj) (e : Bool) (h : isErrH t args S = some (v, S', e))
    (w : World) (g : G) (base : Nat) (bd : Nat → Nat) (cargs : Array Value) (hR : Go.Pam.R S w g base bd) (hl : args.length = cargs.size) (hV : ∀ (i : Nat) (c : PV), args[i]? = some c → V g w S.length c (cargs.getD i undef)) :
    (∃ fn, P.funcs[f]? = some fn ∧ fn.body.isNone = false ∧ fn.name ≠ "runtime.NumGoroutine") ∧ Calls P f cargs w (fun en w' => ∃ rv, en = .returned rv ∧ Good base bd S g w v S' e rv w') := by
  refine ⟨hfn, ?_⟩
  unfold isErrH at h
  split at h
  case h_2 => cases h
  rename_i t1 a t2 b
  split at h
  case isFalse => cases h
  rename_i ht
  injection h with h; injection h with h1 h2; injection h2 with h2 h3
  subst h1 h2 h3
  have v0 := hV 0 _ rfl
  have v1 := hV 1 _ rfl
  rw [ht.1] at v0
  rw [ht.2] at v1
  obtain ⟨x0, e0, y0⟩ := v0.inv_ifc
  obtain ⟨x1, e1, y1⟩ := v1.inv_ifc
  have z0 := y0.inv_int
  have z1 := y1.inv_int
  have hargs : cargs = #[.iface t (.int .i64 a), .iface t (.int .i64 b)] := by
    apply Array.ext
    · simpa using hl.symm
    · intro i h1 h2
      have h3 : i = 0 ∨ i = 1 := by simp at h2; omega
      rcases h3 with rfl | rfl
      · have : cargs.getD 0 undef = cargs[0] := by simp [Array.getD_eq_getD_getElem?, h1]
        rw [← this, e0, z0]; rfl
      · have : cargs.getD 1 undef = cargs[1] := by simp [Array.getD_eq_getD_getElem?, h1]
        rw [← this, e1, z1]; rfl
  subst hargs
  refine (hcall a b w).mono ?_
  rintro en w' ⟨rfl, rfl⟩
  exact ⟨_, rfl, Good.same hR (.bool _)⟩
end Go.Pam
