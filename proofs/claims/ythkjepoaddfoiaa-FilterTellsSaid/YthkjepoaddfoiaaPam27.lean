/- Steps that turn the store, with the store behind a name; leaves. -/
import Derived.Test.YthkjepoaddfoiaaPam26
namespace Go.Pam
set_option linter.unusedVariables false
set_option linter.unusedSimpArgs false
variable {env : Env} {fr : Fr} {σ : Nat → PV} {S : List SObj} {S0 : List SObj} {R : List Nat} {C : List (Nat × SObj)} {A : List (PV × Nat)} {W : List (PV × SObj)}

theorem WO.go0 {op : Op} {d : Option Nat} {t : Nat} {want b : Bool} {wr : Bool} {rest : List POp} {e : Bool} {K : KS} (hb : σ t = .bool b) (hw : (b == want) = true)
    (h : WO env fr (⟨d, op, none, wr⟩ :: rest) σ S e K) : WO env fr (⟨d, op, some (t, want), wr⟩ :: rest) σ S e K := by
  obtain ⟨σ1, S1, e1, h1, h2⟩ := h
  refine ⟨σ1, S1, e1, ?_, h2⟩
  unfold evOps at h1 ⊢
  simp only [wantedPV, hb, hw] at h1 ⊢
  exact h1

theorem WH.go0 {op : Op} {d : Option Nat} {t : Nat} {want b : Bool} {wr : Bool} {rest : List POp} {K : (Nat → PV) → Prop} (hb : σ t = .bool b) (hw : (b == want) = true)
    (h : WH env fr (⟨d, op, none, wr⟩ :: rest) σ S K) : WH env fr (⟨d, op, some (t, want), wr⟩ :: rest) σ S K := by
  obtain ⟨σ1, h1, h2⟩ := h
  refine ⟨σ1, ?_, h2⟩
  unfold evHead at h1 ⊢
  simp only [wantedPV, hb, hw] at h1 ⊢
  exact h1

theorem WO.box {t : TypeId} {x : Operand} {d : Option Nat} {rest : List POp} {e : Bool} {K : KS} {v : PV} {cs : List PV} (hd : dstOk fr.ntmps d = true) (hz : frzT (frzArgs env.ctx σ (.box t x)) σ S = (σ, S)) (hx : opd σ x = v) (hs : v.storable = true) (hv : v.cells = cs) (H : Hp S0 R S C A W)
    (h : ∀ i S', Hp S0 R S' ((i, .cells cs) :: C) A W → WO env fr rest (upd σ d (.ptr i 0)) S' (e || false) K) : WO env fr (⟨d, .box t x, none, false⟩ :: rest) σ S e K :=
  WO.step hd (nz hz (stp_box hx hs hv)) (h _ _ (H.push cs))

theorem WO.alloc {t : TypeId} {ti : TyI} {d : Option Nat} {rest : List POp} {e : Bool} {K : KS} {cs : List PV} (hd : dstOk fr.ntmps d = true) (ht : env.ctx.ty t = some ti) (hs : ti.zero.storable = true) (hv : ti.zero.cells = cs) (H : Hp S0 R S C A W)
    (h : ∀ i S', Hp S0 R S' ((i, .cells cs) :: C) A W → WO env fr rest (upd σ d (.ptr i 0)) S' (e || false) K) : WO env fr (⟨d, .alloc t, none, false⟩ :: rest) σ S e K :=
  WO.step hd (nz rfl (stp_alloc ht hs hv)) (h _ _ (H.push cs))

theorem WO.store (j : Nat) {t : TypeId} {a x : Operand} {d : Option Nat} {rest : List POp} {id off sz : Nat} {cs cs' xc : List PV} {v : PV} {e e' : Bool} {K : KS} (hd : dstOk fr.ntmps d = true) (hz : frzT (frzArgs env.ctx σ (.store t a x)) σ S = (σ, S)) (H : Hp S0 R S C A W) (hj : C[j]? = some (id, .cells cs))
    (ho : opd σ a = .ptr id off) (hx : opd σ x = v) (ht : (env.ctx.ty t).map (·.size) = some sz)
    (hs : v.storable = true) (hv : v.cells = xc) (hl : xc.length = sz) (hb : off + sz ≤ cs.length) (hc : cs.take off ++ xc ++ cs.drop (off + sz) = cs') (he : (decide (id < fr.base) && !v.clean) = e')
    (h : ∀ S', Hp S0 R S' (C.set j (id, .cells cs')) A W → WO env fr rest (upd σ d (.tup [])) S' (e || e') K) : WO env fr (⟨d, .store t a x, none, false⟩ :: rest) σ S e K :=
  WO.step hd (nz hz (stp_store ho hx (H.get j hj) ht hs hv hl hb hc he)) (h _ (H.set j hj cs'))

theorem own_e {id : Nat} {v : PV} (h : fr.base ≤ id) : (decide (id < fr.base) && !v.clean) = false := by
  have : ¬ id < fr.base := by omega
  simp [this]
theorem clean_e {id : Nat} {v : PV} (h : v.clean = true) : (decide (id < fr.base) && !v.clean) = false := by simp [h]

theorem Hp.own (H : Hp S0 [] S C A W) (j : Nat) {id : Nat} {cs : List PV} (hj : C[j]? = some (id, .cells cs)) : S0.length ≤ id := by
  rcases (H.cel _ (List.mem_of_getElem? hj)).1 with h | h
  · exact h
  · cases h

theorem nzx {op : Op} {d : Option Nat} {g : Option (Nat × Bool)} {P : PV → List SObj → Prop} (hz : frzT (frzArgs env.ctx σ op) σ S = (σ, S)) (hs : ∃ v' S', stp env fr σ S op = some (v', S', false) ∧ P v' S') :
    ∃ v' S', stF env fr σ S ⟨d, op, g, false⟩ = some (v', S', false) ∧ P v' S' := by
  obtain ⟨v', S', h1, h2⟩ := hs
  exact ⟨v', S', nz hz h1, h2⟩
theorem nzx1 {op : Op} {d : Option Nat} {g : Option (Nat × Bool)} {P : PV → Prop} (hz : frzT (frzArgs env.ctx σ op) σ S = (σ, S)) (hs : ∃ v', stp env fr σ S op = some (v', S, false) ∧ P v') :
    ∃ v', stF env fr σ S ⟨d, op, g, false⟩ = some (v', S, false) ∧ P v' := by
  obtain ⟨v', h1, h2⟩ := hs
  exact ⟨v', nz hz h1, h2⟩

theorem WO.ex {rest : List POp} {op : Op} {d : Option Nat} {wr : Bool} {e : Bool} {K : KS} {P : PV → List SObj → Prop} (hd : dstOk fr.ntmps d = true) (hs : ∃ v' S', stF env fr σ S ⟨d, op, none, wr⟩ = some (v', S', false) ∧ P v' S')
    (h : ∀ v' S', P v' S' → WO env fr rest (upd σ d v') S' (e || false) K) : WO env fr (⟨d, op, none, wr⟩ :: rest) σ S e K := by
  obtain ⟨v', S', h1, h2⟩ := hs
  exact WO.step hd h1 (h _ _ h2)

theorem WO.ex1 {rest : List POp} {op : Op} {d : Option Nat} {wr : Bool} {e : Bool} {K : KS} {P : PV → Prop} (hd : dstOk fr.ntmps d = true) (hs : ∃ v', stF env fr σ S ⟨d, op, none, wr⟩ = some (v', S, false) ∧ P v')
    (h : ∀ v', P v' → WO env fr rest (upd σ d v') S (e || false) K) : WO env fr (⟨d, op, none, wr⟩ :: rest) σ S e K := by
  obtain ⟨v', h1, h2⟩ := hs
  exact WO.step hd h1 (h _ h2)

theorem WH.ex1 {rest : List POp} {op : Op} {d : Option Nat} {wr : Bool} {K : (Nat → PV) → Prop} {P : PV → Prop} (hd : dstOk fr.ntmps d = true) (hs : ∃ v', stF env fr σ S ⟨d, op, none, wr⟩ = some (v', S, false) ∧ P v')
    (h : ∀ v', P v' → WH env fr rest (upd σ d v') S K) : WH env fr (⟨d, op, none, wr⟩ :: rest) σ S K := by
  obtain ⟨v', h1, h2⟩ := hs
  exact WH.step hd h1 rfl rfl (h _ h2)

/-! Leaves -/
theorem KX.seq_n {K : KX} {P : KS} {e : Bool} (h : P σ S e) : K.seq P .normal σ S e := h
theorem KX.seq_x {K : KX} {P : KS} {e : Bool} {i : Nat} (h : K (.exit i) σ S e) : K.seq P (.exit i) σ S e := h
theorem KX.seq_r {K : KX} {P : KS} {e : Bool} (h : K .ret σ S e) : K.seq P .ret σ S e := h
theorem KX.block_n {K : KX} {e : Bool} {id : Nat} (h : K .normal σ S e) : K.block id .normal σ S e := h
theorem KX.block_x {K : KX} {e : Bool} {id : Nat} (h : K .normal σ S e) : K.block id (.exit id) σ S e := by simp only [KX.block, if_true]; exact h
theorem KX.block_y {K : KX} {e : Bool} {i id : Nat} (hi : (i == id) = false) (h : K (.exit i) σ S e) : K.block id (.exit i) σ S e := by
  have : ¬ i = id := by simpa using hi
  simp only [KX.block, if_neg this]; exact h
theorem KX.block_r {K : KX} {e : Bool} {id : Nat} (h : K .ret σ S e) : K.block id .ret σ S e := h

def KB (env : Env) (pf : PFn) (K : KV) : KX := fun x σ S' e => match x with
  | .normal => ∃ vs, resultsOf env.ctx S' σ pf.results = some vs ∧ if pf.raw then K (tupled vs) S' e else K (tupled (frzL vs S').1) (frzL vs S').2 e
  | .exit _ => False
  | .ret => ∃ vs, resultsOf env.ctx S' σ pf.results = some vs ∧ if pf.raw then K (tupled vs) S' e else K (tupled (frzL vs S').1) (frzL vs S').2 e

theorem WB.of {pf : PFn} {args : List PV} {K : KV} {c : PC} {rs : List ResultVar} {n : Nat} {rw : Bool} (hpf : pf = ⟨n, rs, c, rw⟩) (h : WC env ⟨n, S.length⟩ c (fun i => args.getD i (.tup [])) S false (KB env ⟨n, rs, c, rw⟩ K)) : WB env pf args S K := by
  subst hpf; exact h

theorem KB.ret {n : Nat} {rs : List ResultVar} {c : PC} {K : KV} {e : Bool} {vs : List PV} (hr : resultsOf env.ctx S σ rs = some vs) (hz : frzL vs S = (vs, S)) (h : K (tupled vs) S e) : KB env ⟨n, rs, c, false⟩ K .ret σ S e :=
  ⟨vs, hr, by simp only [Bool.false_eq_true, if_false, hz]; exact h⟩
theorem KB.normal {n : Nat} {rs : List ResultVar} {c : PC} {K : KV} {e : Bool} {vs : List PV} (hr : resultsOf env.ctx S σ rs = some vs) (hz : frzL vs S = (vs, S)) (h : K (tupled vs) S e) : KB env ⟨n, rs, c, false⟩ K .normal σ S e :=
  ⟨vs, hr, by simp only [Bool.false_eq_true, if_false, hz]; exact h⟩
theorem KB.retZ {n : Nat} {rs : List ResultVar} {c : PC} {K : KV} {e : Bool} {vs vs' : List PV} {S' : List SObj} (hr : resultsOf env.ctx S σ rs = some vs) (hz : frzL vs S = (vs', S')) (h : K (tupled vs') S' e) : KB env ⟨n, rs, c, false⟩ K .ret σ S e :=
  ⟨vs, hr, by simp only [Bool.false_eq_true, if_false, hz]; exact h⟩
theorem KB.normalZ {n : Nat} {rs : List ResultVar} {c : PC} {K : KV} {e : Bool} {vs vs' : List PV} {S' : List SObj} (hr : resultsOf env.ctx S σ rs = some vs) (hz : frzL vs S = (vs', S')) (h : K (tupled vs') S' e) : KB env ⟨n, rs, c, false⟩ K .normal σ S e :=
  ⟨vs, hr, by simp only [Bool.false_eq_true, if_false, hz]; exact h⟩
theorem KB.retR {n : Nat} {rs : List ResultVar} {c : PC} {K : KV} {e : Bool} {vs : List PV} (hr : resultsOf env.ctx S σ rs = some vs) (h : K (tupled vs) S e) : KB env ⟨n, rs, c, true⟩ K .ret σ S e := ⟨vs, hr, by simpa using h⟩
theorem KB.normalR {n : Nat} {rs : List ResultVar} {c : PC} {K : KV} {e : Bool} {vs : List PV} (hr : resultsOf env.ctx S σ rs = some vs) (h : K (tupled vs) S e) : KB env ⟨n, rs, c, true⟩ K .normal σ S e := ⟨vs, hr, by simpa using h⟩

theorem res_nil {ctx : Ctx} : resultsOf ctx S σ [] = some [] := rfl
theorem res_tmp {ctx : Ctx} {t : Nat} {v : PV} {rs : List ResultVar} {vs : List PV} (h : σ t = v) (hr : resultsOf ctx S σ rs = some vs) : resultsOf ctx S σ (.tmp t :: rs) = some (v :: vs) := by
  simp only [resultsOf, resultOf, h, hr]
theorem res_cell {ctx : Ctx} {a : Nat} {t : TypeId} {id off : Nat} {cs : List PV} {v : PV} {rs : List ResultVar} {vs : List PV} (h : σ a = .ptr id off) (hg : S[id]? = some (.cells cs)) (hp : partOf ctx t cs off = some v) (hr : resultsOf ctx S σ rs = some vs) :
    resultsOf ctx S σ (.cell a t :: rs) = some (v :: vs) := by
  simp only [resultsOf, resultOf, loadPV, h, hg, hp, hr]

theorem WC.of_known {l : List (Nat × PV)} {c : PC} {e : Bool} {K : KX} (hk : Known l σ) (h : WC env fr c (put l σ) S e K) : WC env fr c σ S e K := by
  rwa [put_known hk] at h
theorem WO.of_known {l : List (Nat × PV)} {c : List POp} {e : Bool} {K : KS} (hk : Known l σ) (h : WO env fr c (put l σ) S e K) : WO env fr c σ S e K := by
  rwa [put_known hk] at h
theorem WH.of_known {l : List (Nat × PV)} {c : List POp} {K : (Nat → PV) → Prop} (hk : Known l σ) (h : WH env fr c (put l σ) S K) : WH env fr c σ S K := by
  rwa [put_known hk] at h
theorem KX.of_known {l : List (Nat × PV)} {x : Ex} {e : Bool} {K : KX} (hk : Known l σ) (h : K x (put l σ) S e) : K x σ S e := by
  rwa [put_known hk] at h
end Go.Pam
namespace Go.Pam
variable {env : Env} {fr : Fr} {σ : Nat → PV} {S : List SObj} {S0 : List SObj} {R : List Nat} {C : List (Nat × SObj)} {A : List (PV × Nat)} {W : List (PV × SObj)}

theorem WC.join {c : PC} {e : Bool} {K : KX} (P : KS) (h : WC env fr c σ S e (K.seq P)) (h2 : ∀ σ' S' e', P σ' S' e' → K .normal σ' S' e') : WC env fr c σ S e K := by
  obtain ⟨x, σ1, S1, e1, h1, hp⟩ := h
  cases x with
  | normal => exact ⟨_, _, _, _, h1, h2 _ _ _ hp⟩
  | exit i => exact ⟨_, _, _, _, h1, hp⟩
  | ret => exact ⟨_, _, _, _, h1, hp⟩

theorem WO.box' {t : TypeId} {x : Operand} {d : Option Nat} {rest : List POp} {e : Bool} {K : KS} {v : PV} {cs : List PV} (hd : dstOk fr.ntmps d = true) (hz : frzT (frzArgs env.ctx σ (.box t x)) σ S = (σ, S)) (hx : opd σ x = v) (hs : v.storable = true) (hv : v.cells = cs) (H : Hp S0 R S C A W)
    (h : ∀ i S', S0.length ≤ i → Hp S0 R S' ((i, .cells cs) :: C) A W → WO env fr rest (upd σ d (.ptr i 0)) S' (e || false) K) : WO env fr (⟨d, .box t x, none, false⟩ :: rest) σ S e K :=
  WO.step hd (nz hz (stp_box hx hs hv)) (h _ _ H.len (H.push cs))

theorem WO.alloc' {t : TypeId} {ti : TyI} {d : Option Nat} {rest : List POp} {e : Bool} {K : KS} {cs : List PV} (hd : dstOk fr.ntmps d = true) (ht : env.ctx.ty t = some ti) (hs : ti.zero.storable = true) (hv : ti.zero.cells = cs) (H : Hp S0 R S C A W)
    (h : ∀ i S', S0.length ≤ i → Hp S0 R S' ((i, .cells cs) :: C) A W → WO env fr rest (upd σ d (.ptr i 0)) S' (e || false) K) : WO env fr (⟨d, .alloc t, none, false⟩ :: rest) σ S e K :=
  WO.step hd (nz rfl (stp_alloc ht hs hv)) (h _ _ H.len (H.push cs))

theorem leave_hp {S' : List SObj} {id : Nat} {cs : List PV} {v v' : PV} {c0 : List PV} (h0 : S0[id]? = some (.cells c0)) (H : Hp S0 [id] S' C A W) (j : Nat) (hj : C[j]? = some (id, .cells cs)) (hv : v.strip = v') (hc : v'.clean = true) :
    leave S0.length v S' false = (v', S0.set id (.cells cs), false) := by
  have hid := (List.getElem?_eq_some_iff.1 h0).1
  refine leave_of rfl hv hc (by simp) H.len fun i hi => ?_
  rw [List.getElem?_set]
  split
  · rename_i he; subst he; exact H.get j hj
  · rename_i he; exact H.old i hi (by simpa using fun h => he h.symm)

theorem evw_recvW {f : FuncId} {pf : PFn} (hi : env.intr f = none) (hf : env.fn f = some pf) {args : List PV} {S : List SObj} {r : PV × List SObj × Bool}
    (hl : args.length ≤ pf.ntmps) (hc : cleanL (args.map PV.strip) = false)
    (h : WB env pf args S fun v S' e => leave S.length v S' e = r) : evw env f args S = some r := by
  obtain ⟨q, h1, h2⟩ := evw_storeW (K := fun q => q = r) hi hf hl hc h
  rw [h1, h2]

theorem WO.callR (j : Nat) {f : FuncId} {op : Operand} {args : Array Operand} {ts : Array TypeId} {d : Option Nat} {rest : List POp} {cap vs cs cs' : List PV} {id : Nat} {v : PV} {e : Bool} {K : KS} (hd : dstOk fr.ntmps d = true)
    (hf : opd σ op = .fn (.func f) [] cap) (ha : args.toList.map (opd σ) ++ cap = vs) (hz : frzT (frzArgs env.ctx σ (.call ⟨.value op, args, ts⟩)) σ S = (σ, S)) (H : Hp S0 R S C A W) (hj : C[j]? = some (id, .cells cs)) (hc : evw env f vs S = some (v, S.set id (.cells cs'), false))
    (h : ∀ S', Hp S0 R S' (C.set j (id, .cells cs')) A W → WO env fr rest (upd σ d v) S' (e || false) K) : WO env fr (⟨d, .call ⟨.value op, args, ts⟩, none, false⟩ :: rest) σ S e K :=
  WO.step hd (nz hz (stp_call hf ha hc)) (h _ (H.set j hj cs'))
end Go.Pam
namespace Go.Pam
variable {env : Env} {fr : Fr} {σ : Nat → PV} {S : List SObj} {S0 : List SObj} {R : List Nat} {C : List (Nat × SObj)} {A : List (PV × Nat)} {W : List (PV × SObj)}
def Sl.make? {α : Type} (bytes : Nat) (n : Int) (z : α) : Option (Sl α) := if 0 ≤ n ∧ bytes * n ≤ 2 ^ 47 ∧ n ≤ 2 ^ 62 then some (some (List.replicate n.toNat z)) else none

theorem stp_make' {α : Type} {f : α → PV} {z : α} {t e : TypeId} {ei : TyI} {l c : Operand} {n : Int} {k : IntKind} {x : Sl α} (hl : opd σ l = .int k n) (hc : opd σ c = .int k n) (ht : (env.ctx.ty t).map (·.und) = some (.slice e)) (he : env.ctx.ty e = some ei)
    (hok : (decide (ei.size ≠ 0) && decide (ei.zero.cells.length = ei.size) && ei.zero.storable) = true) (hz : f z = ei.zero) (hsz : ∀ a, (f a).cells.length = ei.size)
    (hx : Sl.make? ei.bytes n z = some x) (H : Hp S0 R S C A W) :
    ∃ v', stp env fr σ S (.makeSlice t l c) = some (v', S, false) ∧ IsSl f x v' ∧ Hp S0 R S C ((v', ei.size) :: A) W := stp_make hl hc ht he hok hz hsz hx H
end Go.Pam
namespace Go.Pam
variable {env : Env} {fr : Fr} {σ : Nat → PV} {S : List SObj} {S0 : List SObj} {R : List Nat} {C : List (Nat × SObj)} {A : List (PV × Nat)} {W : List (PV × SObj)}
theorem set_same {id : Nat} {x : SObj} (h : S[id]? = some x) : S.set id x = S := by
  apply List.ext_getElem?
  intro i
  rw [List.getElem?_set]
  split
  · rename_i he; subst he; rw [if_pos (List.getElem?_eq_some_iff.1 h).1, h]
  · rfl

theorem Hp.grown (h : Hp S0 R S C A W) (j : Nat) {ei : TyI} {ys : List PV} {v v' : PV} {S' : List SObj} (hj : A[j]? = some (v, ei.size)) (hg : growPV ei v ys S = some (v', S')) : Hp S0 R S' C (A.set j (v', ei.size)) W := by
  have happ := (h.app _ (app_mem hj)).1
  cases happ with
  | nil =>
    simp only [growPV] at hg
    split at hg
    · injection hg with hg; injection hg with h1 h2; subst h1 h2; exact h.repl j _
    · cases hg
  | full zs hz =>
    simp only [growPV] at hg
    split at hg
    · injection hg with hg; injection hg with h1 h2; subst h1 h2
      have := h.repl j (sz := ei.size) (zs ++ ys)
      simpa using this
    · cases hg
  | tip zs id hz =>
    simp only at hz
    simp only [growPV, hz] at hg
    split at hg
    · injection hg with hg; injection hg with h1 h2; subst h1 h2; exact h.grow j hj _
    · cases hg

theorem stp_appStr {x z : Sl Int} {v : PV} {s : Str} {a b : Operand} {t u e : TypeId} {ei : TyI} (H : Hp S0 R S C A W) (j : Nat) (hj : A[j]? = some (v, ei.size))
    (ho : opd σ a = v) (hx : IsSl (eI .u8) x v) (hb : opd σ b = .str s)
    (ht : (env.ctx.ty t).map (·.und) = some (.slice e)) (hu : (env.ctx.ty u).map (·.und) = some .string) (he : env.ctx.ty e = some ei)
    (hok : (decide (ei.size = 1) && decide (ei.bytes ≠ 0) && ei.zero.storable && decide (ei.zero.cells.length = ei.size)) = true)
    (hz : Sl.app? ei.bytes x (Sl.l (Str.bytes s)) = some z) :
    ∃ v' S', stp env fr σ S (.call ⟨.builtin .append, #[a, b], #[t, u]⟩) = some (v', S', false) ∧ IsSl (eI .u8) z v' ∧ Hp S0 R S' C (A.set j (v', ei.size)) W := by
  simp only [Bool.and_eq_true, decide_eq_true_eq] at hok
  obtain ⟨⟨⟨k1, k2⟩, k3⟩, k4⟩ := hok
  cases hti : env.ctx.ty t with
  | none => rw [hti] at ht; cases ht
  | some ti =>
  rw [hti] at ht
  have ht' : ti.und = .slice e := by simpa using ht
  cases hui : env.ctx.ty u with
  | none => rw [hui] at hu; cases hu
  | some ui =>
  rw [hui] at hu
  have hu' : ui.und = .string := by simpa using hu
  unfold Sl.app? at hz
  split at hz
  case isFalse => cases hz
  rename_i hfit
  injection hz with hz
  have hl : (Sl.l (Str.bytes s)).map (eI .u8) = s.map fun b => PV.int .u8 b.toNat := by simp [Sl.l, Str.bytes, Function.comp_def]
  have hlen : (Sl.l (Str.bytes s)).length = s.length := by simp [Sl.l, Str.bytes]
  have hlist : listOf (.str s) = some ((Sl.l (Str.bytes s)).map (eI .u8)) := by rw [hl]; rfl
  have happ := (H.app _ (app_mem hj)).1
  generalize hys : Sl.l (Str.bytes s) = ys at *
  cases hemp : ys.isEmpty with
  | true =>
    rw [hemp] at hz
    simp only [if_true] at hz
    subst hz
    have hnil : ys = [] := by simpa using hemp
    have hsl : isSlice v = true := by cases happ <;> rfl
    refine ⟨v, S, ?_, hx, ?_⟩
    · simp only [stp, evStep, callPV, List.map_cons, List.map_nil, ho, hb, appendPV]
      simp only [List.getElem?_toArray, List.getElem?_cons_zero, List.getElem?_cons_succ, hti, hui, hlist, ht', hu', he]
      simp [hnil, hsl]
    · have : A.set j (v, ei.size) = A := by
        apply List.ext_getElem?
        intro i
        rw [List.getElem?_set]
        split
        · rename_i hi; subst hi; rw [hj]; split
          · rfl
          · have := (List.getElem?_eq_some_iff.1 hj).1; omega
        · rfl
      rw [this]; exact H
  | false =>
    rw [hemp] at hz
    simp only [Bool.false_eq_true, if_false] at hz
    subst hz
    have hne : (ys.map (eI .u8)).isEmpty = false := by simpa using hemp
    have hsz : sizedAll ei.size (ys.map (eI .u8)) = true := by rw [k1]; exact sized_map (f := eI .u8) (fun _ => rfl) ys
    have cond : ¬ (sizedAll ei.size (ys.map (eI .u8)) = false ∨ ei.size = 0 ∨ ei.bytes = 0 ∨ ei.zero.storable = false ∨ ei.zero.cells.length ≠ ei.size) := by
      rw [hsz]; simp [k1, k2, k3, k4]
    have red : stp env fr σ S (.call ⟨.builtin .append, #[a, b], #[t, u]⟩) = (growPV ei v (ys.map (eI .u8)) S).map fun (v, S') => (v, S', false) := by
      simp only [stp, evStep, callPV, List.map_cons, List.map_nil, ho, hb, appendPV]
      simp only [List.getElem?_toArray, List.getElem?_cons_zero, List.getElem?_cons_succ, hti, hui, hlist, ht', hu', he, hne, Bool.false_eq_true, if_false]
      rw [if_neg cond]
      rfl
    rw [red]
    have key : ∃ v' S', growPV ei v (ys.map (eI .u8)) S = some (v', S') ∧ IsSl (eI .u8) (some (x.l ++ ys)) v' := by
      cases x with
      | none =>
        cases hx
        have hfit : ys.length * ei.bytes ≤ 2 ^ 47 := by have h := hfit; rw [show (Sl.l (none : Sl Int)).length = 0 from rfl, Nat.zero_add] at h; exact h
        exact ⟨.lst (ys.map (eI .u8)) (.tip S.length), S ++ [.tip (ys.map (eI .u8)).length ei.size], by unfold growPV; simp only; rw [if_pos (by simpa using hfit)], .tip S.length, by simp [Sl.l]⟩
      | some l =>
        obtain ⟨tag, rfl⟩ := hx
        have hfit : (l.length + ys.length) * ei.bytes ≤ 2 ^ 47 := hfit
        cases tag with
        | none => cases happ
        | full =>
          cases happ with
          | full _ hs =>
          exact ⟨.lst (l.map (eI .u8) ++ ys.map (eI .u8)) (.tip S.length), S ++ [.tip ((l.map (eI .u8)).length + (ys.map (eI .u8)).length) ei.size], by unfold growPV; simp only [hs]; rw [if_pos ⟨by simpa using hfit, trivial⟩], .tip S.length, by simp [Sl.l]⟩
        | tip id =>
          cases happ with
          | tip _ _ hs =>
          exact ⟨.lst (l.map (eI .u8) ++ ys.map (eI .u8)) (.tip id), S.set id (.tip ((l.map (eI .u8)).length + (ys.map (eI .u8)).length) ei.size), by unfold growPV; simp only [hs]; rw [if_pos ⟨trivial, trivial, by simpa using hfit⟩], .tip id, by simp [Sl.l]⟩
    obtain ⟨v', S', h1, h2⟩ := key
    exact ⟨v', S', by rw [h1]; rfl, h2, H.grown j hj h1⟩
end Go.Pam
namespace Go.Pam
theorem st_int (k : IntKind) (n : Int) : (PV.int k n).strip = .int k n := rfl
theorem st_bool (b : Bool) : (PV.bool b).strip = .bool b := rfl
theorem st_str (s : List UInt8) : (PV.str s).strip = .str s := rfl
theorem st_nils : PV.nils.strip = .nils := rfl
theorem st_lst (l : List PV) (t : Tag) : (PV.lst l t).strip = .lst l .none := rfl
theorem st_agg (l : List PV) : (PV.agg l).strip = .agg (l.map PV.strip1) := rfl
theorem st_tup (l : List PV) : (PV.tup l).strip = .tup (l.map PV.strip2) := rfl
theorem st_fn (f : Fn) (a b : List PV) : (PV.fn f a b).strip = .fn f a b := rfl
theorem st1_int (k : IntKind) (n : Int) : (PV.int k n).strip1 = .int k n := rfl
theorem st1_bool (b : Bool) : (PV.bool b).strip1 = .bool b := rfl
theorem st1_str (s : List UInt8) : (PV.str s).strip1 = .str s := rfl
theorem st1_nils : PV.nils.strip1 = .nils := rfl
theorem st1_lst (l : List PV) (t : Tag) : (PV.lst l t).strip1 = .lst l .none := rfl
theorem st2_int (k : IntKind) (n : Int) : (PV.int k n).strip2 = .int k n := rfl
theorem st2_bool (b : Bool) : (PV.bool b).strip2 = .bool b := rfl
theorem st2_str (s : List UInt8) : (PV.str s).strip2 = .str s := rfl
theorem st2_nils : PV.nils.strip2 = .nils := rfl
theorem st2_lst (l : List PV) (t : Tag) : (PV.lst l t).strip2 = .lst l .none := rfl
theorem st2_agg (l : List PV) : (PV.agg l).strip2 = .agg (l.map PV.strip1) := rfl
end Go.Pam
namespace Go.Pam
theorem encSl_none {α : Type} (f : α → PV) : encSl f (none : Sl α) = .nils := rfl
theorem encSl_some {α : Type} (f : α → PV) (l : List α) : encSl f (some l) = .lst (l.map f) .none := rfl
end Go.Pam
namespace Go.Pam
theorem fc {α : Type} {P : α → Prop} {a : α} {l : List α} (h : P a) (hl : ∀ p ∈ l, P p) : ∀ p ∈ a :: l, P p := fun p hp => by
  rcases List.mem_cons.1 hp with rfl | hp
  · exact h
  · exact hl p hp
end Go.Pam
namespace Go.Pam
theorem clean_eI (k : IntKind) : ∀ n, (eI k n).clean = true := fun _ => rfl
theorem clean_eB : ∀ n, (eB n).clean = true := fun _ => rfl
theorem clean_eS : ∀ n, (eS n).clean = true := fun _ => rfl
end Go.Pam
namespace Go.Pam
variable {env : Env} {fr : Fr} {σ : Nat → PV} {S : List SObj}
theorem WD.split (n : Nat) {hd tl : List POp} {e : Bool} {K : KS} (P : KS) (h : WH env fr hd σ S fun σ' => WO env fr (tl.take n) σ' S e P) (h2 : ∀ σ' S' e', P σ' S' e' → WO env fr (tl.drop n) σ' S' e' K) :
    WH env fr hd σ S fun σ' => WO env fr tl σ' S e K := by
  obtain ⟨σ1, h1, hp⟩ := h
  exact ⟨σ1, h1, WO.split n P hp h2⟩
end Go.Pam
