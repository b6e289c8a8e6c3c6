/- Further operations on plain data: what is laid into the store, conversions, comparisons, pairs of calls. -/
import Derived.Test.YthkjepoaddfoiaaPam25
namespace Go.Pam
set_option linter.unusedVariables false
set_option linter.unusedSimpArgs false
variable {env : Env} {fr : Fr} {σ : Nat → PV} {S : List SObj} {S0 : List SObj} {R : List Nat} {C : List (Nat × SObj)} {A : List (PV × Nat)} {W : List (PV × SObj)}

theorem stp_load {t : TypeId} {a : Operand} {id off : Nat} {cs : List PV} {v : PV} (ho : opd σ a = .ptr id off) (hg : S[id]? = some (.cells cs)) (hp : partOf env.ctx t cs off = some v) :
    stp env fr σ S (.load t a) = some (v, S, false) := by
  simp only [stp, evStep, ho, loadPV, hg, hp, Option.map_some]

theorem stp_store {t : TypeId} {a x : Operand} {id off sz : Nat} {cs cs' xc : List PV} {v : PV} {e : Bool} (ho : opd σ a = .ptr id off) (hx : opd σ x = v) (hg : S[id]? = some (.cells cs)) (ht : (env.ctx.ty t).map (·.size) = some sz)
    (hs : v.storable = true) (hv : v.cells = xc) (hl : xc.length = sz) (hb : off + sz ≤ cs.length) (hc : cs.take off ++ xc ++ cs.drop (off + sz) = cs') (he : (decide (id < fr.base) && !v.clean) = e) :
    stp env fr σ S (.store t a x) = some (.tup [], S.set id (.cells cs'), e) := by
  cases hti : env.ctx.ty t with
  | none => rw [hti] at ht; cases ht
  | some ti =>
    rw [hti] at ht
    have hz : ti.size = sz := by simpa using ht
    subst hc hz hv
    have hn : ¬ (v.storable = false ∨ v.cells.length ≠ ti.size ∨ off + ti.size > cs.length) := by
      rintro (h | h | h)
      · rw [hs] at h; cases h
      · exact h hl
      · omega
    simp only [stp, evStep, ho, hx, storePV, hg, hti, if_neg hn, he, Option.map_some]

theorem stp_box {t : TypeId} {x : Operand} {v : PV} {cs : List PV} (hx : opd σ x = v) (hs : v.storable = true) (hv : v.cells = cs) :
    stp env fr σ S (.box t x) = some (.ptr S.length 0, S ++ [.cells cs], false) := by
  subst hv
  simp only [stp, evStep, hx, hs, if_true]

theorem stp_alloc {t : TypeId} {ti : TyI} {cs : List PV} (ht : env.ctx.ty t = some ti) (hs : ti.zero.storable = true) (hv : ti.zero.cells = cs) :
    stp env fr σ S (.alloc t) = some (.ptr S.length 0, S ++ [.cells cs], false) := by
  subst hv
  simp only [stp, evStep, ht, hs, if_true]

theorem fill_cons {place : Nat → Option (Nat × Nat)} {cells cells' xc : List PV} {i off size : Nat} {v : PV} {rest : List (Nat × PV)} {r : List PV} (hp : place i = some (off, size)) (hs : v.storable = true) (hv : v.cells = xc) (hl : xc.length = size)
    (hb : off + size ≤ cells.length) (hc : cells.take off ++ xc ++ cells.drop (off + size) = cells') (h : fillPV place cells' rest = some r) : fillPV place cells ((i, v) :: rest) = some r := by
  subst hv hc
  unfold fillPV
  simp only [hp]
  rw [if_neg]
  · exact h
  · rintro (h | h | h)
    · rw [hs] at h; cases h
    · exact h hl
    · omega

theorem stp_build {t : TypeId} {ps : Array (Nat × Operand)} {ti : TyI} {fs : Array Field} {pl : List (Nat × Nat)} {parts : List (Nat × PV)} {cs : List PV} (ht : env.ctx.ty t = some ti) (hu : ti.und = .struct fs) (hz : ti.zero.storable = true)
    (hpl : placesOf env.ctx fs.toList = some pl) (hps : (ps.toList.map fun p => (p.1, opd σ p.2)) = parts) (hf : fillPV (fun i => pl[i]?) ti.zero.cells parts = some cs) :
    stp env fr σ S (.build t ps) = some (.agg cs, S, false) := by
  have hz' : ¬ ti.zero.storable = false := by rw [hz]; simp
  simp only [stp, evStep, hps, buildPV, ht, hu, if_neg hz', hpl, hf, Option.map_some]

theorem setParts_go {sz : Nat} : ∀ (parts : List (Nat × PV)) (ys : List PV) (done z : List PV), parts.map (·.1) = (List.range' done.length ys.length) → parts.map (·.2.strip) = ys →
    (∀ p ∈ parts, p.2.storable = true ∧ p.2.cells.length = sz) → z.length = ys.length → setParts sz (done ++ z) parts = some (done ++ ys)
  | [], ys, done, z, h1, h2, h3, h4 => by
    simp only [List.map_nil] at h2; subst h2
    have : z = [] := by simpa using h4
    subst this; rfl
  | (i, v) :: parts, ys, done, z, h1, h2, h3, h4 => by
    cases ys with
    | nil => simp at h2
    | cons y ys =>
      cases z with
      | nil => simp at h4
      | cons z0 z =>
        simp only [List.length_cons, List.range'_succ, List.map_cons, List.cons.injEq] at h1 h2
        obtain ⟨rfl, h1⟩ := h1
        obtain ⟨rfl, h2⟩ := h2
        have hv := h3 _ List.mem_cons_self
        unfold setParts
        rw [if_pos ⟨hv.1, hv.2, by simp⟩]
        have : (done ++ z0 :: z).set done.length v.strip = (done ++ [v.strip]) ++ z := by simp
        rw [this]
        have := setParts_go parts ys (done ++ [v.strip]) z (by simpa using h1) h2 (fun p hp => h3 p (List.mem_cons_of_mem _ hp)) (by simpa using h4)
        rw [this]; simp

theorem stp_buildSlice {α : Type} {f : α → PV} {t e : TypeId} {n : Nat} {ps : Array (Nat × Operand)} {ei : TyI} {ys : List α} {parts : List (Nat × PV)} (ht : (env.ctx.ty t).map (·.und) = some (.slice e)) (he : env.ctx.ty e = some ei)
    (hok : (decide (n * ei.size ≤ 2 ^ 24) && decide (ei.size ≠ 0) && decide (ei.zero.cells.length = ei.size) && ei.zero.storable) = true)
    (hps : (ps.toList.map fun p => (p.1, opd σ p.2)) = parts) (h1 : parts.map (·.1) = List.range' 0 n) (h2 : parts.map (·.2.strip) = ys.map f) (h3 : ∀ p ∈ parts, p.2.storable = true ∧ p.2.cells.length = ei.size) (hn : ys.length = n) :
    stp env fr σ S (.buildSlice t n ps) = some (.lst (ys.map f) .full, S, false) := by
  simp only [Bool.and_eq_true, decide_eq_true_eq] at hok
  obtain ⟨⟨⟨k1, k2⟩, k3⟩, k4⟩ := hok
  cases hti : env.ctx.ty t with
  | none => rw [hti] at ht; cases ht
  | some ti =>
    rw [hti] at ht
    have hu : ti.und = .slice e := by simpa using ht
    have := setParts_go (sz := ei.size) parts (ys.map f) [] (List.replicate n ei.zero) (by simpa [hn] using h1) h2 h3 (by simp [hn])
    simp only [List.nil_append] at this
    simp only [stp, evStep, hps, buildSlicePV, hti, hu, he]
    rw [if_pos ⟨k1, k2, k3, k4⟩, this]
    rfl

theorem stp_bytes {s : Str} {a : Operand} {st dt e : TypeId} (ho : opd σ a = .str s) (hs : (env.ctx.ty st).map (·.und) = some .string) (hd : (env.ctx.ty dt).map (·.und) = some (.slice e)) (he : (env.ctx.ty e).map (·.und) = some (.int .u8)) (H : Hp S0 R S C A W) :
    ∃ v' S', stp env fr σ S (.convert st dt a) = some (v', S', false) ∧ IsSl (eI .u8) (Str.bytes s) v' ∧ Hp S0 R S' C ((v', 1) :: A) W := by
  cases h1 : env.ctx.ty st with
  | none => rw [h1] at hs; cases hs
  | some si =>
  rw [h1] at hs
  have hs' : si.und = .string := by simpa using hs
  cases h2 : env.ctx.ty dt with
  | none => rw [h2] at hd; cases hd
  | some di =>
  rw [h2] at hd
  have hd' : di.und = .slice e := by simpa using hd
  cases h3 : env.ctx.ty e with
  | none => rw [h3] at he; cases he
  | some ei =>
  rw [h3] at he
  have he' : ei.und = .int .u8 := by simpa using he
  have := H.addTip (s.map fun b => PV.int .u8 b.toNat) 1
  refine ⟨.lst (s.map fun b => .int .u8 b.toNat) (.tip S.length), S ++ [.tip s.length 1], ?_, ⟨.tip S.length, ?_⟩, by simpa using this⟩
  · simp only [stp, evStep, ho, convPV, h1, h2, hs', hd', h3, he', Option.map_some]
  · simp [Function.comp_def]

theorem bytesOf_map : ∀ (l : List Int), convPV.bytesOfPV (l.map (eI .u8)) = some (l.map fun n => UInt8.ofNat n.toNat)
  | [] => rfl
  | n :: l => by simp [convPV.bytesOfPV, bytesOf_map l]

theorem stp_text {x : Sl Int} {v : PV} {a : Operand} {st dt e : TypeId} (ho : opd σ a = v) (hx : IsSl (eI .u8) x v) (hs : (env.ctx.ty st).map (·.und) = some (.slice e)) (hd : (env.ctx.ty dt).map (·.und) = some .string) (he : (env.ctx.ty e).map (·.und) = some (.int .u8)) :
    stp env fr σ S (.convert st dt a) = some (.str (Str.of x), S, false) := by
  cases h1 : env.ctx.ty st with
  | none => rw [h1] at hs; cases hs
  | some si =>
  rw [h1] at hs
  have hs' : si.und = .slice e := by simpa using hs
  cases h2 : env.ctx.ty dt with
  | none => rw [h2] at hd; cases hd
  | some di =>
  rw [h2] at hd
  have hd' : di.und = .string := by simpa using hd
  cases h3 : env.ctx.ty e with
  | none => rw [h3] at he; cases he
  | some ei =>
  rw [h3] at he
  have he' : ei.und = .int .u8 := by simpa using he
  cases x with
  | none => cases hx; simp only [stp, evStep, ho, convPV, h1, h2, hs', hd', h3, he', Option.map_some]; rfl
  | some l => obtain ⟨tag, rfl⟩ := hx; simp only [stp, evStep, ho, convPV, h1, h2, hs', hd', h3, he', Option.map_some, bytesOf_map]; rfl

theorem stp_make {α : Type} {f : α → PV} {z : α} {t e : TypeId} {ei : TyI} {l c : Operand} {n : Int} {k : IntKind} {x : Sl α} (hl : opd σ l = .int k n) (hc : opd σ c = .int k n) (ht : (env.ctx.ty t).map (·.und) = some (.slice e)) (he : env.ctx.ty e = some ei)
    (hok : (decide (ei.size ≠ 0) && decide (ei.zero.cells.length = ei.size) && ei.zero.storable) = true) (hz : f z = ei.zero) (hsz : ∀ a, (f a).cells.length = ei.size)
    (hx : (if 0 ≤ n ∧ ei.bytes * n ≤ 2 ^ 47 ∧ n ≤ 2 ^ 62 then some (some (List.replicate n.toNat z)) else none) = some x) (H : Hp S0 R S C A W) :
    ∃ v', stp env fr σ S (.makeSlice t l c) = some (v', S, false) ∧ IsSl f x v' ∧ Hp S0 R S C ((v', ei.size) :: A) W := by
  simp only [Bool.and_eq_true, decide_eq_true_eq] at hok
  obtain ⟨⟨k1, k2⟩, k3⟩ := hok
  cases hti : env.ctx.ty t with
  | none => rw [hti] at ht; cases ht
  | some ti =>
    rw [hti] at ht
    have hu : ti.und = .slice e := by simpa using ht
    split at hx
    case isFalse => cases hx
    rename_i h0
    injection hx with hx; subst hx
    refine ⟨.lst ((List.replicate n.toNat z).map f) .full, ?_, ⟨_, rfl⟩, H.addFull _ _ (sized_map hsz _)⟩
    simp only [stp, evStep, hl, hc, makeSlicePV, hti, hu, he]
    rw [if_pos ⟨h0.1, trivial, h0.2.1, h0.2.2, k1, k2, k3⟩]
    simp [hz]

def plain : PV → PV → Bool
  | .int _ _, .int _ _ => false
  | .str _, .str _ => false
  | _, _ => true

theorem binPV_eql (ctx : Ctx) (t : TypeId) (a b : Operand) (x y : PV) (h : plain x y = true) : binPV ctx .eql t a b x y = if eqGuardOk a b x y then (eqIn ctx 40 t x y).map .bool else none := by
  unfold binPV
  split <;> first | rfl | simp_all [plain]

theorem binPV_neq (ctx : Ctx) (t : TypeId) (a b : Operand) (x y : PV) (h : plain x y = true) : binPV ctx .neq t a b x y = if eqGuardOk a b x y then (eqIn ctx 40 t x y).map fun b => .bool !b else none := by
  unfold binPV
  split <;> first | rfl | simp_all [plain]

theorem stp_eq {t u : TypeId} {a b : Operand} {x y : PV} {r : Bool} (ha : opd σ a = x) (hb : opd σ b = y) (hr : eqB env.ctx 40 t x y = some r) (hg : eqGuardOk a b x y = true) (hk : plain x y = true) :
    stp env fr σ S (.binOp .eql t a b u) = some (.bool r, S, false) := by
  have h := eqB_ok env.ctx 40 t x y r hr
  simp only [stp, evStep, ha, hb, binPV_eql _ _ _ _ _ _ hk, hg, if_true, h, Option.map_some]

theorem stp_ne {t u : TypeId} {a b : Operand} {x y : PV} {r : Bool} (ha : opd σ a = x) (hb : opd σ b = y) (hr : eqB env.ctx 40 t x y = some r) (hg : eqGuardOk a b x y = true) (hk : plain x y = true) :
    stp env fr σ S (.binOp .neq t a b u) = some (.bool (!r), S, false) := by
  have h := eqB_ok env.ctx 40 t x y r hr
  simp only [stp, evStep, ha, hb, binPV_neq _ _ _ _ _ _ hk, hg, if_true, h, Option.map_some]

theorem stp_isNil {α : Type} {f : α → PV} {x : Sl α} {v : PV} {t u e : TypeId} {a b : Operand} (ha : opd σ a = v) (hx : IsSl f x v) (hb : opd σ b = .nils) (ht : (env.ctx.ty t).map (·.und) = some (.slice e)) :
    stp env fr σ S (.binOp .eql t a b u) = some (.bool (Sl.isNil x), S, false) := by
  cases hti : env.ctx.ty t with
  | none => rw [hti] at ht; cases ht
  | some ti =>
    rw [hti] at ht
    have hu : ti.und = .slice e := by simpa using ht
    cases x with
    | none => cases hx; simp [stp, evStep, ha, hb, binPV, eqGuardOk, eqIn, hti, hu, Sl.isNil]
    | some l => obtain ⟨tag, rfl⟩ := hx; simp [stp, evStep, ha, hb, binPV, eqGuardOk, eqIn, hti, hu, Sl.isNil]

theorem stp_notNil {α : Type} {f : α → PV} {x : Sl α} {v : PV} {t u e : TypeId} {a b : Operand} (ha : opd σ a = v) (hx : IsSl f x v) (hb : opd σ b = .nils) (ht : (env.ctx.ty t).map (·.und) = some (.slice e)) :
    stp env fr σ S (.binOp .neq t a b u) = some (.bool (!Sl.isNil x), S, false) := by
  cases hti : env.ctx.ty t with
  | none => rw [hti] at ht; cases ht
  | some ti =>
    rw [hti] at ht
    have hu : ti.und = .slice e := by simpa using ht
    cases x with
    | none => cases hx; simp [stp, evStep, ha, hb, binPV, eqGuardOk, eqIn, hti, hu, Sl.isNil]
    | some l => obtain ⟨tag, rfl⟩ := hx; simp [stp, evStep, ha, hb, binPV, eqGuardOk, eqIn, hti, hu, Sl.isNil]

theorem stp_strApp {x y z : Str} {t u : TypeId} {a b : Operand} (ha : opd σ a = .str x) (hb : opd σ b = .str y) (hz : Str.app? x y = some z) : stp env fr σ S (.binOp .add t a b u) = some (.str z, S, false) := by
  unfold Str.app? at hz
  simp only [stp, evStep, ha, hb, binPV, strOp]
  split at hz
  · cases hz
  · rename_i h; injection hz with hz; subst hz; simp only [h, if_false, Option.map_some]

theorem stp_quo {t u : TypeId} {k : IntKind} {a b : Operand} {x y z : Int} (ha : opd σ a = .int k x) (hb : opd σ b = .int k y) (hz : quo? k x y = some z) : stp env fr σ S (.binOp .quo t a b u) = some (.int k z, S, false) := by
  unfold quo? at hz
  simp only [stp, evStep, ha, hb, binPV, intOp]
  split at hz
  · cases hz
  · rename_i h; injection hz with hz; subst hz; simp [h]

theorem stp_rem {t u : TypeId} {k : IntKind} {a b : Operand} {x y z : Int} (ha : opd σ a = .int k x) (hb : opd σ b = .int k y) (hz : rem? x y = some z) : stp env fr σ S (.binOp .rem t a b u) = some (.int k z, S, false) := by
  unfold rem? at hz
  simp only [stp, evStep, ha, hb, binPV, intOp]
  split at hz
  · cases hz
  · rename_i h; injection hz with hz; subst hz; simp [h]

theorem stp_shl {t u : TypeId} {k k' : IntKind} {a b : Operand} {x y z : Int} (ha : opd σ a = .int k x) (hb : opd σ b = .int k' y) (hz : shl? k x y = some z) : stp env fr σ S (.binOp .shl t a b u) = some (.int k z, S, false) := by
  unfold shl? at hz
  simp only [stp, evStep, ha, hb, binPV, shiftOp]
  split at hz
  · cases hz
  · rename_i h; injection hz with hz; subst hz; simp [h]

theorem stp_shr {t u : TypeId} {k k' : IntKind} {a b : Operand} {x y z : Int} (ha : opd σ a = .int k x) (hb : opd σ b = .int k' y) (hz : shr? k x y = some z) : stp env fr σ S (.binOp .shr t a b u) = some (.int k z, S, false) := by
  unfold shr? at hz
  simp only [stp, evStep, ha, hb, binPV, shiftOp]
  split at hz
  · cases hz
  · rename_i h; injection hz with hz; subst hz; simp [h]

theorem stp_pickT {c a b : Operand} {t : Bool} {v : PV} (hc : opd σ c = .bool t) (ht : t = true) (ha : opd σ a = v) : stp env fr σ S (.pick c a b) = some (v, S, false) := by
  subst ht; simp only [stp, evStep, hc, ha, if_true]
theorem stp_pickF {c a b : Operand} {t : Bool} {v : PV} (hc : opd σ c = .bool t) (ht : t = false) (ha : opd σ b = v) : stp env fr σ S (.pick c a b) = some (v, S, false) := by
  subst ht; simp only [stp, evStep, hc, ha, Bool.false_eq_true, if_false]

theorem stp_call {f : FuncId} {op : Operand} {args : Array Operand} {ts : Array TypeId} {cap vs : List PV} {v : PV} {S' : List SObj} {e : Bool} (hf : opd σ op = .fn (.func f) [] cap) (ha : args.toList.map (opd σ) ++ cap = vs) (h : evw env f vs S = some (v, S', e)) :
    stp env fr σ S (.call ⟨.value op, args, ts⟩) = some (v, S', e) := by
  subst ha
  simp only [stp, evStep, callPV, hf, h]
end Go.Pam
