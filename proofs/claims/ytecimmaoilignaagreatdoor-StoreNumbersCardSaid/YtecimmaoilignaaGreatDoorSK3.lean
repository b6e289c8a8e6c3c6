/- The disk's functions walked: New, Limit, Read, IndexFunc, DeleteFunc, Sync. -/
import Derived.Test.YtecimmaoilignaaGreatDoorSK2
namespace Go.Proofs.YtecimmaoilignaaGreatDoor.M.L
set_option linter.unusedVariables false
set_option linter.unusedSimpArgs false
open Go Go.Pam
set_option maxRecDepth 4000
section
variable {S S0 : List SObj} {R : List Nat} {C : List (Nat × SObj)} {A : List (PV × Nat)} {W : List (PV × SObj)} {i j1 j2 : Nat} {v : PV} {o : SObj} {d d' : Dsk}
def Dsk.read (d : Dsk) (n : Str) : Str × Int :=
  if d.left == 0 then ([], 22) else match Mp.get? d.now n with
    | none => ([], 23)
    | some b => (b, 0)
theorem read_dk {n : Str} (H : DH S0 R S i j1 j2 v o d C A W) : evw env 63 [.ptr i 0, .str n] S = some (.tup [.str (d.read n).1, .int .i64 (d.read n).2], S, false) := by
  refine evw_roW (pf := fn63) rfl rfl rfl rfl rfl (WB.of (pf := fn63) rfl ?_)
  refine WC.seqR (us 2 rfl (WO.nil ?_))
  refine WC.seqR (us 3 rfl ?_)
  refine Wg H 0 rfl (us 1 rfl ?_)
  refine WO.look 2 (z := []) H rfl rfl (us 5 rfl (WO.nil ?_))
  refine WC.seq (WC.block ?_)
  refine WC.seqR (us 1 rfl ?_)
  refine WO.step (v := .bool (d.left == 0)) rfl (nz rfl (stp_call rfl rfl (off_dk H))) (us 1 rfl (WO.nil ?_))
  unfold Dsk.read
  by_cases h0 : (d.left == 0) = true
  · refine WC.condT rfl h0 (WC.seqR (us 2 rfl (WO.nil ?_)))
    rw [if_pos h0]
    exact WC.ret (KX.block_r (KX.seq_r (KB.ret (vs := [.str [], .int .i64 22]) rfl rfl ⟨rfl, rfl, rfl⟩)))
  have h0' : (d.left == 0) = false := by simpa using h0
  refine WC.condF rfl h0' (WC.seqR (us 3 rfl (WO.nil ?_)))
  rw [if_neg h0]
  rcases hg : Mp.get? d.now n with _ | b
  · refine WC.condT rfl rfl (WC.seqR (us 2 rfl (WO.nil ?_)))
    exact WC.ret (KX.block_r (KX.seq_r (KB.ret (vs := [.str [], .int .i64 23]) rfl rfl ⟨rfl, rfl, rfl⟩)))
  · refine WC.condF rfl rfl (WC.skip (KX.block_n (KX.seq_n ?_)))
    refine WC.seqR (us 3 rfl (WO.nil ?_))
    exact WC.ret (KB.ret (vs := [.str b, .int .i64 0]) rfl rfl ⟨rfl, rfl, rfl⟩)
theorem run5 (n : Nat) (r : Int) (S : List SObj) : ev env (n + 2) 5 [.int .i64 r] S = some (.ptr (S ++ [SObj.map []] ++ [SObj.map []]).length 0,
    S ++ [.map []] ++ [.map []] ++ [.cells [.int .i64 (imin (imax r 0) 1000000), .map S.length, .map (S ++ [SObj.map []]).length, .nils, .int .i64 0, .int .i64 (-1)]], false) := by rfl
/-- The place of an element of a row, what stands there. -/
theorem stp_idxR {fr : Fr} {σ : Nat → PV} {a x : Operand} {k : IntKind} {r n m : Nat} (ho : opd σ a = .rsl r n) (hi : opd σ x = .int k (m : Int)) (hm : m < n) : stp env fr σ S (.indexAddr 56 a x) = some (.ptr r (m * 3), S, false) := by
  have e1 : env.ctx.ty 56 = some ty56 := rfl
  have e2 : env.ctx.ty 164 = some ty164 := rfl
  have e3 : ty56.und = .slice 164 := rfl
  have e4 : ty164.size = 3 := rfl
  simp only [stp, evStep, hi, ho, indexAddrPV, e1, e2, e3, e4]
  rw [if_pos (by omega)]
  simp
theorem ldR {r m : Nat} {xs : List PV} {p : List DOp} {y : DOp} (hS : S[r]? = some (.row xs 3 false)) (hx : p.map eOp ++ xs.drop p.length = xs) (hm : p[m]? = some y) : loadPV env.ctx 164 (.ptr r (m * 3)) S = some (eOp y) := by
  have h1 : xs[m]? = some (eOp y) := by
    have hlt := (List.getElem?_eq_some_iff.1 hm).1
    rw [← hx, List.getElem?_append_left (by simpa using hlt), List.getElem?_map, hm]; rfl
  simp only [loadPV, hS]
  rw [Nat.mul_div_cancel _ (by omega), Nat.mul_mod_left, h1]
  rfl
theorem WO.ldx {fr : Fr} {σ : Nat → PV} {e : Bool} {K : KS} {d : Option Nat} {rest : List POp} {t : TypeId} {a : Operand} {u w : PV} (hd : dstOk fr.ntmps d = true) (ho : opd σ a = u) (hl : loadPV env.ctx t u S = some w)
    (h : WO env fr rest (upd σ d w) S (e || false) K) : WO env fr (⟨d, .load t a, none, false⟩ :: rest) σ S e K :=
  WO.step (v := w) hd (nz rfl (by simp only [stp, evStep, ho, hl]; rfl)) h
/-- Is the operation one of this file's? -/
theorem same_dk {y : DOp} {b : Nat} {nm : Str} (hb : S[b]? = some (.cells [.str nm])) : evw env 99 [eOp y, .ptr b 0] S = some (.bool (y.name == nm), S, false) := by
  have hlt := (List.getElem?_eq_some_iff.1 hb).1
  refine evw_recvW (pf := fn99) rfl rfl (Nat.le_of_ble_eq_true rfl) rfl (WB.of (pf := fn99) rfl ?_)
  have H := Hp.start S
  refine WC.seqR (Wb (v := eOp y) (cs := [.str y.name, .str y.b, .bool y.put]) H rfl fun ib S1 _ H => ?_)
  refine us 1 rfl (WO.nil ?_)
  refine WC.seqR (us 1 rfl ?_)
  refine Wg H 0 rfl ?_
  refine WO.ldx rfl rfl (ld ((H.old b hlt (by simp)).trans hb) rfl) ?_
  refine us 2 rfl (WO.nil ?_)
  refine WC.ret (Kr (.bool (y.name == nm)) rfl ?_)
  exact leave_of rfl rfl rfl (by simp) H.len fun k hk => H.old k hk (by simp)
theorem indexFunc_dk {p : List DOp} {b : Nat} {nm : Str} (hp : IsP p v o) (hv : ∀ r, Go.Pam.rowAt v = some r → S[r]? = some o) (hb : S[b]? = some (.cells [.str nm])) (hn : ∀ y ∈ p, y.name = nm) (hlp : p.length ≤ 1000000) :
    evw env 141 [v, .fn (.func 99) [] [.ptr b 0]] S = some (.int .i64 (if p = [] then -1 else 0), S, false) := by
  refine evw_roW (pf := fn141) rfl rfl rfl ?_ rfl (WB.of (pf := fn141) rfl ?_)
  · cases hp <;> rfl
  have none : ∀ {w : PV}, v = w → lenPV env.ctx 56 w S = some 0 → p = [] → WC env ⟨fn141.ntmps, S.length⟩ fn141.body (fun k => [w, .fn (.func 99) [] [.ptr b 0]].getD k (.tup [])) S false (KB env fn141 fun u S' e => u = .int .i64 (if p = [] then -1 else 0) ∧ S' = S ∧ e = false) := fun {w} hw h0 he => by
    refine WC.seqR (us 1 rfl (WO.nil ?_))
    refine WC.seq (WC.seqR (us 1 rfl ?_))
    refine WO.step (v := .int .i64 0) rfl (nz rfl (by simp only [stp, evStep, callPV]; show ((lenPV env.ctx 56 w S).map _) = _; rw [h0]; rfl)) (us 1 rfl (WO.nil ?_))
    refine WC.block (WC.loop (WC.seqR (us 1 rfl (WO.nil ?_))))
    refine WC.seq (WC.condF rfl rfl (WC.exit (KX.seq_x (KX.seq_x (KX.block_x (KX.seq_n ?_))))))
    refine WC.seqR (us 1 rfl (WO.nil ?_))
    rw [if_pos he]
    exact WC.ret (Kr (.int .i64 (-1)) rfl ⟨rfl, rfl, rfl⟩)
  cases hp with
  | nil o h => exact none rfl rfl h
  | row r xs h =>
    cases p with
    | nil => exact none rfl rfl rfl
    | cons y l =>
      refine WC.seqR (us 1 rfl (WO.nil ?_))
      refine WC.seq (WC.seqR (us 3 rfl (WO.nil ?_)))
      refine WC.block (WC.loop (WC.seqR (us 1 rfl (WO.nil ?_))))
      refine WC.seq (WC.condT (t := decide ((0 : Int) < (((y :: l).length : Nat) : Int))) rfl (by simp) (WC.skip ?_))
      refine WC.seq (WC.block (WC.seqR (us 2 rfl (WO.nil ?_))))
      refine WC.seqR (us 3 rfl ?_)
      refine WO.step (v := .ptr r (0 * 3)) rfl (nz rfl (stp_idxR (m := 0) (n := (y :: l).length) rfl rfl (by simp))) ?_
      refine WO.ldx (w := eOp y) rfl rfl (ldR (m := 0) (p := y :: l) (hv r rfl) h rfl) ?_
      refine WO.step (v := .bool (y.name == nm)) rfl (nz rfl (stp_call rfl rfl (same_dk hb))) (WO.nil ?_)
      refine WC.condT rfl (by rw [hn y (by simp)]; simp) (WC.seqR (us 2 rfl (WO.nil ?_)))
      rw [if_neg (by simp)]
      exact WC.ret (KX.block_r (KX.seq_r (KX.seq_r (KX.block_r (KX.seq_r (Kr (.int .i64 0) rfl ⟨rfl, rfl, rfl⟩))))))
theorem delL {p : List DOp} {b r base : Nat} {nm : Str} {xs : List PV} {K : KX} (c : Nat) (hc : C[c]? = some (b, .cells [.str nm])) (hx : p.map eOp ++ xs.drop p.length = xs) (hn : ∀ y ∈ p, y.name = nm) (hlp : p.length ≤ 1000000)
    (hK : ∀ σ' S', Known [(0, .rsl r p.length), (1, .fn (.func 99) [] [.ptr b 0]), (5, .int .i64 0)] σ' → Hp S0 R S' C A ((.rsl r p.length, .row xs 3 false) :: W) → K (.exit 0) σ' S' false) :
    ∀ (k m : Nat) (σ : Nat → PV) (S : List SObj), m + k = p.length → Known [(0, .rsl r p.length), (1, .fn (.func 99) [] [.ptr b 0]), (5, .int .i64 0), (6, .int .i64 (m : Int))] σ → Hp S0 R S C A ((.rsl r p.length, .row xs 3 false) :: W) →
      WC env ⟨42, base⟩ (.loop pc98L0) σ S false K := by
  intro k
  induction k with
  | zero =>
    intro m σ S hm hk H
    refine WC.of_known hk (WC.loop ?_)
    refine WC.seq (WC.seq (WC.region (us 4 rfl (WO.nil ?_))))
    refine KX.seq_n (WC.condF (t := decide ((m : Int) < (p.length : Int))) rfl (by simp; omega) (WC.exit ?_))
    exact KX.seq_x (KX.seq_x (hK _ _ (known_cons rfl (known_cons rfl (known_cons rfl known_nil))) H))
  | succ k ih =>
    intro m σ S hm hk H
    have hlt : m < p.length := by omega
    have hy : p[m]? = some p[m] := List.getElem?_eq_getElem hlt
    generalize p[m] = y at hy
    have hny := hn y (List.mem_of_getElem? hy)
    refine WC.of_known hk (WC.loop ?_)
    refine WC.seq (WC.seq (WC.region (us 4 rfl (WO.nil ?_))))
    refine KX.seq_n (WC.condT (t := decide ((m : Int) < (p.length : Int))) rfl (by simp; omega) (WC.skip ?_))
    refine KX.seq_n (WC.seq (WC.block ?_))
    refine WC.seqR (us 2 rfl ?_)
    refine WO.step (v := .ptr r (m * 3)) rfl (nz rfl (stp_idxR (m := m) (n := p.length) rfl rfl hlt)) ?_
    refine WO.ldx (w := eOp y) rfl rfl (ldR (H.getW 0 rfl rfl) hx hy) ?_
    refine Wa (cs := [.str [], .str [], .bool false]) H rfl fun ib S1 _ H => ?_
    refine WO.stc 0 H (cs' := [.str y.name, .str y.b, .bool y.put]) rfl fun S2 H => WO.nil ?_
    refine WC.seqR (us 1 rfl ?_)
    refine Wg H 0 rfl ?_
    refine WO.step (v := .bool (y.name == nm)) rfl (nz rfl (stp_call rfl rfl (same_dk (H.get (c + 1) hc)))) (us 1 rfl (WO.nil ?_))
    refine WC.condF (t := !(y.name == nm)) rfl (by rw [hny]; simp) (WC.skip ?_)
    refine KX.block_n (KX.seq_n ?_)
    refine WC.region (us 3 rfl (WO.nil (KX.seq_n ?_)))
    have e : ad .i64 (m : Int) 1 = ((m + 1 : Nat) : Int) := ad_nat (by omega)
    refine ih (m + 1) _ _ (by omega) (known_cons rfl (known_cons rfl (known_cons rfl (known_cons (Eq.trans rfl (congrArg (PV.int .i64) e)) known_nil)))) H.dropC
theorem stp_clr {fr : Fr} {σ : Nat → PV} {a : Operand} {r n : Nat} {xs : List PV} {p : List DOp} (ho : opd σ a = .rsl r n) (hS : S[r]? = some (.row xs 3 false)) (hn : n = p.length) (hx : p.map eOp ++ xs.drop p.length = xs) (h0 : 0 < n) :
    stp env fr σ S (.call ⟨.builtin .clear, #[a], #[56]⟩) = some (.tup [], S.set r (.row (List.replicate n (eOp ⟨[], [], false⟩) ++ xs.drop n) 3 false), false) := by
  have hle : n ≤ xs.length := by rw [← hx, List.length_append, List.length_map]; omega
  have e1 : env.ctx.ty 56 = some ty56 := rfl
  have e2 : env.ctx.ty 164 = some ty164 := rfl
  have e3 : ty56.und = .slice 164 := rfl
  have e4 : ty164.size = 3 := rfl
  have e5 : ty164.zero = eOp ⟨[], [], false⟩ := rfl
  have e6 : (eOp ⟨[], [], false⟩).cells.length = 3 := rfl
  have e7 : (eOp ⟨[], [], false⟩).storable = true := rfl
  simp only [stp, evStep, callPV, List.map_cons, List.map_nil, ho, clearPV, e1, e2, e3, e4, e5, e6, e7, clearPV.row, hS, List.getElem?_toArray, List.getElem?_cons_zero]
  rw [if_pos ⟨h0, by omega, trivial, trivial, trivial⟩]
  simp
theorem stp_slL {fr : Fr} {σ : Nat → PV} {a x : Operand} {k : IntKind} {r n : Nat} (ho : opd σ a = .rsl r n) (hi : opd σ x = .int k 0) : stp env fr σ S (.slice 56 a (some x) none none) = some (.rsl r n, S, false) := by
  have e1 : env.ctx.ty 56 = some ty56 := rfl
  have e2 : env.ctx.ty 164 = some ty164 := rfl
  have e3 : ty56.und = .slice 164 := rfl
  simp only [stp, evStep, slicePV, e1, e2, e3, ho, hi, Option.map_some, Option.map_none, boundOf]
  rw [if_pos (by omega), if_pos trivial]
  simp
theorem stp_slH {fr : Fr} {σ : Nat → PV} {a x : Operand} {k : IntKind} {r n : Nat} (ho : opd σ a = .rsl r n) (hi : opd σ x = .int k 0) : stp env fr σ S (.slice 56 a none (some x) none) = some (.rsl r 0, S, false) := by
  have e1 : env.ctx.ty 56 = some ty56 := rfl
  have e2 : env.ctx.ty 164 = some ty164 := rfl
  have e3 : ty56.und = .slice 164 := rfl
  simp only [stp, evStep, slicePV, e1, e2, e3, ho, hi, Option.map_some, Option.map_none, boundOf]
  rw [if_pos (by omega), if_pos (by rfl)]
  simp
theorem del_dk {p : List DOp} {b : Nat} {nm : Str} (hp : IsP p v o) (H : Hp S0 R S C A ((v, o) :: W)) (c : Nat) (hc : C[c]? = some (b, .cells [.str nm])) (hn : ∀ y ∈ p, y.name = nm) (hlp : p.length ≤ 1000000) :
    ∃ S' v' o', evw env 98 [v, .fn (.func 99) [] [.ptr b 0]] S = some (v', S', false) ∧ IsP [] v' o' ∧ Hp S0 R S' C A ((v', o') :: W) ∧ Go.Pam.rowAt v' = Go.Pam.rowAt v := by
  have hix := indexFunc_dk hp (fun r hr => H.getW 0 rfl hr) (H.get c hc) hn hlp
  obtain ⟨q, h1, S', v', o', rfl, h2⟩ := evw_storeW (env := env) (f := 98) (pf := fn98) (args := [v, .fn (.func 99) [] [.ptr b 0]]) (S := S) (K := fun q => ∃ S' v' o', q = (v', S', false) ∧ IsP [] v' o' ∧ Hp S0 R S' C A ((v', o') :: W) ∧ Go.Pam.rowAt v' = Go.Pam.rowAt v) rfl rfl (Nat.le_of_ble_eq_true rfl) (by cases hp <;> rfl)
    (WB.of (pf := fn98) rfl (by
      refine WC.seqR (us 1 rfl (WO.nil ?_))
      refine WC.seqR (us 2 rfl ?_)
      refine WO.step (v := .int .i64 (if p = [] then -1 else 0)) rfl (nz rfl (stp_call rfl rfl hix)) (us 1 rfl (WO.nil ?_))
      refine WC.seq (WC.seqR (us 2 rfl (WO.nil ?_)))
      by_cases he : p = []
      · refine WC.condT (t := (if p = [] then (-1 : Int) else 0) == -1) rfl (by rw [if_pos he]; rfl) (WC.seqR (us 2 rfl (WO.nil ?_)))
        refine WC.ret (KX.seq_r (KB.retR (vs := [v]) rfl ?_))
        subst he
        refine ⟨S, v, o, ?_, hp, H, rfl⟩
        cases hp with
        | nil o h => show leave S.length .nils S false = _; unfold leave; rw [if_pos ⟨rfl, rfl⟩, List.take_length]; rfl
        | row r xs h => show leave S.length (.rsl r 0) S false = _; unfold leave; rw [if_neg (by simp [PV.strip, PV.clean])]; rfl
      · refine WC.condF (t := (if p = [] then (-1 : Int) else 0) == -1) rfl (by rw [if_neg he]; rfl) (WC.skip ?_)
        cases hp with
        | nil o h => exact absurd h he
        | row r xs h =>
          have hpos : 0 < p.length := List.length_pos_iff.2 he
          have e5 : (if p = [] then (-1 : Int) else 0) = 0 := if_neg he
          refine WC.seq (WC.seqR (us 3 rfl (WO.nil (WC.block ?_))))
          refine delL c hc h hn hlp (K := _) ?_ (p.length - 1) 1 _ S (by omega) (known_cons rfl (known_cons rfl (known_cons (Eq.trans rfl (congrArg (PV.int .i64) e5)) (known_cons (Eq.trans rfl (congrArg (fun z => PV.int .i64 (ad .i64 z 1)) e5)) known_nil)))) H
          intro σ' S1 hk H
          refine KX.block_x (KX.seq_n (WC.of_known hk ?_))
          refine WC.seqR (us 2 rfl ?_)
          refine WO.step (v := .rsl r p.length) rfl (nz rfl (stp_slL rfl rfl)) ?_
          refine WO.step rfl (nz rfl (stp_clr (p := p) rfl (H.getW 0 rfl rfl) rfl h hpos)) (WO.nil ?_)
          have H := H.setW 0 rfl (id := r) rfl (.row (List.replicate p.length (eOp ⟨[], [], false⟩) ++ xs.drop p.length) 3 false) rfl
          refine WC.seqR (us 2 rfl ?_)
          refine WO.step (v := .rsl r 0) rfl (nz rfl (stp_slH rfl rfl)) (us 1 rfl (WO.nil ?_))
          refine WC.ret (KB.retR (vs := [.rsl r 0]) rfl ?_)
          refine ⟨_, .rsl r 0, .row (List.replicate p.length (eOp ⟨[], [], false⟩) ++ xs.drop p.length) 3 false, ?_, .row (p := []) r _ (by simp), Hp.reSl 0 H, rfl⟩
          show leave S.length (.rsl r 0) _ _ = _
          unfold leave
          rw [if_neg (by simp [PV.strip, PV.clean])]; rfl))
  exact ⟨S', v', o', h1, h2⟩
def Dsk.sync (d : Dsk) (n : Str) : Dsk × Int :=
  if d.left == 0 then (d, 22) else match Mp.get? d.now n with
    | none => (d, 23)
    | some b => (({ d with kept := Mp.put d.kept n b, pend := [] } : Dsk).step, 0)
theorem IsP.one {p : List DOp} (h : IsP p v o) : v.storable = true ∧ v.cells = [v] := by cases h <;> exact ⟨rfl, rfl⟩
theorem sync_dk {n : Str} (hp : IsP d.pend v o) (H : DH S0 R S i j1 j2 v o d C A W) (hl : d.pend.length ≤ 1000000) (hn : ∀ y ∈ d.pend, y.name = n) :
    DR 50 [.ptr i 0, .str n] (.int .i64 (d.sync n).2) S0 R S i j1 j2 v (d.sync n).1 C A W := by
  refine DR.of (pf := fn50) rfl rfl rfl rfl rfl H (WB.of (pf := fn50) rfl ?_)
  refine WC.seqR (Wb (v := .str n) (cs := [.str n]) H rfl fun ib S1 _ H => us 1 rfl (WO.nil ?_))
  refine WC.seq (WC.draw ?_)
  refine wh _ rfl rfl ?_
  refine wh _ rfl rfl ?_
  refine wh _ rfl rfl ?_
  refine Wgh H 1 rfl ?_
  refine Wgh H 0 rfl ?_
  refine WH.look 3 (z := []) H rfl rfl ?_
  refine wh _ rfl rfl ?_
  refine wh _ rfl rfl ?_
  refine wh _ rfl rfl ?_
  refine wh _ rfl rfl ?_
  refine WH.nil ?_
  refine us 1 rfl (WO.nil ?_)
  refine WC.seq (WC.block ?_)
  refine WC.seqR (us 1 rfl ?_)
  refine WO.step (v := .bool (d.left == 0)) rfl (nz rfl (stp_call rfl rfl (off_dk H.rot))) (us 1 rfl (WO.nil ?_))
  unfold Dsk.sync
  by_cases h0 : (d.left == 0) = true
  · refine WC.condT rfl h0 (WC.seqR (us 1 rfl (WO.nil ?_)))
    rw [if_pos h0]
    exact WC.ret (KX.block_r (KX.seq_r (Kr (.int .i64 22) rfl ⟨rfl, v, o, hp, H.dropC, .inr rfl⟩)))
  have h0' : (d.left == 0) = false := by simpa using h0
  refine WC.condF rfl h0' (WC.seqR (us 3 rfl (WO.nil ?_)))
  rw [if_neg h0]
  rcases hg : Mp.get? d.now n with _ | b
  · refine WC.condT rfl rfl (WC.seqR (us 1 rfl (WO.nil ?_)))
    exact WC.ret (KX.block_r (KX.seq_r (Kr (.int .i64 23) rfl ⟨rfl, v, o, hp, H.dropC, .inr rfl⟩)))
  refine WC.condF rfl rfl (WC.skip (KX.block_n (KX.seq_n ?_)))
  refine WC.seq (WC.draw ?_)
  refine wh _ rfl rfl ?_
  refine wh _ rfl rfl ?_
  refine wh _ rfl rfl ?_
  refine Wgh H 1 rfl ?_
  refine Wgh H 0 rfl ?_
  refine wh _ rfl rfl ?_
  refine WH.nil ?_
  refine WO.mupd 2 (y := b) H rfl rfl fun S3 H => WO.nil ?_
  refine WC.seqR (us 4 rfl ?_)
  refine Wg H 1 rfl (us 1 rfl ?_)
  obtain ⟨S4, v', o', h4, hp', H4, hr⟩ := del_dk (b := ib) (nm := n) hp H 0 rfl hn hl
  refine WO.step (v := v') rfl (nz rfl (stp_call rfl rfl h4)) (us 2 rfl ?_)
  refine WO.store 1 rfl rfl H4 rfl (off := 3) (sz := 1) (cs := dcell j1 j2 v { d with kept := Mp.put d.kept n b }) (v := v') (xc := [v']) (cs' := dcell j1 j2 v' d) rfl rfl rfl hp'.one.1 hp'.one.2 rfl (Nat.le_of_ble_eq_true rfl) rfl rfl fun S5 H => WO.nil ?_
  refine WC.seqR (us 1 rfl ?_)
  obtain ⟨S6, v6, o6, e6, h6, hp6, H6, he6⟩ := step_dk (d := { d with kept := Mp.put d.kept n b, pend := [] }) hp' H.rot
  refine WO.step (v := .int .i64 0) rfl (nz rfl (stp_call rfl rfl h6)) (us 1 rfl (WO.nil ?_))
  refine WC.ret (Kr (.int .i64 0) rfl ⟨rfl, v6, o6, hp6, H6.unrot.dropC, ?_⟩)
  rcases he6 with he | he
  · left; rw [he]; simp
  · right; rw [he, hr]
end
end Go.Proofs.YtecimmaoilignaaGreatDoor.M.L
