/- store's replay, walked: a whole text at the front, reserved numbers behind it. -/
import Derived.Test.YtecimmaoilignaaGreatDoorSW1
import Derived.Test.YtecimmaoilignaaGreatDoorSK1
namespace Go.Proofs.YtecimmaoilignaaGreatDoor.M.L
open Go Go.Pam Go.RowKit
set_option maxRecDepth 4000
set_option linter.unusedSimpArgs false
set_option linter.unusedVariables false
theorem Hp.moreL {S S0 : List SObj} {R : List Nat} {C : List (Nat × SObj)} {A : List (PV × Nat)} {W : List (PV × SObj)} : ∀ {S : List SObj} (h : Hp S0 R S C A W) (L : List SObj), Hp S0 R (S ++ L) C A W
  | S, h, [] => by simpa using h
  | S, h, o :: L => by
    have := Hp.moreL (S := S) (S0 := S0) (h.more o) L
    simpa using this
theorem Hp.appL {S S0 : List SObj} {R : List Nat} {C : List (Nat × SObj)} {A : List (PV × Nat)} {W : List (PV × SObj)} (h : Hp S0 R S C A W) (a b : List SObj) (o : SObj) (hk : o.kind = 0) : Hp S0 R (S ++ (a ++ o :: b)) ((S.length + a.length, o) :: C) A W := by
  have h1 := Hp.moreL (S := S) (Hp.pushO (Hp.moreL (S := S) h a) o hk) b
  simpa using h1
section
variable {fr : Fr} {σ : Nat → PV} {S : List SObj} {S0 : List SObj} {R : List Nat} {C : List (Nat × SObj)} {A : List (PV × Nat)} {W : List (PV × SObj)} {e : Bool} {K : KS} {d : Option Nat} {rest : List POp}
theorem Wa2 {t : TypeId} {ti : TyI} {cs : List PV} (H : Hp S0 R S C A W) (q : (dstOk fr.ntmps d, env.ctx.ty t, ti.zero.storable, ti.zero.cells) = (true, some ti, true, cs))
    (h : ∀ i S', S.length ≤ i → S'.length = i + 1 → Hp S0 R S' ((i, .cells cs) :: C) A W → WO env fr rest (upd σ d (.ptr i 0)) S' (e || false) K) : WO env fr (⟨d, .alloc t, none, false⟩ :: rest) σ S e K :=
  WO.step (Go.Pam.p2 q).1 (nz rfl (stp_alloc (Go.Pam.p2 (Go.Pam.p2 q).2).1 (Go.Pam.p2 (Go.Pam.p2 (Go.Pam.p2 q).2).2).1 (Go.Pam.p2 (Go.Pam.p2 (Go.Pam.p2 q).2).2).2)) (h _ _ (Nat.le_refl _) (by simp) (H.push cs))
end
/-- A function whose arguments lead nowhere and whose answer leads to something. -/
theorem evw_genW {f : FuncId} {pf : PFn} (hi : env.intr f = none) (hf : env.fn f = some pf) {args : List PV} {S : List SObj} {K : PV × List SObj × Bool → Prop}
    (hs : args.map PV.strip = args) (hl : args.length ≤ pf.ntmps) (hc : cleanL args = true)
    (h0 : WB env pf args [] fun v _ _ => v.strip.clean = false)
    (h : WB env pf args S fun v S' e => K (leave S.length v S' e)) : ∃ r, evw env f args S = some r ∧ K r := by
  obtain ⟨w0, S1, e1, hb0, hv0⟩ := h0.run
  obtain ⟨w, S2, e2, hb, hv⟩ := h.run
  obtain ⟨k0, hk0⟩ := body_lim hb0
  obtain ⟨k, hk⟩ := body_lim hb
  refine ⟨_, lim_of (k0 + k + 1) fun k' hk' => ?_, hv⟩
  obtain ⟨j, rfl⟩ : ∃ j, k' = j + 1 := ⟨k' - 1, by omega⟩
  simp only [ev, hi, hf, hl, if_true, hs, hc, hk0 j (by omega), hk j (by omega), hv0, Bool.false_eq_true, if_false]
theorem pre_c (c d : UInt8) (t : Str) (h : t.length < 1000000) : F65 0 (c :: t) [d] = some (c == d) := by
  have e : Str.sub? (c :: t) 0 1 = some [c] := by
    have := Str.sub?_nat (s := c :: t) (l := 0) (h := 1) (by omega) (by simp)
    simpa using this
  unfold F65 F109
  rw [if_pos (by rw [Str.len_nat, Str.len_nat]; simp; omega), show Str.len [d] = 1 from rfl, e]
  simp
theorem sub1 (c : UInt8) (t : Str) : Str.sub? (c :: t) 1 ((c :: t).length : Int) = some t := by
  have := Str.sub?_nat (s := c :: t) (l := 1) (h := (c :: t).length) (by simp) (by simp)
  simpa using this
theorem does_R {t : Str} {a b c : Int} {x0 x1 x2 x3 x4 x5 x6 : PV} (h110 : ∀ S, evw env 110 [.str t] S = some (.tup [.agg [.int .i64 a, .int .i64 b, .int .i64 c], .int .i64 0], S, false)) (hl : t.length < 1000000)
    {id : Nat} {S : List SObj} (hS : S[id]? = some (.cells [x0, x1, x2, x3, x4, x5, x6])) : evw env 66 [.ptr id 0, .str (82 :: t)] S = some (.bool true, S.set id (.cells [x0, x1, x2, x3, .int .i64 a, .int .i64 b, .int .i64 c]), false) := by
  have hp : F65 0 (82 :: t) [82] = some true := pre_c 82 82 t hl
  refine evw_recvW (pf := fn66) rfl rfl (Nat.le_of_ble_eq_true rfl) rfl (WB.of (pf := fn66) rfl ?_)
  have H := Hp.start1 hS rfl
  refine WC.seqR (us 1 rfl (WO.nil ?_))
  refine WC.seq (WC.block ?_)
  refine WC.seqR (us 1 rfl ?_)
  refine WO.step rfl (nz rfl (stp_call rfl rfl (s65 0 hp rfl _))) (us 1 rfl (WO.nil ?_))
  refine WC.condT rfl rfl ?_
  refine WC.seqR (us 1 rfl ?_)
  refine WO.step (v := .str t) rfl (nz rfl (stp_subStr rfl rfl rfl rfl (sub1 82 t))) ?_
  refine WO.step rfl (nz rfl (stp_call rfl rfl (h110 _))) (us 3 rfl ?_)
  refine Wa (cs := [.int .i64 0, .int .i64 0, .int .i64 0]) H rfl fun ic S1 _ H => ?_
  refine WO.stc 0 H (cs' := [.int .i64 a, .int .i64 b, .int .i64 c]) rfl fun S2 H => ?_
  refine us 1 rfl (WO.nil ?_)
  refine WC.seqR (us 1 rfl ?_)
  refine Wg H 0 rfl (us 2 rfl ?_)
  refine WO.stc 1 H (cs' := [x0, x1, x2, x3, .int .i64 a, .int .i64 b, .int .i64 c]) rfl fun S3 H => WO.nil ?_
  refine WC.seqR (us 3 rfl (WO.nil ?_))
  exact WC.ret (KX.block_r (KX.seq_r (Kr (.bool true) rfl (leave_hp hS H 1 rfl rfl rfl))))
def vz (j : Int) : PV := .agg [.int .i64 0, .int .i64 0, .int .i64 j]
def kv : PV := .lst [vz 0, vz 1, vz 2, vz 3] .none
def kw : PV := .lst [kv, kv, kv, kv] .none
def lgc (g : PV) : List PV := [.int .i64 0, .int .i64 0, .int .i64 0, g, .nils, .nilp]
def stc (r : Int) (l : Nat) (a b c : Int) : List PV := [.int .i64 r, .int .i64 4, .ptr l 0, kw, .int .i64 a, .int .i64 b, .int .i64 c]
theorem rwV_up (r : Nat) (hr : r < 4) (n : Nat) : (rwV r).up n = .tup [.agg (stc r (n + 11) 0 0 r), .bool true] := by
  match r, hr with
  | 0, _ => rfl
  | 1, _ => rfl
  | 2, _ => rfl
  | 3, _ => rfl
theorem rwS_up (r : Nat) (hr : r < 4) (n : Nat) : ∃ a : List SObj, (rwS r).map (SObj.up n) = a ++ SObj.cells (lgc (.ptr (n + 8) 0)) :: [] ∧ a.length = 11 := by
  match r, hr with
  | 0, _ => exact ⟨(rwS0.map (SObj.up n)).take 11, rfl, rfl⟩
  | 1, _ => exact ⟨(rwS1.map (SObj.up n)).take 11, rfl, rfl⟩
  | 2, _ => exact ⟨(rwS2.map (SObj.up n)).take 11, rfl, rfl⟩
  | 3, _ => exact ⟨(rwS3.map (SObj.up n)).take 11, rfl, rfl⟩
theorem rt_len (r : Nat) : (rt r).length = 203 := by
  match r with
  | 0 => rfl
  | 1 => rfl
  | 2 => rfl
  | _ + 3 => rfl
theorem does_W {r : Nat} (hr : r < 4) {x0 x1 x2 x3 x4 x5 x6 : PV} {id : Nat} {S S0 : List SObj} {R : List Nat} {C : List (Nat × SObj)} {A : List (PV × Nat)} {W : List (PV × SObj)}
    (H : Hp S0 R S ((id, .cells [x0, x1, x2, x3, x4, x5, x6]) :: C) A W) :
    ∃ S' l g, evw env 66 [.ptr id 0, .str (87 :: rt r)] S = some (.bool true, S', true) ∧ Hp S0 R S' ((l, .cells (lgc (.ptr g 0))) :: (id, .cells (stc r l 0 0 r)) :: C) A W := by
  have hlt : id < S.length := H.ltC (id, .cells [x0, x1, x2, x3, x4, x5, x6]) (List.mem_cons_self ..)
  have hrt := rt_len r
  have hp1 : F65 0 (87 :: rt r) [82] = some false := pre_c 87 82 _ (by omega)
  have hp2 : F65 0 (87 :: rt r) [75] = some false := pre_c 87 75 _ (by omega)
  have hp3 : F65 0 (87 :: rt r) [87] = some true := pre_c 87 87 _ (by omega)
  have ht : F115 0 (87 :: rt r) [87] = some (rt r) := by
    unfold F115 F150
    have : F109 0 (87 :: rt r) [87] = some true := by
      have := hp3
      unfold F65 at this
      cases h : F109 0 (87 :: rt r) [87] with
      | none => rw [h] at this; cases this
      | some b => rw [h] at this; exact this
    rw [this]
    have := sub1 87 (rt r)
    rw [show Str.len [87] = 1 from rfl, Str.len_nat]
    simp only [Option.bind_some, if_true]
    rw [this]; rfl
  obtain ⟨a, e1, e2⟩ := rwS_up r hr S.length
  have h114 := evw_rw r S
  rw [rwV_up r hr, e1] at h114
  obtain ⟨q, h1, S', l, g, rfl, h2⟩ := evw_storeW (env := env) (f := 66) (pf := fn66) (args := [.ptr id 0, .str (87 :: rt r)]) (S := S)
    (K := fun q => ∃ S' l g, q = (.bool true, S', true) ∧ Hp S0 R S' ((l, .cells (lgc (.ptr g 0))) :: (id, .cells (stc r l 0 0 r)) :: C) A W) rfl rfl (Nat.le_of_ble_eq_true rfl) rfl (WB.of (pf := fn66) rfl (by
      refine WC.seqR (us 1 rfl (WO.nil ?_))
      refine WC.seq (WC.block ?_)
      refine WC.seqR (us 1 rfl ?_)
      refine WO.step rfl (nz rfl (stp_call rfl rfl (s65 0 hp1 rfl _))) (us 1 rfl (WO.nil ?_))
      refine WC.condF rfl rfl ?_
      refine WC.seqR (us 1 rfl ?_)
      refine WO.step rfl (nz rfl (stp_call rfl rfl (s65 0 hp2 rfl _))) (us 1 rfl (WO.nil ?_))
      refine WC.condF rfl rfl (WC.skip (KX.block_n (KX.seq_n ?_)))
      refine WC.seqR (us 1 rfl ?_)
      refine WO.step rfl (nz rfl (stp_call rfl rfl (s115 0 ht rfl _))) ?_
      refine WO.step rfl (nz rfl (stp_call rfl rfl h114)) (us 3 rfl ?_)
      have H := Hp.appL (S := S) H a [] (SObj.cells (lgc (.ptr (S.length + 8) 0))) rfl
      rw [e2] at H
      refine Wa2 (cs := [.int .i64 0, .int .i64 0, .nilp, .nils, .int .i64 0, .int .i64 0, .int .i64 0]) H rfl fun ic S1 hic _ H => ?_
      refine WO.store 0 rfl rfl H rfl (off := 0) (sz := 7) (xc := stc r (S.length + 11) 0 0 r) (cs' := stc r (S.length + 11) 0 0 r) (v := .agg (stc r (S.length + 11) 0 0 r)) rfl rfl rfl rfl rfl rfl (Nat.le_of_ble_eq_true rfl) rfl (own_e ?_) fun S2 H => ?_
      · exact Nat.le_trans (by simp) hic
      refine us 1 rfl (WO.nil ?_)
      refine WC.seqR (us 1 rfl ?_)
      refine Wg H 0 rfl (us 1 rfl ?_)
      refine WO.ste 2 H hlt (cs' := stc r (S.length + 11) 0 0 r) rfl fun S3 H => WO.nil ?_
      refine WC.seqR (us 2 rfl ?_)
      refine us 1 rfl ?_
      refine WO.go0 rfl rfl (WO.step rfl (nz rfl (stp_call rfl rfl (s65 0 hp3 rfl _))) (us 2 rfl (WO.nil ?_)))
      refine WC.ret (Kr (.bool true) rfl ?_)
      exact ⟨S3, S.length + 11, S.length + 8, by unfold leave; rw [if_neg (by simp)]; rfl, H.sub (.cons _ (List.Sublist.refl _)) (List.Sublist.refl _) (List.Sublist.refl _)⟩))
  exact ⟨S', l, g, h1, h2⟩
end Go.Proofs.YtecimmaoilignaaGreatDoor.M.L
