/- A vector whose second number has place 0 is none, whatever else stands in it. -/
import Derived.Test.YtbondebiijokaaaGreatDoorRDv
import Derived.Test.YtbondebiijokaaaGreatDoorRI
import Derived.Test.YtbondebiijokaaaGreatDoorPamM4
namespace Go.Proofs.YtbondebiijokaaaGreatDoor.M
set_option linter.unusedVariables false
set_option linter.unusedSimpArgs false
open Go Go.Pam Go.RowKit Go.WideShapes
set_option maxRecDepth 100000
theorem F83_bad (a b c d e : Int) : F83 3 (some [⟨a, b, c⟩, ⟨d, e, 0⟩]) = some false := by
  unfold F83
  have h1 : ∀ n, F83_L0 3 (some [⟨a, b, c⟩, ⟨d, e, 0⟩]) 2 (n + 1) 1 = some (.ret false) := fun n => rfl
  have h0 : F83_L0 3 (some [⟨a, b, c⟩, ⟨d, e, 0⟩]) 2 3 0 = some (.ret false) := by
    rw [F83_L0]
    rw [if_pos (by decide)]
    have ha : Sl.at? (some [(⟨a, b, c⟩ : Api_CSN), ⟨d, e, 0⟩]) 0 = some ⟨a, b, c⟩ := rfl
    rw [bnd ha]
    by_cases hc : ((decide ((0 : Int) ≥ 6)) || (c != 0)) = true
    · rw [if_pos hc]; rfl
    · rw [if_neg hc]
      cases hb : F73 3 ⟨a, b, c⟩ with
      | none => exact absurd hb (by simp [F73])
      | some y =>
        cases y with
        | false => rfl
        | true => exact h1 1
  have hl : Sl.len (some [(⟨a, b, c⟩ : Api_CSN), ⟨d, e, 0⟩]) = 2 := rfl
  rw [hl, bnd h0]
theorem badVec (a b c d e : Int) (t : Tag) (S : List SObj) : evw env 83 [.lst [.agg [.int .i64 a, .int .i64 b, .int .i64 c], .agg [.int .i64 d, .int .i64 e, .int .i64 0]] t] S = some (.bool false, S, false) :=
  s83 3 (F83_bad a b c d e) rfl S
def C8 : List PV := [(.int .i64 0), (.int .i64 2), (.ptr 6 0), (.lst [(.lst [(.agg [(.int .i64 0), (.int .i64 0), (.int .i64 0)]), (.agg [(.int .i64 0), (.int .i64 0), (.int .i64 1)])] .none), (.lst [(.agg [(.int .i64 0), (.int .i64 0), (.int .i64 0)]), (.agg [(.int .i64 0), (.int .i64 0), (.int .i64 1)])] .none)] (.tip 9)), (.int .i64 0), (.int .i64 0), (.int .i64 0), (.ptr 2 0), (.ptr 7 0), (.int .i64 0), (.int .i64 0), (.int .i64 0)]
def know0 : PV := (.lst [(.lst [(.agg [(.int .i64 0), (.int .i64 0), (.int .i64 0)]), (.agg [(.int .i64 0), (.int .i64 0), (.int .i64 1)])] .none), (.lst [(.agg [(.int .i64 0), (.int .i64 0), (.int .i64 0)]), (.agg [(.int .i64 0), (.int .i64 0), (.int .i64 1)])] .none)] (.tip 9))
def fr5 (n m : Int) : List PV := [(.int .i64 1), (.int .i64 0), (.int .i64 3), (.int .i64 0), (.lst [(.lst [(.agg [(.int .i64 0), (.int .i64 0), (.int .i64 0)]), (.agg [(.int .i64 0), (.int .i64 0), (.int .i64 1)])] .none), (.lst [(.agg [(.int .i64 n), (.int .i64 0), (.int .i64 0)]), (.agg [(.int .i64 m), (.int .i64 0), (.int .i64 0)])] .none)] .full), .nils]
theorem h9 {S : List SObj} (hS : S[8]? = some (.cells C8)) : evw env 9 [.ptr 8 0] S = some (know0.strip, S, false) := by
  refine evw_recvW rfl rfl (by decide) rfl (WB.mono' (WB.of (pf := fn9) rfl ?_ : WB env fn9 _ S fun v S' e => v = know0 ∧ S' = S ∧ e = false) fun v S' e hv => ?_)
  · refine WC.seqR (us 1 rfl (WO.nil ?_))
    refine WC.seqR (us 4 rfl ?_)
    refine WO.step (v := know0) rfl (nz rfl (stp_load rfl hS rfl)) ?_
    refine us 1 rfl (WO.nil ?_)
    exact WC.ret (kr know0 rfl rfl ⟨rfl, rfl, rfl⟩)
  · obtain ⟨rfl, rfl, rfl⟩ := hv
    unfold leave
    rw [if_pos ⟨rfl, rfl⟩, List.take_length]
def badH : Call' := fun f args S => match Nat.beq f 83 with
  | true => (match args with
    | [.lst [.agg [.int .i64 _, .int .i64 _, .int .i64 _], .agg [.int .i64 _, .int .i64 _, .int .i64 (.ofNat r)]] _] => match Nat.beq r 0 with
      | true => some (.bool false, S, false)
      | false => none
    | _ => none)
  | false => none
theorem badH_sub : Sub badH (evw env) := by
  intro f args S r h
  unfold badH at h
  split at h
  case h_2 => cases h
  rename_i hf
  obtain rfl := Nat.eq_of_beq_eq_true hf
  split at h
  case h_2 => cases h
  split at h
  case h_2 => cases h
  rename_i hr
  obtain rfl := Nat.eq_of_beq_eq_true hr
  injection h with h; subst h
  exact badVec _ _ _ _ _ _ _
def lawB : Call' := fun f args S => match badH f args S with
  | some r => some r
  | none => U1.call f args S
theorem lawB_sub : Sub lawB (evw env) := by
  intro f args S r h
  unfold lawB at h
  split at h
  · rename_i hr; injection h with h; subst h; exact badH_sub _ _ _ _ hr
  · exact U1ok.sub _ _ _ _ h
theorem h10 (n m : Int) : ∀ S, evw env 10 [.agg (fr5 n m), .int .i64 2] S = some (.bool false, S, false) := pureOf lawB_sub (k := 1000) (by kernel_rfl)
theorem h8 (n m : Int) {S : List SObj} (hS : S[8]? = some (.cells C8)) : evw env 8 [.ptr 8 0, .agg (fr5 n m)] S = some (.tup [.nils, .int .i64 14], S, false) := by
  have hlt : 8 < S.length := (List.getElem?_eq_some_iff.1 hS).1
  have hS1 : (S ++ [SObj.cells (fr5 n m)])[8]? = some (.cells C8) := by rw [List.getElem?_append_left hlt]; exact hS
  have hS2 : (S ++ [SObj.cells (fr5 n m)])[S.length]? = some (.cells (fr5 n m)) := by simp
  have hld : loadPV env.ctx 36 (.ptr S.length 0) (S ++ [SObj.cells (fr5 n m)]) = some (.agg (fr5 n m)) := ld hS2 rfl
  refine evw_recvW rfl rfl (Nat.le_of_ble_eq_true rfl) rfl (WB.mono' (WB.of (pf := fn8) rfl ?_ : WB env fn8 _ S fun v S' e => v = .tup [.nils, .int .i64 14] ∧ S' = S ++ [SObj.cells (fr5 n m)] ∧ e = false) fun v S' e hv => ?_)
  · refine WC.seqR (us 3 rfl (WO.nil ?_))
    refine WC.seq (WC.seq (WC.drawC ?_))
    refine WK.load rfl rfl hld hist_nil ?_
    refine wk (.ptr 8 0) rfl rfl rfl rfl ?_
    refine WK.turn rfl (nz rfl (stp_call rfl rfl (h9 hS1))) rfl ⟨pend_cons hld pend_nil, ?_⟩
    refine wk (.int .i64 2) rfl rfl rfl rfl ?_
    refine WK.turn rfl (nz rfl (stp_call rfl rfl (h10 n m _))) rfl ⟨pend_cons hld pend_nil, ?_⟩
    refine wk (.bool true) rfl rfl rfl rfl ?_
    refine wk (.bool true) rfl rfl rfl rfl ?_
    refine WK.by rfl rfl rfl (WK.by rfl rfl rfl (WK.by rfl rfl rfl (WK.by rfl rfl rfl (WK.nil ?_))))
    refine us 2 rfl (WO.nil ?_)
    refine WC.condT rfl rfl (WC.seqR (us 2 rfl (WO.nil ?_)))
    exact WC.ret (KX.seq_r (KB.ret (vs := [.nils, .int .i64 14]) rfl rfl ⟨rfl, rfl, rfl⟩))
  · obtain ⟨rfl, rfl, rfl⟩ := hv
    unfold leave
    rw [if_pos ⟨rfl, rfl⟩, List.take_left]
    rfl
def V1 : PV := (.lst [(.agg [(.int .i64 0), (.int .i64 0), (.int .i64 0)]), (.agg [(.int .i64 0), (.int .i64 0), (.int .i64 1)])] .none)
/-- Handle of such a frame. -/
def H8 : Call' := fun f args S => match Nat.beq f 8 with
  | true => (match args with
    | [.ptr i o, .agg [.int .i64 (.ofNat a), .int .i64 (.ofNat b), .int .i64 (.ofNat c), .int .i64 (.ofNat d), .lst [v1, .lst [.agg [.int .i64 n, .int .i64 (.ofNat x), .int .i64 (.ofNat y)], .agg [.int .i64 m, .int .i64 (.ofNat z), .int .i64 (.ofNat u)]] .none] .full, .nils]] =>
      match Nat.beq i 8 && (Nat.beq o 0 && (Nat.beq a 1 && (Nat.beq b 0 && (Nat.beq c 3 && (Nat.beq d 0 && (Nat.beq x 0 && (Nat.beq y 0 && (Nat.beq z 0 && (Nat.beq u 0 && (PV.same v1 V1 && (match S[8]? with | some (SObj.cells cs) => sameL cs C8 | _ => false))))))))))) with
      | true => some (.tup [.nils, .int .i64 14], S, false)
      | false => none
    | _ => none)
  | false => none
theorem H8_sub : Sub H8 (evw env) := by
  intro f args S r h
  unfold H8 at h
  split at h
  case h_2 => cases h
  rename_i hf
  obtain rfl := Nat.eq_of_beq_eq_true hf
  split at h
  case h_2 => cases h
  split at h
  case h_2 => cases h
  rename_i hr
  simp only [Bool.and_eq_true] at hr
  obtain ⟨r1, r2, r3, r4, r5, r6, r7, r8, r9, r10, r11, r12⟩ := hr
  obtain rfl := Nat.eq_of_beq_eq_true r1
  obtain rfl := Nat.eq_of_beq_eq_true r2
  obtain rfl := Nat.eq_of_beq_eq_true r3
  obtain rfl := Nat.eq_of_beq_eq_true r4
  obtain rfl := Nat.eq_of_beq_eq_true r5
  obtain rfl := Nat.eq_of_beq_eq_true r6
  obtain rfl := Nat.eq_of_beq_eq_true r7
  obtain rfl := Nat.eq_of_beq_eq_true r8
  obtain rfl := Nat.eq_of_beq_eq_true r9
  obtain rfl := Nat.eq_of_beq_eq_true r10
  obtain rfl := PV.same_eq _ _ r11
  injection h with h; subst h
  split at r12
  · rename_i cs hcs
    obtain rfl := sameL_eq _ _ r12
    exact h8 _ _ hcs
  · cases r12
def lawC : Call' := fun f args S => match H8 f args S with
  | some r => some r
  | none => lawB f args S
theorem lawC_sub : Sub lawC (evw env) := by
  intro f args S r h
  unfold lawC at h
  split at h
  · rename_i hr; injection h with h; subst h; exact H8_sub _ _ _ _ hr
  · exact lawB_sub _ _ _ _ h
/-! The law itself -/
def lfr : Fr := ⟨108, 0⟩
def lawE : Call' := ev3 env lawC 1000
theorem lawE_sub : Sub lawE (evw env) := ev3_sound lawC_sub 1000
def s0 (w n : Int) : St2 := (Tr.ofL 0 [.int .u8 w, .int .i64 n] .nil, [], false)
/-- Ahead of the question which it is. -/
def s6 (w n : Int) : St2 := (pre2 env.ctx lawE lfr 1000 6 pc3 (s0 w n)).getD (.nil, [], false)
def someB {α : Type} : Option α → Bool
  | some _ => true
  | none => false
theorem s6_ok (w n : Int) : pre2 env.ctx lawE lfr 1000 6 pc3 (s0 w n) = some (s6 w n) := by
  have h : someB (pre2 env.ctx lawE lfr 1000 6 pc3 (s0 w n)) = true := by kernel_rfl
  unfold s6
  cases hp : pre2 env.ctx lawE lfr 1000 6 pc3 (s0 w n) with
  | none => rw [hp] at h; cases h
  | some s => rfl
def blkOf : PC → PC
  | .seq (.seq _ b) _ => b
  | c => c
def postOf : PC → PC
  | .seq _ c => c
  | c => c
def blk : PC := blkOf (dropSeq 6 pc3)
def post : PC := postOf (dropSeq 6 pc3)
theorem rest_eq : dropSeq 6 pc3 = .seq (.seq (.region [⟨some 32, .move (.tmp 0), none, false⟩, ⟨some 33, .binOp .rem 5 (.tmp 32) (.const (.int .u8 6)) 5, none, false⟩]) blk) post := rfl
def s8 (w n c : Int) : St2 := (((s6 w n).1.upd (some 32) (.int .u8 w)).upd (some 33) (.int .u8 c), (s6 w n).2.1, (s6 w n).2.2)
def okR : Option (Ex × St2) → Bool
  | some (.ret, T, _, _) => match T.get 4 with
    | .bool true => true
    | _ => false
  | _ => false
theorem okR_eq {r : Option (Ex × St2)} (h : okR r = true) : ∃ s, r = some (.ret, s) ∧ s.1.get 4 = .bool true := by
  unfold okR at h
  split at h
  · rename_i T _ _
    refine ⟨_, rfl, ?_⟩
    split at h
    · assumption
    · cases h
  · cases h
def runC (w n c : Int) : Bool := okR (code2 env.ctx lawE lfr 1000 (.seq blk post) (s8 w n c))
theorem r0 (w n : Int) : runC w n 0 = true := by kernel_rfl
theorem r1 (w n : Int) : runC w n 1 = true := by kernel_rfl
theorem r2 (w n : Int) : runC w n 2 = true := by kernel_rfl
theorem r3 (w n : Int) : runC w n 3 = true := by kernel_rfl
theorem r4 (w n : Int) : runC w n 4 = true := by kernel_rfl
theorem r5 (w n : Int) : runC w n 5 = true := by kernel_rfl
theorem g0 (w n : Int) : (s6 w n).1.get 0 = .int .u8 w := by kernel_rfl
theorem law_of (w n : Int) (s : St2) (hs : pre2 env.ctx lawE lfr 1000 6 pc3 (s0 w n) = some s) (hg0 : s.1.get 0 = .int .u8 w) (r : St2)
    (h1 : code2 env.ctx lawE lfr 1000 (.seq blk post) ((s.1.upd (some 32) (.int .u8 w)).upd (some 33) (.int .u8 (Int.tmod w 6)), s.2.1, s.2.2) = some (.ret, r)) (h2 : r.1.get 4 = .bool true) :
    evw env 3 [.int .u8 w, .int .i64 n] [] = some (.bool true, [], false) := by
  refine evw_pureW (pf := fn3) (bs := [.int .u8 w, .int .i64 n]) rfl rfl rfl (Nat.le_of_ble_eq_true rfl) rfl rfl (WB.of (pf := fn3) rfl ?_)
  have hg : (fun i => [PV.int .u8 w, .int .i64 n].getD i (.tup [])) = (s0 w n).1.get := (Tr.get_args [.int .u8 w, .int .i64 n] (Nat.le_of_ble_eq_true rfl)).symm
  rw [hg]
  refine WC.pre (fr := lfr) (s := s0 w n) lawE_sub (Nat.le_of_ble_eq_true rfl) 6 hs ?_
  rw [rest_eq]
  refine WC.assoc (WC.seqR ?_)
  have st1 : stp env lfr s.1.get s.2.1 (.move (.tmp 0)) = some (.int .u8 w, s.2.1, false) := by
    simp only [stp, evStep, opd, hg0]
  refine WO.step (v := .int .u8 w) rfl (nz rfl st1) ?_
  refine WO.step (v := .int .u8 (Int.tmod w 6)) rfl (nz rfl rfl) (WO.nil ?_)
  have hT : ((s.1.upd (some 32) (.int .u8 w)).upd (some 33) (.int .u8 (Int.tmod w 6))).get = upd (upd s.1.get (some 32) (.int .u8 w)) (some 33) (.int .u8 (Int.tmod w 6)) := by
    rw [Tr.get_upd (n := 108) (by decide) _ _ _ rfl, Tr.get_upd (n := 108) (by decide) _ _ _ rfl]
  have := WC.eval (fr := lfr) (K := KB env ⟨108, [.tmp 4], pc3, false⟩ fun v _ _ => v.strip = .bool true) lawE_sub (Nat.le_of_ble_eq_true rfl) h1 (kr (.bool true) h2 rfl rfl)
  simp only [hT] at this
  simp only [Bool.or_false]
  exact this
theorem runs (w : Nat) (hw : w < 256) (n : Int) : evw env 3 [.int .u8 w, .int .i64 n] [] = some (.bool true, [], false) := by
  have hr : runC w n (Int.tmod w 6) = true := by
    have h6 : Int.tmod (w : Int) 6 = ((w % 6 : Nat) : Int) := rfl
    rw [h6]
    have : w % 6 < 6 := Nat.mod_lt _ (by decide)
    generalize w % 6 = q at this
    match q, this with
    | 0, _ => exact r0 w n
    | 1, _ => exact r1 w n
    | 2, _ => exact r2 w n
    | 3, _ => exact r3 w n
    | 4, _ => exact r4 w n
    | 5, _ => exact r5 w n
  obtain ⟨s, h1, h2⟩ := okR_eq hr
  exact law_of w n (s6 w n) (s6_ok w n) (g0 w n) s h1 h2
end Go.Proofs.YtbondebiijokaaaGreatDoor.M
