/- Part of the proof: the runs of functions on the abstract machine. -/
import Derived.Test.YtbinlabnilidiaaDoorPamM4
import Derived.Test.YtbinlabnilidiaaDoorFns
import Derived.Test.YtbinlabnilidiaaDoorMDe
import Derived.Test.YtbinlabnilidiaaDoorMDc
import Derived.Test.YtbinlabnilidiaaDoorMDc1
import Derived.Test.YtbinlabnilidiaaDoorMDw
namespace Go.Proofs.YtbinlabnilidiaaDoor.M
open Go Go.Pam Go.RowKit Go.WideShapes
set_option maxRecDepth 8000
set_option linter.unusedVariables false
set_option linter.unusedSimpArgs false

def F72_L4 (k : Nat) (a349 : Int) (a350 : Sl Int) (a352 : Int) : Nat → Int → Int → Option (Int × Int)
 | 0, _, _ => none
 | n + 1, x348, x353 =>
  if decide (x353 < a352) then
  Option.bind (Sl.at? a350 x353) fun y357 =>
  Option.bind (shl? .i64 x348 8) fun z358 =>
  F72_L4 k a349 a350 a352 n (bOr .i64 z358 (cv .i64 y357)) (ad .i64 x353 1)
  else
  some (x348, x353)
def F72 (k : Nat) (a0 : Str) : Option (Int × Int × Int) :=
 if a0 == [] then
 some (0, 0, 10)
 else
 Option.bind (Str.at? a0 0) fun c2 =>
 if (bAnd .u8 c2 31) == 31 then
 some (0, 0, 14)
 else
 if (Str.len a0) == 1 then
 some (0, 0, 10)
 else
 Option.bind (Str.at? a0 1) fun c5 =>
 Option.bind (if ((cv .i64 c5) == 128) || (decide ((cv .i64 c5) > 132)) then
 some (Out.ret (0, 0, 11))
 else
 if decide ((cv .i64 c5) > 128) then
 if decide ((Str.len a0) < (ad .i64 2 (sb .i64 (cv .i64 c5) 128))) then
 some (Out.ret (0, 0, 10))
 else
 Option.bind (Str.sub? a0 2 (ad .i64 2 (sb .i64 (cv .i64 c5) 128))) fun z324 =>
 Option.bind (F72_L4 k (sb .i64 (cv .i64 c5) 128) (Str.bytes z324) (Sl.len (Str.bytes z324)) k 0 0) fun y360 =>
 some (Out.brk (y360.1, sb .i64 (cv .i64 c5) 128))
 else
 some (Out.brk (cv .i64 c5, 0))) fun y304 =>
 match y304 with
 | .ret r => some r
 | .brk y304b =>
 if decide (y304b.1 > 4000) then
 some (0, 0, 13)
 else
 some (ad .i64 2 y304b.2, y304b.1, 0)
theorem l72_L4 {k : Nat} {a349 : Int} {a350 : Sl Int} {a352 : Int} {S0 : List SObj} {R : List Nat} {K : KX} {v351 : PV} (hv351 : IsSl (eI .u8) a350 v351)  {o : (Int × Int)}
  (hbrk : EK [(5, (.int .i64 o.1)), (6, (.int .i64 a349))] S0 R [] [] [] (K (.exit 4))) :
  ∀ {n : Nat} {x348 : Int} {x353 : Int}, F72_L4 k a349 a350 a352 n x348 x353 = some o → ∀ {σ : Nat → PV} {S : List SObj}, Known [(5, (.int .i64 x348)), (6, (.int .i64 a349)), (42, v351), (43, (.int .i64 a352)), (44, (.int .i64 x353))] σ → Hp S0 R S [] [] [] → WC env ⟨59, S0.length⟩ (.loop pc72L4) σ S false K := by
 intro n
 induction n with
 | zero => intro _ _ h; cases h
 | succ n ih =>
  intro x348 x353 h σ S  hk H
  rw [F72_L4] at h
  refine WC.loop <| WC.of_known hk <| WC.seqR <| us 1 rfl <| WO.nil <| WC.seq ?_
  rcases iteS h with ⟨hc359, h⟩ | ⟨hc359, h⟩
  refine WC.condT rfl hc359 <| WC.skip <| KX.seq_n <| WC.seq <| WC.block <| WC.seqR ?_
  obtain ⟨y357, hy357, h⟩ := bindS h
  refine w (.iptr [(.int .u8 y357)] 0) rfl (nz rfl (stp_idxAddr rfl hv351 rfl rfl rfl hy357 rfl rfl)) <| us 2 rfl <| WO.nil <| WC.region <| us 1 rfl ?_
  obtain ⟨z358, hz358, h⟩ := bindS h
  refine w (.int .i64 z358) rfl (nz rfl (stp_shl rfl rfl hz358)) <| us 4 rfl <| WO.nil <| KX.block_n <| KX.seq_n <| WC.region <| us 2 rfl <| WO.nil <| KX.seq_n ?_
  exact ih h  kn (hs H)
  refine WC.condF rfl hc359 <| WC.exit <| KX.seq_x <| KX.seq_x ?_
  have h := oi h; subst h
  exact hbrk  kn (hs H)
theorem s72 : ∀ k : Nat, ∀ {a0 : Str} {r : Int × Int × Int}, F72 k a0 = some r → Q 72 [(.str a0)] (.tup [(.int .i64 r.1), (.int .i64 r.2.1), (.int .i64 r.2.2)]) := by
 intro k a0 r h
 unfold F72 at h
 refine Qe.go (pf := fn72) rfl rfl (Nat.le_of_ble_eq_true rfl) rfl rfl rfl fun H => ?_
 refine WC.seqR <| us 3 rfl <| WO.nil <| WC.seq <| WC.seqR <| us 1 rfl <| w (.bool (a0 == [])) rfl rfl <| WO.nil ?_
 rcases iteS h with ⟨hc368, h⟩ | ⟨hc368, h⟩
 refine WC.condT rfl hc368 <| WC.seqR <| us 3 rfl <| WO.nil <| WC.ret <| KX.seq_r ?_
 have h := oi h; subst h
 refine KB.ret (vs := [(.int .i64 0), (.int .i64 0), (.int .i64 10)]) (res_tmp rfl (res_tmp rfl (res_tmp rfl res_nil))) (fl_cons' rfl (fl_cons' rfl (fl_cons' rfl rfl))) ?_
 exact rfl
 refine WC.condF rfl hc368 <| WC.skip <| KX.seq_n <| WC.seq <| WC.seqR <| us 1 rfl ?_
 obtain ⟨c2, hc2, h⟩ := bindS h
 refine w (.int .u8 c2) rfl (nz rfl (stp_idxStr rfl rfl rfl hc2)) <| us 2 rfl <| WO.nil ?_
 rcases iteS h with ⟨hc367, h⟩ | ⟨hc367, h⟩
 refine WC.condT rfl hc367 <| WC.seqR <| us 3 rfl <| WO.nil <| WC.ret <| KX.seq_r ?_
 have h := oi h; subst h
 refine KB.ret (vs := [(.int .i64 0), (.int .i64 0), (.int .i64 14)]) (res_tmp rfl (res_tmp rfl (res_tmp rfl res_nil))) (fl_cons' rfl (fl_cons' rfl (fl_cons' rfl rfl))) ?_
 exact rfl
 refine WC.condF rfl hc367 <| WC.skip <| KX.seq_n <| WC.seq <| WC.seqR <| us 2 rfl <| w (.bool ((Str.len a0) == 1)) rfl rfl <| WO.nil ?_
 rcases iteS h with ⟨hc366, h⟩ | ⟨hc366, h⟩
 refine WC.condT rfl hc366 <| WC.seqR <| us 3 rfl <| WO.nil <| WC.ret <| KX.seq_r ?_
 have h := oi h; subst h
 refine KB.ret (vs := [(.int .i64 0), (.int .i64 0), (.int .i64 10)]) (res_tmp rfl (res_tmp rfl (res_tmp rfl res_nil))) (fl_cons' rfl (fl_cons' rfl (fl_cons' rfl rfl))) ?_
 exact rfl
 refine WC.condF rfl hc366 <| WC.skip <| KX.seq_n <| WC.seqR <| us 1 rfl ?_
 obtain ⟨c5, hc5, h⟩ := bindS h
 refine w (.int .u8 c5) rfl (nz rfl (stp_idxStr rfl rfl rfl hc5)) <| us 2 rfl <| WO.nil <| WC.seqR <| us 1 rfl <| WO.nil <| WC.seq <| WC.block <| WC.seq ?_
 obtain ⟨y304, hy304, hOy304⟩ := bindS h
 refine WC.join (fun σ' S' e' => ∃ y304b, y304 = .brk y304b ∧ Known ([(5, (.int .i64 y304b.1)), (6, (.int .i64 y304b.2))]) σ' ∧ Hp [] [] S' [] [] [] ∧ e' = false) ?_ ?_
 replace h := hy304
 refine WC.block <| WC.seq <| WC.block <| WC.seq <| WC.block <| WC.seq <| WC.seq <| WC.seqR <| us 1 rfl <| w (.bool ((cv .i64 c5) == 128)) rfl rfl <| w (.bool ((cv .i64 c5) == 128)) rfl rfl ?_
 refine WO.split 3 (SH H [(0, (.str a0)), (5, (.int .i64 (cv .i64 c5))), (6, (.int .i64 0)), (27, (.bool (((cv .i64 c5) == 128) || (decide ((cv .i64 c5) > 132)))))]) ?_ ?_
 revert H
 cases hc320 : ((cv .i64 c5) == 128)
 intro H
 refine us 3 rfl <| WO.nil ?_
 exact kf H
 intro H
 refine us 3 rfl <| WO.nil ?_
 exact kf H
 rintro σ S e ⟨hk, H, rfl⟩
 refine WO.of_known hk <| us 1 rfl <| WO.nil ?_
 rcases iteS h with ⟨hc363, h⟩ | ⟨hc363, h⟩
 refine WC.condT rfl hc363 <| WC.exit <| KX.seq_x <| KX.seq_x <| KX.block_x <| KX.seq_n <| WC.seq <| WC.seqR <| us 3 rfl <| WO.nil <| WC.ret <| KX.seq_r <| KX.block_r <| KX.seq_r <| KX.block_r <| KX.seq_r ?_
 have h := oi h; subst h
 replace h := hOy304
 refine KX.seq_r <| KX.block_r <| KX.seq_r ?_
 have h := oi h; subst h
 refine KB.ret (vs := [(.int .i64 0), (.int .i64 0), (.int .i64 11)]) (res_tmp rfl (res_tmp rfl (res_tmp rfl res_nil))) (fl_cons' rfl (fl_cons' rfl (fl_cons' rfl rfl))) ?_
 exact rfl
 refine WC.condF rfl hc363 <| WC.skip <| KX.seq_n <| WC.seqR <| us 3 rfl <| WO.nil ?_
 rcases iteS h with ⟨hc362, h⟩ | ⟨hc362, h⟩
 refine WC.condT rfl hc362 <| WC.exit <| KX.seq_x <| KX.block_y rfl <| KX.seq_x <| KX.block_x <| KX.seq_n <| WC.seqR <| us 3 rfl <| WO.nil <| WC.seq <| WC.seqR <| us 5 rfl <| WO.nil ?_
 rcases iteS h with ⟨hc361, h⟩ | ⟨hc361, h⟩
 refine WC.condT rfl hc361 <| WC.seqR <| us 3 rfl <| WO.nil <| WC.ret <| KX.seq_r <| KX.block_r <| KX.seq_r ?_
 have h := oi h; subst h
 replace h := hOy304
 refine KX.seq_r <| KX.block_r <| KX.seq_r ?_
 have h := oi h; subst h
 refine KB.ret (vs := [(.int .i64 0), (.int .i64 0), (.int .i64 10)]) (res_tmp rfl (res_tmp rfl (res_tmp rfl res_nil))) (fl_cons' rfl (fl_cons' rfl (fl_cons' rfl rfl))) ?_
 exact rfl
 refine WC.condF rfl hc361 <| WC.skip <| KX.seq_n <| WC.seqR <| us 1 rfl <| WO.nil <| WC.seqR <| us 3 rfl ?_
 obtain ⟨z324, hz324, h⟩ := bindS h
 refine w (.str z324) rfl (nz rfl (stp_subStr rfl rfl rfl rfl hz324)) <| WO.ex rfl (nzx rfl (stp_bytes rfl rfl rfl rfl H)) ?_
 rintro v325 S ⟨hv325, H⟩
 replace H : Hp [] [] _ [] [(v325, 1)] [] := H
 refine w (.int .i64 (Sl.len (Str.bytes z324))) rfl (nz rfl (stp_len rfl hv325 rfl)) <| us 1 rfl <| WO.nil ?_
 obtain ⟨y360, hy360, hOy360⟩ := bindS h
 refine WC.block ?_
 refine l72_L4 (hv325) ?_ hy360  kn (H.sub .slnil (.cons _ .slnil) .slnil)
 intro σ S  hk H; replace h := hOy360
 refine KX.of_known hk <| KX.block_x <| KX.block_n <| KX.seq_n ?_
 have h := oi h; subst h
 exact ⟨_, rfl, kn, (hs H), rfl⟩
 refine WC.condF rfl hc362 <| WC.skip <| KX.seq_n <| WC.exit <| KX.block_y rfl <| KX.seq_x <| KX.block_y rfl <| KX.seq_x <| KX.block_x <| KX.seq_n ?_
 have h := oi h; subst h
 exact ⟨_, rfl, kn, (hs H), rfl⟩
 rintro σ S e ⟨y304b, rfl, hk, H, rfl⟩
 replace h := hOy304
 dsimp only at h
 refine KX.of_known hk <| KX.seq_n <| WC.seq <| WC.seqR <| us 2 rfl <| WO.nil ?_
 rcases iteS h with ⟨hc365, h⟩ | ⟨hc365, h⟩
 refine WC.condT rfl hc365 <| WC.seqR <| us 3 rfl <| WO.nil <| WC.ret <| KX.seq_r <| KX.block_r <| KX.seq_r ?_
 have h := oi h; subst h
 refine KB.ret (vs := [(.int .i64 0), (.int .i64 0), (.int .i64 13)]) (res_tmp rfl (res_tmp rfl (res_tmp rfl res_nil))) (fl_cons' rfl (fl_cons' rfl (fl_cons' rfl rfl))) ?_
 exact rfl
 refine WC.condF rfl hc365 <| WC.skip <| KX.seq_n <| WC.exit <| KX.block_x <| KX.seq_n <| WC.seqR <| us 6 rfl <| WO.nil <| WC.ret ?_
 have h := oi h; subst h
 refine KB.ret (vs := [(.int .i64 (ad .i64 2 y304b.2)), (.int .i64 y304b.1), (.int .i64 0)]) (res_tmp rfl (res_tmp rfl (res_tmp rfl res_nil))) (fl_cons' rfl (fl_cons' rfl (fl_cons' rfl rfl))) ?_
 exact rfl
def F54_L0 (rc0 : Ber_reader → Int → Int → Int → Option (Ber_reader × Api_Element × Int × Int)) (k : Nat) (a80 : Int) (a81 : Int) (a82 : Int) (a86 : Api_Element) : Nat → Int → Api_Element → Ber_reader → Option (Out (Ber_reader × Api_Element × Int × Int) (Int × Api_Element × Ber_reader))
 | 0, _, _, _ => none
 | n + 1, x83, b84, b87 =>
  if decide (x83 < (ad .i64 a82 a81)) then
  Option.bind (rc0 b87 x83 (ad .i64 a82 a81) (ad .i64 a80 1)) fun y96 =>
  if y96.2.2.2 != 0 then
  some (Out.ret (y96.1, (Api_Element.mk 0 [] none), 0, y96.2.2.2))
  else
  Option.bind (Sl.app? 48 b84.Kids (Sl.l (some [y96.2.1]))) fun z100 =>
  F54_L0 rc0 k a80 a81 a82 a86 n y96.2.2.1 (Api_Element.mk b84.Tag b84.Body z100) y96.1
  else
  some (Out.brk (x83, b84, b87))
def F54 : Nat → Ber_reader → Int → Int → Int → Option (Ber_reader × Api_Element × Int × Int)
 | 0, _, _, _, _ => none
 | k + 1, a0, a1, a2, a3 =>
  if decide (a3 > 20) then
  some ((Ber_reader.mk a0.s_ a1), (Api_Element.mk 0 [] none), 0, 12)
  else
  Option.bind (Str.sub? a0.s_ a1 a2) fun z3 =>
  Option.bind (F72 k z3) fun y4 =>
  Option.bind (if (y4.2.2 == 0) && (decide (y4.2.1 > (sb .i64 (sb .i64 a2 a1) y4.1))) then
  some 10
  else
  some y4.2.2) fun y8 =>
  Option.bind (if (y8 == 10) && (decide (a3 > 1)) then
  some 11
  else
  some y8) fun y13 =>
  if y13 != 0 then
  some ((Ber_reader.mk a0.s_ a1), (Api_Element.mk 0 [] none), 0, y13)
  else
  Option.bind (Str.at? a0.s_ a1) fun c16 =>
  if (bAnd .u8 c16 32) == 0 then
  Option.bind (Str.sub? a0.s_ (ad .i64 a1 y4.1) (ad .i64 (ad .i64 a1 y4.1) y4.2.1)) fun z20 =>
  some ((Ber_reader.mk a0.s_ a1), (Api_Element.mk c16 z20 none), ad .i64 (ad .i64 a1 y4.1) y4.2.1, 0)
  else
  Option.bind (F54_L0 (F54 k) k a3 y4.2.1 (ad .i64 a1 y4.1) (Api_Element.mk 0 [] none) k (ad .i64 a1 y4.1) (Api_Element.mk c16 [] none) (Ber_reader.mk a0.s_ a1)) fun y106 =>
  match y106 with
  | .ret y106r => some (y106r.1, y106r.2.1, y106r.2.2.1, y106r.2.2.2)
  | .brk y106b =>
  some (y106b.2.2, y106b.2.1, ad .i64 (ad .i64 a1 y4.1) y4.2.1, 0)
theorem l54_L0 {rc0 : Ber_reader → Int → Int → Int → Option (Ber_reader × Api_Element × Int × Int)} (hrc0 : ∀ {a0 : Ber_reader} {a1 : Int} {a2 : Int} {a3 : Int} {r : Ber_reader × Api_Element × Int × Int}, rc0 a0 a1 a2 a3 = some r → ∀ {id : Nat} {S : List SObj}, S[id]? = some (.cells (c_Ber_reader a0)) → evw env 54 [.ptr id 0, (.int .i64 a1), (.int .i64 a2), (.int .i64 a3)] S = some ((.tup [(.agg (c_Api_Element r.2.1)), (.int .i64 r.2.2.1), (.int .i64 r.2.2.2)]), S.set id (.cells (c_Ber_reader r.1)), false)) {k : Nat} {a80 : Int} {a81 : Int} {a82 : Int} {a86 : Api_Element} {S0 : List SObj} {R : List Nat} {K : KX} {i17 : Nat} {i1 : Nat} {id : Nat} (hi17 : S0.length ≤ i17) (hi1 : S0.length ≤ i1)  {o : Out (Ber_reader × Api_Element × Int × Int) (Int × Api_Element × Ber_reader)}
  (hret : ∀ r : Ber_reader × Api_Element × Int × Int, o = .ret r → ∀ {σ' : Nat → PV} {S' : List SObj} (v105 : PV) (_ : IsSl e_Api_Element r.2.1.Kids v105), Known [(8, (.ptr i1 0)), (9, (.int .i64 r.2.2.1)), (10, (.int .i64 r.2.2.2))] σ' → Hp S0 R S' [(i1, .cells [(.int .u8 r.2.1.Tag), (.str r.2.1.Body), v105]), (id, .cells (c_Ber_reader r.1))] [] [] → K .ret σ' S' false)
  (hbrk : ∀ y : Int × Api_Element × Ber_reader, o = .brk y → ∀ {σ' : Nat → PV} {S' : List SObj}, ∀ (v104 : PV) (_ : IsSl e_Api_Element y.2.1.Kids v104), Known [(8, (.ptr i1 0)), (12, (.int .i64 a81)), (14, (.int .i64 a82)), (15, (.ptr i17 0))] σ' → Hp S0 R S' [(i17, .cells [(.int .u8 y.2.1.Tag), (.str y.2.1.Body), v104]), (i1, .cells [(.int .u8 a86.Tag), (.str a86.Body), .nils]), (id, .cells (c_Ber_reader y.2.2))] [(v104, 3)] [] → K (.exit 0) σ' S' false) :
  ∀ {n : Nat} {x83 : Int} {b84 : Api_Element} {b87 : Ber_reader}, F54_L0 rc0 k a80 a81 a82 a86 n x83 b84 b87 = some o → ∀ {σ : Nat → PV} {S : List SObj}, ∀ (v85 : PV) (_ : IsSl e_Api_Element b84.Kids v85), Known [(0, (.ptr id 0)), (3, (.int .i64 a80)), (8, (.ptr i1 0)), (12, (.int .i64 a81)), (14, (.int .i64 a82)), (15, (.ptr i17 0)), (16, (.int .i64 x83))] σ → Hp S0 R S [(i17, .cells [(.int .u8 b84.Tag), (.str b84.Body), v85]), (i1, .cells [(.int .u8 a86.Tag), (.str a86.Body), .nils]), (id, .cells (c_Ber_reader b87))] [(v85, 3)] [] → WC env ⟨121, S0.length⟩ (.loop pc54L0) σ S false K := by
 intro n
 induction n with
 | zero => intro _ _ _ h; cases h
 | succ n ih =>
  intro x83 b84 b87 h σ S v85 hv85 hk H
  rw [F54_L0] at h
  refine WC.loop <| WC.of_known hk <| WC.seq <| WC.seqR <| us 5 rfl <| WO.nil ?_
  rcases iteS h with ⟨hc103, h⟩ | ⟨hc103, h⟩
  refine WC.condT rfl hc103 <| WC.skip <| KX.seq_n <| WC.block <| WC.seqR <| us 7 rfl ?_
  obtain ⟨y96, hy96, h⟩ := bindS h
  refine WO.callR 2 rfl rfl rfl rfl H rfl (hrc0 hy96 (H.get 2 rfl)) ?_
  intro S H
  refine us 4 rfl <| WO.alloc' (ti := ty44) rfl rfl rfl rfl H ?_
  intro i97 S hi97 H
  refine wos 0 H hi97 rfl rfl rfl rfl rfl rfl rfl rfl rfl rfl ?_
  intro S H
  replace H : Hp S0 R _ [(i97, .cells (c_Api_Element y96.2.1)), (i17, .cells [(.int .u8 b84.Tag), (.str b84.Body), v85]), (i1, .cells [(.int .u8 a86.Tag), (.str a86.Body), .nils]), (id, .cells (c_Ber_reader y96.1))] [(v85, 3)] [] := H
  refine us 2 rfl <| WO.nil <| WC.seq <| WC.seqR <| us 2 rfl <| WO.nil ?_
  rcases iteS h with ⟨hc102, h⟩ | ⟨hc102, h⟩
  refine WC.condT rfl hc102 <| WC.seqR <| w (.agg [(.int .u8 0), (.str []), .nils]) rfl (nz rfl (stp_build (ti := ty44) rfl rfl rfl rfl rfl rfl)) <| us 1 rfl <| wos 2 H hi1 rfl rfl rfl rfl rfl rfl rfl rfl rfl rfl ?_
  intro S H
  replace H : Hp S0 R _ [(i97, .cells (c_Api_Element y96.2.1)), (i17, .cells [(.int .u8 b84.Tag), (.str b84.Body), v85]), (i1, .cells [(.int .u8 0), (.str []), .nils]), (id, .cells (c_Ber_reader y96.1))] [(v85, 3)] [] := H
  refine us 2 rfl <| WO.nil <| WC.ret <| KX.seq_r <| KX.block_r <| KX.seq_r ?_
  have h := oi h; subst h
  exact hret _ rfl .nils ((isSl_nil _)) kn (H.sub (.cons _ (.cons _ (.cons_cons _ (.cons_cons _ .slnil)))) (.cons _ .slnil) .slnil)
  refine WC.condF rfl hc102 <| WC.skip <| KX.seq_n <| WC.seqR <| us 1 rfl <| wg H 1 rfl rfl rfl rfl <| wg H 0 rfl rfl rfl rfl <| WS rfl (nz rfl (stp_buildSlice (ys := [y96.2.1]) (f := e_Api_Element) (parts := [(0, (.agg (c_Api_Element y96.2.1)))]) rfl rfl rfl rfl rfl (by simp only [st_agg, List.map_cons, List.map_nil, st1_int, st1_str, strip1_enc, e_Api_Element_eq, tupled]) (fc ⟨rfl, rfl⟩ (fun p hp => nomatch hp)) rfl)) ?_
  have hv99 : IsSl e_Api_Element (some [y96.2.1]) _ := ⟨.full, rfl⟩
  obtain ⟨z100, hz100, h⟩ := bindS h
  refine WO.ex rfl (nzx (fz_tmp' hv99.frz rfl) (stp_app (f := e_Api_Element) (ei := ty44) H 0 rfl rfl hv85 rfl hv99 rfl rfl rfl rfl (fun a => (e_Api_Element_one a).2.1) hz100)) ?_
  rintro v101 S ⟨hv101, H⟩
  refine us 1 rfl <| WO.store 1 rfl (fz_tmp' hv101.frz rfl) H rfl rfl rfl rfl hv101.one.1 hv101.one.2 rfl (Nat.le_of_ble_eq_true rfl) rfl (own_e hi17) ?_
  intro S H
  replace H : Hp S0 R _ [(i97, .cells (c_Api_Element y96.2.1)), (i17, .cells [(.int .u8 b84.Tag), (.str b84.Body), v101]), (i1, .cells [(.int .u8 a86.Tag), (.str a86.Body), .nils]), (id, .cells (c_Ber_reader y96.1))] [(v101, 3)] [] := H
  refine WO.nil <| WC.region <| us 2 rfl <| WO.nil <| KX.block_n <| KX.seq_n ?_
  exact ih h v101 (hv101) kn (H.sub (.cons _ (.cons_cons _ (.cons_cons _ (.cons_cons _ .slnil)))) (.cons_cons _ .slnil) .slnil)
  refine WC.condF rfl hc103 <| WC.exit <| KX.seq_x <| KX.seq_x ?_
  have h := oi h; subst h
  exact hbrk _ rfl v85 (hv85) kn (hs H)
theorem s54 : ∀ k : Nat, ∀ {a0 : Ber_reader} {a1 : Int} {a2 : Int} {a3 : Int} {r : Ber_reader × Api_Element × Int × Int}, F54 k a0 a1 a2 a3 = some r → ∀ {id : Nat} {S : List SObj}, S[id]? = some (.cells (c_Ber_reader a0)) → evw env 54 [.ptr id 0, (.int .i64 a1), (.int .i64 a2), (.int .i64 a3)] S = some ((.tup [(.agg (c_Api_Element r.2.1)), (.int .i64 r.2.2.1), (.int .i64 r.2.2.2)]), S.set id (.cells (c_Ber_reader r.1)), false) := by
 intro k
 induction k with
 | zero => intro _ _ _ _ r h; cases h
 | succ k ih =>
  intro a0 a1 a2 a3 r h id S0 hS
  rw [F54] at h
  refine evw_recvW (pf := fn54) rfl rfl (Nat.le_of_ble_eq_true rfl) rfl ?_
  refine WB.of (pf := fn54) rfl ?_
  have H := Hp.start1 hS rfl
  refine WC.seqR <| WO.alloc' (ti := ty44) rfl rfl rfl rfl H ?_
  intro i1 S hi1 H
  refine us 2 rfl <| WO.nil <| WC.seqR <| us 4 rfl <| WO.store 1 rfl rfl H rfl rfl rfl rfl rfl rfl rfl (Nat.le_of_ble_eq_true rfl) rfl (clean_e rfl) ?_
  intro S H
  replace H : Hp S0 [id] _ [(i1, .cells [(.int .u8 0), (.str []), .nils]), (id, .cells [(.str a0.s_), (.int .i64 a1)])] [] [] := H
  refine WO.nil <| WC.seq <| WC.seqR <| us 2 rfl <| WO.nil ?_
  rcases iteS h with ⟨hc111, h⟩ | ⟨hc111, h⟩
  refine WC.condT rfl hc111 <| WC.seqR <| w (.agg [(.int .u8 0), (.str []), .nils]) rfl (nz rfl (stp_build (ti := ty44) rfl rfl rfl rfl rfl rfl)) <| wos 0 H hi1 rfl rfl rfl rfl rfl rfl rfl rfl rfl rfl ?_
  intro S H
  replace H : Hp S0 [id] _ [(i1, .cells [(.int .u8 0), (.str []), .nils]), (id, .cells [(.str a0.s_), (.int .i64 a1)])] [] [] := H
  refine us 2 rfl <| WO.nil <| WC.ret <| KX.seq_r ?_
  have h := oi h; subst h
  refine KB.ret (vs := [(.agg [(.int .u8 0), (.str []), .nils]), (.int .i64 0), (.int .i64 12)]) (res_cell rfl (H.get 0 rfl) rfl (res_tmp rfl (res_tmp rfl res_nil))) (fl_cons' rfl (fl_cons' rfl (fl_cons' rfl rfl))) ?_
  exact leave_hp hS H 1 rfl (by simp only [st_tup, List.map_cons, List.map_nil, tupled, st2_agg, st1_int, st1_str, st1_nils, encSl_none, e_Api_Element_eq, st2_int, c_Api_Element]) (by simp [PV.clean, cleanL, clean_encSl clean_Api_Element])
  refine WC.condF rfl hc111 <| WC.skip <| KX.seq_n <| WC.seqR <| us 3 rfl <| wg H 1 rfl rfl rfl rfl <| us 2 rfl ?_
  obtain ⟨z3, hz3, h⟩ := bindS h
  refine w (.str z3) rfl (nz rfl (stp_subStr rfl rfl rfl rfl hz3)) ?_
  obtain ⟨y4, hy4, h⟩ := bindS h
  refine cl (.tup [(.int .i64 y4.1), (.int .i64 y4.2.1), (.int .i64 y4.2.2)]) [(.str z3)] rfl rfl rfl rfl (s72 _ hy4 rfl) <| us 7 rfl <| WO.nil <| WC.seq <| WC.seqR <| us 1 rfl <| w (.bool (y4.2.2 == 0)) rfl rfl <| w (.bool (y4.2.2 == 0)) rfl rfl ?_
  refine WO.split 8 (SH H [(0, (.ptr id 0)), (1, (.int .i64 a1)), (3, (.int .i64 a3)), (8, (.ptr i1 0)), (11, (.int .i64 y4.1)), (12, (.int .i64 y4.2.1)), (13, (.int .i64 y4.2.2)), (49, (.bool ((y4.2.2 == 0) && (decide (y4.2.1 > (sb .i64 (sb .i64 a2 a1) y4.1))))))]) ?_ ?_
  revert H
  cases hc5 : (y4.2.2 == 0)
  intro H
  refine us 8 rfl <| WO.nil ?_
  exact kf H
  intro H
  refine us 8 rfl <| WO.nil ?_
  exact kf H
  rintro σ S e ⟨hk, H, rfl⟩
  refine WO.of_known hk <| WO.nil ?_
  obtain ⟨y8, hy8, hOy8⟩ := bindS h
  refine WC.join (SJ [(0, (.ptr id 0)), (1, (.int .i64 a1)), (3, (.int .i64 a3)), (8, (.ptr i1 0)), (11, (.int .i64 y4.1)), (12, (.int .i64 y4.2.1)), (13, (.int .i64 y8))] S0 [id] [(i1, .cells [(.int .u8 0), (.str []), .nils]), (id, .cells [(.str a0.s_), (.int .i64 a1)])] [] [] false) ?_ ?_
  replace h := hy8
  rcases iteS h with ⟨hc9, h⟩ | ⟨hc9, h⟩
  refine WC.condT rfl hc9 <| WC.region <| us 1 rfl <| WO.nil <| KX.seq_n ?_
  have h := oi h; subst h
  exact kh H
  refine WC.condF rfl hc9 <| WC.skip <| KX.seq_n ?_
  have h := oi h; subst h
  exact kh H
  rintro σ S e ⟨hk, H, rfl⟩
  replace h := hOy8
  refine KX.of_known hk <| KX.seq_n <| WC.seq <| WC.seqR <| us 1 rfl <| w (.bool (y8 == 10)) rfl rfl <| w (.bool (y8 == 10)) rfl rfl ?_
  refine WO.split 3 (SH H [(0, (.ptr id 0)), (1, (.int .i64 a1)), (3, (.int .i64 a3)), (8, (.ptr i1 0)), (11, (.int .i64 y4.1)), (12, (.int .i64 y4.2.1)), (13, (.int .i64 y8)), (55, (.bool ((y8 == 10) && (decide (a3 > 1)))))]) ?_ ?_
  revert H
  cases hc10 : (y8 == 10)
  intro H
  refine us 3 rfl <| WO.nil ?_
  exact kf H
  intro H
  refine us 3 rfl <| WO.nil ?_
  exact kf H
  rintro σ S e ⟨hk, H, rfl⟩
  refine WO.of_known hk <| WO.nil ?_
  obtain ⟨y13, hy13, hOy13⟩ := bindS h
  refine WC.join (SJ [(0, (.ptr id 0)), (1, (.int .i64 a1)), (3, (.int .i64 a3)), (8, (.ptr i1 0)), (11, (.int .i64 y4.1)), (12, (.int .i64 y4.2.1)), (13, (.int .i64 y13))] S0 [id] [(i1, .cells [(.int .u8 0), (.str []), .nils]), (id, .cells [(.str a0.s_), (.int .i64 a1)])] [] [] false) ?_ ?_
  replace h := hy13
  rcases iteS h with ⟨hc14, h⟩ | ⟨hc14, h⟩
  refine WC.condT rfl hc14 <| WC.region <| us 1 rfl <| WO.nil <| KX.seq_n ?_
  have h := oi h; subst h
  exact kh H
  refine WC.condF rfl hc14 <| WC.skip <| KX.seq_n ?_
  have h := oi h; subst h
  exact kh H
  rintro σ S e ⟨hk, H, rfl⟩
  replace h := hOy13
  refine KX.of_known hk <| KX.seq_n <| WC.seq <| WC.seqR <| us 2 rfl <| WO.nil ?_
  rcases iteS h with ⟨hc110, h⟩ | ⟨hc110, h⟩
  refine WC.condT rfl hc110 <| WC.seqR <| w (.agg [(.int .u8 0), (.str []), .nils]) rfl (nz rfl (stp_build (ti := ty44) rfl rfl rfl rfl rfl rfl)) <| us 1 rfl <| wos 0 H hi1 rfl rfl rfl rfl rfl rfl rfl rfl rfl rfl ?_
  intro S H
  replace H : Hp S0 [id] _ [(i1, .cells [(.int .u8 0), (.str []), .nils]), (id, .cells [(.str a0.s_), (.int .i64 a1)])] [] [] := H
  refine us 2 rfl <| WO.nil <| WC.ret <| KX.seq_r ?_
  have h := oi h; subst h
  refine KB.ret (vs := [(.agg [(.int .u8 0), (.str []), .nils]), (.int .i64 0), (.int .i64 y13)]) (res_cell rfl (H.get 0 rfl) rfl (res_tmp rfl (res_tmp rfl res_nil))) (fl_cons' rfl (fl_cons' rfl (fl_cons' rfl rfl))) ?_
  exact leave_hp hS H 1 rfl (by simp only [st_tup, List.map_cons, List.map_nil, tupled, st2_agg, st1_int, st1_str, st1_nils, encSl_none, e_Api_Element_eq, st2_int, c_Api_Element]) (by simp [PV.clean, cleanL, clean_encSl clean_Api_Element])
  refine WC.condF rfl hc110 <| WC.skip <| KX.seq_n <| WC.seqR <| us 4 rfl <| WO.nil <| WC.seqR <| us 3 rfl <| wg H 1 rfl rfl rfl rfl <| us 1 rfl ?_
  obtain ⟨c16, hc16, h⟩ := bindS h
  refine w (.int .u8 c16) rfl (nz rfl (stp_idxStr rfl rfl rfl hc16)) <| w (.agg [(.int .u8 c16), (.str []), .nils]) rfl (nz rfl (stp_build (ti := ty44) rfl rfl rfl rfl rfl (fill_cons rfl rfl rfl rfl (Nat.le_of_ble_eq_true rfl) rfl rfl))) <| WO.alloc' (ti := ty44) rfl rfl rfl rfl H ?_
  intro i17 S hi17 H
  refine wos 0 H hi17 rfl rfl rfl rfl rfl rfl rfl rfl rfl rfl ?_
  intro S H
  replace H : Hp S0 [id] _ [(i17, .cells [(.int .u8 c16), (.str []), .nils]), (i1, .cells [(.int .u8 0), (.str []), .nils]), (id, .cells [(.str a0.s_), (.int .i64 a1)])] [] [] := H
  refine WO.nil <| WC.seq <| WC.seqR <| us 1 rfl <| wg H 0 rfl rfl rfl rfl <| us 2 rfl <| WO.nil ?_
  rcases iteS h with ⟨hc109, h⟩ | ⟨hc109, h⟩
  refine WC.condT rfl hc109 <| WC.seqR <| us 3 rfl <| wg H 2 rfl rfl rfl rfl <| us 4 rfl ?_
  obtain ⟨z20, hz20, h⟩ := bindS h
  refine w (.str z20) rfl (nz rfl (stp_subStr rfl rfl rfl rfl hz20)) <| us 1 rfl <| wos 0 H hi17 rfl rfl rfl rfl rfl rfl rfl rfl rfl rfl ?_
  intro S H
  refine WO.nil <| WC.seqR <| wg H 0 rfl rfl rfl rfl <| us 3 rfl <| wos 1 H hi1 rfl rfl rfl rfl rfl rfl rfl rfl rfl rfl ?_
  intro S H
  replace H : Hp S0 [id] _ [(i17, .cells [(.int .u8 c16), (.str z20), .nils]), (i1, .cells [(.int .u8 c16), (.str z20), .nils]), (id, .cells [(.str a0.s_), (.int .i64 a1)])] [] [] := H
  refine us 2 rfl <| WO.nil <| WC.ret <| KX.seq_r ?_
  have h := oi h; subst h
  refine KB.ret (vs := [(.agg [(.int .u8 c16), (.str z20), .nils]), (.int .i64 (ad .i64 (ad .i64 a1 y4.1) y4.2.1)), (.int .i64 0)]) (res_cell rfl (H.get 1 rfl) rfl (res_tmp rfl (res_tmp rfl res_nil))) (fl_cons' rfl (fl_cons' rfl (fl_cons' rfl rfl))) ?_
  exact leave_hp hS H 2 rfl (by simp only [st_tup, List.map_cons, List.map_nil, tupled, st2_agg, st1_int, st1_str, st1_nils, encSl_none, e_Api_Element_eq, st2_int, c_Api_Element]) (by simp [PV.clean, cleanL, clean_encSl clean_Api_Element])
  refine WC.condF rfl hc109 <| WC.skip <| KX.seq_n <| WC.seq <| WC.seqR <| us 2 rfl <| WO.nil ?_
  obtain ⟨y106, hy106, hOy106⟩ := bindS h
  refine WC.block ?_
  have H := H.addNil 3
  refine l54_L0 ih hi17 hi1 ?_ ?_ hy106 .nils ((isSl_nil _)) kn (hs H)
  intro y106r he σ S v108 hv108 hk H; subst he; replace h := hOy106; dsimp only at h
  refine KX.of_known hk <| KX.block_r <| KX.seq_r ?_
  have h := oi h; subst h
  refine KB.ret (vs := [(.agg [(.int .u8 y106r.2.1.Tag), (.str y106r.2.1.Body), v108]), (.int .i64 y106r.2.2.1), (.int .i64 y106r.2.2.2)]) (res_cell rfl (H.get 0 rfl) rfl (res_tmp rfl (res_tmp rfl res_nil))) (fl_cons' rfl (fl_cons' rfl (fl_cons' rfl rfl))) ?_
  exact leave_hp hS H 1 rfl (by simp only [st_tup, List.map_cons, List.map_nil, tupled, st2_agg, st1_int, st1_str, hv108.strip1, e_Api_Element_eq, st2_int, c_Api_Element]) (by simp [PV.clean, cleanL, clean_encSl clean_Api_Element])
  intro y106b he σ S v107 hv107 hk H; subst he; replace h := hOy106; dsimp only at h
  refine KX.of_known hk <| KX.block_x <| KX.seq_n <| WC.seqR <| wg H 0 rfl rfl rfl rfl <| us 3 rfl <| wos 1 H hi1 rfl rfl rfl rfl rfl rfl rfl rfl rfl rfl ?_
  intro S H
  replace H : Hp S0 [id] _ [(i17, .cells [(.int .u8 y106b.2.1.Tag), (.str y106b.2.1.Body), v107]), (i1, .cells [(.int .u8 y106b.2.1.Tag), (.str y106b.2.1.Body), v107]), (id, .cells (c_Ber_reader y106b.2.2))] [(v107, 3)] [] := H
  refine us 2 rfl <| WO.nil <| WC.ret ?_
  have h := oi h; subst h
  refine KB.ret (vs := [(.agg [(.int .u8 y106b.2.1.Tag), (.str y106b.2.1.Body), v107]), (.int .i64 (ad .i64 (ad .i64 a1 y4.1) y4.2.1)), (.int .i64 0)]) (res_cell rfl (H.get 1 rfl) rfl (res_tmp rfl (res_tmp rfl res_nil))) (fl_cons' rfl (fl_cons' rfl (fl_cons' rfl rfl))) ?_
  exact leave_hp hS H 2 rfl (by simp only [st_tup, List.map_cons, List.map_nil, tupled, st2_agg, st1_int, st1_str, hv107.strip1, e_Api_Element_eq, st2_int, c_Api_Element]) (by simp [PV.clean, cleanL, clean_encSl clean_Api_Element])
def F39 (k : Nat) (a0 : Str) : Option (Api_Element × Int × Int × Int) :=
 Option.bind (F54 k (Ber_reader.mk a0 0) 0 (Str.len a0) 1) fun y3 =>
 if y3.2.2.2 != 0 then
 some ((Api_Element.mk 0 [] none), 0, y3.1.at_, y3.2.2.2)
 else
 some (y3.2.1, y3.2.2.1, 0, 0)
theorem s39 : ∀ k : Nat, ∀ {a0 : Str} {r : Api_Element × Int × Int × Int}, F39 k a0 = some r → Q 39 [(.str a0)] (.tup [(.agg (c_Api_Element r.1)), (.int .i64 r.2.1), (.int .i64 r.2.2.1), (.int .i64 r.2.2.2)]) := by
 intro k a0 r h vs ha S
 unfold F39 at h
 refine evw_pureW (pf := fn39) rfl rfl ha (Nat.le_of_ble_eq_true rfl) rfl (by simp [PV.clean, cleanL, clean_encSl clean_Api_Element]) ?_
 refine WB.of (pf := fn39) rfl ?_
 have H := Hp.start []
 refine WC.seqR <| WO.alloc' (ti := ty44) rfl rfl rfl rfl H ?_
 intro i1 S hi1 H
 refine us 3 rfl <| WO.nil <| WC.seqR <| us 1 rfl <| w (.agg [(.str a0), (.int .i64 0)]) rfl (nz rfl (stp_build (ti := ty107) rfl rfl rfl rfl rfl (fill_cons rfl rfl rfl rfl (Nat.le_of_ble_eq_true rfl) rfl rfl))) <| WO.box' rfl rfl rfl rfl rfl H ?_
 intro i2 S hi2 H
 refine us 1 rfl <| WO.nil <| WC.seqR <| us 3 rfl ?_
 obtain ⟨y3, hy3, h⟩ := bindS h
 refine WO.callR 0 rfl rfl rfl rfl H rfl (s54 _ hy3 (H.get 0 rfl)) ?_
 intro S H
 refine us 4 rfl <| WO.alloc' (ti := ty44) rfl rfl rfl rfl H ?_
 intro i4 S hi4 H
 refine wos 0 H hi4 rfl rfl rfl rfl rfl rfl rfl rfl rfl rfl ?_
 intro S H
 replace H : Hp [] [] _ [(i4, .cells (c_Api_Element y3.2.1)), (i2, .cells (c_Ber_reader y3.1)), (i1, .cells [(.int .u8 0), (.str []), .nils])] [] [] := H
 refine us 2 rfl <| WO.nil <| WC.seq <| WC.seqR <| us 2 rfl <| WO.nil ?_
 rcases iteS h with ⟨hc8, h⟩ | ⟨hc8, h⟩
 refine WC.condT rfl hc8 <| WC.seq <| WC.drawC <| WK.step (v := (.agg [(.int .u8 0), (.str []), .nils])) rfl (nz rfl (stp_build (ti := ty44) rfl rfl rfl rfl rfl rfl)) rfl rfl rfl rfl <| wk (.ptr i2 0) rfl rfl rfl rfl <| wk (.ptr i2 0) rfl rfl rfl rfl <| wk (.ptr i2 1) rfl rfl rfl rfl <| wkl H 1 rfl rfl rfl rfl <| wk (.int .i64 y3.2.2.2) rfl rfl rfl rfl ?_
 have Hh7 := H
 refine wks 2 H hi1 rfl rfl rfl rfl rfl rfl rfl rfl rfl rfl ?_
 intro S H
 replace H : Hp [] [] _ [(i4, .cells (c_Api_Element y3.2.1)), (i2, .cells (c_Ber_reader y3.1)), (i1, .cells [(.int .u8 0), (.str []), .nils])] [] [] := H
 refine ⟨(pend_cons (ld (H.get 1 rfl) rfl) pend_nil), ?_⟩
 refine wk (.int .i64 0) rfl rfl rfl rfl <| wk (.int .i64 y3.1.at_) rfl rfl rfl rfl <| WK.nil <| us 1 rfl <| WO.nil <| KX.seq_n <| WC.ret <| KX.seq_r ?_
 have h := oi h; subst h
 refine KB.ret (vs := [(.agg [(.int .u8 0), (.str []), .nils]), (.int .i64 0), (.int .i64 y3.1.at_), (.int .i64 y3.2.2.2)]) (res_cell rfl (H.get 2 rfl) rfl (res_tmp rfl (res_tmp rfl (res_tmp rfl res_nil)))) (fl_cons' rfl (fl_cons' rfl (fl_cons' rfl (fl_cons' rfl rfl)))) ?_
 exact (by simp only [st_tup, List.map_cons, List.map_nil, tupled, st2_agg, st1_int, st1_str, st1_nils, encSl_none, e_Api_Element_eq, st2_int, c_Api_Element])
 refine WC.condF rfl hc8 <| WC.skip <| KX.seq_n <| WC.seqR <| wg H 0 rfl rfl rfl rfl <| us 1 rfl <| wos 2 H hi1 rfl rfl rfl rfl rfl rfl rfl rfl rfl rfl ?_
 intro S H
 replace H : Hp [] [] _ [(i4, .cells (c_Api_Element y3.2.1)), (i2, .cells (c_Ber_reader y3.1)), (i1, .cells (c_Api_Element y3.2.1))] [] [] := H
 refine us 3 rfl <| WO.nil <| WC.ret ?_
 have h := oi h; subst h
 refine KB.ret (vs := [(.agg (c_Api_Element y3.2.1)), (.int .i64 y3.2.2.1), (.int .i64 0), (.int .i64 0)]) (res_cell rfl (H.get 2 rfl) rfl (res_tmp rfl (res_tmp rfl (res_tmp rfl res_nil)))) (fl_cons' rfl (fl_cons' rfl (fl_cons' rfl (fl_cons' rfl rfl)))) ?_
 exact (by simp only [st_tup, List.map_cons, List.map_nil, tupled, st2_agg, st1_int, st1_str, strip1_enc, e_Api_Element_eq, st2_int, c_Api_Element])
def F55 (k : Nat) (a0 : Api_Element) (a1 : Int) : Option Api_Element :=
 if decide (a1 ≥ (Sl.len a0.Kids)) then
 some (Api_Element.mk 0 [] none)
 else
 Option.bind (Sl.at? a0.Kids a1) fun y4 =>
 some y4
theorem s55 : ∀ k : Nat, ∀ {a0 : Api_Element} {a1 : Int} {r : Api_Element}, F55 k a0 a1 = some r → Q 55 [(.agg (c_Api_Element a0)), (.int .i64 a1)] (.agg (c_Api_Element r)) := by
 intro k a0 a1 r h vs ha S
 unfold F55 at h
 refine evw_pureW (pf := fn55) rfl rfl ha (Nat.le_of_ble_eq_true rfl) (by simp [PV.clean, cleanL, clean_encSl clean_Api_Element]) (by simp [PV.clean, cleanL, clean_encSl clean_Api_Element]) ?_
 refine WB.of (pf := fn55) rfl ?_
 have H := Hp.start []
 refine WC.seqR <| WO.box' rfl rfl rfl rfl rfl H ?_
 intro i1 S hi1 H
 refine WO.alloc' (ti := ty44) rfl rfl rfl rfl H ?_
 intro i2 S hi2 H
 refine WO.nil <| WC.seq <| WC.seqR <| us 2 rfl <| wg H 1 rfl rfl rfl rfl <| wl rfl rfl rfl <| us 1 rfl <| WO.nil ?_
 rcases iteS h with ⟨hc5, h⟩ | ⟨hc5, h⟩
 refine WC.condT rfl hc5 <| WC.seqR <| w (.agg [(.int .u8 0), (.str []), .nils]) rfl (nz rfl (stp_build (ti := ty44) rfl rfl rfl rfl rfl rfl)) <| wos 0 H hi2 rfl rfl rfl rfl rfl rfl rfl rfl rfl rfl ?_
 intro S H
 replace H : Hp [] [] _ [(i2, .cells [(.int .u8 0), (.str []), .nils]), (i1, .cells (c_Api_Element a0))] [] [] := H
 refine WO.nil <| WC.ret <| KX.seq_r ?_
 have h := oi h; subst h
 refine KB.ret (vs := [(.agg [(.int .u8 0), (.str []), .nils])]) (res_cell rfl (H.get 0 rfl) rfl res_nil) (fl_cons' rfl rfl) ?_
 exact (by simp only [st_tup, List.map_cons, List.map_nil, tupled, st_agg, st1_int, st1_str, st1_nils, encSl_none, e_Api_Element_eq, c_Api_Element])
 refine WC.condF rfl hc5 <| WC.skip <| KX.seq_n <| WC.seqR <| us 1 rfl <| wg H 1 rfl rfl rfl rfl <| us 1 rfl ?_
 obtain ⟨y4, hy4, h⟩ := bindS h
 refine w (.iptr (c_Api_Element y4) 0) rfl (nz rfl (stp_idxAddr rfl (isSl_enc _ _) rfl rfl rfl hy4 (e_Api_Element_cells _) rfl)) <| us 1 rfl <| wos 0 H hi2 rfl rfl rfl rfl rfl rfl rfl rfl rfl rfl ?_
 intro S H
 replace H : Hp [] [] _ [(i2, .cells (c_Api_Element y4)), (i1, .cells (c_Api_Element a0))] [] [] := H
 refine WO.nil <| WC.ret ?_
 have h := oi h; subst h
 refine KB.ret (vs := [(.agg (c_Api_Element y4))]) (res_cell rfl (H.get 0 rfl) rfl res_nil) (fl_cons' rfl rfl) ?_
 exact (by simp only [st_tup, List.map_cons, List.map_nil, tupled, st_agg, st1_int, st1_str, strip1_enc, e_Api_Element_eq, c_Api_Element])
def F73_L4 (k : Nat) (a208 : Str) (a210 : Sl Int) (a212 : Int) : Nat → Int → Int → Option (Int × Int)
 | 0, _, _ => none
 | n + 1, x209, x213 =>
  if decide (x213 < a212) then
  Option.bind (Sl.at? a210 x213) fun y217 =>
  Option.bind (shl? .i64 x209 8) fun z218 =>
  F73_L4 k a208 a210 a212 n (bOr .i64 z218 (cv .i64 y217)) (ad .i64 x213 1)
  else
  some (x209, x213)
def F73 (k : Nat) (a0 : Str) : Option (Int × Bool) :=
 Option.bind (if (a0 == []) || (decide ((Str.len a0) > 8)) then
 some (Out.ret (0, false))
 else
 Option.bind (Str.at? a0 0) fun c180 =>
 if (bAnd .u8 c180 128) != 0 then
 some (Out.brk (-1))
 else
 some (Out.brk 0)) fun y159 =>
 match y159 with
 | .ret r => some r
 | .brk y159b =>
 Option.bind (F73_L4 k a0 (Str.bytes a0) (Sl.len (Str.bytes a0)) k y159b 0) fun y220 =>
 Option.bind (F34 k y220.1) fun y221 =>
 if !(y221 == a0) then
 some (0, false)
 else
 some (y220.1, true)
theorem l73_L4 {k : Nat} {a208 : Str} {a210 : Sl Int} {a212 : Int} {S0 : List SObj} {R : List Nat} {K : KX} {v211 : PV} (hv211 : IsSl (eI .u8) a210 v211)  {o : (Int × Int)}
  (hbrk : EK [(0, (.str a208)), (4, (.int .i64 o.1))] S0 R [] [] [] (K (.exit 4))) :
  ∀ {n : Nat} {x209 : Int} {x213 : Int}, F73_L4 k a208 a210 a212 n x209 x213 = some o → ∀ {σ : Nat → PV} {S : List SObj}, Known [(0, (.str a208)), (4, (.int .i64 x209)), (21, v211), (22, (.int .i64 a212)), (23, (.int .i64 x213))] σ → Hp S0 R S [] [] [] → WC env ⟨38, S0.length⟩ (.loop pc73L4) σ S false K := by
 intro n
 induction n with
 | zero => intro _ _ h; cases h
 | succ n ih =>
  intro x209 x213 h σ S  hk H
  rw [F73_L4] at h
  refine WC.loop <| WC.of_known hk <| WC.seqR <| us 1 rfl <| WO.nil <| WC.seq ?_
  rcases iteS h with ⟨hc219, h⟩ | ⟨hc219, h⟩
  refine WC.condT rfl hc219 <| WC.skip <| KX.seq_n <| WC.seq <| WC.block <| WC.seqR ?_
  obtain ⟨y217, hy217, h⟩ := bindS h
  refine w (.iptr [(.int .u8 y217)] 0) rfl (nz rfl (stp_idxAddr rfl hv211 rfl rfl rfl hy217 rfl rfl)) <| us 2 rfl <| WO.nil <| WC.region <| us 1 rfl ?_
  obtain ⟨z218, hz218, h⟩ := bindS h
  refine w (.int .i64 z218) rfl (nz rfl (stp_shl rfl rfl hz218)) <| us 4 rfl <| WO.nil <| KX.block_n <| KX.seq_n <| WC.region <| us 2 rfl <| WO.nil <| KX.seq_n ?_
  exact ih h  kn (hs H)
  refine WC.condF rfl hc219 <| WC.exit <| KX.seq_x <| KX.seq_x ?_
  have h := oi h; subst h
  exact hbrk  kn (hs H)
theorem s73 : ∀ k : Nat, ∀ {a0 : Str} {r : Int × Bool}, F73 k a0 = some r → Q 73 [(.str a0)] (.tup [(.int .i64 r.1), (.bool r.2)]) := by
 intro k a0 r h
 unfold F73 at h
 refine Qe.go (pf := fn73) rfl rfl (Nat.le_of_ble_eq_true rfl) rfl rfl rfl fun H => ?_
 refine WC.seqR <| us 2 rfl <| WO.nil <| WC.seqR <| us 1 rfl <| WO.nil <| WC.seq <| WC.block <| WC.seq ?_
 obtain ⟨y159, hy159, hOy159⟩ := bindS h
 refine WC.join (fun σ' S' e' => ∃ y159b, y159 = .brk y159b ∧ Known ([(0, (.str a0)), (4, (.int .i64 y159b))]) σ' ∧ Hp [] [] S' [] [] [] ∧ e' = false) ?_ ?_
 replace h := hy159
 refine WC.block <| WC.seq <| WC.block <| WC.seq <| WC.block <| WC.seq <| WC.seq <| WC.seqR <| us 1 rfl <| w (.bool (a0 == [])) rfl rfl <| w (.bool (a0 == [])) rfl rfl ?_
 refine WO.split 4 (SH H [(0, (.str a0)), (4, (.int .i64 0)), (14, (.bool ((a0 == []) || (decide ((Str.len a0) > 8)))))]) ?_ ?_
 revert H
 cases hc178 : (a0 == [])
 intro H
 refine us 4 rfl <| WO.nil ?_
 exact kf H
 intro H
 refine us 4 rfl <| WO.nil ?_
 exact kf H
 rintro σ S e ⟨hk, H, rfl⟩
 refine WO.of_known hk <| us 1 rfl <| WO.nil ?_
 rcases iteS h with ⟨hc183, h⟩ | ⟨hc183, h⟩
 refine WC.condT rfl hc183 <| WC.exit <| KX.seq_x <| KX.seq_x <| KX.block_x <| KX.seq_n <| WC.seq <| WC.seqR <| us 2 rfl <| WO.nil <| WC.ret <| KX.seq_r <| KX.block_r <| KX.seq_r <| KX.block_r <| KX.seq_r ?_
 have h := oi h; subst h
 replace h := hOy159
 refine KX.seq_r <| KX.block_r <| KX.seq_r ?_
 have h := oi h; subst h
 refine KB.ret (vs := [(.int .i64 0), (.bool false)]) (res_tmp rfl (res_tmp rfl res_nil)) (fl_cons' rfl (fl_cons' rfl rfl)) ?_
 exact rfl
 refine WC.condF rfl hc183 <| WC.skip <| KX.seq_n <| WC.seqR <| us 1 rfl ?_
 obtain ⟨c180, hc180, h⟩ := bindS h
 refine w (.int .u8 c180) rfl (nz rfl (stp_idxStr rfl rfl rfl hc180)) <| us 3 rfl <| WO.nil ?_
 rcases iteS h with ⟨hc182, h⟩ | ⟨hc182, h⟩
 refine WC.condT rfl hc182 <| WC.exit <| KX.seq_x <| KX.block_y rfl <| KX.seq_x <| KX.block_x <| KX.seq_n <| WC.region <| us 1 rfl <| WO.nil <| KX.block_n <| KX.seq_n ?_
 have h := oi h; subst h
 exact ⟨_, rfl, kn, (hs H), rfl⟩
 refine WC.condF rfl hc182 <| WC.skip <| KX.seq_n <| WC.exit <| KX.block_y rfl <| KX.seq_x <| KX.block_y rfl <| KX.seq_x <| KX.block_x <| KX.seq_n ?_
 have h := oi h; subst h
 exact ⟨_, rfl, kn, (hs H), rfl⟩
 rintro σ S e ⟨y159b, rfl, hk, H, rfl⟩
 replace h := hOy159
 dsimp only at h
 refine KX.of_known hk <| KX.seq_n <| WC.seq <| WC.seqR <| us 1 rfl <| WO.ex rfl (nzx rfl (stp_bytes rfl rfl rfl rfl H)) ?_
 rintro v184 S ⟨hv184, H⟩
 replace H : Hp [] [] _ [] [(v184, 1)] [] := H
 refine w (.int .i64 (Sl.len (Str.bytes a0))) rfl (nz rfl (stp_len rfl hv184 rfl)) <| us 1 rfl <| WO.nil ?_
 obtain ⟨y220, hy220, hOy220⟩ := bindS h
 refine WC.block ?_
 refine l73_L4 (hv184) ?_ hy220  kn (H.sub .slnil (.cons _ .slnil) .slnil)
 intro σ S  hk H; replace h := hOy220
 refine KX.of_known hk <| KX.block_x <| KX.seq_n <| WC.exit <| KX.block_x <| KX.seq_n <| WC.seq <| WC.seqR <| us 1 rfl ?_
 obtain ⟨y221, hy221, h⟩ := bindS h
 refine cl (.str y221) [(.int .i64 y220.1)] rfl rfl rfl rfl (s34 _ hy221 rfl) <| us 2 rfl <| WO.nil ?_
 rcases iteS h with ⟨hc223, h⟩ | ⟨hc223, h⟩
 refine WC.condT rfl hc223 <| WC.seqR <| us 2 rfl <| WO.nil <| WC.ret <| KX.seq_r ?_
 have h := oi h; subst h
 refine KB.ret (vs := [(.int .i64 0), (.bool false)]) (res_tmp rfl (res_tmp rfl res_nil)) (fl_cons' rfl (fl_cons' rfl rfl)) ?_
 exact rfl
 refine WC.condF rfl hc223 <| WC.skip <| KX.seq_n <| WC.seqR <| us 3 rfl <| WO.nil <| WC.ret ?_
 have h := oi h; subst h
 refine KB.ret (vs := [(.int .i64 y220.1), (.bool true)]) (res_tmp rfl (res_tmp rfl res_nil)) (fl_cons' rfl (fl_cons' rfl rfl)) ?_
 exact rfl
def F56 (k : Nat) (a0 : Api_Element) : Option Int :=
 Option.bind (F73 k a0.Body) fun y2 =>
 if ((!y2.2) || (decide (y2.1 < 0))) || (decide (y2.1 > 2147483647)) then
 some (-1)
 else
 some y2.1
theorem s56 : ∀ k : Nat, ∀ {a0 : Api_Element} {r : Int}, F56 k a0 = some r → Q 56 [(.agg (c_Api_Element a0))] (.int .i64 r) := by
 intro k a0 r h
 unfold F56 at h
 refine Qe.go (pf := fn56) rfl rfl (Nat.le_of_ble_eq_true rfl) (by simp [PV.clean, cleanL, clean_encSl clean_Api_Element]) rfl rfl fun H => ?_
 refine WC.seqR <| WO.box' rfl rfl rfl rfl rfl H ?_
 intro i1 S hi1 H
 refine us 1 rfl <| WO.nil <| WC.seqR <| us 1 rfl <| wg H 0 rfl rfl rfl rfl ?_
 obtain ⟨y2, hy2, h⟩ := bindS h
 refine cl (.tup [(.int .i64 y2.1), (.bool y2.2)]) [(.str a0.Body)] rfl rfl rfl rfl (s73 _ hy2 rfl) <| us 5 rfl <| WO.nil <| WC.seq <| WC.seqR <| us 1 rfl <| w (.bool (!y2.2)) rfl rfl <| w (.bool (!y2.2)) rfl rfl ?_
 refine WO.split 3 (SH H [(3, (.int .i64 y2.1)), (16, (.bool ((!y2.2) || (decide (y2.1 < 0)))))]) ?_ ?_
 revert H
 cases hc3 : (!y2.2)
 intro H
 refine us 3 rfl <| WO.nil ?_
 exact kf H
 intro H
 refine us 3 rfl <| WO.nil ?_
 exact kf H
 rintro σ S e ⟨hk, H, rfl⟩
 refine WO.of_known hk <| w (.bool ((!y2.2) || (decide (y2.1 < 0)))) rfl rfl ?_
 refine WO.split 3 (SH H [(3, (.int .i64 y2.1)), (20, (.bool (((!y2.2) || (decide (y2.1 < 0))) || (decide (y2.1 > 2147483647)))))]) ?_ ?_
 revert H
 cases hc4 : ((!y2.2) || (decide (y2.1 < 0)))
 intro H
 refine us 3 rfl <| WO.nil ?_
 exact kf H
 intro H
 refine us 3 rfl <| WO.nil ?_
 exact kf H
 rintro σ S e ⟨hk, H, rfl⟩
 refine WO.of_known hk <| WO.nil ?_
 rcases iteS h with ⟨hc6, h⟩ | ⟨hc6, h⟩
 refine WC.condT rfl hc6 <| WC.seqR <| us 1 rfl <| WO.nil <| WC.ret <| KX.seq_r ?_
 have h := oi h; subst h
 exact kr (.int .i64 (-1)) rfl rfl rfl
 refine WC.condF rfl hc6 <| WC.skip <| KX.seq_n <| WC.seqR <| us 2 rfl <| WO.nil <| WC.ret ?_
 have h := oi h; subst h
 exact kr (.int .i64 y2.1) rfl rfl rfl
def F57_L0 (k : Nat) (a44 : Int) : Nat → Int → Option (Out (Int × Int) Int)
 | 0, _ => none
 | n + 1, x45 =>
  if decide (x45 ≤ 10) then
  Option.bind (if x45 != 9 then
  Option.bind (F11 k x45 0) fun y61 =>
  some (y61 == a44)
  else
  some false) fun y60 =>
  if y60 then
  some (Out.ret (x45, 0))
  else
  F57_L0 k a44 n (ad .i64 x45 1)
  else
  some (Out.brk x45)
def F57_L2 (k : Nat) (a86 : Int) : Nat → Int → Option (Out (Int × Int) Int)
 | 0, _ => none
 | n + 1, x87 =>
  if decide (x87 ≤ 8) then
  Option.bind (F11 k 9 x87) fun y92 =>
  if y92 == a86 then
  some (Out.ret (9, x87))
  else
  F57_L2 k a86 n (ad .i64 x87 1)
  else
  some (Out.brk x87)
def F57 (k : Nat) (a0 : Int) : Option (Int × Int) :=
 Option.bind (F57_L0 k a0 k 1) fun y66 =>
 match y66 with
 | .ret y66r => some (y66r.1, y66r.2)
 | .brk y66b =>
 Option.bind (F57_L2 k a0 k 1) fun y96 =>
 match y96 with
 | .ret y96r => some (y96r.1, y96r.2)
 | .brk y96b =>
 some (0, 0)
theorem l57_L0 {k : Nat} {a44 : Int} {S0 : List SObj} {R : List Nat} {K : KX}  {o : Out (Int × Int) Int}
  (hret : ∀ r : Int × Int, o = .ret r → EK [(2, (.int .i64 r.1)), (3, (.int .i64 r.2))] S0 R [] [] [] (K .ret))
  (hbrk : ∀ y : Int, o = .brk y → EK [(0, (.int .u8 a44))] S0 R [] [] [] (K (.exit 0))) :
  ∀ {n : Nat} {x45 : Int}, F57_L0 k a44 n x45 = some o → ∀ {σ : Nat → PV} {S : List SObj}, Known [(0, (.int .u8 a44)), (4, (.int .i64 x45))] σ → Hp S0 R S [] [] [] → WC env ⟨28, S0.length⟩ (.loop pc57L0) σ S false K := by
 intro n
 induction n with
 | zero => intro _ h; cases h
 | succ n ih =>
  intro x45 h σ S  hk H
  rw [F57_L0] at h
  refine WC.loop <| WC.of_known hk <| WC.seq <| WC.seqR <| us 2 rfl <| WO.nil ?_
  rcases iteS h with ⟨hc65, h⟩ | ⟨hc65, h⟩
  refine WC.condT rfl hc65 <| WC.skip <| KX.seq_n <| WC.seq <| WC.block <| WC.seqR <| us 1 rfl <| w (.bool (x45 != 9)) rfl rfl <| w (.bool (x45 != 9)) rfl rfl ?_
  obtain ⟨y60, hy60, hOy60⟩ := bindS h
  refine WO.split 5 (SJ [(0, (.int .u8 a44)), (4, (.int .i64 x45)), (17, (.bool y60))] S0 R [] [] [] false) ?_ ?_
  replace h := hy60
  revert H
  cases hc62 : (x45 != 9)
  intro H
  replace h := iteF h hc62
  refine us 5 rfl <| WO.nil ?_
  have h := oi h; subst h
  exact kh H
  intro H
  replace h := iteT h hc62
  refine us 1 rfl <| WO.go0 rfl rfl ?_
  obtain ⟨y61, hy61, h⟩ := bindS h
  refine cl (.int .u8 y61) [(.int .i64 x45), (.int .i64 0)] rfl rfl rfl rfl (s11 _ hy61 rfl) <| us 3 rfl <| WO.nil ?_
  have h := oi h; subst h
  exact kh H
  rintro σ S e ⟨hk, H, rfl⟩
  replace h := hOy60
  refine WO.of_known hk <| WO.nil ?_
  rcases iteS h with ⟨hc64, h⟩ | ⟨hc64, h⟩
  refine WC.condT rfl hc64 <| WC.seqR <| us 3 rfl <| WO.nil <| WC.ret <| KX.block_r <| KX.seq_r <| KX.seq_r ?_
  have h := oi h; subst h
  exact hret _ rfl kn (hs H)
  refine WC.condF rfl hc64 <| WC.skip <| KX.block_n <| KX.seq_n <| WC.region <| us 3 rfl <| WO.nil <| KX.seq_n ?_
  exact ih h  kn (hs H)
  refine WC.condF rfl hc65 <| WC.exit <| KX.seq_x <| KX.seq_x ?_
  have h := oi h; subst h
  exact hbrk _ rfl  kn (hs H)
theorem l57_L2 {k : Nat} {a86 : Int} {S0 : List SObj} {R : List Nat} {K : KX}  {o : Out (Int × Int) Int}
  (hret : ∀ r : Int × Int, o = .ret r → EK [(2, (.int .i64 r.1)), (3, (.int .i64 r.2))] S0 R [] [] [] (K .ret))
  (hbrk : ∀ y : Int, o = .brk y → EK [] S0 R [] [] [] (K (.exit 2))) :
  ∀ {n : Nat} {x87 : Int}, F57_L2 k a86 n x87 = some o → ∀ {σ : Nat → PV} {S : List SObj}, Known [(0, (.int .u8 a86)), (5, (.int .i64 x87))] σ → Hp S0 R S [] [] [] → WC env ⟨28, S0.length⟩ (.loop pc57L2) σ S false K := by
 intro n
 induction n with
 | zero => intro _ h; cases h
 | succ n ih =>
  intro x87 h σ S  hk H
  rw [F57_L2] at h
  refine WC.loop <| WC.of_known hk <| WC.seq <| WC.seqR <| us 2 rfl <| WO.nil ?_
  rcases iteS h with ⟨hc95, h⟩ | ⟨hc95, h⟩
  refine WC.condT rfl hc95 <| WC.skip <| KX.seq_n <| WC.seq <| WC.block <| WC.seqR <| us 1 rfl ?_
  obtain ⟨y92, hy92, h⟩ := bindS h
  refine cl (.int .u8 y92) [(.int .i64 9), (.int .i64 x87)] rfl rfl rfl rfl (s11 _ hy92 rfl) <| us 2 rfl <| WO.nil ?_
  rcases iteS h with ⟨hc94, h⟩ | ⟨hc94, h⟩
  refine WC.condT rfl hc94 <| WC.seqR <| us 3 rfl <| WO.nil <| WC.ret <| KX.block_r <| KX.seq_r <| KX.seq_r ?_
  have h := oi h; subst h
  exact hret _ rfl kn (hs H)
  refine WC.condF rfl hc94 <| WC.skip <| KX.block_n <| KX.seq_n <| WC.region <| us 3 rfl <| WO.nil <| KX.seq_n ?_
  exact ih h  kn (hs H)
  refine WC.condF rfl hc95 <| WC.exit <| KX.seq_x <| KX.seq_x ?_
  have h := oi h; subst h
  exact hbrk _ rfl  known_nil (hs H)
theorem s57 : ∀ k : Nat, ∀ {a0 : Int} {r : Int × Int}, F57 k a0 = some r → Q 57 [(.int .u8 a0)] (.tup [(.int .i64 r.1), (.int .i64 r.2)]) := by
 intro k a0 r h
 unfold F57 at h
 refine Qe.go (pf := fn57) rfl rfl (Nat.le_of_ble_eq_true rfl) rfl rfl rfl fun H => ?_
 refine WC.seqR <| us 2 rfl <| WO.nil <| WC.seq <| WC.seqR <| us 1 rfl <| WO.nil ?_
 obtain ⟨y66, hy66, hOy66⟩ := bindS h
 refine WC.block ?_
 refine l57_L0 ?_ ?_ hy66  kn (hs H)
 intro y66r he σ S  hk H; subst he; replace h := hOy66; dsimp only at h
 refine KX.of_known hk <| KX.block_r <| KX.seq_r ?_
 have h := oi h; subst h
 refine KB.ret (vs := [(.int .i64 y66r.1), (.int .i64 y66r.2)]) (res_tmp rfl (res_tmp rfl res_nil)) (fl_cons' rfl (fl_cons' rfl rfl)) ?_
 exact rfl
 intro y66b he σ S  hk H; subst he; replace h := hOy66; dsimp only at h
 refine KX.of_known hk <| KX.block_x <| KX.seq_n <| WC.seq <| WC.seqR <| us 1 rfl <| WO.nil ?_
 obtain ⟨y96, hy96, hOy96⟩ := bindS h
 refine WC.block ?_
 refine l57_L2 ?_ ?_ hy96  kn (hs H)
 intro y96r he σ S  hk H; subst he; replace h := hOy96; dsimp only at h
 refine KX.of_known hk <| KX.block_r <| KX.seq_r ?_
 have h := oi h; subst h
 refine KB.ret (vs := [(.int .i64 y96r.1), (.int .i64 y96r.2)]) (res_tmp rfl (res_tmp rfl res_nil)) (fl_cons' rfl (fl_cons' rfl rfl)) ?_
 exact rfl
 intro y96b he σ S  hk H; subst he; replace h := hOy96; dsimp only at h
 refine KX.of_known hk <| KX.block_x <| KX.seq_n <| WC.seqR <| us 2 rfl <| WO.nil <| WC.ret ?_
 have h := oi h; subst h
 refine KB.ret (vs := [(.int .i64 0), (.int .i64 0)]) (res_tmp rfl (res_tmp rfl res_nil)) (fl_cons' rfl (fl_cons' rfl rfl)) ?_
 exact rfl
def F58_L0 (k : Nat) (a44 : Sl Api_Element) (a45 : Int) : Nat → (Sl Str) → Int → Option ((Sl Str) × Int)
 | 0, _, _ => none
 | n + 1, x42, x46 =>
  if decide (x46 < a45) then
  Option.bind (Sl.at? a44 x46) fun y53 =>
  Option.bind (Sl.app? 16 x42 (Sl.l (some [y53.Body]))) fun z56 =>
  F58_L0 k a44 a45 n z56 (ad .i64 x46 1)
  else
  some (x42, x46)
def F58 (k : Nat) (a0 : Api_Element) : Option (Sl Str) :=
 Option.bind (F58_L0 k a0.Kids (Sl.len a0.Kids) k none 0) fun y60 =>
 some y60.1
theorem l58_L0 {k : Nat} {a44 : Sl Api_Element} {a45 : Int} {S0 : List SObj} {R : List Nat} {K : KX}  {o : ((Sl Str) × Int)}
  (hbrk : ∀ {σ' : Nat → PV} {S' : List SObj}, ∀ (v59 : PV) (_ : IsSl eS o.1 v59), Known [(3, v59)] σ' → Hp S0 R S' [] [(v59, 1)] [] → K (.exit 0) σ' S' false) :
  ∀ {n : Nat} {x42 : Sl Str} {x46 : Int}, F58_L0 k a44 a45 n x42 x46 = some o → ∀ {σ : Nat → PV} {S : List SObj}, ∀ (v43 : PV) (_ : IsSl eS x42 v43), Known [(3, v43), (7, (encSl e_Api_Element a44)), (8, (.int .i64 a45)), (9, (.int .i64 x46))] σ → Hp S0 R S [] [(v43, 1)] [] → WC env ⟨20, S0.length⟩ (.loop pc58L0) σ S false K := by
 intro n
 induction n with
 | zero => intro _ _ h; cases h
 | succ n ih =>
  intro x42 x46 h σ S v43 hv43 hk H
  rw [F58_L0] at h
  refine WC.loop <| WC.of_known hk <| WC.seqR <| us 1 rfl <| WO.nil <| WC.seq ?_
  rcases iteS h with ⟨hc58, h⟩ | ⟨hc58, h⟩
  refine WC.condT rfl hc58 <| WC.skip <| KX.seq_n <| WC.seq <| WC.block <| WC.seqR ?_
  obtain ⟨y53, hy53, h⟩ := bindS h
  refine w (.iptr (c_Api_Element y53) 0) rfl (nz rfl (stp_idxAddr rfl (isSl_enc _ _) rfl rfl rfl hy53 (e_Api_Element_cells _) rfl)) <| us 1 rfl <| WO.alloc' (ti := ty44) rfl rfl rfl rfl H ?_
  intro i54 S hi54 H
  refine wos 0 H hi54 rfl rfl rfl rfl rfl rfl rfl rfl rfl rfl ?_
  intro S H
  refine WO.nil <| WC.region <| w v43 rfl rfl <| us 1 rfl <| wg H 0 rfl rfl rfl rfl <| WS rfl (nz rfl (stp_buildSlice (ys := [y53.Body]) (f := eS) (parts := [(0, (.str y53.Body))]) rfl rfl rfl rfl rfl rfl (fc ⟨rfl, rfl⟩ (fun p hp => nomatch hp)) rfl)) ?_
  have hv55 : IsSl eS (some [y53.Body]) _ := ⟨.full, rfl⟩
  obtain ⟨z56, hz56, h⟩ := bindS h
  refine WO.ex rfl (nzx (fz_tmp' hv55.frz rfl) (stp_app (f := eS) (ei := ty9) H 0 rfl rfl hv43 rfl hv55 rfl rfl rfl rfl (fun _ => rfl) hz56)) ?_
  rintro v57 S ⟨hv57, H⟩
  replace H : Hp S0 R _ [(i54, .cells (c_Api_Element y53))] [(v57, 1)] [] := H
  refine w v57 rfl rfl <| WO.nil <| KX.block_n <| KX.seq_n <| WC.region <| us 2 rfl <| WO.nil <| KX.seq_n ?_
  exact ih h v57 (hv57) kn (H.sub (.cons _ .slnil) (.cons_cons _ .slnil) .slnil)
  refine WC.condF rfl hc58 <| WC.exit <| KX.seq_x <| KX.seq_x ?_
  have h := oi h; subst h
  exact hbrk v43 (hv43) kn (hs H)
theorem s58 : ∀ k : Nat, ∀ {a0 : Api_Element} {r : (Sl Str)}, F58 k a0 = some r → Q 58 [(.agg (c_Api_Element a0))] (encSl eS r) := by
 intro k a0 r h vs ha S
 unfold F58 at h
 refine evw_pureW (pf := fn58) rfl rfl ha (Nat.le_of_ble_eq_true rfl) (by simp [PV.clean, cleanL, clean_encSl clean_Api_Element]) (by simp [PV.clean, cleanL, clean_encSl clean_eS]) ?_
 refine WB.of (pf := fn58) rfl ?_
 have H := Hp.start []
 refine WC.seqR <| WO.box' rfl rfl rfl rfl rfl H ?_
 intro i1 S hi1 H
 refine us 1 rfl <| WO.nil <| WC.seqR <| us 1 rfl <| WO.nil <| WC.seq <| WC.seqR <| us 1 rfl <| wg H 0 rfl rfl rfl rfl <| wl rfl rfl rfl <| us 1 rfl <| WO.nil ?_
 obtain ⟨y60, hy60, hOy60⟩ := bindS h
 refine WC.block ?_
 have H := H.addNil 1
 refine l58_L0 ?_ hy60 .nils ((isSl_nil _)) kn (H.sub (.cons _ .slnil) (.cons_cons _ .slnil) .slnil)
 intro σ S v61 hv61 hk H; replace h := hOy60
 refine KX.of_known hk <| KX.block_x <| KX.seq_n <| WC.seqR <| w v61 rfl rfl <| w v61 rfl rfl <| WO.nil <| WC.ret ?_
 have h := oi h; subst h
 refine KB.ret (vs := [v61]) (res_tmp rfl res_nil) (fl_cons' hv61.frz rfl) ?_
 exact (by simp only [st_tup, List.map_cons, List.map_nil, tupled, hv61.strip])
def F74_L0 (k : Nat) (a483 : Sl Api_Element) (a484 : Int) : Nat → Str → Int → (Sl Str) → Option (Str × Int × (Sl Str))
 | 0, _, _, _ => none
 | n + 1, x482, x485, w481 =>
  if decide (x485 < a484) then
  Option.bind (Sl.at? a483 x485) fun y603 =>
  Option.bind (if (y603.Tag == 128) && (x485 == 0) then
  Option.bind (Sl.at? w481 0) fun y701 =>
  some (Sl.set w481 0 y603.Body, x482)
  else
  Option.bind (if y603.Tag == 130 then
  some (w481, y603.Body)
  else
  Option.bind (Sl.app? 16 w481 (Sl.l (some [y603.Body]))) fun z715 =>
  some (z715, x482)) fun y712 =>
  some (y712.1, y712.2)) fun y699 =>
  F74_L0 k a483 a484 n y699.2 (ad .i64 x485 1) y699.1
  else
  some (x482, x485, w481)
def F74 (k : Nat) (a0 : Api_Element) : Option (Sl Str) :=
 Option.bind (F74_L0 k a0.Kids (Sl.len a0.Kids) k [] 0 (some [[]])) fun y721 =>
 Option.bind (Sl.app? 16 y721.2.2 (Sl.l (some [y721.1]))) fun z724 =>
 some z724
theorem l74_L0 {k : Nat} {a483 : Sl Api_Element} {a484 : Int} {S0 : List SObj} {R : List Nat} {K : KX}  {o : (Str × Int × (Sl Str))}
  (hbrk : ∀ {σ' : Nat → PV} {S' : List SObj}, ∀ (v720 : PV) (_ : IsW o.2.2 v720), Known [(3, v720), (4, (.str o.1))] σ' → Hp S0 R S' [] [] [(v720, rowO eS 1 false o.2.2)] → K (.exit 0) σ' S' false) :
  ∀ {n : Nat} {x482 : Str} {x485 : Int} {w481 : Sl Str}, F74_L0 k a483 a484 n x482 x485 w481 = some o → ∀ {σ : Nat → PV} {S : List SObj}, ∀ (v480 : PV) (_ : IsW w481 v480), Known [(3, v480), (4, (.str x482)), (9, (encSl e_Api_Element a483)), (10, (.int .i64 a484)), (11, (.int .i64 x485))] σ → Hp S0 R S [] [] [(v480, rowO eS 1 false w481)] → WC env ⟨44, S0.length⟩ (.loop pc74L0) σ S false K := by
 intro n
 induction n with
 | zero => intro _ _ _ h; cases h
 | succ n ih =>
  intro x482 x485 w481 h σ S v480 hv480 hk H
  rw [F74_L0] at h
  refine WC.loop <| WC.of_known hk <| WC.seqR <| us 1 rfl <| WO.nil <| WC.seq ?_
  rcases iteS h with ⟨hc719, h⟩ | ⟨hc719, h⟩
  refine WC.condT rfl hc719 <| WC.skip <| KX.seq_n <| WC.seq <| WC.block <| WC.seqR <| us 1 rfl ?_
  obtain ⟨y603, hy603, h⟩ := bindS h
  refine w (.iptr (c_Api_Element y603) 0) rfl (nz rfl (stp_idxAddr rfl (isSl_enc _ _) rfl rfl rfl hy603 (e_Api_Element_cells _) rfl)) <| us 1 rfl <| WO.alloc' (ti := ty44) rfl rfl rfl rfl H ?_
  intro i604 S hi604 H
  refine us 1 rfl <| wos 0 H hi604 rfl rfl rfl rfl rfl rfl rfl rfl rfl rfl ?_
  intro S H
  replace H : Hp S0 R _ [(i604, .cells (c_Api_Element y603))] [] [(v480, rowO eS 1 false w481)] := H
  refine WO.nil <| WC.block <| WC.seqR <| us 1 rfl <| wg H 0 rfl rfl rfl rfl <| w (.bool (y603.Tag == 128)) rfl rfl <| w (.bool (y603.Tag == 128)) rfl rfl ?_
  refine WO.split 3 (SH H [(3, v480), (4, (.str x482)), (6, (.ptr i604 0)), (9, (encSl e_Api_Element a483)), (10, (.int .i64 a484)), (11, (.int .i64 x485)), (28, (.bool ((y603.Tag == 128) && (x485 == 0))))]) ?_ ?_
  revert H
  cases hc662 : (y603.Tag == 128)
  intro H
  refine us 3 rfl <| WO.nil ?_
  exact kf H
  intro H
  refine us 3 rfl <| WO.nil ?_
  exact kf H
  rintro σ S e ⟨hk, H, rfl⟩
  refine WO.of_known hk <| us 1 rfl <| WO.nil ?_
  obtain ⟨y699, hy699, hOy699⟩ := bindS h
  refine WC.join (fun σ' S' e' => ∃ v700, IsW y699.1 v700 ∧ Known ([(3, v700), (4, (.str y699.2)), (9, (encSl e_Api_Element a483)), (10, (.int .i64 a484)), (11, (.int .i64 x485))]) σ' ∧ Hp S0 R S' [(i604, .cells (c_Api_Element y603))] [] [(v700, rowO eS 1 false y699.1)] ∧ e' = false) ?_ ?_
  replace h := hy699
  rcases iteS h with ⟨hc718, h⟩ | ⟨hc718, h⟩
  refine WC.condT rfl hc718 <| WC.region <| w v480 rfl rfl <| us 1 rfl <| wg H 0 rfl rfl rfl rfl ?_
  obtain ⟨y701, hy701, h⟩ := bindS h
  obtain ⟨i702, hi702⟩ := IsW.id hv480 hy701
  refine w (.ptr i702 (Int.toNat 0 * 1 + 0)) rfl (nz rfl (stp_idxW (sz := 1) rfl hv480 rfl rfl rfl hy701 hi702)) <| WO.storeW 0 (f := eS) (u := (.str y603.Body)) (y' := y603.Body) (xc := [(.str y603.Body)]) (e' := false) rfl rfl H rfl hi702 rfl rfl hy701 rfl rfl rfl rfl (Nat.le_of_ble_eq_true rfl) (Nat.le_of_ble_eq_true rfl) rfl (clean_e rfl) ?_
  intro S H
  have hw703 := IsW.set hv480 0 y603.Body
  replace H : Hp S0 R _ [(i604, .cells (c_Api_Element y603))] [] [(v480, rowO eS 1 false (Sl.set w481 0 y603.Body))] := H
  refine WO.nil <| KX.seq_n ?_
  have h := oi h; subst h
  exact ⟨v480, hw703, kn, (hs H), rfl⟩
  refine WC.condF rfl hc718 <| WC.seqR <| us 1 rfl <| wg H 0 rfl rfl rfl rfl <| us 2 rfl <| WO.nil ?_
  obtain ⟨y712, hy712, hOy712⟩ := bindS h
  refine WC.join (fun σ' S' e' => ∃ v713, IsW y712.1 v713 ∧ Known ([(3, v713), (4, (.str y712.2)), (9, (encSl e_Api_Element a483)), (10, (.int .i64 a484)), (11, (.int .i64 x485))]) σ' ∧ Hp S0 R S' [(i604, .cells (c_Api_Element y603))] [] [(v713, rowO eS 1 false y712.1)] ∧ e' = false) ?_ ?_
  replace h := hy712
  rcases iteS h with ⟨hc717, h⟩ | ⟨hc717, h⟩
  refine WC.condT rfl hc717 <| WC.region <| us 1 rfl <| wg H 0 rfl rfl rfl rfl <| us 1 rfl <| WO.nil <| KX.seq_n ?_
  have h := oi h; subst h
  exact ⟨v480, hv480, kn, (hs H), rfl⟩
  refine WC.condF rfl hc717 <| WC.region <| w v480 rfl rfl <| us 1 rfl <| wg H 0 rfl rfl rfl rfl <| WS rfl (nz rfl (stp_buildSlice (ys := [y603.Body]) (f := eS) (parts := [(0, (.str y603.Body))]) rfl rfl rfl rfl rfl rfl (fc ⟨rfl, rfl⟩ (fun p hp => nomatch hp)) rfl)) ?_
  have hv714 : IsSl eS (some [y603.Body]) _ := ⟨.full, rfl⟩
  obtain ⟨z715, hz715, h⟩ := bindS h
  refine WO.ex rfl (bzn (fz_tmp' hv714.frz rfl) (born_app (f := eS) (ei := ty9) H 0 rfl rfl hv480 rfl hv714 rfl rfl rfl rfl (fun _ => rfl) hz715)) ?_
  rintro v716 S ⟨hv716, H⟩
  replace H : Hp S0 R _ [(i604, .cells (c_Api_Element y603))] [] [(v716, rowO eS 1 false z715)] := H
  refine w v716 rfl rfl <| WO.nil <| KX.seq_n ?_
  have h := oi h; subst h
  exact ⟨v716, hv716, kn, (hs H), rfl⟩
  rintro σ S e ⟨v713, hv713, hk, H, rfl⟩
  replace h := hOy712
  refine KX.of_known hk <| KX.seq_n ?_
  have h := oi h; subst h
  exact ⟨v713, hv713, kn, (hs H), rfl⟩
  rintro σ S e ⟨v700, hv700, hk, H, rfl⟩
  replace h := hOy699
  refine KX.of_known hk <| KX.block_n <| KX.block_n <| KX.seq_n <| WC.region <| us 2 rfl <| WO.nil <| KX.seq_n ?_
  exact ih h v700 (hv700) kn (H.sub (.cons _ .slnil) .slnil (.cons_cons _ .slnil))
  refine WC.condF rfl hc719 <| WC.exit <| KX.seq_x <| KX.seq_x ?_
  have h := oi h; subst h
  exact hbrk v480 (hv480) kn (hs H)
theorem s74 : ∀ k : Nat, ∀ {a0 : Api_Element} {r : (Sl Str)}, F74 k a0 = some r → Q 74 [(.agg (c_Api_Element a0))] (encSl eS r) := by
 intro k a0 r h vs ha S
 unfold F74 at h
 refine evw_pureW (pf := fn74) rfl rfl ha (Nat.le_of_ble_eq_true rfl) (by simp [PV.clean, cleanL, clean_encSl clean_Api_Element]) (by simp [PV.clean, cleanL, clean_encSl clean_eS]) ?_
 refine WB.of (pf := fn74) rfl ?_
 have H := Hp.start []
 refine WC.seqR <| WO.box' rfl rfl rfl rfl rfl H ?_
 intro i1 S hi1 H
 refine us 1 rfl <| WO.nil <| WC.seqR <| WO.ex rfl (bzn rfl (born_build (f := eS) (ei := ty9) (stp_buildSlice (fr := ⟨0, 0⟩) (ys := [[]]) (f := eS) (parts := [(0, (.str []))]) rfl rfl rfl rfl rfl rfl (fc ⟨rfl, rfl⟩ (fun p hp => nomatch hp)) rfl) rfl rfl H)) ?_
 rintro v2 S ⟨hv2, H⟩
 replace H : Hp [] [] _ [(i1, .cells (c_Api_Element a0))] [] [(v2, rowO eS 1 false (some [[]]))] := H
 refine w v2 rfl rfl <| WO.nil <| WC.seqR <| us 1 rfl <| WO.nil <| WC.seq <| WC.seqR <| us 1 rfl <| wg H 0 rfl rfl rfl rfl <| wl rfl rfl rfl <| us 1 rfl <| WO.nil ?_
 obtain ⟨y721, hy721, hOy721⟩ := bindS h
 refine WC.block ?_
 refine l74_L0 ?_ hy721 v2 (hv2) kn (H.sub (.cons _ .slnil) .slnil (.cons_cons _ .slnil))
 intro σ S v722 hv722 hk H; replace h := hOy721
 refine KX.of_known hk <| KX.block_x <| KX.seq_n <| WC.seqR <| w v722 rfl rfl <| us 1 rfl <| WS rfl (nz rfl (stp_buildSlice (ys := [y721.1]) (f := eS) (parts := [(0, (.str y721.1))]) rfl rfl rfl rfl rfl rfl (fc ⟨rfl, rfl⟩ (fun p hp => nomatch hp)) rfl)) ?_
 have hv723 : IsSl eS (some [y721.1]) _ := ⟨.full, rfl⟩
 obtain ⟨z724, hz724, h⟩ := bindS h
 refine WO.ex rfl (bzn (fz_tmp' hv723.frz rfl) (born_app (f := eS) (ei := ty9) H 0 rfl rfl hv722 rfl hv723 rfl rfl rfl rfl (fun _ => rfl) hz724)) ?_
 rintro v725 S ⟨hv725, H⟩
 refine w v725 rfl rfl <| WO.nil <| WC.ret ?_
 have h := oi h; subst h
 obtain ⟨S, q726, H⟩ := IsW.frz (f := eS) H 0 rfl hv725
 replace H : Hp [] [] _ [] [] [(v725, rowO eS 1 true z724)] := H
 refine KB.retZ (vs := [v725]) (res_tmp rfl res_nil) (fl_W q726 rfl) ?_
 exact (by simp only [st_tup, List.map_cons, List.map_nil, tupled, strip_enc])
def F59_L1 (rc0 : Api_Element → Int → Option Api_Filter) (k : Nat) (a622 : Int) (a623 : Sl Api_Element) (a624 : Int) (a629 : Api_Filter) : Nat → Int → Api_Filter → Option (Int × Api_Filter)
 | 0, _, _ => none
 | n + 1, x625, b626 =>
  if decide (x625 < a624) then
  Option.bind (Sl.at? a623 x625) fun y637 =>
  Option.bind (rc0 y637 (sb .i64 a622 1)) fun y639 =>
  Option.bind (Sl.app? 88 b626.Kids (Sl.l (some [y639]))) fun z641 =>
  F59_L1 rc0 k a622 a623 a624 a629 n (ad .i64 x625 1) (Api_Filter.mk b626.Kind b626.Attr b626.Value b626.Subs z641)
  else
  some (x625, b626)
def F59 : Nat → Api_Element → Int → Option Api_Filter
 | 0, _, _ => none
 | k + 1, a0, a1 =>
  if a0.Tag == 135 then
  some (Api_Filter.mk 7 a0.Body [] none none)
  else
  if ((decide (a0.Tag < 160)) || (decide (a0.Tag > 166))) || (a1 == 0) then
  some (Api_Filter.mk 0 [] [] none none)
  else
  Option.bind (Sl.at? (some [1, 2, 3, 4, 8, 5, 6, 0]) (sb .u8 a0.Tag 160)) fun y9 =>
  Option.bind (if y9 == 1 then
  some (y9 == 1)
  else
  Option.bind (if y9 == 2 then
  some (y9 == 2)
  else
  some (y9 == 3)) fun y354 =>
  some y354) fun y351 =>
  Option.bind (if y351 then
  Option.bind (F59_L1 (F59 k) k a1 a0.Kids (Sl.len a0.Kids) (Api_Filter.mk 0 [] [] none none) k 0 (Api_Filter.mk y9 [] [] none none)) fun y646 =>
  some y646.2
  else
  Option.bind (if y9 == 8 then
  Option.bind (F55 k a0 0) fun y666 =>
  Option.bind (F55 k a0 1) fun y667 =>
  Option.bind (F74 k y667) fun y668 =>
  some (Api_Filter.mk y9 y666.Body [] y668 none)
  else
  Option.bind (F55 k a0 0) fun y669 =>
  Option.bind (F55 k a0 1) fun y670 =>
  some (Api_Filter.mk y9 y669.Body y670.Body none none)) fun y663 =>
  some y663) fun y565 =>
  some y565
theorem l59_L1 {rc0 : Api_Element → Int → Option Api_Filter} (hrc0 : ∀ {a0 : Api_Element} {a1 : Int} {r : Api_Filter}, rc0 a0 a1 = some r → Q 59 [(.agg (c_Api_Element a0)), (.int .i64 a1)] (.agg (c_Api_Filter r))) {k : Nat} {a622 : Int} {a623 : Sl Api_Element} {a624 : Int} {a629 : Api_Filter} {S0 : List SObj} {R : List Nat} {K : KX} {i3 : Nat} {i2 : Nat} (hi3 : S0.length ≤ i3) (hi2 : S0.length ≤ i2)  {o : (Int × Api_Filter)}
  (hbrk : ∀ {σ' : Nat → PV} {S' : List SObj}, ∀ (v644 : PV) (_ : IsSl eS o.2.Subs v644), ∀ (v645 : PV) (_ : IsSl e_Api_Filter o.2.Kids v645), Known [(4, (.ptr i2 0)), (5, (.ptr i3 0))] σ' → Hp S0 R S' [(i3, .cells [(.int .i64 o.2.Kind), (.str o.2.Attr), (.str o.2.Value), v644, v645]), (i2, .cells [(.int .i64 a629.Kind), (.str a629.Attr), (.str a629.Value), .nils, .nils])] [(v645, 5)] [] → K (.exit 1) σ' S' false) :
  ∀ {n : Nat} {x625 : Int} {b626 : Api_Filter}, F59_L1 rc0 k a622 a623 a624 a629 n x625 b626 = some o → ∀ {σ : Nat → PV} {S : List SObj}, ∀ (v627 : PV) (_ : IsSl eS b626.Subs v627), ∀ (v628 : PV) (_ : IsSl e_Api_Filter b626.Kids v628), Known [(1, (.int .i64 a622)), (4, (.ptr i2 0)), (5, (.ptr i3 0)), (51, (encSl e_Api_Element a623)), (52, (.int .i64 a624)), (53, (.int .i64 x625))] σ → Hp S0 R S [(i3, .cells [(.int .i64 b626.Kind), (.str b626.Attr), (.str b626.Value), v627, v628]), (i2, .cells [(.int .i64 a629.Kind), (.str a629.Attr), (.str a629.Value), .nils, .nils])] [(v628, 5)] [] → WC env ⟨78, S0.length⟩ (.loop pc59L1) σ S false K := by
 intro n
 induction n with
 | zero => intro _ _ h; cases h
 | succ n ih =>
  intro x625 b626 h σ S v627 hv627 v628 hv628 hk H
  rw [F59_L1] at h
  refine WC.loop <| WC.of_known hk <| WC.seqR <| us 1 rfl <| WO.nil <| WC.seq ?_
  rcases iteS h with ⟨hc643, h⟩ | ⟨hc643, h⟩
  refine WC.condT rfl hc643 <| WC.skip <| KX.seq_n <| WC.seq <| WC.block <| WC.seqR ?_
  obtain ⟨y637, hy637, h⟩ := bindS h
  refine w (.iptr (c_Api_Element y637) 0) rfl (nz rfl (stp_idxAddr rfl (isSl_enc _ _) rfl rfl rfl hy637 (e_Api_Element_cells _) rfl)) <| us 1 rfl <| WO.alloc' (ti := ty44) rfl rfl rfl rfl H ?_
  intro i638 S hi638 H
  refine wos 0 H hi638 rfl rfl rfl rfl rfl rfl rfl rfl rfl rfl ?_
  intro S H
  refine WO.nil <| WC.draw <| wh (.ptr i3 4) rfl rfl <| WH.step (v := v628) rfl (nz rfl (stp_load rfl (H.get 1 rfl) rfl)) rfl rfl <| WH.step (v := (.agg (c_Api_Element y637))) rfl (nz rfl (stp_load rfl (H.get 0 rfl) rfl)) rfl rfl <| wh (.int .i64 a622) rfl rfl <| wh (.int .i64 (sb .i64 a622 1)) rfl rfl ?_
  obtain ⟨y639, hy639, h⟩ := bindS h
  refine WH.step (v := (.agg (c_Api_Filter y639))) rfl (nz rfl (stp_call (vs := [(.agg (c_Api_Element y637)), (.int .i64 (sb .i64 a622 1))]) rfl rfl (hrc0 hy639 (by simp only [st_agg, List.map_cons, List.map_nil, st1_int, st1_str, strip1_enc, e_Api_Element_eq, st_int, tupled]) _))) rfl rfl <| WH.step rfl (nz rfl (stp_buildSlice (ys := [y639]) (f := e_Api_Filter) (parts := [(0, (.agg (c_Api_Filter y639)))]) rfl rfl rfl rfl rfl (by simp only [st_agg, List.map_cons, List.map_nil, st1_int, st1_str, strip1_enc, e_Api_Filter_eq, tupled]) (fc ⟨rfl, rfl⟩ (fun p hp => nomatch hp)) rfl)) rfl rfl ?_
  have hv640 : IsSl e_Api_Filter (some [y639]) _ := ⟨.full, rfl⟩
  refine WH.nil ?_
  obtain ⟨z641, hz641, h⟩ := bindS h
  refine WO.ex rfl (nzx (fz_tmp' hv640.frz rfl) (stp_app (f := e_Api_Filter) (ei := ty28) H 0 rfl rfl hv628 rfl hv640 rfl rfl rfl rfl (fun a => (e_Api_Filter_one a).2.1) hz641)) ?_
  rintro v642 S ⟨hv642, H⟩
  refine us 1 rfl <| WO.store 1 rfl (fz_tmp' hv642.frz rfl) H rfl rfl rfl rfl hv642.one.1 hv642.one.2 rfl (Nat.le_of_ble_eq_true rfl) rfl (own_e hi3) ?_
  intro S H
  replace H : Hp S0 R _ [(i638, .cells (c_Api_Element y637)), (i3, .cells [(.int .i64 b626.Kind), (.str b626.Attr), (.str b626.Value), v627, v642]), (i2, .cells [(.int .i64 a629.Kind), (.str a629.Attr), (.str a629.Value), .nils, .nils])] [(v642, 5)] [] := H
  refine WO.nil <| KX.block_n <| KX.seq_n <| WC.region <| us 2 rfl <| WO.nil <| KX.seq_n ?_
  exact ih h v627 (hv627) v642 (hv642) kn (H.sub (.cons _ (.cons_cons _ (.cons_cons _ .slnil))) (.cons_cons _ .slnil) .slnil)
  refine WC.condF rfl hc643 <| WC.exit <| KX.seq_x <| KX.seq_x ?_
  have h := oi h; subst h
  exact hbrk v627 (hv627) v628 (hv628) kn (hs H)
theorem s59 : ∀ k : Nat, ∀ {a0 : Api_Element} {a1 : Int} {r : Api_Filter}, F59 k a0 a1 = some r → Q 59 [(.agg (c_Api_Element a0)), (.int .i64 a1)] (.agg (c_Api_Filter r)) := by
 intro k
 induction k with
 | zero => intro _ _ r h; cases h
 | succ k ih =>
  intro a0 a1 r h vs ha S
  rw [F59] at h
  refine evw_pureW (pf := fn59) rfl rfl ha (Nat.le_of_ble_eq_true rfl) (by simp [PV.clean, cleanL, clean_encSl clean_Api_Element]) (by simp [PV.clean, cleanL, clean_encSl clean_Api_Filter, clean_encSl clean_eS]) ?_
  refine WB.of (pf := fn59) rfl ?_
  have H := Hp.start []
  refine WC.seqR <| WO.box' rfl rfl rfl rfl rfl H ?_
  intro i1 S hi1 H
  refine WO.alloc' (ti := ty28) rfl rfl rfl rfl H ?_
  intro i2 S hi2 H
  refine WO.nil <| WC.seqR <| w (.agg [(.int .i64 0), (.str []), (.str []), .nils, .nils]) rfl (nz rfl (stp_build (ti := ty28) rfl rfl rfl rfl rfl rfl)) <| WO.alloc' (ti := ty28) rfl rfl rfl rfl H ?_
  intro i3 S hi3 H
  refine wos 0 H hi3 rfl rfl rfl rfl rfl rfl rfl rfl rfl rfl ?_
  intro S H
  refine WO.nil <| WC.seqR <| w (.agg z25_) rfl (nz rfl (stp_buildArr (ti := ty141) (ei := ty3) rfl rfl rfl rfl rfl (fill_cons (cells' := [(.int .i64 1), (.int .i64 0), (.int .i64 0), (.int .i64 0), (.int .i64 0), (.int .i64 0), (.int .i64 0), (.int .i64 0)]) rfl rfl rfl rfl (Nat.le_of_ble_eq_true rfl) rfl (fill_cons (cells' := [(.int .i64 1), (.int .i64 2), (.int .i64 0), (.int .i64 0), (.int .i64 0), (.int .i64 0), (.int .i64 0), (.int .i64 0)]) rfl rfl rfl rfl (Nat.le_of_ble_eq_true rfl) rfl (fill_cons (cells' := [(.int .i64 1), (.int .i64 2), (.int .i64 3), (.int .i64 0), (.int .i64 0), (.int .i64 0), (.int .i64 0), (.int .i64 0)]) rfl rfl rfl rfl (Nat.le_of_ble_eq_true rfl) rfl (fill_cons (cells' := [(.int .i64 1), (.int .i64 2), (.int .i64 3), (.int .i64 4), (.int .i64 0), (.int .i64 0), (.int .i64 0), (.int .i64 0)]) rfl rfl rfl rfl (Nat.le_of_ble_eq_true rfl) rfl (fill_cons (cells' := [(.int .i64 1), (.int .i64 2), (.int .i64 3), (.int .i64 4), (.int .i64 8), (.int .i64 0), (.int .i64 0), (.int .i64 0)]) rfl rfl rfl rfl (Nat.le_of_ble_eq_true rfl) rfl (fill_cons (cells' := [(.int .i64 1), (.int .i64 2), (.int .i64 3), (.int .i64 4), (.int .i64 8), (.int .i64 5), (.int .i64 0), (.int .i64 0)]) rfl rfl rfl rfl (Nat.le_of_ble_eq_true rfl) rfl (fill_cons (cells' := z25_) rfl rfl rfl rfl (Nat.le_of_ble_eq_true rfl) rfl (fill_cons (cells' := z25_) rfl rfl rfl rfl (Nat.le_of_ble_eq_true rfl) rfl rfl)))))))))) <| WO.alloc' (ti := ty141) rfl rfl rfl rfl H ?_
  intro i4 S hi4 H
  refine wos 0 H hi4 rfl rfl rfl rfl rfl rfl rfl rfl rfl rfl ?_
  intro S H
  replace H : Hp [] [] _ [(i4, .cells z25_), (i3, .cells [(.int .i64 0), (.str []), (.str []), .nils, .nils]), (i2, .cells [(.int .i64 0), (.str []), (.str []), .nils, .nils]), (i1, .cells (c_Api_Element a0))] [] [] := H
  refine WO.nil <| WC.seq <| WC.seqR <| us 1 rfl <| wg H 3 rfl rfl rfl rfl <| us 1 rfl <| WO.nil ?_
  rcases iteS h with ⟨hc675, h⟩ | ⟨hc675, h⟩
  refine WC.condT rfl hc675 <| WC.seqR <| us 1 rfl <| wg H 3 rfl rfl rfl rfl <| w (.agg [(.int .i64 7), (.str a0.Body), (.str []), .nils, .nils]) rfl (nz rfl (stp_build (ti := ty28) rfl rfl rfl rfl rfl (fill_cons rfl rfl rfl rfl (Nat.le_of_ble_eq_true rfl) rfl (fill_cons rfl rfl rfl rfl (Nat.le_of_ble_eq_true rfl) rfl rfl)))) <| wos 2 H hi2 rfl rfl rfl rfl rfl rfl rfl rfl rfl rfl ?_
  intro S H
  replace H : Hp [] [] _ [(i4, .cells z25_), (i3, .cells [(.int .i64 0), (.str []), (.str []), .nils, .nils]), (i2, .cells [(.int .i64 7), (.str a0.Body), (.str []), .nils, .nils]), (i1, .cells (c_Api_Element a0))] [] [] := H
  refine WO.nil <| WC.ret <| KX.seq_r ?_
  have h := oi h; subst h
  refine KB.ret (vs := [(.agg [(.int .i64 7), (.str a0.Body), (.str []), .nils, .nils])]) (res_cell rfl (H.get 2 rfl) rfl res_nil) (fl_cons' rfl rfl) ?_
  exact (by simp only [st_tup, List.map_cons, List.map_nil, tupled, st_agg, st1_int, st1_str, st1_nils, encSl_none, e_Api_Filter_eq, c_Api_Filter])
  refine WC.condF rfl hc675 <| WC.skip <| KX.seq_n <| WC.seq <| WC.seqR <| us 1 rfl <| wg H 3 rfl rfl rfl rfl <| w (.bool (decide (a0.Tag < 160))) rfl rfl <| w (.bool (decide (a0.Tag < 160))) rfl rfl ?_
  refine WO.split 4 (SH H [(1, (.int .i64 a1)), (2, (.ptr i1 0)), (4, (.ptr i2 0)), (5, (.ptr i3 0)), (6, (.ptr i4 0)), (24, (.bool ((decide (a0.Tag < 160)) || (decide (a0.Tag > 166)))))]) ?_ ?_
  revert H
  cases hc6 : (decide (a0.Tag < 160))
  intro H
  refine us 1 rfl <| WO.go0 rfl rfl <| wg H 3 rfl rfl rfl rfl <| us 2 rfl <| WO.nil ?_
  exact kf H
  intro H
  refine us 4 rfl <| WO.nil ?_
  exact kf H
  rintro σ S e ⟨hk, H, rfl⟩
  refine WO.of_known hk <| w (.bool ((decide (a0.Tag < 160)) || (decide (a0.Tag > 166)))) rfl rfl ?_
  refine WO.split 3 (SH H [(1, (.int .i64 a1)), (2, (.ptr i1 0)), (4, (.ptr i2 0)), (5, (.ptr i3 0)), (6, (.ptr i4 0)), (28, (.bool (((decide (a0.Tag < 160)) || (decide (a0.Tag > 166))) || (a1 == 0))))]) ?_ ?_
  revert H
  cases hc7 : ((decide (a0.Tag < 160)) || (decide (a0.Tag > 166)))
  intro H
  refine us 3 rfl <| WO.nil ?_
  exact kf H
  intro H
  refine us 3 rfl <| WO.nil ?_
  exact kf H
  rintro σ S e ⟨hk, H, rfl⟩
  refine WO.of_known hk <| WO.nil ?_
  rcases iteS h with ⟨hc674, h⟩ | ⟨hc674, h⟩
  refine WC.condT rfl hc674 <| WC.seqR <| wg H 1 rfl rfl rfl rfl <| wos 2 H hi2 rfl rfl rfl rfl rfl rfl rfl rfl rfl rfl ?_
  intro S H
  replace H : Hp [] [] _ [(i4, .cells z25_), (i3, .cells [(.int .i64 0), (.str []), (.str []), .nils, .nils]), (i2, .cells [(.int .i64 0), (.str []), (.str []), .nils, .nils]), (i1, .cells (c_Api_Element a0))] [] [] := H
  refine WO.nil <| WC.ret <| KX.seq_r ?_
  have h := oi h; subst h
  refine KB.ret (vs := [(.agg [(.int .i64 0), (.str []), (.str []), .nils, .nils])]) (res_cell rfl (H.get 2 rfl) rfl res_nil) (fl_cons' rfl rfl) ?_
  exact (by simp only [st_tup, List.map_cons, List.map_nil, tupled, st_agg, st1_int, st1_str, st1_nils, encSl_none, e_Api_Filter_eq, c_Api_Filter])
  refine WC.condF rfl hc674 <| WC.skip <| KX.seq_n <| WC.seq <| WC.seqR <| us 1 rfl <| wg H 3 rfl rfl rfl rfl <| us 1 rfl ?_
  obtain ⟨y9, hy9, h⟩ := bindS h
  refine w (.ptr i4 (0 + Int.toNat (sb .u8 a0.Tag 160) * 1)) rfl (nz rfl (stp_idxPtr (xs := [1, 2, 3, 4, 8, 5, 6, 0]) rfl rfl rfl rfl rfl hy9)) <| w (.int .i64 y9) rfl (nz rfl (stp_loadA (f := (eI .i64)) (xs := [1, 2, 3, 4, 8, 5, 6, 0]) rfl (H.get 0 rfl) rfl rfl hy9)) <| us 1 rfl <| wos 1 H hi3 rfl rfl rfl rfl rfl rfl rfl rfl rfl rfl ?_
  intro S H
  replace H : Hp [] [] _ [(i4, .cells z25_), (i3, .cells [(.int .i64 y9), (.str []), (.str []), .nils, .nils]), (i2, .cells [(.int .i64 0), (.str []), (.str []), .nils, .nils]), (i1, .cells (c_Api_Element a0))] [] [] := H
  refine WO.nil <| WC.seqR <| us 1 rfl <| wg H 1 rfl rfl rfl rfl <| WO.nil <| WC.block <| WC.seq <| WC.seqR <| us 2 rfl <| WO.nil ?_
  obtain ⟨y351, hy351, hOy351⟩ := bindS h
  refine WC.join (SJ [(1, (.int .i64 a1)), (2, (.ptr i1 0)), (4, (.ptr i2 0)), (5, (.ptr i3 0)), (37, (.int .i64 y9)), (46, (.bool y351))] [] [] [(i4, .cells z25_), (i3, .cells [(.int .i64 y9), (.str []), (.str []), .nils, .nils]), (i2, .cells [(.int .i64 0), (.str []), (.str []), .nils, .nils]), (i1, .cells (c_Api_Element a0))] [] [] false) ?_ ?_
  replace h := hy351
  rcases iteS h with ⟨hc356, h⟩ | ⟨hc356, h⟩
  refine WC.condT rfl hc356 <| WC.skip <| KX.seq_n ?_
  have h := oi h; subst h
  exact kh H
  refine WC.condF rfl hc356 <| WC.seqR <| us 2 rfl <| WO.nil ?_
  obtain ⟨y354, hy354, hOy354⟩ := bindS h
  refine WC.join (SJ [(1, (.int .i64 a1)), (2, (.ptr i1 0)), (4, (.ptr i2 0)), (5, (.ptr i3 0)), (37, (.int .i64 y9)), (46, (.bool y354))] [] [] [(i4, .cells z25_), (i3, .cells [(.int .i64 y9), (.str []), (.str []), .nils, .nils]), (i2, .cells [(.int .i64 0), (.str []), (.str []), .nils, .nils]), (i1, .cells (c_Api_Element a0))] [] [] false) ?_ ?_
  replace h := hy354
  rcases iteS h with ⟨hc355, h⟩ | ⟨hc355, h⟩
  refine WC.condT rfl hc355 <| WC.skip <| KX.seq_n ?_
  have h := oi h; subst h
  exact kh H
  refine WC.condF rfl hc355 <| WC.region <| us 2 rfl <| WO.nil <| KX.seq_n ?_
  have h := oi h; subst h
  exact kh H
  rintro σ S e ⟨hk, H, rfl⟩
  replace h := hOy354
  refine KX.of_known hk <| KX.seq_n ?_
  have h := oi h; subst h
  exact kh H
  rintro σ S e ⟨hk, H, rfl⟩
  replace h := hOy351
  refine KX.of_known hk <| KX.seq_n ?_
  obtain ⟨y565, hy565, hOy565⟩ := bindS h
  refine WC.join (fun σ' S' e' => ∃ v566, ∃ v567, IsSl eS y565.Subs v566 ∧ IsSl e_Api_Filter y565.Kids v567 ∧ Known ([(4, (.ptr i2 0)), (5, (.ptr i3 0))]) σ' ∧ Hp [] [] S' [(i3, .cells [(.int .i64 y565.Kind), (.str y565.Attr), (.str y565.Value), v566, v567]), (i2, .cells [(.int .i64 0), (.str []), (.str []), .nils, .nils])] [] [] ∧ e' = false) ?_ ?_
  replace h := hy565
  rcases iteS h with ⟨hc673, h⟩ | ⟨hc673, h⟩
  refine WC.condT rfl hc673 <| WC.seqR <| us 1 rfl <| wg H 3 rfl rfl rfl rfl <| wl rfl rfl rfl <| us 1 rfl <| WO.nil ?_
  obtain ⟨y646, hy646, hOy646⟩ := bindS h
  refine WC.block ?_
  have H := H.addNil 5
  refine l59_L1 ih hi3 hi2 ?_ hy646 .nils ((isSl_nil _)) .nils ((isSl_nil _)) kn (H.sub (.cons _ (.cons_cons _ (.cons_cons _ (.cons _ .slnil)))) (.cons_cons _ .slnil) .slnil)
  intro σ S v647 hv647 v648 hv648 hk H; replace h := hOy646
  refine KX.of_known hk <| KX.block_x <| KX.seq_n ?_
  have h := oi h; subst h
  exact ⟨v647, v648, hv647, hv648, kn, (H.sub (.cons_cons _ (.cons_cons _ .slnil)) (.cons _ .slnil) .slnil), rfl⟩
  refine WC.condF rfl hc673 <| WC.seqR <| us 2 rfl <| WO.nil ?_
  obtain ⟨y663, hy663, hOy663⟩ := bindS h
  refine WC.join (fun σ' S' e' => ∃ v664, ∃ v665, IsSl eS y663.Subs v664 ∧ IsSl e_Api_Filter y663.Kids v665 ∧ Known ([(4, (.ptr i2 0)), (5, (.ptr i3 0))]) σ' ∧ Hp [] [] S' [(i4, .cells z25_), (i3, .cells [(.int .i64 y663.Kind), (.str y663.Attr), (.str y663.Value), v664, v665]), (i2, .cells [(.int .i64 0), (.str []), (.str []), .nils, .nils]), (i1, .cells (c_Api_Element a0))] [] [] ∧ e' = false) ?_ ?_
  replace h := hy663
  rcases iteS h with ⟨hc672, h⟩ | ⟨hc672, h⟩
  refine WC.condT rfl hc672 <| WC.draw <| WH.step (v := (.agg (c_Api_Element a0))) rfl (nz rfl (stp_load rfl (H.get 3 rfl) rfl)) rfl rfl ?_
  obtain ⟨y666, hy666, h⟩ := bindS h
  refine WH.step (v := (.agg (c_Api_Element y666))) rfl (nz rfl (stp_call (vs := [(.agg (c_Api_Element a0)), (.int .i64 0)]) rfl rfl (s55 _ hy666 (by simp only [st_agg, List.map_cons, List.map_nil, st1_int, st1_str, strip1_enc, e_Api_Element_eq, st_int, tupled]) _))) rfl rfl <| wh (.str y666.Body) rfl rfl <| WH.step (v := (.agg (c_Api_Element a0))) rfl (nz rfl (stp_load rfl (H.get 3 rfl) rfl)) rfl rfl ?_
  obtain ⟨y667, hy667, h⟩ := bindS h
  refine WH.step (v := (.agg (c_Api_Element y667))) rfl (nz rfl (stp_call (vs := [(.agg (c_Api_Element a0)), (.int .i64 1)]) rfl rfl (s55 _ hy667 (by simp only [st_agg, List.map_cons, List.map_nil, st1_int, st1_str, strip1_enc, e_Api_Element_eq, st_int, tupled]) _))) rfl rfl ?_
  obtain ⟨y668, hy668, h⟩ := bindS h
  refine WH.step (v := (encSl eS y668)) rfl (nz rfl (stp_call (vs := [(.agg (c_Api_Element y667))]) rfl rfl (s74 _ hy668 (by simp only [st_agg, List.map_cons, List.map_nil, st1_int, st1_str, strip1_enc, e_Api_Element_eq, tupled]) _))) rfl rfl <| wh (.ptr i3 1) rfl rfl <| WH.nil <| wos 1 H hi3 rfl rfl rfl rfl rfl rfl rfl rfl rfl rfl ?_
  intro S H
  refine us 1 rfl <| WO.store 1 rfl (fe rfl rfl) H rfl rfl rfl rfl (isSl_enc _ _).one.1 (isSl_enc _ _).one.2 rfl (Nat.le_of_ble_eq_true rfl) rfl (own_e hi3) ?_
  intro S H
  replace H : Hp [] [] _ [(i4, .cells z25_), (i3, .cells [(.int .i64 y9), (.str y666.Body), (.str []), (encSl eS y668), .nils]), (i2, .cells [(.int .i64 0), (.str []), (.str []), .nils, .nils]), (i1, .cells (c_Api_Element a0))] [] [] := H
  refine WO.nil <| KX.seq_n ?_
  have h := oi h; subst h
  exact ⟨(encSl eS y668), .nils, (isSl_enc _ _), (isSl_nil _), kn, (hs H), rfl⟩
  refine WC.condF rfl hc672 <| WC.drawC <| wkl H 3 rfl rfl rfl rfl ?_
  obtain ⟨y669, hy669, h⟩ := bindS h
  refine WK.callP (v := (.agg (c_Api_Element y669))) rfl (nz rfl (stp_call (vs := [(.agg (c_Api_Element a0)), (.int .i64 0)]) rfl rfl (s55 _ hy669 (by simp only [st_agg, List.map_cons, List.map_nil, st1_int, st1_str, strip1_enc, e_Api_Element_eq, st_int, tupled]) _))) rfl <| wk (.str y669.Body) rfl rfl rfl rfl <| wkl H 3 rfl rfl rfl rfl ?_
  obtain ⟨y670, hy670, h⟩ := bindS h
  refine WK.callP (v := (.agg (c_Api_Element y670))) rfl (nz rfl (stp_call (vs := [(.agg (c_Api_Element a0)), (.int .i64 1)]) rfl rfl (s55 _ hy670 (by simp only [st_agg, List.map_cons, List.map_nil, st1_int, st1_str, strip1_enc, e_Api_Element_eq, st_int, tupled]) _))) rfl <| wk (.str y670.Body) rfl rfl rfl rfl <| wk (.ptr i3 1) rfl rfl rfl rfl ?_
  have Hh671 := H
  refine wks 1 H hi3 rfl rfl rfl rfl rfl rfl rfl rfl rfl rfl ?_
  intro S H
  refine ⟨(pend_cons (ld (H.get 3 rfl) rfl) (pend_cons (ld (H.get 3 rfl) rfl) pend_nil)), ?_⟩
  refine WK.nil <| us 1 rfl <| wos 1 H hi3 rfl rfl rfl rfl rfl rfl rfl rfl rfl rfl ?_
  intro S H
  replace H : Hp [] [] _ [(i4, .cells z25_), (i3, .cells [(.int .i64 y9), (.str y669.Body), (.str y670.Body), .nils, .nils]), (i2, .cells [(.int .i64 0), (.str []), (.str []), .nils, .nils]), (i1, .cells (c_Api_Element a0))] [] [] := H
  refine WO.nil <| KX.seq_n ?_
  have h := oi h; subst h
  exact ⟨.nils, .nils, (isSl_nil _), (isSl_nil _), kn, (hs H), rfl⟩
  rintro σ S e ⟨v664, v665, hv664, hv665, hk, H, rfl⟩
  replace h := hOy663
  refine KX.of_known hk <| KX.seq_n ?_
  have h := oi h; subst h
  exact ⟨v664, v665, hv664, hv665, kn, (H.sub (.cons _ (.cons_cons _ (.cons_cons _ (.cons _ .slnil)))) .slnil .slnil), rfl⟩
  rintro σ S e ⟨v566, v567, hv566, hv567, hk, H, rfl⟩
  replace h := hOy565
  refine KX.of_known hk <| KX.block_n <| KX.seq_n <| WC.seqR <| wg H 0 rfl rfl rfl rfl <| wos 1 H hi2 rfl rfl rfl rfl rfl rfl rfl rfl rfl rfl ?_
  intro S H
  replace H : Hp [] [] _ [(i3, .cells [(.int .i64 y565.Kind), (.str y565.Attr), (.str y565.Value), v566, v567]), (i2, .cells [(.int .i64 y565.Kind), (.str y565.Attr), (.str y565.Value), v566, v567])] [] [] := H
  refine WO.nil <| WC.ret ?_
  have h := oi h; subst h
  refine KB.ret (vs := [(.agg [(.int .i64 y565.Kind), (.str y565.Attr), (.str y565.Value), v566, v567])]) (res_cell rfl (H.get 1 rfl) rfl res_nil) (fl_cons' rfl rfl) ?_
  exact (by simp only [st_tup, List.map_cons, List.map_nil, tupled, st_agg, st1_int, st1_str, hv566.strip1, hv567.strip1, e_Api_Filter_eq, c_Api_Filter])
def F60_L0 (k : Nat) (a135 : Bool) (a138 : Sl Api_Element) (a139 : Int) : Nat → (Sl Api_Mod) → Int → Option ((Sl Api_Mod) × Int)
 | 0, _, _ => none
 | n + 1, x136, x140 =>
  if decide (x140 < a139) then
  Option.bind (Sl.at? a138 x140) fun y165 =>
  Option.bind (if a135 then
  Option.bind (F55 k y165 0) fun y178 =>
  Option.bind (F56 k y178) fun y179 =>
  Option.bind (F55 k y165 1) fun y180 =>
  some ((Api_Mod.mk (ad .i64 y179 1) [] none), y180)
  else
  some ((Api_Mod.mk 1 [] none), y165)) fun y176 =>
  Option.bind (F55 k y176.2 0) fun y182 =>
  Option.bind (F55 k y176.2 1) fun y183 =>
  Option.bind (F58 k y183) fun y184 =>
  Option.bind (Sl.app? 48 x136 (Sl.l (some [(Api_Mod.mk y176.1.Kind y182.Body y184)]))) fun z186 =>
  F60_L0 k a135 a138 a139 n z186 (ad .i64 x140 1)
  else
  some (x136, x140)
def F60 (k : Nat) (a0 : Api_Element) (a1 : Bool) : Option (Sl Api_Mod) :=
 Option.bind (F60_L0 k a1 a0.Kids (Sl.len a0.Kids) k none 0) fun y190 =>
 some y190.1
theorem l60_L0 {k : Nat} {a135 : Bool} {a138 : Sl Api_Element} {a139 : Int} {S0 : List SObj} {R : List Nat} {K : KX}  {o : ((Sl Api_Mod) × Int)}
  (hbrk : ∀ {σ' : Nat → PV} {S' : List SObj}, ∀ (v189 : PV) (_ : IsSl e_Api_Mod o.1 v189), Known [(5, v189)] σ' → Hp S0 R S' [] [(v189, 3)] [] → K (.exit 0) σ' S' false) :
  ∀ {n : Nat} {x136 : Sl Api_Mod} {x140 : Int}, F60_L0 k a135 a138 a139 n x136 x140 = some o → ∀ {σ : Nat → PV} {S : List SObj}, ∀ (v137 : PV) (_ : IsSl e_Api_Mod x136 v137), Known [(1, (.bool a135)), (5, v137), (10, (encSl e_Api_Element a138)), (11, (.int .i64 a139)), (12, (.int .i64 x140))] σ → Hp S0 R S [] [(v137, 3)] [] → WC env ⟨39, S0.length⟩ (.loop pc60L0) σ S false K := by
 intro n
 induction n with
 | zero => intro _ _ h; cases h
 | succ n ih =>
  intro x136 x140 h σ S v137 hv137 hk H
  rw [F60_L0] at h
  refine WC.loop <| WC.of_known hk <| WC.seqR <| us 1 rfl <| WO.nil <| WC.seq ?_
  rcases iteS h with ⟨hc188, h⟩ | ⟨hc188, h⟩
  refine WC.condT rfl hc188 <| WC.skip <| KX.seq_n <| WC.seq <| WC.block <| WC.seqR ?_
  obtain ⟨y165, hy165, h⟩ := bindS h
  refine w (.iptr (c_Api_Element y165) 0) rfl (nz rfl (stp_idxAddr rfl (isSl_enc _ _) rfl rfl rfl hy165 (e_Api_Element_cells _) rfl)) <| us 1 rfl <| WO.alloc' (ti := ty44) rfl rfl rfl rfl H ?_
  intro i166 S hi166 H
  refine wos 0 H hi166 rfl rfl rfl rfl rfl rfl rfl rfl rfl rfl ?_
  intro S H
  refine WO.nil <| WC.seqR <| w (.agg [(.int .i64 1), (.str []), .nils]) rfl (nz rfl (stp_build (ti := ty66) rfl rfl rfl rfl rfl (fill_cons rfl rfl rfl rfl (Nat.le_of_ble_eq_true rfl) rfl rfl))) <| WO.alloc' (ti := ty66) rfl rfl rfl rfl H ?_
  intro i167 S hi167 H
  refine wos 0 H hi167 rfl rfl rfl rfl rfl rfl rfl rfl rfl rfl ?_
  intro S H
  replace H : Hp S0 R _ [(i167, .cells [(.int .i64 1), (.str []), .nils]), (i166, .cells (c_Api_Element y165))] [(v137, 3)] [] := H
  refine WO.nil <| WC.seq <| WC.seqR <| us 1 rfl <| WO.nil ?_
  obtain ⟨y176, hy176, hOy176⟩ := bindS h
  refine WC.join (fun σ' S' e' => ∃ v177, IsSl eS y176.1.Values v177 ∧ Known ([(1, (.bool a135)), (5, v137), (7, (.ptr i166 0)), (8, (.ptr i167 0)), (10, (encSl e_Api_Element a138)), (11, (.int .i64 a139)), (12, (.int .i64 x140))]) σ' ∧ Hp S0 R S' [(i167, .cells [(.int .i64 y176.1.Kind), (.str y176.1.Attr), v177]), (i166, .cells (c_Api_Element y176.2))] [(v137, 3)] [] ∧ e' = false) ?_ ?_
  replace h := hy176
  rcases iteS h with ⟨hc181, h⟩ | ⟨hc181, h⟩
  refine WC.condT rfl hc181 <| WC.seqR <| wg H 1 rfl rfl rfl rfl ?_
  obtain ⟨y178, hy178, h⟩ := bindS h
  refine cl (.agg (c_Api_Element y178)) [(.agg (c_Api_Element y165)), (.int .i64 0)] rfl rfl rfl rfl (sv (s55 _ hy178)) ?_
  obtain ⟨y179, hy179, h⟩ := bindS h
  refine cl (.int .i64 y179) [(.agg (c_Api_Element y178))] rfl rfl rfl rfl (sv (s56 _ hy179)) <| us 2 rfl <| wos 0 H hi167 rfl rfl rfl rfl rfl rfl rfl rfl rfl rfl ?_
  intro S H
  refine WO.nil <| WC.region <| wg H 1 rfl rfl rfl rfl ?_
  obtain ⟨y180, hy180, h⟩ := bindS h
  refine cl (.agg (c_Api_Element y180)) [(.agg (c_Api_Element y165)), (.int .i64 1)] rfl rfl rfl rfl (sv (s55 _ hy180)) <| wos 1 H hi166 rfl rfl rfl rfl rfl rfl rfl rfl rfl rfl ?_
  intro S H
  replace H : Hp S0 R _ [(i167, .cells [(.int .i64 (ad .i64 y179 1)), (.str []), .nils]), (i166, .cells (c_Api_Element y180))] [(v137, 3)] [] := H
  refine WO.nil <| KX.seq_n ?_
  have h := oi h; subst h
  exact ⟨.nils, (isSl_nil _), kn, (hs H), rfl⟩
  refine WC.condF rfl hc181 <| WC.skip <| KX.seq_n ?_
  have h := oi h; subst h
  exact ⟨.nils, (isSl_nil _), kn, (hs H), rfl⟩
  rintro σ S e ⟨v177, hv177, hk, H, rfl⟩
  replace h := hOy176
  refine KX.of_known hk <| KX.seq_n <| WC.seq <| WC.draw <| WH.step (v := (.agg (c_Api_Element y176.2))) rfl (nz rfl (stp_load rfl (H.get 1 rfl) rfl)) rfl rfl ?_
  obtain ⟨y182, hy182, h⟩ := bindS h
  refine WH.step (v := (.agg (c_Api_Element y182))) rfl (nz rfl (stp_call (vs := [(.agg (c_Api_Element y176.2)), (.int .i64 0)]) rfl rfl (s55 _ hy182 (by simp only [st_agg, List.map_cons, List.map_nil, st1_int, st1_str, strip1_enc, e_Api_Element_eq, st_int, tupled]) _))) rfl rfl <| wh (.str y182.Body) rfl rfl <| WH.step (v := (.agg (c_Api_Element y176.2))) rfl (nz rfl (stp_load rfl (H.get 1 rfl) rfl)) rfl rfl ?_
  obtain ⟨y183, hy183, h⟩ := bindS h
  refine WH.step (v := (.agg (c_Api_Element y183))) rfl (nz rfl (stp_call (vs := [(.agg (c_Api_Element y176.2)), (.int .i64 1)]) rfl rfl (s55 _ hy183 (by simp only [st_agg, List.map_cons, List.map_nil, st1_int, st1_str, strip1_enc, e_Api_Element_eq, st_int, tupled]) _))) rfl rfl ?_
  obtain ⟨y184, hy184, h⟩ := bindS h
  refine WH.step (v := (encSl eS y184)) rfl (nz rfl (stp_call (vs := [(.agg (c_Api_Element y183))]) rfl rfl (s58 _ hy184 (by simp only [st_agg, List.map_cons, List.map_nil, st1_int, st1_str, strip1_enc, e_Api_Element_eq, tupled]) _))) rfl rfl <| wh (.ptr i167 1) rfl rfl <| WH.nil <| wos 0 H hi167 rfl rfl rfl rfl rfl rfl rfl rfl rfl rfl ?_
  intro S H
  refine us 1 rfl <| WO.store 0 rfl (fe rfl rfl) H rfl rfl rfl rfl (isSl_enc _ _).one.1 (isSl_enc _ _).one.2 rfl (Nat.le_of_ble_eq_true rfl) rfl (own_e hi167) ?_
  intro S H
  refine WO.nil <| KX.seq_n <| WC.region <| w v137 rfl rfl <| wg H 0 rfl rfl rfl rfl <| WS rfl (nz rfl (stp_buildSlice (ys := [(Api_Mod.mk y176.1.Kind y182.Body y184)]) (f := e_Api_Mod) (parts := [(0, (.agg [(.int .i64 y176.1.Kind), (.str y182.Body), (encSl eS y184)]))]) rfl rfl rfl rfl rfl (by simp only [st_agg, List.map_cons, List.map_nil, st1_int, st1_str, strip1_enc, tupled, e_Api_Mod]) (fc ⟨rfl, rfl⟩ (fun p hp => nomatch hp)) rfl)) ?_
  have hv185 : IsSl e_Api_Mod (some [(Api_Mod.mk y176.1.Kind y182.Body y184)]) _ := ⟨.full, rfl⟩
  obtain ⟨z186, hz186, h⟩ := bindS h
  refine WO.ex rfl (nzx (fz_tmp' hv185.frz rfl) (stp_app (f := e_Api_Mod) (ei := ty66) H 0 rfl rfl hv137 rfl hv185 rfl rfl rfl rfl (fun a => (e_Api_Mod_one a).2.1) hz186)) ?_
  rintro v187 S ⟨hv187, H⟩
  replace H : Hp S0 R _ [(i167, .cells [(.int .i64 y176.1.Kind), (.str y182.Body), (encSl eS y184)]), (i166, .cells (c_Api_Element y176.2))] [(v187, 3)] [] := H
  refine w v187 rfl rfl <| WO.nil <| KX.block_n <| KX.seq_n <| WC.region <| us 2 rfl <| WO.nil <| KX.seq_n ?_
  exact ih h v187 (hv187) kn (H.sub (.cons _ (.cons _ .slnil)) (.cons_cons _ .slnil) .slnil)
  refine WC.condF rfl hc188 <| WC.exit <| KX.seq_x <| KX.seq_x ?_
  have h := oi h; subst h
  exact hbrk v137 (hv137) kn (hs H)
theorem s60 : ∀ k : Nat, ∀ {a0 : Api_Element} {a1 : Bool} {r : (Sl Api_Mod)}, F60 k a0 a1 = some r → Q 60 [(.agg (c_Api_Element a0)), (.bool a1)] (encSl e_Api_Mod r) := by
 intro k a0 a1 r h vs ha S
 unfold F60 at h
 refine evw_pureW (pf := fn60) rfl rfl ha (Nat.le_of_ble_eq_true rfl) (by simp [PV.clean, cleanL, clean_encSl clean_Api_Element]) (by simp [PV.clean, cleanL, clean_encSl clean_Api_Mod]) ?_
 refine WB.of (pf := fn60) rfl ?_
 have H := Hp.start []
 refine WC.seqR <| WO.box' rfl rfl rfl rfl rfl H ?_
 intro i1 S hi1 H
 refine us 1 rfl <| WO.nil <| WC.seqR <| us 1 rfl <| WO.nil <| WC.seq <| WC.seqR <| us 1 rfl <| wg H 0 rfl rfl rfl rfl <| wl rfl rfl rfl <| us 1 rfl <| WO.nil ?_
 obtain ⟨y190, hy190, hOy190⟩ := bindS h
 refine WC.block ?_
 have H := H.addNil 3
 refine l60_L0 ?_ hy190 .nils ((isSl_nil _)) kn (H.sub (.cons _ .slnil) (.cons_cons _ .slnil) .slnil)
 intro σ S v191 hv191 hk H; replace h := hOy190
 refine KX.of_known hk <| KX.block_x <| KX.seq_n <| WC.seqR <| w v191 rfl rfl <| w v191 rfl rfl <| WO.nil <| WC.ret ?_
 have h := oi h; subst h
 refine KB.ret (vs := [v191]) (res_tmp rfl res_nil) (fl_cons' hv191.frz rfl) ?_
 exact (by simp only [st_tup, List.map_cons, List.map_nil, tupled, hv191.strip])
def F61 (k : Nat) (a0 : Str) : Option (Bool × Bool) :=
 Option.bind (if (Str.len a0) == 1 then
 Option.bind (Str.at? a0 0) fun c6 =>
 some (c6 != 0)
 else
 some false) fun y5 =>
 some (y5, (Str.len a0) == 1)
theorem s61 : ∀ k : Nat, ∀ {a0 : Str} {r : Bool × Bool}, F61 k a0 = some r → Q 61 [(.str a0)] (.tup [(.bool r.1), (.bool r.2)]) := by
 intro k a0 r h
 unfold F61 at h
 refine Qe.go (pf := fn61) rfl rfl (Nat.le_of_ble_eq_true rfl) rfl rfl rfl fun H => ?_
 refine WC.seqR <| us 2 rfl <| WO.nil <| WC.seqR <| us 2 rfl <| w (.bool ((Str.len a0) == 1)) rfl rfl <| w (.bool ((Str.len a0) == 1)) rfl rfl ?_
 obtain ⟨y5, hy5, hOy5⟩ := bindS h
 refine WO.split 4 (SJ [(0, (.str a0)), (11, (.bool y5))] [] [] [] [] [] false) ?_ ?_
 replace h := hy5
 revert H
 cases hc7 : ((Str.len a0) == 1)
 intro H
 replace h := iteF h hc7
 refine us 4 rfl <| WO.nil ?_
 have h := oi h; subst h
 exact kh H
 intro H
 replace h := iteT h hc7
 refine us 1 rfl <| WO.go0 rfl rfl ?_
 obtain ⟨c6, hc6, h⟩ := bindS h
 refine w (.int .u8 c6) rfl (nz rfl (stp_idxStr rfl rfl rfl hc6)) <| us 2 rfl <| WO.nil ?_
 have h := oi h; subst h
 exact kh H
 rintro σ S e ⟨hk, H, rfl⟩
 replace h := hOy5
 refine WO.of_known hk <| us 2 rfl <| w (.bool ((Str.len a0) == 1)) rfl rfl <| us 1 rfl <| w (.bool ((Str.len a0) == 1)) rfl rfl <| WO.nil <| WC.ret ?_
 have h := oi h; subst h
 refine KB.ret (vs := [(.bool y5), (.bool ((Str.len a0) == 1))]) (res_tmp rfl (res_tmp rfl res_nil)) (fl_cons' rfl (fl_cons' rfl rfl)) ?_
 exact rfl
def F40 (k : Nat) (a0 : Api_Element) : Option Api_Msg :=
 Option.bind (F55 k a0 1) fun y3 =>
 Option.bind (F55 k a0 0) fun y5 =>
 Option.bind (F56 k y5) fun y6 =>
 Option.bind (F57 k y3.Tag) fun y8 =>
 Option.bind (if y8.1 == 1 then
 Option.bind (F55 k y3 0) fun y41044 =>
 Option.bind (F56 k y41044) fun y41045 =>
 Option.bind (F55 k y3 1) fun y41046 =>
 Option.bind (F55 k y3 2) fun y41047 =>
 some (Api_Msg.mk y6 y8.1 y8.2 y41046.Body y41045 y41047.Body 0 0 (Api_Filter.mk 0 [] [] none none) none none [] false false [] [] [] 0 [])
 else
 Option.bind (if y8.1 == 3 then
 Option.bind (F55 k y3 0) fun y46517 =>
 Option.bind (F55 k y3 1) fun y46518 =>
 Option.bind (F56 k y46518) fun y46519 =>
 Option.bind (F55 k y3 3) fun y46520 =>
 Option.bind (F56 k y46520) fun y46521 =>
 Option.bind (F55 k y3 7) fun y46522 =>
 Option.bind (F58 k y46522) fun y46523 =>
 Option.bind (F55 k y3 6) fun y46524 =>
 Option.bind (F59 k y46524 20) fun y46525 =>
 some (Api_Msg.mk y6 y8.1 y8.2 y46517.Body 0 [] y46519 y46521 y46525 y46523 none [] false false [] [] [] 0 [])
 else
 Option.bind (if y8.1 == 4 then
 some (y8.1 == 4)
 else
 Option.bind (if y8.1 == 5 then
 some (y8.1 == 5)
 else
 some (y8.1 == 10)) fun y46539 =>
 some y46539) fun y46536 =>
 Option.bind (if y46536 then
 Option.bind (F55 k y3 0) fun y48347 =>
 Option.bind (F55 k y3 1) fun y48348 =>
 Option.bind (F60 k y48348 (y8.1 == 4)) fun y48349 =>
 some (Api_Msg.mk y6 y8.1 y8.2 y48347.Body 0 [] 0 0 (Api_Filter.mk 0 [] [] none none) none y48349 [] false false [] [] [] 0 [])
 else
 Option.bind (if y8.1 == 6 then
 some (Api_Msg.mk y6 y8.1 y8.2 y3.Body 0 [] 0 0 (Api_Filter.mk 0 [] [] none none) none none [] false false [] [] [] 0 [])
 else
 Option.bind (if y8.1 == 7 then
 Option.bind (F55 k y3 0) fun y49148 =>
 Option.bind (F55 k y3 1) fun y49149 =>
 Option.bind (F55 k y3 2) fun y49152 =>
 Option.bind (F61 k y49152.Body) fun y49153 =>
 Option.bind (F55 k y3 3) fun y49154 =>
 some (Api_Msg.mk y6 y8.1 y8.2 y49148.Body 0 [] 0 0 (Api_Filter.mk 0 [] [] none none) none none y49149.Body y49153.1 (decide ((Sl.len y3.Kids) > 3)) y49154.Body [] [] 0 [])
 else
 Option.bind (if y8.1 == 8 then
 Option.bind (F55 k y3 0) fun y49216 =>
 Option.bind (F55 k y3 1) fun y49217 =>
 Option.bind (F55 k y49217 0) fun y49218 =>
 Option.bind (F55 k y3 1) fun y49219 =>
 Option.bind (F55 k y49219 1) fun y49220 =>
 some (Api_Msg.mk y6 y8.1 y8.2 y49216.Body 0 [] 0 0 (Api_Filter.mk 0 [] [] none none) none none [] false false [] y49218.Body y49220.Body 0 [])
 else
 Option.bind (if y8.1 == 9 then
 Option.bind (F55 k y3 0) fun y49238 =>
 Option.bind (F56 k y49238) fun y49239 =>
 Option.bind (F55 k y3 1) fun y49240 =>
 some (Api_Msg.mk y6 y8.1 y8.2 [] 0 [] 0 0 (Api_Filter.mk 0 [] [] none none) none none [] false false [] [] [] y49239 y49240.Body)
 else
 some (Api_Msg.mk y6 y8.1 y8.2 [] 0 [] 0 0 (Api_Filter.mk 0 [] [] none none) none none [] false false [] [] [] 0 [])) fun y49233 =>
 some y49233) fun y49211 =>
 some y49211) fun y49143 =>
 some y49143) fun y48944 =>
 some y48944) fun y48342 =>
 some y48342) fun y46512 =>
 some y46512) fun y41039 =>
 some y41039
theorem s40 : ∀ k : Nat, ∀ {a0 : Api_Element} {r : Api_Msg}, F40 k a0 = some r → Q 40 [(.agg (c_Api_Element a0))] (.agg (c_Api_Msg r)) := by
 intro k a0 r h vs ha S
 unfold F40 at h
 refine evw_pureW (pf := fn40) rfl rfl ha (Nat.le_of_ble_eq_true rfl) (by simp [PV.clean, cleanL, clean_encSl clean_Api_Element]) (by simp [PV.clean, cleanL, clean_encSl clean_Api_Filter, clean_encSl clean_Api_Mod, clean_encSl clean_eS]) ?_
 refine WB.of (pf := fn40) rfl ?_
 have H := Hp.start []
 refine WC.seqR <| WO.box' rfl rfl rfl rfl rfl H ?_
 intro i1 S hi1 H
 refine WO.alloc' (ti := ty31) rfl rfl rfl rfl H ?_
 intro i2 S hi2 H
 refine WO.nil <| WC.seqR <| wg H 1 rfl rfl rfl rfl ?_
 obtain ⟨y3, hy3, h⟩ := bindS h
 refine cl (.agg (c_Api_Element y3)) [(.agg (c_Api_Element a0)), (.int .i64 1)] rfl rfl rfl rfl (sv (s55 _ hy3)) <| WO.alloc' (ti := ty44) rfl rfl rfl rfl H ?_
 intro i4 S hi4 H
 refine wos 0 H hi4 rfl rfl rfl rfl rfl rfl rfl rfl rfl rfl ?_
 intro S H
 refine WO.nil <| WC.seqR <| wg H 2 rfl rfl rfl rfl ?_
 obtain ⟨y5, hy5, h⟩ := bindS h
 refine cl (.agg (c_Api_Element y5)) [(.agg (c_Api_Element a0)), (.int .i64 0)] rfl rfl rfl rfl (sv (s55 _ hy5)) ?_
 obtain ⟨y6, hy6, h⟩ := bindS h
 refine cl (.int .i64 y6) [(.agg (c_Api_Element y5))] rfl rfl rfl rfl (sv (s56 _ hy6)) <| w (.agg [(.int .i64 y6), (.int .i64 0), (.int .i64 0), (.str []), (.int .i64 0), (.str []), (.int .i64 0), (.int .i64 0), (.int .i64 0), (.str []), (.str []), .nils, .nils, .nils, .nils, (.str []), (.bool false), (.bool false), (.str []), (.str []), (.str []), (.int .i64 0), (.str [])]) rfl (nz rfl (stp_build (ti := ty31) rfl rfl rfl rfl rfl (fill_cons rfl rfl rfl rfl (Nat.le_of_ble_eq_true rfl) rfl rfl))) <| WO.alloc' (ti := ty31) rfl rfl rfl rfl H ?_
 intro i7 S hi7 H
 refine wos 0 H hi7 rfl rfl rfl rfl rfl rfl rfl rfl rfl rfl ?_
 intro S H
 refine WO.nil <| WC.seqR <| us 1 rfl <| wg H 1 rfl rfl rfl rfl ?_
 obtain ⟨y8, hy8, h⟩ := bindS h
 refine cl (.tup [(.int .i64 y8.1), (.int .i64 y8.2)]) [(.int .u8 y3.Tag)] rfl rfl rfl rfl (s57 _ hy8 rfl) <| us 4 rfl <| wos 0 H hi7 rfl rfl rfl rfl rfl rfl rfl rfl rfl rfl ?_
 intro S H
 refine us 1 rfl <| wos 0 H hi7 rfl rfl rfl rfl rfl rfl rfl rfl rfl rfl ?_
 intro S H
 replace H : Hp [] [] _ [(i7, .cells [(.int .i64 y6), (.int .i64 y8.1), (.int .i64 y8.2), (.str []), (.int .i64 0), (.str []), (.int .i64 0), (.int .i64 0), (.int .i64 0), (.str []), (.str []), .nils, .nils, .nils, .nils, (.str []), (.bool false), (.bool false), (.str []), (.str []), (.str []), (.int .i64 0), (.str [])]), (i4, .cells (c_Api_Element y3)), (i2, .cells z0_), (i1, .cells (c_Api_Element a0))] [] [] := H
 refine WO.nil <| WC.seq <| WC.seqR <| us 1 rfl <| wg H 0 rfl rfl rfl rfl <| WO.nil <| WC.block <| WC.seqR <| us 2 rfl <| WO.nil ?_
 obtain ⟨y41039, hy41039, hOy41039⟩ := bindS h
 refine WC.join (fun σ' S' e' => ∃ v41040, ∃ v41041, ∃ v41042, ∃ v41043, IsSl eS y41039.Filter.Subs v41040 ∧ IsSl e_Api_Filter y41039.Filter.Kids v41041 ∧ IsSl eS y41039.Wants v41042 ∧ IsSl e_Api_Mod y41039.Mods v41043 ∧ Known ([(2, (.ptr i2 0)), (4, (.ptr i7 0))]) σ' ∧ Hp [] [] S' [(i7, .cells [(.int .i64 y41039.ID), (.int .i64 y41039.Op), (.int .i64 y41039.Of), (.str y41039.DN), (.int .i64 y41039.Version), (.str y41039.Pass), (.int .i64 y41039.Scope), (.int .i64 y41039.Size), (.int .i64 y41039.Filter.Kind), (.str y41039.Filter.Attr), (.str y41039.Filter.Value), v41040, v41041, v41042, v41043, (.str y41039.RDN), (.bool y41039.DelOld), (.bool y41039.HasSup), (.str y41039.Sup), (.str y41039.Attr), (.str y41039.Value), (.int .i64 y41039.Code), (.str y41039.Matched)]), (i4, .cells (c_Api_Element y3)), (i2, .cells z0_), (i1, .cells (c_Api_Element a0))] [] [] ∧ e' = false) ?_ ?_
 replace h := hy41039
 rcases iteS h with ⟨hc49248, h⟩ | ⟨hc49248, h⟩
 refine WC.condT rfl hc49248 <| WC.drawC <| wkl H 1 rfl rfl rfl rfl ?_
 obtain ⟨y41044, hy41044, h⟩ := bindS h
 refine WK.callP (v := (.agg (c_Api_Element y41044))) rfl (nz rfl (stp_call (vs := [(.agg (c_Api_Element y3)), (.int .i64 0)]) rfl rfl (s55 _ hy41044 (by simp only [st_agg, List.map_cons, List.map_nil, st1_int, st1_str, strip1_enc, e_Api_Element_eq, st_int, tupled]) _))) rfl ?_
 obtain ⟨y41045, hy41045, h⟩ := bindS h
 refine WK.callP (v := .int .i64 y41045) rfl (nz rfl (stp_call (vs := [(.agg (c_Api_Element y41044))]) rfl rfl (s56 _ hy41045 (by simp only [st_agg, List.map_cons, List.map_nil, st1_int, st1_str, strip1_enc, e_Api_Element_eq, tupled]) _))) rfl <| wkl H 1 rfl rfl rfl rfl ?_
 obtain ⟨y41046, hy41046, h⟩ := bindS h
 refine WK.callP (v := (.agg (c_Api_Element y41046))) rfl (nz rfl (stp_call (vs := [(.agg (c_Api_Element y3)), (.int .i64 1)]) rfl rfl (s55 _ hy41046 (by simp only [st_agg, List.map_cons, List.map_nil, st1_int, st1_str, strip1_enc, e_Api_Element_eq, st_int, tupled]) _))) rfl <| wk (.str y41046.Body) rfl rfl rfl rfl <| wkl H 1 rfl rfl rfl rfl ?_
 obtain ⟨y41047, hy41047, h⟩ := bindS h
 refine WK.callP (v := (.agg (c_Api_Element y41047))) rfl (nz rfl (stp_call (vs := [(.agg (c_Api_Element y3)), (.int .i64 2)]) rfl rfl (s55 _ hy41047 (by simp only [st_agg, List.map_cons, List.map_nil, st1_int, st1_str, strip1_enc, e_Api_Element_eq, st_int, tupled]) _))) rfl <| wk (.str y41047.Body) rfl rfl rfl rfl <| wk (.ptr i7 4) rfl rfl rfl rfl ?_
 have Hh41048 := H
 refine wks 0 H hi7 rfl rfl rfl rfl rfl rfl rfl rfl rfl rfl ?_
 intro S H
 refine ⟨(pend_cons (ld (H.get 1 rfl) rfl) (pend_cons (ld (H.get 1 rfl) rfl) (pend_cons (ld (H.get 1 rfl) rfl) pend_nil))), ?_⟩
 refine wk (.ptr i7 3) rfl rfl rfl rfl ?_
 have Hh41049 := H
 refine wks 0 H hi7 rfl rfl rfl rfl rfl rfl rfl rfl rfl rfl ?_
 intro S H
 refine ⟨(pend_cons (ld (H.get 1 rfl) rfl) (pend_cons (ld (H.get 1 rfl) rfl) (pend_cons (ld (H.get 1 rfl) rfl) pend_nil))), ?_⟩
 refine WK.nil <| us 1 rfl <| wos 0 H hi7 rfl rfl rfl rfl rfl rfl rfl rfl rfl rfl ?_
 intro S H
 replace H : Hp [] [] _ [(i7, .cells [(.int .i64 y6), (.int .i64 y8.1), (.int .i64 y8.2), (.str y41046.Body), (.int .i64 y41045), (.str y41047.Body), (.int .i64 0), (.int .i64 0), (.int .i64 0), (.str []), (.str []), .nils, .nils, .nils, .nils, (.str []), (.bool false), (.bool false), (.str []), (.str []), (.str []), (.int .i64 0), (.str [])]), (i4, .cells (c_Api_Element y3)), (i2, .cells z0_), (i1, .cells (c_Api_Element a0))] [] [] := H
 refine WO.nil <| KX.seq_n ?_
 have h := oi h; subst h
 exact ⟨.nils, .nils, .nils, .nils, (isSl_nil _), (isSl_nil _), (isSl_nil _), (isSl_nil _), kn, (hs H), rfl⟩
 refine WC.condF rfl hc49248 <| WC.seqR <| us 2 rfl <| WO.nil ?_
 obtain ⟨y46512, hy46512, hOy46512⟩ := bindS h
 refine WC.join (fun σ' S' e' => ∃ v46513, ∃ v46514, ∃ v46515, ∃ v46516, IsSl eS y46512.Filter.Subs v46513 ∧ IsSl e_Api_Filter y46512.Filter.Kids v46514 ∧ IsSl eS y46512.Wants v46515 ∧ IsSl e_Api_Mod y46512.Mods v46516 ∧ Known ([(2, (.ptr i2 0)), (4, (.ptr i7 0))]) σ' ∧ Hp [] [] S' [(i7, .cells [(.int .i64 y46512.ID), (.int .i64 y46512.Op), (.int .i64 y46512.Of), (.str y46512.DN), (.int .i64 y46512.Version), (.str y46512.Pass), (.int .i64 y46512.Scope), (.int .i64 y46512.Size), (.int .i64 y46512.Filter.Kind), (.str y46512.Filter.Attr), (.str y46512.Filter.Value), v46513, v46514, v46515, v46516, (.str y46512.RDN), (.bool y46512.DelOld), (.bool y46512.HasSup), (.str y46512.Sup), (.str y46512.Attr), (.str y46512.Value), (.int .i64 y46512.Code), (.str y46512.Matched)]), (i4, .cells (c_Api_Element y3)), (i2, .cells z0_), (i1, .cells (c_Api_Element a0))] [] [] ∧ e' = false) ?_ ?_
 replace h := hy46512
 rcases iteS h with ⟨hc49247, h⟩ | ⟨hc49247, h⟩
 refine WC.condT rfl hc49247 <| WC.seq <| WC.draw <| WH.step (v := (.agg (c_Api_Element y3))) rfl (nz rfl (stp_load rfl (H.get 1 rfl) rfl)) rfl rfl ?_
 obtain ⟨y46517, hy46517, h⟩ := bindS h
 refine WH.step (v := (.agg (c_Api_Element y46517))) rfl (nz rfl (stp_call (vs := [(.agg (c_Api_Element y3)), (.int .i64 0)]) rfl rfl (s55 _ hy46517 (by simp only [st_agg, List.map_cons, List.map_nil, st1_int, st1_str, strip1_enc, e_Api_Element_eq, st_int, tupled]) _))) rfl rfl <| wh (.str y46517.Body) rfl rfl <| WH.step (v := (.agg (c_Api_Element y3))) rfl (nz rfl (stp_load rfl (H.get 1 rfl) rfl)) rfl rfl ?_
 obtain ⟨y46518, hy46518, h⟩ := bindS h
 refine WH.step (v := (.agg (c_Api_Element y46518))) rfl (nz rfl (stp_call (vs := [(.agg (c_Api_Element y3)), (.int .i64 1)]) rfl rfl (s55 _ hy46518 (by simp only [st_agg, List.map_cons, List.map_nil, st1_int, st1_str, strip1_enc, e_Api_Element_eq, st_int, tupled]) _))) rfl rfl ?_
 obtain ⟨y46519, hy46519, h⟩ := bindS h
 refine WH.step (v := .int .i64 y46519) rfl (nz rfl (stp_call (vs := [(.agg (c_Api_Element y46518))]) rfl rfl (s56 _ hy46519 (by simp only [st_agg, List.map_cons, List.map_nil, st1_int, st1_str, strip1_enc, e_Api_Element_eq, tupled]) _))) rfl rfl <| WH.step (v := (.agg (c_Api_Element y3))) rfl (nz rfl (stp_load rfl (H.get 1 rfl) rfl)) rfl rfl ?_
 obtain ⟨y46520, hy46520, h⟩ := bindS h
 refine WH.step (v := (.agg (c_Api_Element y46520))) rfl (nz rfl (stp_call (vs := [(.agg (c_Api_Element y3)), (.int .i64 3)]) rfl rfl (s55 _ hy46520 (by simp only [st_agg, List.map_cons, List.map_nil, st1_int, st1_str, strip1_enc, e_Api_Element_eq, st_int, tupled]) _))) rfl rfl ?_
 obtain ⟨y46521, hy46521, h⟩ := bindS h
 refine WH.step (v := .int .i64 y46521) rfl (nz rfl (stp_call (vs := [(.agg (c_Api_Element y46520))]) rfl rfl (s56 _ hy46521 (by simp only [st_agg, List.map_cons, List.map_nil, st1_int, st1_str, strip1_enc, e_Api_Element_eq, tupled]) _))) rfl rfl <| WH.step (v := (.agg (c_Api_Element y3))) rfl (nz rfl (stp_load rfl (H.get 1 rfl) rfl)) rfl rfl ?_
 obtain ⟨y46522, hy46522, h⟩ := bindS h
 refine WH.step (v := (.agg (c_Api_Element y46522))) rfl (nz rfl (stp_call (vs := [(.agg (c_Api_Element y3)), (.int .i64 7)]) rfl rfl (s55 _ hy46522 (by simp only [st_agg, List.map_cons, List.map_nil, st1_int, st1_str, strip1_enc, e_Api_Element_eq, st_int, tupled]) _))) rfl rfl ?_
 obtain ⟨y46523, hy46523, h⟩ := bindS h
 refine WH.step (v := (encSl eS y46523)) rfl (nz rfl (stp_call (vs := [(.agg (c_Api_Element y46522))]) rfl rfl (s58 _ hy46523 (by simp only [st_agg, List.map_cons, List.map_nil, st1_int, st1_str, strip1_enc, e_Api_Element_eq, tupled]) _))) rfl rfl <| wh (.ptr i7 3) rfl rfl <| WH.nil <| wos 0 H hi7 rfl rfl rfl rfl rfl rfl rfl rfl rfl rfl ?_
 intro S H
 refine us 1 rfl <| wos 0 H hi7 rfl rfl rfl rfl rfl rfl rfl rfl rfl rfl ?_
 intro S H
 refine us 1 rfl <| wos 0 H hi7 rfl rfl rfl rfl rfl rfl rfl rfl rfl rfl ?_
 intro S H
 refine us 1 rfl <| WO.store 0 rfl (fe rfl rfl) H rfl rfl rfl rfl (isSl_enc _ _).one.1 (isSl_enc _ _).one.2 rfl (Nat.le_of_ble_eq_true rfl) rfl (own_e hi7) ?_
 intro S H
 refine WO.nil <| KX.seq_n <| WC.region <| wg H 1 rfl rfl rfl rfl ?_
 obtain ⟨y46524, hy46524, h⟩ := bindS h
 refine cl (.agg (c_Api_Element y46524)) [(.agg (c_Api_Element y3)), (.int .i64 6)] rfl rfl rfl rfl (sv (s55 _ hy46524)) ?_
 obtain ⟨y46525, hy46525, h⟩ := bindS h
 refine cl (.agg (c_Api_Filter y46525)) [(.agg (c_Api_Element y46524)), (.int .i64 20)] rfl rfl rfl rfl (sv (s59 _ hy46525)) <| us 1 rfl <| wos 0 H hi7 rfl rfl rfl rfl rfl rfl rfl rfl rfl rfl ?_
 intro S H
 replace H : Hp [] [] _ [(i7, .cells [(.int .i64 y6), (.int .i64 y8.1), (.int .i64 y8.2), (.str y46517.Body), (.int .i64 0), (.str []), (.int .i64 y46519), (.int .i64 y46521), (.int .i64 y46525.Kind), (.str y46525.Attr), (.str y46525.Value), (encSl eS y46525.Subs), (encSl e_Api_Filter y46525.Kids), (encSl eS y46523), .nils, (.str []), (.bool false), (.bool false), (.str []), (.str []), (.str []), (.int .i64 0), (.str [])]), (i4, .cells (c_Api_Element y3)), (i2, .cells z0_), (i1, .cells (c_Api_Element a0))] [] [] := H
 refine WO.nil <| KX.seq_n ?_
 have h := oi h; subst h
 exact ⟨(encSl eS y46525.Subs), (encSl e_Api_Filter y46525.Kids), (encSl eS y46523), .nils, (isSl_enc _ _), (isSl_enc _ _), (isSl_enc _ _), (isSl_nil _), kn, (hs H), rfl⟩
 refine WC.condF rfl hc49247 <| WC.seq <| WC.seqR <| us 2 rfl <| WO.nil ?_
 obtain ⟨y46536, hy46536, hOy46536⟩ := bindS h
 refine WC.join (SJ [(2, (.ptr i2 0)), (3, (.ptr i4 0)), (4, (.ptr i7 0)), (20, (.int .i64 y8.1)), (57, (.bool y46536))] [] [] [(i7, .cells [(.int .i64 y6), (.int .i64 y8.1), (.int .i64 y8.2), (.str []), (.int .i64 0), (.str []), (.int .i64 0), (.int .i64 0), (.int .i64 0), (.str []), (.str []), .nils, .nils, .nils, .nils, (.str []), (.bool false), (.bool false), (.str []), (.str []), (.str []), (.int .i64 0), (.str [])]), (i4, .cells (c_Api_Element y3)), (i2, .cells z0_), (i1, .cells (c_Api_Element a0))] [] [] false) ?_ ?_
 replace h := hy46536
 rcases iteS h with ⟨hc46541, h⟩ | ⟨hc46541, h⟩
 refine WC.condT rfl hc46541 <| WC.skip <| KX.seq_n ?_
 have h := oi h; subst h
 exact kh H
 refine WC.condF rfl hc46541 <| WC.seqR <| us 2 rfl <| WO.nil ?_
 obtain ⟨y46539, hy46539, hOy46539⟩ := bindS h
 refine WC.join (SJ [(2, (.ptr i2 0)), (3, (.ptr i4 0)), (4, (.ptr i7 0)), (20, (.int .i64 y8.1)), (57, (.bool y46539))] [] [] [(i7, .cells [(.int .i64 y6), (.int .i64 y8.1), (.int .i64 y8.2), (.str []), (.int .i64 0), (.str []), (.int .i64 0), (.int .i64 0), (.int .i64 0), (.str []), (.str []), .nils, .nils, .nils, .nils, (.str []), (.bool false), (.bool false), (.str []), (.str []), (.str []), (.int .i64 0), (.str [])]), (i4, .cells (c_Api_Element y3)), (i2, .cells z0_), (i1, .cells (c_Api_Element a0))] [] [] false) ?_ ?_
 replace h := hy46539
 rcases iteS h with ⟨hc46540, h⟩ | ⟨hc46540, h⟩
 refine WC.condT rfl hc46540 <| WC.skip <| KX.seq_n ?_
 have h := oi h; subst h
 exact kh H
 refine WC.condF rfl hc46540 <| WC.region <| us 2 rfl <| WO.nil <| KX.seq_n ?_
 have h := oi h; subst h
 exact kh H
 rintro σ S e ⟨hk, H, rfl⟩
 replace h := hOy46539
 refine KX.of_known hk <| KX.seq_n ?_
 have h := oi h; subst h
 exact kh H
 rintro σ S e ⟨hk, H, rfl⟩
 replace h := hOy46536
 refine KX.of_known hk <| KX.seq_n ?_
 obtain ⟨y48342, hy48342, hOy48342⟩ := bindS h
 refine WC.join (fun σ' S' e' => ∃ v48343, ∃ v48344, ∃ v48345, ∃ v48346, IsSl eS y48342.Filter.Subs v48343 ∧ IsSl e_Api_Filter y48342.Filter.Kids v48344 ∧ IsSl eS y48342.Wants v48345 ∧ IsSl e_Api_Mod y48342.Mods v48346 ∧ Known ([(2, (.ptr i2 0)), (4, (.ptr i7 0))]) σ' ∧ Hp [] [] S' [(i7, .cells [(.int .i64 y48342.ID), (.int .i64 y48342.Op), (.int .i64 y48342.Of), (.str y48342.DN), (.int .i64 y48342.Version), (.str y48342.Pass), (.int .i64 y48342.Scope), (.int .i64 y48342.Size), (.int .i64 y48342.Filter.Kind), (.str y48342.Filter.Attr), (.str y48342.Filter.Value), v48343, v48344, v48345, v48346, (.str y48342.RDN), (.bool y48342.DelOld), (.bool y48342.HasSup), (.str y48342.Sup), (.str y48342.Attr), (.str y48342.Value), (.int .i64 y48342.Code), (.str y48342.Matched)]), (i4, .cells (c_Api_Element y3)), (i2, .cells z0_), (i1, .cells (c_Api_Element a0))] [] [] ∧ e' = false) ?_ ?_
 replace h := hy48342
 rcases iteS h with ⟨hc49246, h⟩ | ⟨hc49246, h⟩
 refine WC.condT rfl hc49246 <| WC.draw <| WH.step (v := (.agg (c_Api_Element y3))) rfl (nz rfl (stp_load rfl (H.get 1 rfl) rfl)) rfl rfl ?_
 obtain ⟨y48347, hy48347, h⟩ := bindS h
 refine WH.step (v := (.agg (c_Api_Element y48347))) rfl (nz rfl (stp_call (vs := [(.agg (c_Api_Element y3)), (.int .i64 0)]) rfl rfl (s55 _ hy48347 (by simp only [st_agg, List.map_cons, List.map_nil, st1_int, st1_str, strip1_enc, e_Api_Element_eq, st_int, tupled]) _))) rfl rfl <| wh (.str y48347.Body) rfl rfl <| WH.step (v := (.agg (c_Api_Element y3))) rfl (nz rfl (stp_load rfl (H.get 1 rfl) rfl)) rfl rfl ?_
 obtain ⟨y48348, hy48348, h⟩ := bindS h
 refine WH.step (v := (.agg (c_Api_Element y48348))) rfl (nz rfl (stp_call (vs := [(.agg (c_Api_Element y3)), (.int .i64 1)]) rfl rfl (s55 _ hy48348 (by simp only [st_agg, List.map_cons, List.map_nil, st1_int, st1_str, strip1_enc, e_Api_Element_eq, st_int, tupled]) _))) rfl rfl <| wh (.ptr i7 1) rfl rfl <| WH.step (v := .int .i64 y8.1) rfl (nz rfl (stp_load rfl (H.get 0 rfl) rfl)) rfl rfl <| wh (.bool (y8.1 == 4)) rfl rfl ?_
 obtain ⟨y48349, hy48349, h⟩ := bindS h
 refine WH.step (v := (encSl e_Api_Mod y48349)) rfl (nz rfl (stp_call (vs := [(.agg (c_Api_Element y48348)), (.bool (y8.1 == 4))]) rfl rfl (s60 _ hy48349 (by simp only [st_agg, List.map_cons, List.map_nil, st1_int, st1_str, strip1_enc, e_Api_Element_eq, st_bool, tupled]) _))) rfl rfl <| wh (.ptr i7 3) rfl rfl <| WH.nil <| wos 0 H hi7 rfl rfl rfl rfl rfl rfl rfl rfl rfl rfl ?_
 intro S H
 refine us 1 rfl <| WO.store 0 rfl (fe rfl rfl) H rfl rfl rfl rfl (isSl_enc _ _).one.1 (isSl_enc _ _).one.2 rfl (Nat.le_of_ble_eq_true rfl) rfl (own_e hi7) ?_
 intro S H
 replace H : Hp [] [] _ [(i7, .cells [(.int .i64 y6), (.int .i64 y8.1), (.int .i64 y8.2), (.str y48347.Body), (.int .i64 0), (.str []), (.int .i64 0), (.int .i64 0), (.int .i64 0), (.str []), (.str []), .nils, .nils, .nils, (encSl e_Api_Mod y48349), (.str []), (.bool false), (.bool false), (.str []), (.str []), (.str []), (.int .i64 0), (.str [])]), (i4, .cells (c_Api_Element y3)), (i2, .cells z0_), (i1, .cells (c_Api_Element a0))] [] [] := H
 refine WO.nil <| KX.seq_n ?_
 have h := oi h; subst h
 exact ⟨.nils, .nils, .nils, (encSl e_Api_Mod y48349), (isSl_nil _), (isSl_nil _), (isSl_nil _), (isSl_enc _ _), kn, (hs H), rfl⟩
 refine WC.condF rfl hc49246 <| WC.seqR <| us 2 rfl <| WO.nil ?_
 obtain ⟨y48944, hy48944, hOy48944⟩ := bindS h
 refine WC.join (fun σ' S' e' => ∃ v48945, ∃ v48946, ∃ v48947, ∃ v48948, IsSl eS y48944.Filter.Subs v48945 ∧ IsSl e_Api_Filter y48944.Filter.Kids v48946 ∧ IsSl eS y48944.Wants v48947 ∧ IsSl e_Api_Mod y48944.Mods v48948 ∧ Known ([(2, (.ptr i2 0)), (4, (.ptr i7 0))]) σ' ∧ Hp [] [] S' [(i7, .cells [(.int .i64 y48944.ID), (.int .i64 y48944.Op), (.int .i64 y48944.Of), (.str y48944.DN), (.int .i64 y48944.Version), (.str y48944.Pass), (.int .i64 y48944.Scope), (.int .i64 y48944.Size), (.int .i64 y48944.Filter.Kind), (.str y48944.Filter.Attr), (.str y48944.Filter.Value), v48945, v48946, v48947, v48948, (.str y48944.RDN), (.bool y48944.DelOld), (.bool y48944.HasSup), (.str y48944.Sup), (.str y48944.Attr), (.str y48944.Value), (.int .i64 y48944.Code), (.str y48944.Matched)]), (i4, .cells (c_Api_Element y3)), (i2, .cells z0_), (i1, .cells (c_Api_Element a0))] [] [] ∧ e' = false) ?_ ?_
 replace h := hy48944
 rcases iteS h with ⟨hc49245, h⟩ | ⟨hc49245, h⟩
 refine WC.condT rfl hc49245 <| WC.region <| us 1 rfl <| wg H 1 rfl rfl rfl rfl <| us 1 rfl <| wos 0 H hi7 rfl rfl rfl rfl rfl rfl rfl rfl rfl rfl ?_
 intro S H
 replace H : Hp [] [] _ [(i7, .cells [(.int .i64 y6), (.int .i64 y8.1), (.int .i64 y8.2), (.str y3.Body), (.int .i64 0), (.str []), (.int .i64 0), (.int .i64 0), (.int .i64 0), (.str []), (.str []), .nils, .nils, .nils, .nils, (.str []), (.bool false), (.bool false), (.str []), (.str []), (.str []), (.int .i64 0), (.str [])]), (i4, .cells (c_Api_Element y3)), (i2, .cells z0_), (i1, .cells (c_Api_Element a0))] [] [] := H
 refine WO.nil <| KX.seq_n ?_
 have h := oi h; subst h
 exact ⟨.nils, .nils, .nils, .nils, (isSl_nil _), (isSl_nil _), (isSl_nil _), (isSl_nil _), kn, (hs H), rfl⟩
 refine WC.condF rfl hc49245 <| WC.seqR <| us 2 rfl <| WO.nil ?_
 obtain ⟨y49143, hy49143, hOy49143⟩ := bindS h
 refine WC.join (fun σ' S' e' => ∃ v49144, ∃ v49145, ∃ v49146, ∃ v49147, IsSl eS y49143.Filter.Subs v49144 ∧ IsSl e_Api_Filter y49143.Filter.Kids v49145 ∧ IsSl eS y49143.Wants v49146 ∧ IsSl e_Api_Mod y49143.Mods v49147 ∧ Known ([(2, (.ptr i2 0)), (4, (.ptr i7 0))]) σ' ∧ Hp [] [] S' [(i7, .cells [(.int .i64 y49143.ID), (.int .i64 y49143.Op), (.int .i64 y49143.Of), (.str y49143.DN), (.int .i64 y49143.Version), (.str y49143.Pass), (.int .i64 y49143.Scope), (.int .i64 y49143.Size), (.int .i64 y49143.Filter.Kind), (.str y49143.Filter.Attr), (.str y49143.Filter.Value), v49144, v49145, v49146, v49147, (.str y49143.RDN), (.bool y49143.DelOld), (.bool y49143.HasSup), (.str y49143.Sup), (.str y49143.Attr), (.str y49143.Value), (.int .i64 y49143.Code), (.str y49143.Matched)]), (i4, .cells (c_Api_Element y3)), (i2, .cells z0_), (i1, .cells (c_Api_Element a0))] [] [] ∧ e' = false) ?_ ?_
 replace h := hy49143
 rcases iteS h with ⟨hc49244, h⟩ | ⟨hc49244, h⟩
 refine WC.condT rfl hc49244 <| WC.seq <| WC.drawC <| wkl H 1 rfl rfl rfl rfl ?_
 obtain ⟨y49148, hy49148, h⟩ := bindS h
 refine WK.callP (v := (.agg (c_Api_Element y49148))) rfl (nz rfl (stp_call (vs := [(.agg (c_Api_Element y3)), (.int .i64 0)]) rfl rfl (s55 _ hy49148 (by simp only [st_agg, List.map_cons, List.map_nil, st1_int, st1_str, strip1_enc, e_Api_Element_eq, st_int, tupled]) _))) rfl <| wk (.str y49148.Body) rfl rfl rfl rfl <| wkl H 1 rfl rfl rfl rfl ?_
 obtain ⟨y49149, hy49149, h⟩ := bindS h
 refine WK.callP (v := (.agg (c_Api_Element y49149))) rfl (nz rfl (stp_call (vs := [(.agg (c_Api_Element y3)), (.int .i64 1)]) rfl rfl (s55 _ hy49149 (by simp only [st_agg, List.map_cons, List.map_nil, st1_int, st1_str, strip1_enc, e_Api_Element_eq, st_int, tupled]) _))) rfl <| wk (.str y49149.Body) rfl rfl rfl rfl <| wk (.ptr i4 2) rfl rfl rfl rfl <| wkl H 1 rfl rfl rfl rfl <| WK.step (v := (.int .i64 (Sl.len y3.Kids))) rfl (nz rfl (stp_len rfl (isSl_enc _ _) rfl)) rfl rfl rfl (ind_len rfl (isSl_enc _ _)) <| WK.step (v := (.bool (decide ((Sl.len y3.Kids) > 3)))) rfl (nz rfl rfl) rfl rfl rfl rfl <| wk (.ptr i7 3) rfl rfl rfl rfl ?_
 have Hh49150 := H
 refine wks 0 H hi7 rfl rfl rfl rfl rfl rfl rfl rfl rfl rfl ?_
 intro S H
 refine ⟨(pend_cons (ld (H.get 1 rfl) rfl) (pend_cons (ld (H.get 1 rfl) rfl) (pend_cons (ld (H.get 1 rfl) rfl) pend_nil))), ?_⟩
 refine wk (.ptr i7 15) rfl rfl rfl rfl ?_
 have Hh49151 := H
 refine wks 0 H hi7 rfl rfl rfl rfl rfl rfl rfl rfl rfl rfl ?_
 intro S H
 refine ⟨(pend_cons (ld (H.get 1 rfl) rfl) (pend_cons (ld (H.get 1 rfl) rfl) (pend_cons (ld (H.get 1 rfl) rfl) pend_nil))), ?_⟩
 refine WK.nil <| us 1 rfl <| wos 0 H hi7 rfl rfl rfl rfl rfl rfl rfl rfl rfl rfl ?_
 intro S H
 refine WO.nil <| KX.seq_n <| WC.seqR <| wg H 1 rfl rfl rfl rfl ?_
 obtain ⟨y49152, hy49152, h⟩ := bindS h
 refine cl (.agg (c_Api_Element y49152)) [(.agg (c_Api_Element y3)), (.int .i64 2)] rfl rfl rfl rfl (sv (s55 _ hy49152)) <| us 1 rfl ?_
 obtain ⟨y49153, hy49153, h⟩ := bindS h
 refine cl (.tup [(.bool y49153.1), (.bool y49153.2)]) [(.str y49152.Body)] rfl rfl rfl rfl (s61 _ hy49153 rfl) <| us 4 rfl <| wos 0 H hi7 rfl rfl rfl rfl rfl rfl rfl rfl rfl rfl ?_
 intro S H
 refine WO.nil <| WC.region <| wg H 1 rfl rfl rfl rfl ?_
 obtain ⟨y49154, hy49154, h⟩ := bindS h
 refine cl (.agg (c_Api_Element y49154)) [(.agg (c_Api_Element y3)), (.int .i64 3)] rfl rfl rfl rfl (sv (s55 _ hy49154)) <| us 2 rfl <| wos 0 H hi7 rfl rfl rfl rfl rfl rfl rfl rfl rfl rfl ?_
 intro S H
 replace H : Hp [] [] _ [(i7, .cells [(.int .i64 y6), (.int .i64 y8.1), (.int .i64 y8.2), (.str y49148.Body), (.int .i64 0), (.str []), (.int .i64 0), (.int .i64 0), (.int .i64 0), (.str []), (.str []), .nils, .nils, .nils, .nils, (.str y49149.Body), (.bool y49153.1), (.bool (decide ((Sl.len y3.Kids) > 3))), (.str y49154.Body), (.str []), (.str []), (.int .i64 0), (.str [])]), (i4, .cells (c_Api_Element y3)), (i2, .cells z0_), (i1, .cells (c_Api_Element a0))] [] [] := H
 refine WO.nil <| KX.seq_n ?_
 have h := oi h; subst h
 exact ⟨.nils, .nils, .nils, .nils, (isSl_nil _), (isSl_nil _), (isSl_nil _), (isSl_nil _), kn, (hs H), rfl⟩
 refine WC.condF rfl hc49244 <| WC.seqR <| us 2 rfl <| WO.nil ?_
 obtain ⟨y49211, hy49211, hOy49211⟩ := bindS h
 refine WC.join (fun σ' S' e' => ∃ v49212, ∃ v49213, ∃ v49214, ∃ v49215, IsSl eS y49211.Filter.Subs v49212 ∧ IsSl e_Api_Filter y49211.Filter.Kids v49213 ∧ IsSl eS y49211.Wants v49214 ∧ IsSl e_Api_Mod y49211.Mods v49215 ∧ Known ([(2, (.ptr i2 0)), (4, (.ptr i7 0))]) σ' ∧ Hp [] [] S' [(i7, .cells [(.int .i64 y49211.ID), (.int .i64 y49211.Op), (.int .i64 y49211.Of), (.str y49211.DN), (.int .i64 y49211.Version), (.str y49211.Pass), (.int .i64 y49211.Scope), (.int .i64 y49211.Size), (.int .i64 y49211.Filter.Kind), (.str y49211.Filter.Attr), (.str y49211.Filter.Value), v49212, v49213, v49214, v49215, (.str y49211.RDN), (.bool y49211.DelOld), (.bool y49211.HasSup), (.str y49211.Sup), (.str y49211.Attr), (.str y49211.Value), (.int .i64 y49211.Code), (.str y49211.Matched)]), (i4, .cells (c_Api_Element y3)), (i2, .cells z0_), (i1, .cells (c_Api_Element a0))] [] [] ∧ e' = false) ?_ ?_
 replace h := hy49211
 rcases iteS h with ⟨hc49243, h⟩ | ⟨hc49243, h⟩
 refine WC.condT rfl hc49243 <| WC.drawC <| wkl H 1 rfl rfl rfl rfl ?_
 obtain ⟨y49216, hy49216, h⟩ := bindS h
 refine WK.callP (v := (.agg (c_Api_Element y49216))) rfl (nz rfl (stp_call (vs := [(.agg (c_Api_Element y3)), (.int .i64 0)]) rfl rfl (s55 _ hy49216 (by simp only [st_agg, List.map_cons, List.map_nil, st1_int, st1_str, strip1_enc, e_Api_Element_eq, st_int, tupled]) _))) rfl <| wk (.str y49216.Body) rfl rfl rfl rfl <| wkl H 1 rfl rfl rfl rfl ?_
 obtain ⟨y49217, hy49217, h⟩ := bindS h
 refine WK.callP (v := (.agg (c_Api_Element y49217))) rfl (nz rfl (stp_call (vs := [(.agg (c_Api_Element y3)), (.int .i64 1)]) rfl rfl (s55 _ hy49217 (by simp only [st_agg, List.map_cons, List.map_nil, st1_int, st1_str, strip1_enc, e_Api_Element_eq, st_int, tupled]) _))) rfl ?_
 obtain ⟨y49218, hy49218, h⟩ := bindS h
 refine WK.callP (v := (.agg (c_Api_Element y49218))) rfl (nz rfl (stp_call (vs := [(.agg (c_Api_Element y49217)), (.int .i64 0)]) rfl rfl (s55 _ hy49218 (by simp only [st_agg, List.map_cons, List.map_nil, st1_int, st1_str, strip1_enc, e_Api_Element_eq, st_int, tupled]) _))) rfl <| wk (.str y49218.Body) rfl rfl rfl rfl <| wkl H 1 rfl rfl rfl rfl ?_
 obtain ⟨y49219, hy49219, h⟩ := bindS h
 refine WK.callP (v := (.agg (c_Api_Element y49219))) rfl (nz rfl (stp_call (vs := [(.agg (c_Api_Element y3)), (.int .i64 1)]) rfl rfl (s55 _ hy49219 (by simp only [st_agg, List.map_cons, List.map_nil, st1_int, st1_str, strip1_enc, e_Api_Element_eq, st_int, tupled]) _))) rfl ?_
 obtain ⟨y49220, hy49220, h⟩ := bindS h
 refine WK.callP (v := (.agg (c_Api_Element y49220))) rfl (nz rfl (stp_call (vs := [(.agg (c_Api_Element y49219)), (.int .i64 1)]) rfl rfl (s55 _ hy49220 (by simp only [st_agg, List.map_cons, List.map_nil, st1_int, st1_str, strip1_enc, e_Api_Element_eq, st_int, tupled]) _))) rfl <| wk (.str y49220.Body) rfl rfl rfl rfl <| wk (.ptr i7 3) rfl rfl rfl rfl ?_
 have Hh49221 := H
 refine wks 0 H hi7 rfl rfl rfl rfl rfl rfl rfl rfl rfl rfl ?_
 intro S H
 refine ⟨(pend_cons (ld (H.get 1 rfl) rfl) (pend_cons (ld (H.get 1 rfl) rfl) (pend_cons (ld (H.get 1 rfl) rfl) pend_nil))), ?_⟩
 refine wk (.ptr i7 19) rfl rfl rfl rfl ?_
 have Hh49222 := H
 refine wks 0 H hi7 rfl rfl rfl rfl rfl rfl rfl rfl rfl rfl ?_
 intro S H
 refine ⟨(pend_cons (ld (H.get 1 rfl) rfl) (pend_cons (ld (H.get 1 rfl) rfl) (pend_cons (ld (H.get 1 rfl) rfl) pend_nil))), ?_⟩
 refine WK.nil <| us 1 rfl <| wos 0 H hi7 rfl rfl rfl rfl rfl rfl rfl rfl rfl rfl ?_
 intro S H
 replace H : Hp [] [] _ [(i7, .cells [(.int .i64 y6), (.int .i64 y8.1), (.int .i64 y8.2), (.str y49216.Body), (.int .i64 0), (.str []), (.int .i64 0), (.int .i64 0), (.int .i64 0), (.str []), (.str []), .nils, .nils, .nils, .nils, (.str []), (.bool false), (.bool false), (.str []), (.str y49218.Body), (.str y49220.Body), (.int .i64 0), (.str [])]), (i4, .cells (c_Api_Element y3)), (i2, .cells z0_), (i1, .cells (c_Api_Element a0))] [] [] := H
 refine WO.nil <| KX.seq_n ?_
 have h := oi h; subst h
 exact ⟨.nils, .nils, .nils, .nils, (isSl_nil _), (isSl_nil _), (isSl_nil _), (isSl_nil _), kn, (hs H), rfl⟩
 refine WC.condF rfl hc49243 <| WC.seqR <| us 2 rfl <| WO.nil ?_
 obtain ⟨y49233, hy49233, hOy49233⟩ := bindS h
 refine WC.join (fun σ' S' e' => ∃ v49234, ∃ v49235, ∃ v49236, ∃ v49237, IsSl eS y49233.Filter.Subs v49234 ∧ IsSl e_Api_Filter y49233.Filter.Kids v49235 ∧ IsSl eS y49233.Wants v49236 ∧ IsSl e_Api_Mod y49233.Mods v49237 ∧ Known ([(2, (.ptr i2 0)), (4, (.ptr i7 0))]) σ' ∧ Hp [] [] S' [(i7, .cells [(.int .i64 y49233.ID), (.int .i64 y49233.Op), (.int .i64 y49233.Of), (.str y49233.DN), (.int .i64 y49233.Version), (.str y49233.Pass), (.int .i64 y49233.Scope), (.int .i64 y49233.Size), (.int .i64 y49233.Filter.Kind), (.str y49233.Filter.Attr), (.str y49233.Filter.Value), v49234, v49235, v49236, v49237, (.str y49233.RDN), (.bool y49233.DelOld), (.bool y49233.HasSup), (.str y49233.Sup), (.str y49233.Attr), (.str y49233.Value), (.int .i64 y49233.Code), (.str y49233.Matched)]), (i4, .cells (c_Api_Element y3)), (i2, .cells z0_), (i1, .cells (c_Api_Element a0))] [] [] ∧ e' = false) ?_ ?_
 replace h := hy49233
 rcases iteS h with ⟨hc49242, h⟩ | ⟨hc49242, h⟩
 refine WC.condT rfl hc49242 <| WC.drawC <| wkl H 1 rfl rfl rfl rfl ?_
 obtain ⟨y49238, hy49238, h⟩ := bindS h
 refine WK.callP (v := (.agg (c_Api_Element y49238))) rfl (nz rfl (stp_call (vs := [(.agg (c_Api_Element y3)), (.int .i64 0)]) rfl rfl (s55 _ hy49238 (by simp only [st_agg, List.map_cons, List.map_nil, st1_int, st1_str, strip1_enc, e_Api_Element_eq, st_int, tupled]) _))) rfl ?_
 obtain ⟨y49239, hy49239, h⟩ := bindS h
 refine WK.callP (v := .int .i64 y49239) rfl (nz rfl (stp_call (vs := [(.agg (c_Api_Element y49238))]) rfl rfl (s56 _ hy49239 (by simp only [st_agg, List.map_cons, List.map_nil, st1_int, st1_str, strip1_enc, e_Api_Element_eq, tupled]) _))) rfl <| wkl H 1 rfl rfl rfl rfl ?_
 obtain ⟨y49240, hy49240, h⟩ := bindS h
 refine WK.callP (v := (.agg (c_Api_Element y49240))) rfl (nz rfl (stp_call (vs := [(.agg (c_Api_Element y3)), (.int .i64 1)]) rfl rfl (s55 _ hy49240 (by simp only [st_agg, List.map_cons, List.map_nil, st1_int, st1_str, strip1_enc, e_Api_Element_eq, st_int, tupled]) _))) rfl <| wk (.str y49240.Body) rfl rfl rfl rfl <| wk (.ptr i7 21) rfl rfl rfl rfl ?_
 have Hh49241 := H
 refine wks 0 H hi7 rfl rfl rfl rfl rfl rfl rfl rfl rfl rfl ?_
 intro S H
 refine ⟨(pend_cons (ld (H.get 1 rfl) rfl) (pend_cons (ld (H.get 1 rfl) rfl) pend_nil)), ?_⟩
 refine WK.nil <| us 1 rfl <| wos 0 H hi7 rfl rfl rfl rfl rfl rfl rfl rfl rfl rfl ?_
 intro S H
 replace H : Hp [] [] _ [(i7, .cells [(.int .i64 y6), (.int .i64 y8.1), (.int .i64 y8.2), (.str []), (.int .i64 0), (.str []), (.int .i64 0), (.int .i64 0), (.int .i64 0), (.str []), (.str []), .nils, .nils, .nils, .nils, (.str []), (.bool false), (.bool false), (.str []), (.str []), (.str []), (.int .i64 y49239), (.str y49240.Body)]), (i4, .cells (c_Api_Element y3)), (i2, .cells z0_), (i1, .cells (c_Api_Element a0))] [] [] := H
 refine WO.nil <| KX.seq_n ?_
 have h := oi h; subst h
 exact ⟨.nils, .nils, .nils, .nils, (isSl_nil _), (isSl_nil _), (isSl_nil _), (isSl_nil _), kn, (hs H), rfl⟩
 refine WC.condF rfl hc49242 <| WC.skip <| KX.seq_n ?_
 have h := oi h; subst h
 exact ⟨.nils, .nils, .nils, .nils, (isSl_nil _), (isSl_nil _), (isSl_nil _), (isSl_nil _), kn, (hs H), rfl⟩
 rintro σ S e ⟨v49234, v49235, v49236, v49237, hv49234, hv49235, hv49236, hv49237, hk, H, rfl⟩
 replace h := hOy49233
 refine KX.of_known hk <| KX.seq_n ?_
 have h := oi h; subst h
 exact ⟨v49234, v49235, v49236, v49237, hv49234, hv49235, hv49236, hv49237, kn, (hs H), rfl⟩
 rintro σ S e ⟨v49212, v49213, v49214, v49215, hv49212, hv49213, hv49214, hv49215, hk, H, rfl⟩
 replace h := hOy49211
 refine KX.of_known hk <| KX.seq_n ?_
 have h := oi h; subst h
 exact ⟨v49212, v49213, v49214, v49215, hv49212, hv49213, hv49214, hv49215, kn, (hs H), rfl⟩
 rintro σ S e ⟨v49144, v49145, v49146, v49147, hv49144, hv49145, hv49146, hv49147, hk, H, rfl⟩
 replace h := hOy49143
 refine KX.of_known hk <| KX.seq_n ?_
 have h := oi h; subst h
 exact ⟨v49144, v49145, v49146, v49147, hv49144, hv49145, hv49146, hv49147, kn, (hs H), rfl⟩
 rintro σ S e ⟨v48945, v48946, v48947, v48948, hv48945, hv48946, hv48947, hv48948, hk, H, rfl⟩
 replace h := hOy48944
 refine KX.of_known hk <| KX.seq_n ?_
 have h := oi h; subst h
 exact ⟨v48945, v48946, v48947, v48948, hv48945, hv48946, hv48947, hv48948, kn, (hs H), rfl⟩
 rintro σ S e ⟨v48343, v48344, v48345, v48346, hv48343, hv48344, hv48345, hv48346, hk, H, rfl⟩
 replace h := hOy48342
 refine KX.of_known hk <| KX.seq_n ?_
 have h := oi h; subst h
 exact ⟨v48343, v48344, v48345, v48346, hv48343, hv48344, hv48345, hv48346, kn, (hs H), rfl⟩
 rintro σ S e ⟨v46513, v46514, v46515, v46516, hv46513, hv46514, hv46515, hv46516, hk, H, rfl⟩
 replace h := hOy46512
 refine KX.of_known hk <| KX.seq_n ?_
 have h := oi h; subst h
 exact ⟨v46513, v46514, v46515, v46516, hv46513, hv46514, hv46515, hv46516, kn, (hs H), rfl⟩
 rintro σ S e ⟨v41040, v41041, v41042, v41043, hv41040, hv41041, hv41042, hv41043, hk, H, rfl⟩
 replace h := hOy41039
 refine KX.of_known hk <| KX.block_n <| KX.seq_n <| WC.seqR <| wg H 0 rfl rfl rfl rfl <| wos 2 H hi2 rfl rfl rfl rfl rfl rfl rfl rfl rfl rfl ?_
 intro S H
 replace H : Hp [] [] _ [(i7, .cells [(.int .i64 y41039.ID), (.int .i64 y41039.Op), (.int .i64 y41039.Of), (.str y41039.DN), (.int .i64 y41039.Version), (.str y41039.Pass), (.int .i64 y41039.Scope), (.int .i64 y41039.Size), (.int .i64 y41039.Filter.Kind), (.str y41039.Filter.Attr), (.str y41039.Filter.Value), v41040, v41041, v41042, v41043, (.str y41039.RDN), (.bool y41039.DelOld), (.bool y41039.HasSup), (.str y41039.Sup), (.str y41039.Attr), (.str y41039.Value), (.int .i64 y41039.Code), (.str y41039.Matched)]), (i4, .cells (c_Api_Element y3)), (i2, .cells [(.int .i64 y41039.ID), (.int .i64 y41039.Op), (.int .i64 y41039.Of), (.str y41039.DN), (.int .i64 y41039.Version), (.str y41039.Pass), (.int .i64 y41039.Scope), (.int .i64 y41039.Size), (.int .i64 y41039.Filter.Kind), (.str y41039.Filter.Attr), (.str y41039.Filter.Value), v41040, v41041, v41042, v41043, (.str y41039.RDN), (.bool y41039.DelOld), (.bool y41039.HasSup), (.str y41039.Sup), (.str y41039.Attr), (.str y41039.Value), (.int .i64 y41039.Code), (.str y41039.Matched)]), (i1, .cells (c_Api_Element a0))] [] [] := H
 refine WO.nil <| WC.ret ?_
 have h := oi h; subst h
 refine KB.ret (vs := [(.agg [(.int .i64 y41039.ID), (.int .i64 y41039.Op), (.int .i64 y41039.Of), (.str y41039.DN), (.int .i64 y41039.Version), (.str y41039.Pass), (.int .i64 y41039.Scope), (.int .i64 y41039.Size), (.int .i64 y41039.Filter.Kind), (.str y41039.Filter.Attr), (.str y41039.Filter.Value), v41040, v41041, v41042, v41043, (.str y41039.RDN), (.bool y41039.DelOld), (.bool y41039.HasSup), (.str y41039.Sup), (.str y41039.Attr), (.str y41039.Value), (.int .i64 y41039.Code), (.str y41039.Matched)])]) (res_cell rfl (H.get 2 rfl) rfl res_nil) (fl_cons' rfl rfl) ?_
 exact (by simp only [st_tup, List.map_cons, List.map_nil, tupled, st_agg, st1_int, st1_str, hv41040.strip1, hv41041.strip1, hv41042.strip1, hv41043.strip1, st1_bool, e_Api_Msg, c_Api_Msg])
end Go.Proofs.YtbinlabnilidiaaDoor.M
