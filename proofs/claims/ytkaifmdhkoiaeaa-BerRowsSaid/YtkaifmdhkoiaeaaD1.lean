/- Part of the proof: the runs of functions on the abstract machine. -/
import Derived.Test.YtkaifmdhkoiaeaaPam29
import Derived.Test.YtkaifmdhkoiaeaaFns
import Derived.Test.YtkaifmdhkoiaeaaD1a
namespace Go.Proofs.Ytkaifmdhkoiaeaa.M
open Go Go.Pam Go.RowKit Go.WideShapes
set_option maxRecDepth 4000
set_option linter.unusedVariables false
set_option linter.unusedSimpArgs false

-- 16 prefect/prefectlaw1.few
def F16_L0 (rc0 : Api_Element → Int → Option Bool) (k : Nat) (a30 : Int) (a32 : Api_Element) : Nat → Int → Option (Out Bool Int)
  | 0, _ => none
  | n + 1, x31 =>
    if decide (x31 < (Sl.len a32.Kids)) then
    Option.bind (Sl.at? a32.Kids x31) fun y38 =>
    Option.bind (rc0 y38 (ad .i64 a30 1)) fun y39 =>
    if !y39 then
    some (Out.ret false)
    else
    F16_L0 rc0 k a30 a32 n (ad .i64 x31 1)
    else
    some (Out.brk x31)
/-- prefect/prefectlaw1.few -/
def F16 : Nat → Api_Element → Int → Option Bool
  | 0, _, _ => none
  | k + 1, a0, a1 =>
    if ((decide (a1 > 26)) || (decide ((Sl.len a0.Kids) > 8))) || (decide ((Str.len a0.Body) > 5000)) then
    some false
    else
    Option.bind (F16_L0 (F16 k) k a1 a0 k 0) fun y43 =>
    match y43 with
    | .ret y43r => some y43r
    | .brk y43b =>
    some true
theorem l16_L0 {rc0 : Api_Element → Int → Option Bool} (hrc0 : ∀ {a0 : Api_Element} {a1 : Int} {r : Bool}, rc0 a0 a1 = some r → ∀ {vs : List PV}, vs.map PV.strip = [(.agg [(.int .u8 a0.Tag), (.str a0.Body), (encSl e_Api_Element a0.Kids)]), (.int .i64 a1)] → ∀ S : List SObj, evw env 16 vs S = some ((.bool r), S, false)) {k : Nat} {a30 : Int} {a32 : Api_Element} {S0 : List SObj} {R : List Nat} {K : KX} {i1 : Nat} (hi1 : S0.length ≤ i1)  {o : Out Bool Int}
    (hret : ∀ r : Bool, o = .ret r → ∀ {σ' : Nat → PV} {S' : List SObj}, Known [(4, (.bool r))] σ' → Hp S0 R S' [] [] → K .ret σ' S' false)
    (hbrk : ∀ y : Int, o = .brk y → ∀ {σ' : Nat → PV} {S' : List SObj}, Known [(5, (.int .i64 y))] σ' → Hp S0 R S' [(i1, [(.int .u8 a32.Tag), (.str a32.Body), (encSl e_Api_Element a32.Kids)])] [] → K (.exit 0) σ' S' false) :
    ∀ {n : Nat} {x31 : Int}, F16_L0 rc0 k a30 a32 n x31 = some o → ∀ {σ : Nat → PV} {S : List SObj}, Known [(1, (.int .i64 a30)), (2, (.ptr i1 0)), (5, (.int .i64 x31))] σ → Hp S0 R S [(i1, [(.int .u8 a32.Tag), (.str a32.Body), (encSl e_Api_Element a32.Kids)])] [] → WC env ⟨36, S0.length⟩ (.loop pc16L0) σ S false K := by
  intro n
  induction n with
  | zero => intro _ h; cases h
  | succ n ih =>
    intro x31 h σ S  hk H
    rw [F16_L0] at h
    refine WC.loop ?_
    refine WC.of_known hk ?_
    refine WC.seq ?_
    refine WC.seqR ?_
    refine WO.step (v := (.int .i64 x31)) rfl rfl ?_
    refine WO.step (v := (.ptr i1 2)) rfl rfl ?_
    refine WO.step (v := (encSl e_Api_Element a32.Kids)) rfl (stp_load rfl (H.get 0 rfl) rfl) ?_
    refine WO.step (v := (.int .i64 (Sl.len a32.Kids))) rfl (stp_len rfl (isSl_enc _ _) rfl) ?_
    refine WO.step (v := (.bool (decide (x31 < (Sl.len a32.Kids))))) rfl rfl ?_
    refine WO.nil ?_
    rcases iteS h with ⟨hc42, h⟩ | ⟨hc42, h⟩
    · refine WC.condT rfl hc42 ?_
      refine WC.skip ?_
      refine KX.seq_n ?_
      refine WC.seq ?_
      refine WC.block ?_
      refine WC.seqR ?_
      refine WO.step (v := (.ptr i1 2)) rfl rfl ?_
      refine WO.step (v := (encSl e_Api_Element a32.Kids)) rfl (stp_load rfl (H.get 0 rfl) rfl) ?_
      refine WO.step (v := (.int .i64 x31)) rfl rfl ?_
      obtain ⟨y38, hy38, h⟩ := bindS h
      refine WO.step (v := (.iptr [(.int .u8 y38.Tag), (.str y38.Body), (encSl e_Api_Element y38.Kids)] 0)) rfl (stp_idxAddr rfl (isSl_enc _ _) rfl rfl rfl hy38 (e_Api_Element_cells _) rfl) ?_
      refine WO.step (v := (.agg [(.int .u8 y38.Tag), (.str y38.Body), (encSl e_Api_Element y38.Kids)])) rfl rfl ?_
      refine WO.step (v := (.int .i64 a30)) rfl rfl ?_
      refine WO.step (v := (.int .i64 (ad .i64 a30 1))) rfl rfl ?_
      obtain ⟨y39, hy39, h⟩ := bindS h
      refine WO.step (v := (.bool y39)) rfl (stp_call (vs := [(.agg [(.int .u8 y38.Tag), (.str y38.Body), (encSl e_Api_Element y38.Kids)]), (.int .i64 (ad .i64 a30 1))]) rfl rfl (hrc0 hy39 (by simp only [st_agg, List.map_cons, List.map_nil, st1_int, st1_str, strip1_enc, e_Api_Element_eq, st_int, tupled]) _)) ?_
      refine WO.step (v := (.bool (!y39))) rfl rfl ?_
      refine WO.nil ?_
      rcases iteS h with ⟨hc41, h⟩ | ⟨hc41, h⟩
      · refine WC.condT rfl hc41 ?_
        refine WC.seqR ?_
        refine WO.step (v := (.bool false)) rfl rfl ?_
        refine WO.nil ?_
        refine WC.ret ?_
        refine KX.block_r ?_
        refine KX.seq_r ?_
        refine KX.seq_r ?_
        obtain rfl := Option.some.inj h
        exact hret _ rfl (known_cons rfl known_nil) (H.sub (.cons _ .slnil) .slnil)
      · refine WC.condF rfl hc41 ?_
        refine WC.skip ?_
        refine KX.block_n ?_
        refine KX.seq_n ?_
        refine WC.region ?_
        refine WO.step (v := (.int .i64 x31)) rfl rfl ?_
        refine WO.step (v := (.int .i64 (ad .i64 x31 1))) rfl rfl ?_
        refine WO.step (v := (.int .i64 (ad .i64 x31 1))) rfl rfl ?_
        refine WO.nil ?_
        refine KX.seq_n ?_
        exact ih h  (known_cons rfl (known_cons rfl (known_cons rfl known_nil))) (H.sub (.cons_cons _ .slnil) .slnil)
    · refine WC.condF rfl hc42 ?_
      refine WC.exit ?_
      refine KX.seq_x ?_
      refine KX.seq_x ?_
      obtain rfl := Option.some.inj h
      exact hbrk _ rfl  (known_cons rfl known_nil) (H.sub (.cons_cons _ .slnil) .slnil)
theorem s16 : ∀ k : Nat, ∀ {a0 : Api_Element} {a1 : Int} {r : Bool}, F16 k a0 a1 = some r → ∀ {vs : List PV}, vs.map PV.strip = [(.agg [(.int .u8 a0.Tag), (.str a0.Body), (encSl e_Api_Element a0.Kids)]), (.int .i64 a1)] → ∀ S : List SObj, evw env 16 vs S = some ((.bool r), S, false) := by
  intro k
  induction k with
  | zero => intro _ _ r h; cases h
  | succ k ih =>
    intro a0 a1 r h vs ha S
    rw [F16] at h
    refine evw_pureW (pf := fn16) rfl rfl ha (Nat.le_of_ble_eq_true rfl) (by simp [PV.clean, cleanL, clean_encSl clean_Api_Element]) rfl ?_
    refine WB.of (pf := fn16) rfl ?_
    have H := Hp.start []
    refine WC.seqR ?_
    refine WO.box' rfl rfl rfl rfl H ?_
    intro i1 S hi1 H
    refine WO.step (v := (.bool false)) rfl rfl ?_
    refine WO.nil ?_
    refine WC.seq ?_
    refine WC.seqR ?_
    refine WO.step (v := (.int .i64 a1)) rfl rfl ?_
    refine WO.step (v := (.bool (decide (a1 > 26)))) rfl rfl ?_
    refine WO.step (v := (.bool (decide (a1 > 26)))) rfl rfl ?_
    refine WO.split 5 (fun σ' S' e' => Known ([(1, (.int .i64 a1)), (2, (.ptr i1 0)), (13, (.bool ((decide (a1 > 26)) || (decide ((Sl.len a0.Kids) > 8)))))]) σ' ∧ Hp [] [] S' [(i1, [(.int .u8 a0.Tag), (.str a0.Body), (encSl e_Api_Element a0.Kids)])] [] ∧ e' = false) ?_ ?_
    · cases hc2 : (decide (a1 > 26))
      · skip
        refine WO.go0 rfl rfl ?_
        refine WO.step (v := (.ptr i1 2)) rfl rfl ?_
        refine WO.go0 rfl rfl ?_
        refine WO.step (v := (encSl e_Api_Element a0.Kids)) rfl (stp_load rfl (H.get 0 rfl) rfl) ?_
        refine WO.go0 rfl rfl ?_
        refine WO.step (v := (.int .i64 (Sl.len a0.Kids))) rfl (stp_len rfl (isSl_enc _ _) rfl) ?_
        refine WO.go0 rfl rfl ?_
        refine WO.step (v := (.bool (decide ((Sl.len a0.Kids) > 8)))) rfl rfl ?_
        refine WO.step (v := (.bool (decide ((Sl.len a0.Kids) > 8)))) rfl rfl ?_
        refine WO.nil ?_
        exact ⟨(known_cons rfl (known_cons rfl (known_cons rfl known_nil))), H, rfl⟩
      · skip
        refine WO.by rfl rfl rfl ?_
        refine WO.by rfl rfl rfl ?_
        refine WO.by rfl rfl rfl ?_
        refine WO.by rfl rfl rfl ?_
        refine WO.step (v := (.bool true)) rfl rfl ?_
        refine WO.nil ?_
        exact ⟨(known_cons rfl (known_cons rfl (known_cons rfl known_nil))), H, rfl⟩
    · rintro σ S e ⟨hk, H, rfl⟩
      refine WO.of_known hk ?_
      refine WO.step (v := (.bool ((decide (a1 > 26)) || (decide ((Sl.len a0.Kids) > 8))))) rfl rfl ?_
      refine WO.split 5 (fun σ' S' e' => Known ([(1, (.int .i64 a1)), (2, (.ptr i1 0)), (19, (.bool (((decide (a1 > 26)) || (decide ((Sl.len a0.Kids) > 8))) || (decide ((Str.len a0.Body) > 5000)))))]) σ' ∧ Hp [] [] S' [(i1, [(.int .u8 a0.Tag), (.str a0.Body), (encSl e_Api_Element a0.Kids)])] [] ∧ e' = false) ?_ ?_
      · cases hc3 : ((decide (a1 > 26)) || (decide ((Sl.len a0.Kids) > 8)))
        · skip
          refine WO.go0 rfl rfl ?_
          refine WO.step (v := (.ptr i1 1)) rfl rfl ?_
          refine WO.go0 rfl rfl ?_
          refine WO.step (v := (.str a0.Body)) rfl (stp_load rfl (H.get 0 rfl) rfl) ?_
          refine WO.go0 rfl rfl ?_
          refine WO.step (v := (.int .i64 (Str.len a0.Body))) rfl rfl ?_
          refine WO.go0 rfl rfl ?_
          refine WO.step (v := (.bool (decide ((Str.len a0.Body) > 5000)))) rfl rfl ?_
          refine WO.step (v := (.bool (decide ((Str.len a0.Body) > 5000)))) rfl rfl ?_
          refine WO.nil ?_
          exact ⟨(known_cons rfl (known_cons rfl (known_cons rfl known_nil))), H, rfl⟩
        · skip
          refine WO.by rfl rfl rfl ?_
          refine WO.by rfl rfl rfl ?_
          refine WO.by rfl rfl rfl ?_
          refine WO.by rfl rfl rfl ?_
          refine WO.step (v := (.bool true)) rfl rfl ?_
          refine WO.nil ?_
          exact ⟨(known_cons rfl (known_cons rfl (known_cons rfl known_nil))), H, rfl⟩
      · rintro σ S e ⟨hk, H, rfl⟩
        refine WO.of_known hk ?_
        refine WO.nil ?_
        rcases iteS h with ⟨hc44, h⟩ | ⟨hc44, h⟩
        · refine WC.condT rfl hc44 ?_
          refine WC.seqR ?_
          refine WO.step (v := (.bool false)) rfl rfl ?_
          refine WO.nil ?_
          refine WC.ret ?_
          refine KX.seq_r ?_
          obtain rfl := Option.some.inj h
          refine KB.ret (vs := [(.bool false)]) (res_tmp rfl res_nil) ?_
          exact rfl
        · refine WC.condF rfl hc44 ?_
          refine WC.skip ?_
          refine KX.seq_n ?_
          refine WC.seq ?_
          refine WC.seqR ?_
          refine WO.step (v := (.int .i64 0)) rfl rfl ?_
          refine WO.nil ?_
          obtain ⟨y43, hy43, hOy43⟩ := bindS h
          refine WC.block ?_
          refine l16_L0 ih hi1 ?_ ?_ hy43  (known_cons rfl (known_cons rfl (known_cons rfl known_nil))) (H.sub (.cons_cons _ .slnil) .slnil)
          · intro y43r he σ S  hk H; subst he; replace h := hOy43; dsimp only at h
            refine KX.of_known hk ?_
            refine KX.block_r ?_
            refine KX.seq_r ?_
            obtain rfl := Option.some.inj h
            refine KB.ret (vs := [(.bool y43r)]) (res_tmp rfl res_nil) ?_
            exact rfl
          · intro y43b he σ S  hk H; subst he; replace h := hOy43; dsimp only at h
            refine KX.of_known hk ?_
            refine KX.block_x ?_
            refine KX.seq_n ?_
            refine WC.seqR ?_
            refine WO.step (v := (.bool true)) rfl rfl ?_
            refine WO.nil ?_
            refine WC.ret ?_
            obtain rfl := Option.some.inj h
            refine KB.ret (vs := [(.bool true)]) (res_tmp rfl res_nil) ?_
            exact rfl
-- 30 prefect/prefectref1.length
def F30_L0 (k : Nat) : Nat → Str → Int → Option (Str × Int)
  | 0, _, _ => none
  | n + 1, x21, x22 =>
    if decide (x22 > 0) then
    Option.bind (Str.app? (Str.of (some [cv .u8 x22])) x21) fun z27 =>
    Option.bind (quo? .i64 x22 256) fun z28 =>
    F30_L0 k n z27 z28
    else
    some (x21, x22)
/-- prefect/prefectref1.length -/
def F30 (k : Nat) (a0 : Int) : Option Str :=
  if decide (a0 < 128) then
  some (Str.of (some [cv .u8 a0]))
  else
  Option.bind (F30_L0 k k [] a0) fun y30 =>
  Option.bind (Str.app? (Str.of (some [cv .u8 (ad .i64 128 (Str.len y30.1))])) y30.1) fun z32 =>
  some z32
theorem l30_L0 {k : Nat} {S0 : List SObj} {R : List Nat} {K : KX}  {o : (Str × Int)}
    (hbrk : ∀ {σ' : Nat → PV} {S' : List SObj}, Known [(3, (.str o.1)), (4, (.int .i64 o.2))] σ' → Hp S0 R S' [] [] → K (.exit 0) σ' S' false) :
    ∀ {n : Nat} {x21 : Str} {x22 : Int}, F30_L0 k n x21 x22 = some o → ∀ {σ : Nat → PV} {S : List SObj}, Known [(3, (.str x21)), (4, (.int .i64 x22))] σ → Hp S0 R S [] [] → WC env ⟨30, S0.length⟩ (.loop pc30L0) σ S false K := by
  intro n
  induction n with
  | zero => intro _ _ h; cases h
  | succ n ih =>
    intro x21 x22 h σ S  hk H
    rw [F30_L0] at h
    refine WC.loop ?_
    refine WC.of_known hk ?_
    refine WC.seq ?_
    refine WC.seqR ?_
    refine WO.step (v := (.int .i64 x22)) rfl rfl ?_
    refine WO.step (v := (.bool (decide (x22 > 0)))) rfl rfl ?_
    refine WO.nil ?_
    rcases iteS h with ⟨hc29, h⟩ | ⟨hc29, h⟩
    · refine WC.condT rfl hc29 ?_
      refine WC.skip ?_
      refine KX.seq_n ?_
      refine WC.seq ?_
      refine WC.block ?_
      refine WC.region ?_
      refine WO.step (v := (.int .i64 x22)) rfl rfl ?_
      refine WO.step (v := (.int .u8 (cv .u8 x22))) rfl rfl ?_
      refine WO.step rfl (stp_buildSlice (ys := [cv .u8 x22]) (f := (eI .u8)) (parts := [(0, (.int .u8 (cv .u8 x22)))]) rfl rfl rfl rfl rfl rfl (fc ⟨rfl, rfl⟩ (fun p hp => nomatch hp)) rfl) ?_
      have hv26 : IsSl (eI .u8) (some [cv .u8 x22]) _ := ⟨.full, rfl⟩
      refine WO.step (v := (.str (Str.of (some [cv .u8 x22])))) rfl (stp_text rfl hv26 rfl rfl rfl) ?_
      refine WO.step (v := (.str x21)) rfl rfl ?_
      obtain ⟨z27, hz27, h⟩ := bindS h
      refine WO.step (v := (.str z27)) rfl (stp_strApp rfl rfl hz27) ?_
      refine WO.step (v := (.str z27)) rfl rfl ?_
      refine WO.nil ?_
      refine KX.block_n ?_
      refine KX.seq_n ?_
      refine WC.region ?_
      refine WO.step (v := (.int .i64 x22)) rfl rfl ?_
      obtain ⟨z28, hz28, h⟩ := bindS h
      refine WO.step (v := (.int .i64 z28)) rfl (stp_quo rfl rfl hz28) ?_
      refine WO.step (v := (.int .i64 z28)) rfl rfl ?_
      refine WO.nil ?_
      refine KX.seq_n ?_
      exact ih h  (known_cons rfl (known_cons rfl known_nil)) (H.sub .slnil .slnil)
    · refine WC.condF rfl hc29 ?_
      refine WC.exit ?_
      refine KX.seq_x ?_
      refine KX.seq_x ?_
      obtain rfl := Option.some.inj h
      exact hbrk  (known_cons rfl (known_cons rfl known_nil)) (H.sub .slnil .slnil)
theorem s30 : ∀ k : Nat, ∀ {a0 : Int} {r : Str}, F30 k a0 = some r → ∀ {vs : List PV}, vs.map PV.strip = [(.int .i64 a0)] → ∀ S : List SObj, evw env 30 vs S = some ((.str r), S, false) := by
  intro k a0 r h vs ha S
  unfold F30 at h
  refine evw_pureW (pf := fn30) rfl rfl ha (Nat.le_of_ble_eq_true rfl) rfl rfl ?_
  refine WB.of (pf := fn30) rfl ?_
  have H := Hp.start []
  refine WC.seqR ?_
  refine WO.step (v := (.str [])) rfl rfl ?_
  refine WO.nil ?_
  refine WC.seq ?_
  refine WC.seqR ?_
  refine WO.step (v := (.int .i64 a0)) rfl rfl ?_
  refine WO.step (v := (.bool (decide (a0 < 128)))) rfl rfl ?_
  refine WO.nil ?_
  rcases iteS h with ⟨hc33, h⟩ | ⟨hc33, h⟩
  · refine WC.condT rfl hc33 ?_
    refine WC.seqR ?_
    refine WO.step (v := (.int .i64 a0)) rfl rfl ?_
    refine WO.step (v := (.int .u8 (cv .u8 a0))) rfl rfl ?_
    refine WO.step rfl (stp_buildSlice (ys := [cv .u8 a0]) (f := (eI .u8)) (parts := [(0, (.int .u8 (cv .u8 a0)))]) rfl rfl rfl rfl rfl rfl (fc ⟨rfl, rfl⟩ (fun p hp => nomatch hp)) rfl) ?_
    have hv3 : IsSl (eI .u8) (some [cv .u8 a0]) _ := ⟨.full, rfl⟩
    refine WO.step (v := (.str (Str.of (some [cv .u8 a0])))) rfl (stp_text rfl hv3 rfl rfl rfl) ?_
    refine WO.step (v := (.str (Str.of (some [cv .u8 a0])))) rfl rfl ?_
    refine WO.nil ?_
    refine WC.ret ?_
    refine KX.seq_r ?_
    obtain rfl := Option.some.inj h
    refine KB.ret (vs := [(.str (Str.of (some [cv .u8 a0])))]) (res_tmp rfl res_nil) ?_
    exact rfl
  · refine WC.condF rfl hc33 ?_
    refine WC.skip ?_
    refine KX.seq_n ?_
    refine WC.seqR ?_
    refine WO.step (v := (.str [])) rfl rfl ?_
    refine WO.nil ?_
    refine WC.seq ?_
    refine WC.seqR ?_
    refine WO.step (v := (.int .i64 a0)) rfl rfl ?_
    refine WO.step (v := (.int .i64 a0)) rfl rfl ?_
    refine WO.nil ?_
    obtain ⟨y30, hy30, hOy30⟩ := bindS h
    refine WC.block ?_
    refine l30_L0 ?_ hy30  (known_cons rfl (known_cons rfl known_nil)) (H.sub .slnil .slnil)
    · intro σ S  hk H; replace h := hOy30
      refine KX.of_known hk ?_
      refine KX.block_x ?_
      refine KX.seq_n ?_
      refine WC.seqR ?_
      refine WO.step (v := (.str y30.1)) rfl rfl ?_
      refine WO.step (v := (.int .i64 (Str.len y30.1))) rfl rfl ?_
      refine WO.step (v := (.int .i64 (ad .i64 128 (Str.len y30.1)))) rfl rfl ?_
      refine WO.step (v := (.int .u8 (cv .u8 (ad .i64 128 (Str.len y30.1))))) rfl rfl ?_
      refine WO.step rfl (stp_buildSlice (ys := [cv .u8 (ad .i64 128 (Str.len y30.1))]) (f := (eI .u8)) (parts := [(0, (.int .u8 (cv .u8 (ad .i64 128 (Str.len y30.1)))))]) rfl rfl rfl rfl rfl rfl (fc ⟨rfl, rfl⟩ (fun p hp => nomatch hp)) rfl) ?_
      have hv31 : IsSl (eI .u8) (some [cv .u8 (ad .i64 128 (Str.len y30.1))]) _ := ⟨.full, rfl⟩
      refine WO.step (v := (.str (Str.of (some [cv .u8 (ad .i64 128 (Str.len y30.1))])))) rfl (stp_text rfl hv31 rfl rfl rfl) ?_
      refine WO.step (v := (.str y30.1)) rfl rfl ?_
      obtain ⟨z32, hz32, h⟩ := bindS h
      refine WO.step (v := (.str z32)) rfl (stp_strApp rfl rfl hz32) ?_
      refine WO.step (v := (.str z32)) rfl rfl ?_
      refine WO.nil ?_
      refine WC.ret ?_
      obtain rfl := Option.some.inj h
      refine KB.ret (vs := [(.str z32)]) (res_tmp rfl res_nil) ?_
      exact rfl
-- 21 prefect/prefectref1.Bytes
def F21_L0 (rc0 : Api_Element → Option (Str × Bool)) (k : Nat) (a33 : Api_Element) : Nat → Str → Int → Option (Out (Str × Bool) (Str × Int))
  | 0, _, _ => none
  | n + 1, x31, x32 =>
    if decide (x32 < (Sl.len a33.Kids)) then
    Option.bind (Sl.at? a33.Kids x32) fun y40 =>
    Option.bind (rc0 y40) fun y41 =>
    if !y41.2 then
    some (Out.ret ([], false))
    else
    Option.bind (Str.app? x31 y41.1) fun z43 =>
    F21_L0 rc0 k a33 n z43 (ad .i64 x32 1)
    else
    some (Out.brk (x31, x32))
/-- prefect/prefectref1.Bytes -/
def F21 : Nat → Api_Element → Option (Str × Bool)
  | 0, _ => none
  | k + 1, a0 =>
    Option.bind (F21_L0 (F21 k) k a0 k a0.Body 0) fun y46 =>
    match y46 with
    | .ret y46r => some y46r
    | .brk y46b =>
    if decide ((Str.len y46b.1) > 4000) then
    some ([], false)
    else
    Option.bind (F30 k (Str.len y46b.1)) fun y49 =>
    Option.bind (Str.app? (Str.of (some [a0.Tag])) y49) fun z50 =>
    Option.bind (Str.app? z50 y46b.1) fun z51 =>
    some (z51, true)
theorem l21_L0 {rc0 : Api_Element → Option (Str × Bool)} (hrc0 : ∀ {a0 : Api_Element} {r : Str × Bool}, rc0 a0 = some r → ∀ {vs : List PV}, vs.map PV.strip = [(.agg [(.int .u8 a0.Tag), (.str a0.Body), (encSl e_Api_Element a0.Kids)])] → ∀ S : List SObj, evw env 21 vs S = some ((.tup [(.str r.1), (.bool r.2)]), S, false)) {k : Nat} {a33 : Api_Element} {S0 : List SObj} {R : List Nat} {K : KX} {i1 : Nat} (hi1 : S0.length ≤ i1)  {o : Out (Str × Bool) (Str × Int)}
    (hret : ∀ r : Str × Bool, o = .ret r → ∀ {σ' : Nat → PV} {S' : List SObj}, Known [(2, (.str r.1)), (3, (.bool r.2))] σ' → Hp S0 R S' [] [] → K .ret σ' S' false)
    (hbrk : ∀ y : Str × Int, o = .brk y → ∀ {σ' : Nat → PV} {S' : List SObj}, Known [(1, (.ptr i1 0)), (4, (.str y.1)), (5, (.int .i64 y.2))] σ' → Hp S0 R S' [(i1, [(.int .u8 a33.Tag), (.str a33.Body), (encSl e_Api_Element a33.Kids)])] [] → K (.exit 0) σ' S' false) :
    ∀ {n : Nat} {x31 : Str} {x32 : Int}, F21_L0 rc0 k a33 n x31 x32 = some o → ∀ {σ : Nat → PV} {S : List SObj}, Known [(1, (.ptr i1 0)), (4, (.str x31)), (5, (.int .i64 x32))] σ → Hp S0 R S [(i1, [(.int .u8 a33.Tag), (.str a33.Body), (encSl e_Api_Element a33.Kids)])] [] → WC env ⟨44, S0.length⟩ (.loop pc21L0) σ S false K := by
  intro n
  induction n with
  | zero => intro _ _ h; cases h
  | succ n ih =>
    intro x31 x32 h σ S  hk H
    rw [F21_L0] at h
    refine WC.loop ?_
    refine WC.of_known hk ?_
    refine WC.seq ?_
    refine WC.seqR ?_
    refine WO.step (v := (.int .i64 x32)) rfl rfl ?_
    refine WO.step (v := (.ptr i1 2)) rfl rfl ?_
    refine WO.step (v := (encSl e_Api_Element a33.Kids)) rfl (stp_load rfl (H.get 0 rfl) rfl) ?_
    refine WO.step (v := (.int .i64 (Sl.len a33.Kids))) rfl (stp_len rfl (isSl_enc _ _) rfl) ?_
    refine WO.step (v := (.bool (decide (x32 < (Sl.len a33.Kids))))) rfl rfl ?_
    refine WO.nil ?_
    rcases iteS h with ⟨hc45, h⟩ | ⟨hc45, h⟩
    · refine WC.condT rfl hc45 ?_
      refine WC.skip ?_
      refine KX.seq_n ?_
      refine WC.seq ?_
      refine WC.block ?_
      refine WC.seqR ?_
      refine WO.step (v := (.ptr i1 2)) rfl rfl ?_
      refine WO.step (v := (encSl e_Api_Element a33.Kids)) rfl (stp_load rfl (H.get 0 rfl) rfl) ?_
      refine WO.step (v := (.int .i64 x32)) rfl rfl ?_
      obtain ⟨y40, hy40, h⟩ := bindS h
      refine WO.step (v := (.iptr [(.int .u8 y40.Tag), (.str y40.Body), (encSl e_Api_Element y40.Kids)] 0)) rfl (stp_idxAddr rfl (isSl_enc _ _) rfl rfl rfl hy40 (e_Api_Element_cells _) rfl) ?_
      refine WO.step (v := (.agg [(.int .u8 y40.Tag), (.str y40.Body), (encSl e_Api_Element y40.Kids)])) rfl rfl ?_
      obtain ⟨y41, hy41, h⟩ := bindS h
      refine WO.step (v := (.tup [(.str y41.1), (.bool y41.2)])) rfl (stp_call (vs := [(.agg [(.int .u8 y40.Tag), (.str y40.Body), (encSl e_Api_Element y40.Kids)])]) rfl rfl (hrc0 hy41 (by simp only [st_agg, List.map_cons, List.map_nil, st1_int, st1_str, strip1_enc, e_Api_Element_eq, tupled]) _)) ?_
      refine WO.step (v := (.tup [(.str y41.1), (.bool y41.2)])) rfl rfl ?_
      refine WO.step (v := (.str y41.1)) rfl rfl ?_
      refine WO.step (v := (.bool y41.2)) rfl rfl ?_
      refine WO.step (v := (.str y41.1)) rfl rfl ?_
      refine WO.step (v := (.bool y41.2)) rfl rfl ?_
      refine WO.nil ?_
      refine WC.seq ?_
      refine WC.seqR ?_
      refine WO.step (v := (.bool y41.2)) rfl rfl ?_
      refine WO.step (v := (.bool (!y41.2))) rfl rfl ?_
      refine WO.nil ?_
      rcases iteS h with ⟨hc44, h⟩ | ⟨hc44, h⟩
      · refine WC.condT rfl hc44 ?_
        refine WC.seqR ?_
        refine WO.step (v := (.str [])) rfl rfl ?_
        refine WO.step (v := (.bool false)) rfl rfl ?_
        refine WO.nil ?_
        refine WC.ret ?_
        refine KX.seq_r ?_
        refine KX.block_r ?_
        refine KX.seq_r ?_
        refine KX.seq_r ?_
        obtain rfl := Option.some.inj h
        exact hret _ rfl (known_cons rfl (known_cons rfl known_nil)) (H.sub (.cons _ .slnil) .slnil)
      · refine WC.condF rfl hc44 ?_
        refine WC.skip ?_
        refine KX.seq_n ?_
        refine WC.region ?_
        refine WO.step (v := (.str x31)) rfl rfl ?_
        refine WO.step (v := (.str y41.1)) rfl rfl ?_
        obtain ⟨z43, hz43, h⟩ := bindS h
        refine WO.step (v := (.str z43)) rfl (stp_strApp rfl rfl hz43) ?_
        refine WO.step (v := (.str z43)) rfl rfl ?_
        refine WO.nil ?_
        refine KX.block_n ?_
        refine KX.seq_n ?_
        refine WC.region ?_
        refine WO.step (v := (.int .i64 x32)) rfl rfl ?_
        refine WO.step (v := (.int .i64 (ad .i64 x32 1))) rfl rfl ?_
        refine WO.step (v := (.int .i64 (ad .i64 x32 1))) rfl rfl ?_
        refine WO.nil ?_
        refine KX.seq_n ?_
        exact ih h  (known_cons rfl (known_cons rfl (known_cons rfl known_nil))) (H.sub (.cons_cons _ .slnil) .slnil)
    · refine WC.condF rfl hc45 ?_
      refine WC.exit ?_
      refine KX.seq_x ?_
      refine KX.seq_x ?_
      obtain rfl := Option.some.inj h
      exact hbrk _ rfl  (known_cons rfl (known_cons rfl (known_cons rfl known_nil))) (H.sub (.cons_cons _ .slnil) .slnil)
theorem s21 : ∀ k : Nat, ∀ {a0 : Api_Element} {r : Str × Bool}, F21 k a0 = some r → ∀ {vs : List PV}, vs.map PV.strip = [(.agg [(.int .u8 a0.Tag), (.str a0.Body), (encSl e_Api_Element a0.Kids)])] → ∀ S : List SObj, evw env 21 vs S = some ((.tup [(.str r.1), (.bool r.2)]), S, false) := by
  intro k
  induction k with
  | zero => intro _ r h; cases h
  | succ k ih =>
    intro a0 r h vs ha S
    rw [F21] at h
    refine evw_pureW (pf := fn21) rfl rfl ha (Nat.le_of_ble_eq_true rfl) (by simp [PV.clean, cleanL, clean_encSl clean_Api_Element]) rfl ?_
    refine WB.of (pf := fn21) rfl ?_
    have H := Hp.start []
    refine WC.seqR ?_
    refine WO.box' rfl rfl rfl rfl H ?_
    intro i1 S hi1 H
    refine WO.step (v := (.str [])) rfl rfl ?_
    refine WO.step (v := (.bool false)) rfl rfl ?_
    refine WO.nil ?_
    refine WC.seqR ?_
    refine WO.step (v := (.ptr i1 1)) rfl rfl ?_
    refine WO.step (v := (.str a0.Body)) rfl (stp_load rfl (H.get 0 rfl) rfl) ?_
    refine WO.step (v := (.str a0.Body)) rfl rfl ?_
    refine WO.nil ?_
    refine WC.seq ?_
    refine WC.seqR ?_
    refine WO.step (v := (.int .i64 0)) rfl rfl ?_
    refine WO.nil ?_
    obtain ⟨y46, hy46, hOy46⟩ := bindS h
    refine WC.block ?_
    refine l21_L0 ih hi1 ?_ ?_ hy46  (known_cons rfl (known_cons rfl (known_cons rfl known_nil))) (H.sub (.cons_cons _ .slnil) .slnil)
    · intro y46r he σ S  hk H; subst he; replace h := hOy46; dsimp only at h
      refine KX.of_known hk ?_
      refine KX.block_r ?_
      refine KX.seq_r ?_
      obtain rfl := Option.some.inj h
      refine KB.ret (vs := [(.str y46r.1), (.bool y46r.2)]) (res_tmp rfl (res_tmp rfl res_nil)) ?_
      exact rfl
    · intro y46b he σ S  hk H; subst he; replace h := hOy46; dsimp only at h
      refine KX.of_known hk ?_
      refine KX.block_x ?_
      refine KX.seq_n ?_
      refine WC.seq ?_
      refine WC.seqR ?_
      refine WO.step (v := (.str y46b.1)) rfl rfl ?_
      refine WO.step (v := (.int .i64 (Str.len y46b.1))) rfl rfl ?_
      refine WO.step (v := (.bool (decide ((Str.len y46b.1) > 4000)))) rfl rfl ?_
      refine WO.nil ?_
      rcases iteS h with ⟨hc52, h⟩ | ⟨hc52, h⟩
      · refine WC.condT rfl hc52 ?_
        refine WC.seqR ?_
        refine WO.step (v := (.str [])) rfl rfl ?_
        refine WO.step (v := (.bool false)) rfl rfl ?_
        refine WO.nil ?_
        refine WC.ret ?_
        refine KX.seq_r ?_
        obtain rfl := Option.some.inj h
        refine KB.ret (vs := [(.str []), (.bool false)]) (res_tmp rfl (res_tmp rfl res_nil)) ?_
        exact rfl
      · refine WC.condF rfl hc52 ?_
        refine WC.skip ?_
        refine KX.seq_n ?_
        refine WC.seq ?_
        refine WC.draw ?_
        refine WH.step (v := (.ptr i1 0)) rfl rfl rfl rfl ?_
        refine WH.step (v := (.int .u8 a0.Tag)) rfl (stp_load rfl (H.get 0 rfl) rfl) rfl rfl ?_
        refine WH.step rfl (stp_buildSlice (ys := [a0.Tag]) (f := (eI .u8)) (parts := [(0, (.int .u8 a0.Tag))]) rfl rfl rfl rfl rfl rfl (fc ⟨rfl, rfl⟩ (fun p hp => nomatch hp)) rfl) rfl rfl ?_
        have hv48 : IsSl (eI .u8) (some [a0.Tag]) _ := ⟨.full, rfl⟩
        refine WH.step (v := (.str (Str.of (some [a0.Tag])))) rfl (stp_text rfl hv48 rfl rfl rfl) rfl rfl ?_
        refine WH.step (v := (.str y46b.1)) rfl rfl rfl rfl ?_
        refine WH.step (v := (.int .i64 (Str.len y46b.1))) rfl rfl rfl rfl ?_
        obtain ⟨y49, hy49, h⟩ := bindS h
        refine WH.step (v := (.str y49)) rfl (stp_call (vs := [(.int .i64 (Str.len y46b.1))]) rfl rfl (s30 _ hy49 rfl _)) rfl rfl ?_
        obtain ⟨z50, hz50, h⟩ := bindS h
        refine WH.step (v := (.str z50)) rfl (stp_strApp rfl rfl hz50) rfl rfl ?_
        refine WH.step (v := (.str y46b.1)) rfl rfl rfl rfl ?_
        refine WH.nil ?_
        obtain ⟨z51, hz51, h⟩ := bindS h
        refine WO.step (v := (.str z51)) rfl (stp_strApp rfl rfl hz51) ?_
        refine WO.step (v := (.str z51)) rfl rfl ?_
        refine WO.step (v := (.bool true)) rfl rfl ?_
        refine WO.nil ?_
        refine KX.seq_n ?_
        refine WC.ret ?_
        obtain rfl := Option.some.inj h
        refine KB.ret (vs := [(.str z51), (.bool true)]) (res_tmp rfl (res_tmp rfl res_nil)) ?_
        exact rfl
-- 27 prefect/prefectref1.Right
def F27_L0 (rc0 : Api_Element → Option Bool) (k : Nat) (a35 : Api_Element) : Nat → Int → Option (Out Bool Int)
  | 0, _ => none
  | n + 1, x34 =>
    if decide (x34 < (Sl.len a35.Kids)) then
    Option.bind (Sl.at? a35.Kids x34) fun y41 =>
    Option.bind (rc0 y41) fun y42 =>
    if !y42 then
    some (Out.ret false)
    else
    F27_L0 rc0 k a35 n (ad .i64 x34 1)
    else
    some (Out.brk x34)
/-- prefect/prefectref1.Right -/
def F27 : Nat → Api_Element → Option Bool
  | 0, _ => none
  | k + 1, a0 =>
    if (((bAnd .u8 a0.Tag 31) == 31) || (((bAnd .u8 a0.Tag 32) != 0) && (!(a0.Body == [])))) || (((bAnd .u8 a0.Tag 32) == 0) && (decide ((Sl.len a0.Kids) > 0))) then
    some false
    else
    Option.bind (F27_L0 (F27 k) k a0 k 0) fun y46 =>
    match y46 with
    | .ret y46r => some y46r
    | .brk y46b =>
    some true
theorem l27_L0 {rc0 : Api_Element → Option Bool} (hrc0 : ∀ {a0 : Api_Element} {r : Bool}, rc0 a0 = some r → ∀ {vs : List PV}, vs.map PV.strip = [(.agg [(.int .u8 a0.Tag), (.str a0.Body), (encSl e_Api_Element a0.Kids)])] → ∀ S : List SObj, evw env 27 vs S = some ((.bool r), S, false)) {k : Nat} {a35 : Api_Element} {S0 : List SObj} {R : List Nat} {K : KX} {i1 : Nat} (hi1 : S0.length ≤ i1)  {o : Out Bool Int}
    (hret : ∀ r : Bool, o = .ret r → ∀ {σ' : Nat → PV} {S' : List SObj}, Known [(2, (.bool r))] σ' → Hp S0 R S' [] [] → K .ret σ' S' false)
    (hbrk : ∀ y : Int, o = .brk y → ∀ {σ' : Nat → PV} {S' : List SObj}, Known [(3, (.int .i64 y))] σ' → Hp S0 R S' [(i1, [(.int .u8 a35.Tag), (.str a35.Body), (encSl e_Api_Element a35.Kids)])] [] → K (.exit 0) σ' S' false) :
    ∀ {n : Nat} {x34 : Int}, F27_L0 rc0 k a35 n x34 = some o → ∀ {σ : Nat → PV} {S : List SObj}, Known [(1, (.ptr i1 0)), (3, (.int .i64 x34))] σ → Hp S0 R S [(i1, [(.int .u8 a35.Tag), (.str a35.Body), (encSl e_Api_Element a35.Kids)])] [] → WC env ⟨45, S0.length⟩ (.loop pc27L0) σ S false K := by
  intro n
  induction n with
  | zero => intro _ h; cases h
  | succ n ih =>
    intro x34 h σ S  hk H
    rw [F27_L0] at h
    refine WC.loop ?_
    refine WC.of_known hk ?_
    refine WC.seq ?_
    refine WC.seqR ?_
    refine WO.step (v := (.int .i64 x34)) rfl rfl ?_
    refine WO.step (v := (.ptr i1 2)) rfl rfl ?_
    refine WO.step (v := (encSl e_Api_Element a35.Kids)) rfl (stp_load rfl (H.get 0 rfl) rfl) ?_
    refine WO.step (v := (.int .i64 (Sl.len a35.Kids))) rfl (stp_len rfl (isSl_enc _ _) rfl) ?_
    refine WO.step (v := (.bool (decide (x34 < (Sl.len a35.Kids))))) rfl rfl ?_
    refine WO.nil ?_
    rcases iteS h with ⟨hc45, h⟩ | ⟨hc45, h⟩
    · refine WC.condT rfl hc45 ?_
      refine WC.skip ?_
      refine KX.seq_n ?_
      refine WC.seq ?_
      refine WC.block ?_
      refine WC.seqR ?_
      refine WO.step (v := (.ptr i1 2)) rfl rfl ?_
      refine WO.step (v := (encSl e_Api_Element a35.Kids)) rfl (stp_load rfl (H.get 0 rfl) rfl) ?_
      refine WO.step (v := (.int .i64 x34)) rfl rfl ?_
      obtain ⟨y41, hy41, h⟩ := bindS h
      refine WO.step (v := (.iptr [(.int .u8 y41.Tag), (.str y41.Body), (encSl e_Api_Element y41.Kids)] 0)) rfl (stp_idxAddr rfl (isSl_enc _ _) rfl rfl rfl hy41 (e_Api_Element_cells _) rfl) ?_
      refine WO.step (v := (.agg [(.int .u8 y41.Tag), (.str y41.Body), (encSl e_Api_Element y41.Kids)])) rfl rfl ?_
      obtain ⟨y42, hy42, h⟩ := bindS h
      refine WO.step (v := (.bool y42)) rfl (stp_call (vs := [(.agg [(.int .u8 y41.Tag), (.str y41.Body), (encSl e_Api_Element y41.Kids)])]) rfl rfl (hrc0 hy42 (by simp only [st_agg, List.map_cons, List.map_nil, st1_int, st1_str, strip1_enc, e_Api_Element_eq, tupled]) _)) ?_
      refine WO.step (v := (.bool (!y42))) rfl rfl ?_
      refine WO.nil ?_
      rcases iteS h with ⟨hc44, h⟩ | ⟨hc44, h⟩
      · refine WC.condT rfl hc44 ?_
        refine WC.seqR ?_
        refine WO.step (v := (.bool false)) rfl rfl ?_
        refine WO.nil ?_
        refine WC.ret ?_
        refine KX.block_r ?_
        refine KX.seq_r ?_
        refine KX.seq_r ?_
        obtain rfl := Option.some.inj h
        exact hret _ rfl (known_cons rfl known_nil) (H.sub (.cons _ .slnil) .slnil)
      · refine WC.condF rfl hc44 ?_
        refine WC.skip ?_
        refine KX.block_n ?_
        refine KX.seq_n ?_
        refine WC.region ?_
        refine WO.step (v := (.int .i64 x34)) rfl rfl ?_
        refine WO.step (v := (.int .i64 (ad .i64 x34 1))) rfl rfl ?_
        refine WO.step (v := (.int .i64 (ad .i64 x34 1))) rfl rfl ?_
        refine WO.nil ?_
        refine KX.seq_n ?_
        exact ih h  (known_cons rfl (known_cons rfl known_nil)) (H.sub (.cons_cons _ .slnil) .slnil)
    · refine WC.condF rfl hc45 ?_
      refine WC.exit ?_
      refine KX.seq_x ?_
      refine KX.seq_x ?_
      obtain rfl := Option.some.inj h
      exact hbrk _ rfl  (known_cons rfl known_nil) (H.sub (.cons_cons _ .slnil) .slnil)
theorem s27 : ∀ k : Nat, ∀ {a0 : Api_Element} {r : Bool}, F27 k a0 = some r → ∀ {vs : List PV}, vs.map PV.strip = [(.agg [(.int .u8 a0.Tag), (.str a0.Body), (encSl e_Api_Element a0.Kids)])] → ∀ S : List SObj, evw env 27 vs S = some ((.bool r), S, false) := by
  intro k
  induction k with
  | zero => intro _ r h; cases h
  | succ k ih =>
    intro a0 r h vs ha S
    rw [F27] at h
    refine evw_pureW (pf := fn27) rfl rfl ha (Nat.le_of_ble_eq_true rfl) (by simp [PV.clean, cleanL, clean_encSl clean_Api_Element]) rfl ?_
    refine WB.of (pf := fn27) rfl ?_
    have H := Hp.start []
    refine WC.seqR ?_
    refine WO.box' rfl rfl rfl rfl H ?_
    intro i1 S hi1 H
    refine WO.step (v := (.bool false)) rfl rfl ?_
    refine WO.nil ?_
    refine WC.seq ?_
    refine WC.seqR ?_
    refine WO.step (v := (.ptr i1 0)) rfl rfl ?_
    refine WO.step (v := (.int .u8 a0.Tag)) rfl (stp_load rfl (H.get 0 rfl) rfl) ?_
    refine WO.step (v := (.int .u8 (bAnd .u8 a0.Tag 31))) rfl rfl ?_
    refine WO.step (v := (.bool ((bAnd .u8 a0.Tag 31) == 31))) rfl rfl ?_
    refine WO.step (v := (.bool ((bAnd .u8 a0.Tag 31) == 31))) rfl rfl ?_
    refine WO.split 10 (fun σ' S' e' => Known ([(1, (.ptr i1 0)), (18, (.bool (((bAnd .u8 a0.Tag 31) == 31) || (((bAnd .u8 a0.Tag 32) != 0) && (!(a0.Body == []))))))]) σ' ∧ Hp [] [] S' [(i1, [(.int .u8 a0.Tag), (.str a0.Body), (encSl e_Api_Element a0.Kids)])] [] ∧ e' = false) ?_ ?_
    · cases hc4 : ((bAnd .u8 a0.Tag 31) == 31)
      · skip
        refine WO.go0 rfl rfl ?_
        refine WO.step (v := (.ptr i1 0)) rfl rfl ?_
        refine WO.go0 rfl rfl ?_
        refine WO.step (v := (.int .u8 a0.Tag)) rfl (stp_load rfl (H.get 0 rfl) rfl) ?_
        refine WO.go0 rfl rfl ?_
        refine WO.step (v := (.int .u8 (bAnd .u8 a0.Tag 32))) rfl rfl ?_
        refine WO.go0 rfl rfl ?_
        refine WO.step (v := (.bool ((bAnd .u8 a0.Tag 32) != 0))) rfl rfl ?_
        refine WO.go0 rfl rfl ?_
        refine WO.step (v := (.bool ((bAnd .u8 a0.Tag 32) != 0))) rfl rfl ?_
        refine WO.split 4 (fun σ' S' e' => Known ([(1, (.ptr i1 0)), (8, (.bool false)), (17, (.bool (((bAnd .u8 a0.Tag 32) != 0) && (!(a0.Body == [])))))]) σ' ∧ Hp [] [] S' [(i1, [(.int .u8 a0.Tag), (.str a0.Body), (encSl e_Api_Element a0.Kids)])] [] ∧ e' = false) ?_ ?_
        · cases hc5 : ((bAnd .u8 a0.Tag 32) != 0)
          · skip
            refine WO.by rfl rfl rfl ?_
            refine WO.by rfl rfl rfl ?_
            refine WO.by rfl rfl rfl ?_
            refine WO.go0 rfl rfl ?_
            refine WO.step (v := (.bool false)) rfl rfl ?_
            refine WO.nil ?_
            exact ⟨(known_cons rfl (known_cons rfl (known_cons rfl known_nil))), H, rfl⟩
          · skip
            refine WO.go0 rfl rfl ?_
            refine WO.step (v := (.ptr i1 1)) rfl rfl ?_
            refine WO.go0 rfl rfl ?_
            refine WO.step (v := (.str a0.Body)) rfl (stp_load rfl (H.get 0 rfl) rfl) ?_
            refine WO.go0 rfl rfl ?_
            refine WO.step (v := (.bool (!(a0.Body == [])))) rfl rfl ?_
            refine WO.go0 rfl rfl ?_
            refine WO.step (v := (.bool (!(a0.Body == [])))) rfl rfl ?_
            refine WO.nil ?_
            exact ⟨(known_cons rfl (known_cons rfl (known_cons rfl known_nil))), H, rfl⟩
        · rintro σ S e ⟨hk, H, rfl⟩
          refine WO.of_known hk ?_
          refine WO.step (v := (.bool (((bAnd .u8 a0.Tag 32) != 0) && (!(a0.Body == []))))) rfl rfl ?_
          refine WO.nil ?_
          exact ⟨(known_cons rfl (known_cons rfl known_nil)), H, rfl⟩
      · skip
        refine WO.by rfl rfl rfl ?_
        refine WO.by rfl rfl rfl ?_
        refine WO.by rfl rfl rfl ?_
        refine WO.by rfl rfl rfl ?_
        refine WO.by rfl rfl rfl ?_
        refine WO.by0 rfl rfl ?_
        refine WO.by0 rfl rfl ?_
        refine WO.by0 rfl rfl ?_
        refine WO.by rfl rfl rfl ?_
        refine WO.step (v := (.bool true)) rfl rfl ?_
        refine WO.nil ?_
        exact ⟨(known_cons rfl (known_cons rfl known_nil)), H, rfl⟩
    · rintro σ S e ⟨hk, H, rfl⟩
      refine WO.of_known hk ?_
      refine WO.step (v := (.bool (((bAnd .u8 a0.Tag 31) == 31) || (((bAnd .u8 a0.Tag 32) != 0) && (!(a0.Body == [])))))) rfl rfl ?_
      refine WO.split 11 (fun σ' S' e' => Known ([(1, (.ptr i1 0)), (30, (.bool ((((bAnd .u8 a0.Tag 31) == 31) || (((bAnd .u8 a0.Tag 32) != 0) && (!(a0.Body == [])))) || (((bAnd .u8 a0.Tag 32) == 0) && (decide ((Sl.len a0.Kids) > 0))))))]) σ' ∧ Hp [] [] S' [(i1, [(.int .u8 a0.Tag), (.str a0.Body), (encSl e_Api_Element a0.Kids)])] [] ∧ e' = false) ?_ ?_
      · cases hc8 : (((bAnd .u8 a0.Tag 31) == 31) || (((bAnd .u8 a0.Tag 32) != 0) && (!(a0.Body == []))))
        · skip
          refine WO.go0 rfl rfl ?_
          refine WO.step (v := (.ptr i1 0)) rfl rfl ?_
          refine WO.go0 rfl rfl ?_
          refine WO.step (v := (.int .u8 a0.Tag)) rfl (stp_load rfl (H.get 0 rfl) rfl) ?_
          refine WO.go0 rfl rfl ?_
          refine WO.step (v := (.int .u8 (bAnd .u8 a0.Tag 32))) rfl rfl ?_
          refine WO.go0 rfl rfl ?_
          refine WO.step (v := (.bool ((bAnd .u8 a0.Tag 32) == 0))) rfl rfl ?_
          refine WO.go0 rfl rfl ?_
          refine WO.step (v := (.bool ((bAnd .u8 a0.Tag 32) == 0))) rfl rfl ?_
          refine WO.split 5 (fun σ' S' e' => Known ([(1, (.ptr i1 0)), (19, (.bool false)), (29, (.bool (((bAnd .u8 a0.Tag 32) == 0) && (decide ((Sl.len a0.Kids) > 0)))))]) σ' ∧ Hp [] [] S' [(i1, [(.int .u8 a0.Tag), (.str a0.Body), (encSl e_Api_Element a0.Kids)])] [] ∧ e' = false) ?_ ?_
          · cases hc9 : ((bAnd .u8 a0.Tag 32) == 0)
            · skip
              refine WO.by rfl rfl rfl ?_
              refine WO.by rfl rfl rfl ?_
              refine WO.by rfl rfl rfl ?_
              refine WO.by rfl rfl rfl ?_
              refine WO.go0 rfl rfl ?_
              refine WO.step (v := (.bool false)) rfl rfl ?_
              refine WO.nil ?_
              exact ⟨(known_cons rfl (known_cons rfl (known_cons rfl known_nil))), H, rfl⟩
            · skip
              refine WO.go0 rfl rfl ?_
              refine WO.step (v := (.ptr i1 2)) rfl rfl ?_
              refine WO.go0 rfl rfl ?_
              refine WO.step (v := (encSl e_Api_Element a0.Kids)) rfl (stp_load rfl (H.get 0 rfl) rfl) ?_
              refine WO.go0 rfl rfl ?_
              refine WO.step (v := (.int .i64 (Sl.len a0.Kids))) rfl (stp_len rfl (isSl_enc _ _) rfl) ?_
              refine WO.go0 rfl rfl ?_
              refine WO.step (v := (.bool (decide ((Sl.len a0.Kids) > 0)))) rfl rfl ?_
              refine WO.go0 rfl rfl ?_
              refine WO.step (v := (.bool (decide ((Sl.len a0.Kids) > 0)))) rfl rfl ?_
              refine WO.nil ?_
              exact ⟨(known_cons rfl (known_cons rfl (known_cons rfl known_nil))), H, rfl⟩
          · rintro σ S e ⟨hk, H, rfl⟩
            refine WO.of_known hk ?_
            refine WO.step (v := (.bool (((bAnd .u8 a0.Tag 32) == 0) && (decide ((Sl.len a0.Kids) > 0))))) rfl rfl ?_
            refine WO.nil ?_
            exact ⟨(known_cons rfl (known_cons rfl known_nil)), H, rfl⟩
        · skip
          refine WO.by rfl rfl rfl ?_
          refine WO.by rfl rfl rfl ?_
          refine WO.by rfl rfl rfl ?_
          refine WO.by rfl rfl rfl ?_
          refine WO.by rfl rfl rfl ?_
          refine WO.by0 rfl rfl ?_
          refine WO.by0 rfl rfl ?_
          refine WO.by0 rfl rfl ?_
          refine WO.by0 rfl rfl ?_
          refine WO.by rfl rfl rfl ?_
          refine WO.step (v := (.bool true)) rfl rfl ?_
          refine WO.nil ?_
          exact ⟨(known_cons rfl (known_cons rfl known_nil)), H, rfl⟩
      · rintro σ S e ⟨hk, H, rfl⟩
        refine WO.of_known hk ?_
        refine WO.nil ?_
        rcases iteS h with ⟨hc47, h⟩ | ⟨hc47, h⟩
        · refine WC.condT rfl hc47 ?_
          refine WC.seqR ?_
          refine WO.step (v := (.bool false)) rfl rfl ?_
          refine WO.nil ?_
          refine WC.ret ?_
          refine KX.seq_r ?_
          obtain rfl := Option.some.inj h
          refine KB.ret (vs := [(.bool false)]) (res_tmp rfl res_nil) ?_
          exact rfl
        · refine WC.condF rfl hc47 ?_
          refine WC.skip ?_
          refine KX.seq_n ?_
          refine WC.seq ?_
          refine WC.seqR ?_
          refine WO.step (v := (.int .i64 0)) rfl rfl ?_
          refine WO.nil ?_
          obtain ⟨y46, hy46, hOy46⟩ := bindS h
          refine WC.block ?_
          refine l27_L0 ih hi1 ?_ ?_ hy46  (known_cons rfl (known_cons rfl known_nil)) (H.sub (.cons_cons _ .slnil) .slnil)
          · intro y46r he σ S  hk H; subst he; replace h := hOy46; dsimp only at h
            refine KX.of_known hk ?_
            refine KX.block_r ?_
            refine KX.seq_r ?_
            obtain rfl := Option.some.inj h
            refine KB.ret (vs := [(.bool y46r)]) (res_tmp rfl res_nil) ?_
            exact rfl
          · intro y46b he σ S  hk H; subst he; replace h := hOy46; dsimp only at h
            refine KX.of_known hk ?_
            refine KX.block_x ?_
            refine KX.seq_n ?_
            refine WC.seqR ?_
            refine WO.step (v := (.bool true)) rfl rfl ?_
            refine WO.nil ?_
            refine WC.ret ?_
            obtain rfl := Option.some.inj h
            refine KB.ret (vs := [(.bool true)]) (res_tmp rfl res_nil) ?_
            exact rfl
-- 28 prefect/prefectref1.Deep
def F28_L0 (rc0 : Api_Element → Option Int) (k : Nat) (a20 : Api_Element) : Nat → Int → Int → Option (Int × Int)
  | 0, _, _ => none
  | n + 1, x18, x19 =>
    if decide (x19 < (Sl.len a20.Kids)) then
    Option.bind (Sl.at? a20.Kids x19) fun y24 =>
    Option.bind (rc0 y24) fun y25 =>
    F28_L0 rc0 k a20 n (imax x18 y25) (ad .i64 x19 1)
    else
    some (x18, x19)
/-- prefect/prefectref1.Deep -/
def F28 : Nat → Api_Element → Option Int
  | 0, _ => none
  | k + 1, a0 =>
    Option.bind (F28_L0 (F28 k) k a0 k 0 0) fun y27 =>
    some (ad .i64 y27.1 1)
theorem l28_L0 {rc0 : Api_Element → Option Int} (hrc0 : ∀ {a0 : Api_Element} {r : Int}, rc0 a0 = some r → ∀ {vs : List PV}, vs.map PV.strip = [(.agg [(.int .u8 a0.Tag), (.str a0.Body), (encSl e_Api_Element a0.Kids)])] → ∀ S : List SObj, evw env 28 vs S = some ((.int .i64 r), S, false)) {k : Nat} {a20 : Api_Element} {S0 : List SObj} {R : List Nat} {K : KX} {i1 : Nat} (hi1 : S0.length ≤ i1)  {o : (Int × Int)}
    (hbrk : ∀ {σ' : Nat → PV} {S' : List SObj}, Known [(3, (.int .i64 o.1)), (4, (.int .i64 o.2))] σ' → Hp S0 R S' [(i1, [(.int .u8 a20.Tag), (.str a20.Body), (encSl e_Api_Element a20.Kids)])] [] → K (.exit 0) σ' S' false) :
    ∀ {n : Nat} {x18 : Int} {x19 : Int}, F28_L0 rc0 k a20 n x18 x19 = some o → ∀ {σ : Nat → PV} {S : List SObj}, Known [(1, (.ptr i1 0)), (3, (.int .i64 x18)), (4, (.int .i64 x19))] σ → Hp S0 R S [(i1, [(.int .u8 a20.Tag), (.str a20.Body), (encSl e_Api_Element a20.Kids)])] [] → WC env ⟨22, S0.length⟩ (.loop pc28L0) σ S false K := by
  intro n
  induction n with
  | zero => intro _ _ h; cases h
  | succ n ih =>
    intro x18 x19 h σ S  hk H
    rw [F28_L0] at h
    refine WC.loop ?_
    refine WC.of_known hk ?_
    refine WC.seq ?_
    refine WC.seqR ?_
    refine WO.step (v := (.int .i64 x19)) rfl rfl ?_
    refine WO.step (v := (.ptr i1 2)) rfl rfl ?_
    refine WO.step (v := (encSl e_Api_Element a20.Kids)) rfl (stp_load rfl (H.get 0 rfl) rfl) ?_
    refine WO.step (v := (.int .i64 (Sl.len a20.Kids))) rfl (stp_len rfl (isSl_enc _ _) rfl) ?_
    refine WO.step (v := (.bool (decide (x19 < (Sl.len a20.Kids))))) rfl rfl ?_
    refine WO.nil ?_
    rcases iteS h with ⟨hc26, h⟩ | ⟨hc26, h⟩
    · refine WC.condT rfl hc26 ?_
      refine WC.skip ?_
      refine KX.seq_n ?_
      refine WC.seq ?_
      refine WC.block ?_
      refine WC.region ?_
      refine WO.step (v := (.int .i64 x18)) rfl rfl ?_
      refine WO.step (v := (.ptr i1 2)) rfl rfl ?_
      refine WO.step (v := (encSl e_Api_Element a20.Kids)) rfl (stp_load rfl (H.get 0 rfl) rfl) ?_
      refine WO.step (v := (.int .i64 x19)) rfl rfl ?_
      obtain ⟨y24, hy24, h⟩ := bindS h
      refine WO.step (v := (.iptr [(.int .u8 y24.Tag), (.str y24.Body), (encSl e_Api_Element y24.Kids)] 0)) rfl (stp_idxAddr rfl (isSl_enc _ _) rfl rfl rfl hy24 (e_Api_Element_cells _) rfl) ?_
      refine WO.step (v := (.agg [(.int .u8 y24.Tag), (.str y24.Body), (encSl e_Api_Element y24.Kids)])) rfl rfl ?_
      obtain ⟨y25, hy25, h⟩ := bindS h
      refine WO.step (v := (.int .i64 y25)) rfl (stp_call (vs := [(.agg [(.int .u8 y24.Tag), (.str y24.Body), (encSl e_Api_Element y24.Kids)])]) rfl rfl (hrc0 hy25 (by simp only [st_agg, List.map_cons, List.map_nil, st1_int, st1_str, strip1_enc, e_Api_Element_eq, tupled]) _)) ?_
      refine WO.step (v := (.int .i64 (imax x18 y25))) rfl rfl ?_
      refine WO.step (v := (.int .i64 (imax x18 y25))) rfl rfl ?_
      refine WO.nil ?_
      refine KX.block_n ?_
      refine KX.seq_n ?_
      refine WC.region ?_
      refine WO.step (v := (.int .i64 x19)) rfl rfl ?_
      refine WO.step (v := (.int .i64 (ad .i64 x19 1))) rfl rfl ?_
      refine WO.step (v := (.int .i64 (ad .i64 x19 1))) rfl rfl ?_
      refine WO.nil ?_
      refine KX.seq_n ?_
      exact ih h  (known_cons rfl (known_cons rfl (known_cons rfl known_nil))) (H.sub (.cons_cons _ .slnil) .slnil)
    · refine WC.condF rfl hc26 ?_
      refine WC.exit ?_
      refine KX.seq_x ?_
      refine KX.seq_x ?_
      obtain rfl := Option.some.inj h
      exact hbrk  (known_cons rfl (known_cons rfl known_nil)) (H.sub (.cons_cons _ .slnil) .slnil)
theorem s28 : ∀ k : Nat, ∀ {a0 : Api_Element} {r : Int}, F28 k a0 = some r → ∀ {vs : List PV}, vs.map PV.strip = [(.agg [(.int .u8 a0.Tag), (.str a0.Body), (encSl e_Api_Element a0.Kids)])] → ∀ S : List SObj, evw env 28 vs S = some ((.int .i64 r), S, false) := by
  intro k
  induction k with
  | zero => intro _ r h; cases h
  | succ k ih =>
    intro a0 r h vs ha S
    rw [F28] at h
    refine evw_pureW (pf := fn28) rfl rfl ha (Nat.le_of_ble_eq_true rfl) (by simp [PV.clean, cleanL, clean_encSl clean_Api_Element]) rfl ?_
    refine WB.of (pf := fn28) rfl ?_
    have H := Hp.start []
    refine WC.seqR ?_
    refine WO.box' rfl rfl rfl rfl H ?_
    intro i1 S hi1 H
    refine WO.step (v := (.int .i64 0)) rfl rfl ?_
    refine WO.nil ?_
    refine WC.seqR ?_
    refine WO.step (v := (.int .i64 0)) rfl rfl ?_
    refine WO.nil ?_
    refine WC.seq ?_
    refine WC.seqR ?_
    refine WO.step (v := (.int .i64 0)) rfl rfl ?_
    refine WO.nil ?_
    obtain ⟨y27, hy27, hOy27⟩ := bindS h
    refine WC.block ?_
    refine l28_L0 ih hi1 ?_ hy27  (known_cons rfl (known_cons rfl (known_cons rfl known_nil))) (H.sub (.cons_cons _ .slnil) .slnil)
    · intro σ S  hk H; replace h := hOy27
      refine KX.of_known hk ?_
      refine KX.block_x ?_
      refine KX.seq_n ?_
      refine WC.seqR ?_
      refine WO.step (v := (.int .i64 y27.1)) rfl rfl ?_
      refine WO.step (v := (.int .i64 (ad .i64 y27.1 1))) rfl rfl ?_
      refine WO.step (v := (.int .i64 (ad .i64 y27.1 1))) rfl rfl ?_
      refine WO.nil ?_
      refine WC.ret ?_
      obtain rfl := Option.some.inj h
      refine KB.ret (vs := [(.int .i64 (ad .i64 y27.1 1))]) (res_tmp rfl res_nil) ?_
      exact rfl
-- 18 prefect/prefectref1.Write
/-- prefect/prefectref1.Write -/
def F18 (k : Nat) (a0 : Api_Element) : Option (Str × Int) :=
  Option.bind (F27 k a0) fun y2 =>
  if !y2 then
  some ([], 14)
  else
  Option.bind (F28 k a0) fun y4 =>
  if decide (y4 > 20) then
  some ([], 12)
  else
  Option.bind (F21 k a0) fun y6 =>
  if !y6.2 then
  some ([], 13)
  else
  some (y6.1, 0)
theorem s18 : ∀ k : Nat, ∀ {a0 : Api_Element} {r : Str × Int}, F18 k a0 = some r → ∀ {vs : List PV}, vs.map PV.strip = [(.agg [(.int .u8 a0.Tag), (.str a0.Body), (encSl e_Api_Element a0.Kids)])] → ∀ S : List SObj, evw env 18 vs S = some ((.tup [(.str r.1), (.int .i64 r.2)]), S, false) := by
  intro k a0 r h vs ha S
  unfold F18 at h
  refine evw_pureW (pf := fn18) rfl rfl ha (Nat.le_of_ble_eq_true rfl) (by simp [PV.clean, cleanL, clean_encSl clean_Api_Element]) rfl ?_
  refine WB.of (pf := fn18) rfl ?_
  have H := Hp.start []
  refine WC.seqR ?_
  refine WO.box' rfl rfl rfl rfl H ?_
  intro i1 S hi1 H
  refine WO.step (v := (.str [])) rfl rfl ?_
  refine WO.step (v := (.int .i64 0)) rfl rfl ?_
  refine WO.nil ?_
  refine WC.seq ?_
  refine WC.seqR ?_
  refine WO.step (v := (.agg [(.int .u8 a0.Tag), (.str a0.Body), (encSl e_Api_Element a0.Kids)])) rfl (stp_load rfl (H.get 0 rfl) rfl) ?_
  obtain ⟨y2, hy2, h⟩ := bindS h
  refine WO.step (v := (.bool y2)) rfl (stp_call (vs := [(.agg [(.int .u8 a0.Tag), (.str a0.Body), (encSl e_Api_Element a0.Kids)])]) rfl rfl (s27 _ hy2 (by simp only [st_agg, List.map_cons, List.map_nil, st1_int, st1_str, strip1_enc, e_Api_Element_eq, tupled]) _)) ?_
  refine WO.step (v := (.bool (!y2))) rfl rfl ?_
  refine WO.nil ?_
  rcases iteS h with ⟨hc10, h⟩ | ⟨hc10, h⟩
  · refine WC.condT rfl hc10 ?_
    refine WC.seqR ?_
    refine WO.step (v := (.str [])) rfl rfl ?_
    refine WO.step (v := (.int .i64 14)) rfl rfl ?_
    refine WO.nil ?_
    refine WC.ret ?_
    refine KX.seq_r ?_
    obtain rfl := Option.some.inj h
    refine KB.ret (vs := [(.str []), (.int .i64 14)]) (res_tmp rfl (res_tmp rfl res_nil)) ?_
    exact rfl
  · refine WC.condF rfl hc10 ?_
    refine WC.skip ?_
    refine KX.seq_n ?_
    refine WC.seq ?_
    refine WC.seqR ?_
    refine WO.step (v := (.agg [(.int .u8 a0.Tag), (.str a0.Body), (encSl e_Api_Element a0.Kids)])) rfl (stp_load rfl (H.get 0 rfl) rfl) ?_
    obtain ⟨y4, hy4, h⟩ := bindS h
    refine WO.step (v := (.int .i64 y4)) rfl (stp_call (vs := [(.agg [(.int .u8 a0.Tag), (.str a0.Body), (encSl e_Api_Element a0.Kids)])]) rfl rfl (s28 _ hy4 (by simp only [st_agg, List.map_cons, List.map_nil, st1_int, st1_str, strip1_enc, e_Api_Element_eq, tupled]) _)) ?_
    refine WO.step (v := (.bool (decide (y4 > 20)))) rfl rfl ?_
    refine WO.nil ?_
    rcases iteS h with ⟨hc9, h⟩ | ⟨hc9, h⟩
    · refine WC.condT rfl hc9 ?_
      refine WC.seqR ?_
      refine WO.step (v := (.str [])) rfl rfl ?_
      refine WO.step (v := (.int .i64 12)) rfl rfl ?_
      refine WO.nil ?_
      refine WC.ret ?_
      refine KX.seq_r ?_
      obtain rfl := Option.some.inj h
      refine KB.ret (vs := [(.str []), (.int .i64 12)]) (res_tmp rfl (res_tmp rfl res_nil)) ?_
      exact rfl
    · refine WC.condF rfl hc9 ?_
      refine WC.skip ?_
      refine KX.seq_n ?_
      refine WC.seqR ?_
      refine WO.step (v := (.agg [(.int .u8 a0.Tag), (.str a0.Body), (encSl e_Api_Element a0.Kids)])) rfl (stp_load rfl (H.get 0 rfl) rfl) ?_
      obtain ⟨y6, hy6, h⟩ := bindS h
      refine WO.step (v := (.tup [(.str y6.1), (.bool y6.2)])) rfl (stp_call (vs := [(.agg [(.int .u8 a0.Tag), (.str a0.Body), (encSl e_Api_Element a0.Kids)])]) rfl rfl (s21 _ hy6 (by simp only [st_agg, List.map_cons, List.map_nil, st1_int, st1_str, strip1_enc, e_Api_Element_eq, tupled]) _)) ?_
      refine WO.step (v := (.tup [(.str y6.1), (.bool y6.2)])) rfl rfl ?_
      refine WO.step (v := (.str y6.1)) rfl rfl ?_
      refine WO.step (v := (.bool y6.2)) rfl rfl ?_
      refine WO.step (v := (.str y6.1)) rfl rfl ?_
      refine WO.step (v := (.bool y6.2)) rfl rfl ?_
      refine WO.nil ?_
      refine WC.seq ?_
      refine WC.seqR ?_
      refine WO.step (v := (.bool y6.2)) rfl rfl ?_
      refine WO.step (v := (.bool (!y6.2))) rfl rfl ?_
      refine WO.nil ?_
      rcases iteS h with ⟨hc8, h⟩ | ⟨hc8, h⟩
      · refine WC.condT rfl hc8 ?_
        refine WC.seqR ?_
        refine WO.step (v := (.str [])) rfl rfl ?_
        refine WO.step (v := (.int .i64 13)) rfl rfl ?_
        refine WO.nil ?_
        refine WC.ret ?_
        refine KX.seq_r ?_
        obtain rfl := Option.some.inj h
        refine KB.ret (vs := [(.str []), (.int .i64 13)]) (res_tmp rfl (res_tmp rfl res_nil)) ?_
        exact rfl
      · refine WC.condF rfl hc8 ?_
        refine WC.skip ?_
        refine KX.seq_n ?_
        refine WC.seqR ?_
        refine WO.step (v := (.str y6.1)) rfl rfl ?_
        refine WO.step (v := (.str y6.1)) rfl rfl ?_
        refine WO.step (v := (.int .i64 0)) rfl rfl ?_
        refine WO.nil ?_
        refine WC.ret ?_
        obtain rfl := Option.some.inj h
        refine KB.ret (vs := [(.str y6.1), (.int .i64 0)]) (res_tmp rfl (res_tmp rfl res_nil)) ?_
        exact rfl
-- 4 prefect/prefectlaw1.BerWrites
/-- prefect/prefectlaw1.BerWrites -/
def F4 (k : Nat) (a0 : Api_Element) (a1 : Api_Element) : Option Bool :=
  Option.bind (F10 k ) fun y3 =>
  if !y3 then
  some false
  else
  Option.bind (F16 k a0 0) fun y5 =>
  Option.bind (if !y5 then
  some true
  else
  Option.bind (F16 k a1 0) fun y11 =>
  some (!y11)) fun y10 =>
  if y10 then
  some true
  else
  Option.bind (F17 k a0) fun y14 =>
  Option.bind (F18 k a0) fun y15 =>
  Option.bind (if (y14.1 == y15.1) && (y14.2 == y15.2) then
  Option.bind (F19 k a0) fun y22 =>
  some (y22 == (y15.2 == 0))
  else
  some false) fun y21 =>
  Option.bind (if y21 then
  Option.bind (F20 k a0 a1) fun y28 =>
  Option.bind (F15 k a0 a1) fun y29 =>
  some (y28 == y29)
  else
  some false) fun y27 =>
  some y27
theorem s4 : ∀ k : Nat, ∀ {a0 : Api_Element} {a1 : Api_Element} {r : Bool}, F4 k a0 a1 = some r → ∀ {vs : List PV}, vs.map PV.strip = [(.agg [(.int .u8 a0.Tag), (.str a0.Body), (encSl e_Api_Element a0.Kids)]), (.agg [(.int .u8 a1.Tag), (.str a1.Body), (encSl e_Api_Element a1.Kids)])] → ∀ S : List SObj, evw env 4 vs S = some ((.bool r), S, false) := by
  intro k a0 a1 r h vs ha S
  unfold F4 at h
  refine evw_pureW (pf := fn4) rfl rfl ha (Nat.le_of_ble_eq_true rfl) (by simp [PV.clean, cleanL, clean_encSl clean_Api_Element]) rfl ?_
  refine WB.of (pf := fn4) rfl ?_
  have H := Hp.start []
  refine WC.seqR ?_
  refine WO.box' rfl rfl rfl rfl H ?_
  intro i1 S hi1 H
  refine WO.box' rfl rfl rfl rfl H ?_
  intro i2 S hi2 H
  refine WO.step (v := (.bool false)) rfl rfl ?_
  refine WO.nil ?_
  refine WC.seq ?_
  refine WC.seqR ?_
  obtain ⟨y3, hy3, h⟩ := bindS h
  refine WO.step (v := (.bool y3)) rfl (stp_call (vs := []) rfl rfl (s10 _ hy3 rfl _)) ?_
  refine WO.step (v := (.bool (!y3))) rfl rfl ?_
  refine WO.nil ?_
  rcases iteS h with ⟨hc32, h⟩ | ⟨hc32, h⟩
  · refine WC.condT rfl hc32 ?_
    refine WC.seqR ?_
    refine WO.step (v := (.bool false)) rfl rfl ?_
    refine WO.nil ?_
    refine WC.ret ?_
    refine KX.seq_r ?_
    obtain rfl := Option.some.inj h
    refine KB.ret (vs := [(.bool false)]) (res_tmp rfl res_nil) ?_
    exact rfl
  · refine WC.condF rfl hc32 ?_
    refine WC.skip ?_
    refine KX.seq_n ?_
    refine WC.seq ?_
    refine WC.seqR ?_
    refine WO.step (v := (.agg [(.int .u8 a0.Tag), (.str a0.Body), (encSl e_Api_Element a0.Kids)])) rfl (stp_load rfl (H.get 1 rfl) rfl) ?_
    obtain ⟨y5, hy5, h⟩ := bindS h
    refine WO.step (v := (.bool y5)) rfl (stp_call (vs := [(.agg [(.int .u8 a0.Tag), (.str a0.Body), (encSl e_Api_Element a0.Kids)]), (.int .i64 0)]) rfl rfl (s16 _ hy5 (by simp only [st_agg, List.map_cons, List.map_nil, st1_int, st1_str, strip1_enc, e_Api_Element_eq, st_int, tupled]) _)) ?_
    refine WO.step (v := (.bool (!y5))) rfl rfl ?_
    refine WO.step (v := (.bool (!y5))) rfl rfl ?_
    obtain ⟨y10, hy10, hOy10⟩ := bindS h
    refine WO.split 4 (fun σ' S' e' => Known ([(2, (.ptr i1 0)), (3, (.ptr i2 0)), (18, (.bool y10))]) σ' ∧ Hp [] [] S' [(i2, [(.int .u8 a1.Tag), (.str a1.Body), (encSl e_Api_Element a1.Kids)]), (i1, [(.int .u8 a0.Tag), (.str a0.Body), (encSl e_Api_Element a0.Kids)])] [] ∧ e' = false) ?_ ?_
    · replace h := hy10
      cases hc12 : (!y5)
      · replace h := iteF h hc12
        refine WO.go0 rfl rfl ?_
        refine WO.step (v := (.agg [(.int .u8 a1.Tag), (.str a1.Body), (encSl e_Api_Element a1.Kids)])) rfl (stp_load rfl (H.get 0 rfl) rfl) ?_
        refine WO.go0 rfl rfl ?_
        obtain ⟨y11, hy11, h⟩ := bindS h
        refine WO.step (v := (.bool y11)) rfl (stp_call (vs := [(.agg [(.int .u8 a1.Tag), (.str a1.Body), (encSl e_Api_Element a1.Kids)]), (.int .i64 0)]) rfl rfl (s16 _ hy11 (by simp only [st_agg, List.map_cons, List.map_nil, st1_int, st1_str, strip1_enc, e_Api_Element_eq, st_int, tupled]) _)) ?_
        refine WO.go0 rfl rfl ?_
        refine WO.step (v := (.bool (!y11))) rfl rfl ?_
        refine WO.step (v := (.bool (!y11))) rfl rfl ?_
        refine WO.nil ?_
        obtain rfl := Option.some.inj h
        exact ⟨(known_cons rfl (known_cons rfl (known_cons rfl known_nil))), (H.sub (.cons_cons _ (.cons_cons _ .slnil)) .slnil), rfl⟩
      · replace h := iteT h hc12
        refine WO.by rfl rfl rfl ?_
        refine WO.by rfl rfl rfl ?_
        refine WO.by rfl rfl rfl ?_
        refine WO.step (v := (.bool true)) rfl rfl ?_
        refine WO.nil ?_
        obtain rfl := Option.some.inj h
        exact ⟨(known_cons rfl (known_cons rfl (known_cons rfl known_nil))), (H.sub (.cons_cons _ (.cons_cons _ .slnil)) .slnil), rfl⟩
    · rintro σ S e ⟨hk, H, rfl⟩
      replace h := hOy10
      refine WO.of_known hk ?_
      refine WO.nil ?_
      rcases iteS h with ⟨hc31, h⟩ | ⟨hc31, h⟩
      · refine WC.condT rfl hc31 ?_
        refine WC.seqR ?_
        refine WO.step (v := (.bool true)) rfl rfl ?_
        refine WO.nil ?_
        refine WC.ret ?_
        refine KX.seq_r ?_
        obtain rfl := Option.some.inj h
        refine KB.ret (vs := [(.bool true)]) (res_tmp rfl res_nil) ?_
        exact rfl
      · refine WC.condF rfl hc31 ?_
        refine WC.skip ?_
        refine KX.seq_n ?_
        refine WC.seqR ?_
        refine WO.step (v := (.agg [(.int .u8 a0.Tag), (.str a0.Body), (encSl e_Api_Element a0.Kids)])) rfl (stp_load rfl (H.get 1 rfl) rfl) ?_
        obtain ⟨y14, hy14, h⟩ := bindS h
        refine WO.step (v := (.tup [(.str y14.1), (.int .i64 y14.2)])) rfl (stp_call (vs := [(.agg [(.int .u8 a0.Tag), (.str a0.Body), (encSl e_Api_Element a0.Kids)])]) rfl rfl (s17 _ hy14 (by simp only [st_agg, List.map_cons, List.map_nil, st1_int, st1_str, strip1_enc, e_Api_Element_eq, tupled]) _)) ?_
        refine WO.step (v := (.tup [(.str y14.1), (.int .i64 y14.2)])) rfl rfl ?_
        refine WO.step (v := (.str y14.1)) rfl rfl ?_
        refine WO.step (v := (.int .i64 y14.2)) rfl rfl ?_
        refine WO.step (v := (.str y14.1)) rfl rfl ?_
        refine WO.step (v := (.int .i64 y14.2)) rfl rfl ?_
        refine WO.nil ?_
        refine WC.seqR ?_
        refine WO.step (v := (.agg [(.int .u8 a0.Tag), (.str a0.Body), (encSl e_Api_Element a0.Kids)])) rfl (stp_load rfl (H.get 1 rfl) rfl) ?_
        obtain ⟨y15, hy15, h⟩ := bindS h
        refine WO.step (v := (.tup [(.str y15.1), (.int .i64 y15.2)])) rfl (stp_call (vs := [(.agg [(.int .u8 a0.Tag), (.str a0.Body), (encSl e_Api_Element a0.Kids)])]) rfl rfl (s18 _ hy15 (by simp only [st_agg, List.map_cons, List.map_nil, st1_int, st1_str, strip1_enc, e_Api_Element_eq, tupled]) _)) ?_
        refine WO.step (v := (.tup [(.str y15.1), (.int .i64 y15.2)])) rfl rfl ?_
        refine WO.step (v := (.str y15.1)) rfl rfl ?_
        refine WO.step (v := (.int .i64 y15.2)) rfl rfl ?_
        refine WO.step (v := (.str y15.1)) rfl rfl ?_
        refine WO.step (v := (.int .i64 y15.2)) rfl rfl ?_
        refine WO.nil ?_
        refine WC.seq ?_
        refine WC.draw ?_
        refine WH.step (v := (.str y14.1)) rfl rfl rfl rfl ?_
        refine WH.step (v := (.str y15.1)) rfl rfl rfl rfl ?_
        refine WH.step (v := (.bool (y14.1 == y15.1))) rfl rfl rfl rfl ?_
        refine WH.step (v := (.bool (y14.1 == y15.1))) rfl rfl rfl rfl ?_
        refine WH.split 4 (fun σ' => Known ([(2, (.ptr i1 0)), (3, (.ptr i2 0)), (8, (.int .i64 y15.2)), (36, (.bool ((y14.1 == y15.1) && (y14.2 == y15.2))))]) σ') ?_ ?_
        · cases hc16 : (y14.1 == y15.1)
          · skip
            refine WH.by rfl rfl rfl ?_
            refine WH.by rfl rfl rfl ?_
            refine WH.by rfl rfl rfl ?_
            refine WH.step (v := (.bool false)) rfl rfl rfl rfl ?_
            refine WH.nil ?_
            exact (known_cons rfl (known_cons rfl (known_cons rfl (known_cons rfl known_nil))))
          · skip
            refine WH.go0 rfl rfl ?_
            refine WH.step (v := (.int .i64 y14.2)) rfl rfl rfl rfl ?_
            refine WH.go0 rfl rfl ?_
            refine WH.step (v := (.int .i64 y15.2)) rfl rfl rfl rfl ?_
            refine WH.go0 rfl rfl ?_
            refine WH.step (v := (.bool (y14.2 == y15.2))) rfl rfl rfl rfl ?_
            refine WH.step (v := (.bool (y14.2 == y15.2))) rfl rfl rfl rfl ?_
            refine WH.nil ?_
            exact (known_cons rfl (known_cons rfl (known_cons rfl (known_cons rfl known_nil))))
        · intro σ hk
          refine WH.of_known hk ?_
          refine WH.step (v := (.bool ((y14.1 == y15.1) && (y14.2 == y15.2)))) rfl rfl rfl rfl ?_
          obtain ⟨y21, hy21, hOy21⟩ := bindS h
          refine WH.split 6 (fun σ' => Known ([(2, (.ptr i1 0)), (3, (.ptr i2 0)), (43, (.bool y21))]) σ') ?_ ?_
          · replace h := hy21
            cases hc23 : ((y14.1 == y15.1) && (y14.2 == y15.2))
            · replace h := iteF h hc23
              refine WH.by rfl rfl rfl ?_
              refine WH.by rfl rfl rfl ?_
              refine WH.by rfl rfl rfl ?_
              refine WH.by rfl rfl rfl ?_
              refine WH.by rfl rfl rfl ?_
              refine WH.step (v := (.bool false)) rfl rfl rfl rfl ?_
              refine WH.nil ?_
              obtain rfl := Option.some.inj h
              exact (known_cons rfl (known_cons rfl (known_cons rfl known_nil)))
            · replace h := iteT h hc23
              refine WH.go0 rfl rfl ?_
              refine WH.step (v := (.agg [(.int .u8 a0.Tag), (.str a0.Body), (encSl e_Api_Element a0.Kids)])) rfl (stp_load rfl (H.get 1 rfl) rfl) rfl rfl ?_
              refine WH.go0 rfl rfl ?_
              obtain ⟨y22, hy22, h⟩ := bindS h
              refine WH.step (v := (.bool y22)) rfl (stp_call (vs := [(.agg [(.int .u8 a0.Tag), (.str a0.Body), (encSl e_Api_Element a0.Kids)])]) rfl rfl (s19 _ hy22 (by simp only [st_agg, List.map_cons, List.map_nil, st1_int, st1_str, strip1_enc, e_Api_Element_eq, tupled]) _)) rfl rfl ?_
              refine WH.go0 rfl rfl ?_
              refine WH.step (v := (.int .i64 y15.2)) rfl rfl rfl rfl ?_
              refine WH.go0 rfl rfl ?_
              refine WH.step (v := (.bool (y15.2 == 0))) rfl rfl rfl rfl ?_
              refine WH.go0 rfl rfl ?_
              refine WH.step (v := (.bool (y22 == (y15.2 == 0)))) rfl rfl rfl rfl ?_
              refine WH.step (v := (.bool (y22 == (y15.2 == 0)))) rfl rfl rfl rfl ?_
              refine WH.nil ?_
              obtain rfl := Option.some.inj h
              exact (known_cons rfl (known_cons rfl (known_cons rfl known_nil)))
          · rintro σ hk
            replace h := hOy21
            refine WH.of_known hk ?_
            refine WH.step (v := (.bool y21)) rfl rfl rfl rfl ?_
            obtain ⟨y27, hy27, hOy27⟩ := bindS h
            refine WD.split 3 (fun σ' S' e' => Known ([(52, (.bool y27))]) σ' ∧ Hp [] [] S' [(i2, [(.int .u8 a1.Tag), (.str a1.Body), (encSl e_Api_Element a1.Kids)]), (i1, [(.int .u8 a0.Tag), (.str a0.Body), (encSl e_Api_Element a0.Kids)])] [] ∧ e' = false) ?_ ?_
            · replace h := hy27
              cases hc30 : y21
              · replace h := iteF h hc30
                refine WH.by rfl rfl rfl ?_
                refine WH.by rfl rfl rfl ?_
                refine WH.by rfl rfl rfl ?_
                refine WH.by rfl rfl rfl ?_
                refine WH.by rfl rfl rfl ?_
                refine WH.nil ?_
                refine WO.by rfl rfl rfl ?_
                refine WO.by rfl rfl rfl ?_
                refine WO.step (v := (.bool false)) rfl rfl ?_
                refine WO.nil ?_
                obtain rfl := Option.some.inj h
                exact ⟨(known_cons rfl known_nil), (H.sub (.cons_cons _ (.cons_cons _ .slnil)) .slnil), rfl⟩
              · replace h := iteT h hc30
                refine WH.go0 rfl rfl ?_
                refine WH.step (v := (.agg [(.int .u8 a0.Tag), (.str a0.Body), (encSl e_Api_Element a0.Kids)])) rfl (stp_load rfl (H.get 1 rfl) rfl) rfl rfl ?_
                refine WH.go0 rfl rfl ?_
                refine WH.step (v := (.agg [(.int .u8 a1.Tag), (.str a1.Body), (encSl e_Api_Element a1.Kids)])) rfl (stp_load rfl (H.get 0 rfl) rfl) rfl rfl ?_
                refine WH.go0 rfl rfl ?_
                obtain ⟨y28, hy28, h⟩ := bindS h
                refine WH.step (v := (.bool y28)) rfl (stp_call (vs := [(.agg [(.int .u8 a0.Tag), (.str a0.Body), (encSl e_Api_Element a0.Kids)]), (.agg [(.int .u8 a1.Tag), (.str a1.Body), (encSl e_Api_Element a1.Kids)])]) rfl rfl (s20 _ hy28 (by simp only [st_agg, List.map_cons, List.map_nil, st1_int, st1_str, strip1_enc, e_Api_Element_eq, tupled]) _)) rfl rfl ?_
                refine WH.go0 rfl rfl ?_
                refine WH.step (v := (.agg [(.int .u8 a0.Tag), (.str a0.Body), (encSl e_Api_Element a0.Kids)])) rfl (stp_load rfl (H.get 1 rfl) rfl) rfl rfl ?_
                refine WH.go0 rfl rfl ?_
                refine WH.step (v := (.agg [(.int .u8 a1.Tag), (.str a1.Body), (encSl e_Api_Element a1.Kids)])) rfl (stp_load rfl (H.get 0 rfl) rfl) rfl rfl ?_
                refine WH.nil ?_
                refine WO.go0 rfl rfl ?_
                obtain ⟨y29, hy29, h⟩ := bindS h
                refine WO.step (v := (.bool y29)) rfl (stp_call (vs := [(.agg [(.int .u8 a0.Tag), (.str a0.Body), (encSl e_Api_Element a0.Kids)]), (.agg [(.int .u8 a1.Tag), (.str a1.Body), (encSl e_Api_Element a1.Kids)])]) rfl rfl (s15 _ hy29 (by simp only [st_agg, List.map_cons, List.map_nil, st1_int, st1_str, strip1_enc, e_Api_Element_eq, tupled]) _)) ?_
                refine WO.go0 rfl rfl ?_
                refine WO.step (v := (.bool (y28 == y29))) rfl rfl ?_
                refine WO.step (v := (.bool (y28 == y29))) rfl rfl ?_
                refine WO.nil ?_
                obtain rfl := Option.some.inj h
                exact ⟨(known_cons rfl known_nil), (H.sub (.cons_cons _ (.cons_cons _ .slnil)) .slnil), rfl⟩
            · rintro σ S e ⟨hk, H, rfl⟩
              replace h := hOy27
              refine WO.of_known hk ?_
              refine WO.step (v := (.bool y27)) rfl rfl ?_
              refine WO.nil ?_
              refine KX.seq_n ?_
              refine WC.ret ?_
              obtain rfl := Option.some.inj h
              refine KB.ret (vs := [(.bool y27)]) (res_tmp rfl res_nil) ?_
              exact rfl
-- 5 prefect/prefectlaw1.BerBack
/-- prefect/prefectlaw1.BerBack -/
def F5 (k : Nat) (a0 : Api_Element) (a1 : Str) (a2 : Int) : Option Bool :=
  Option.bind (F10 k ) fun y2 =>
  if !y2 then
  some false
  else
  Option.bind (F16 k a0 0) fun y4 =>
  if (!y4) || (decide ((Str.len a1) > 100)) then
  some true
  else
  Option.bind (F17 k a0) fun y7 =>
  if y7.2 != 0 then
  Option.bind (if y7.1 == [] then
  Option.bind (F19 k a0) fun y21 =>
  some (!y21)
  else
  some false) fun y20 =>
  some y20
  else
  Option.bind (Str.app? y7.1 a1) fun z23 =>
  Option.bind (F11 k z23) fun y24 =>
  Option.bind (if ((y24.2.2.2 != 0) || (y24.2.1 != (Str.len y7.1))) || (y24.2.2.1 != 0) then
  some true
  else
  Option.bind (F20 k a0 y24.1) fun y33 =>
  some (!y33)) fun y32 =>
  if y32 || (decide ((Str.len y7.1) < 2)) then
  some false
  else
  Option.bind (rem? (cv .i64 a2) (Str.len y7.1)) fun z37 =>
  Option.bind (Str.sub? y7.1 0 z37) fun z38 =>
  Option.bind (F11 k z38) fun y39 =>
  some (((y39.2.2.2 == 10) && ((Sl.len y39.1.Kids) == 0)) && (y39.1.Body == []))
theorem s5 : ∀ k : Nat, ∀ {a0 : Api_Element} {a1 : Str} {a2 : Int} {r : Bool}, F5 k a0 a1 a2 = some r → ∀ {vs : List PV}, vs.map PV.strip = [(.agg [(.int .u8 a0.Tag), (.str a0.Body), (encSl e_Api_Element a0.Kids)]), (.str a1), (.int .u16 a2)] → ∀ S : List SObj, evw env 5 vs S = some ((.bool r), S, false) := by
  intro k a0 a1 a2 r h vs ha S
  unfold F5 at h
  refine evw_pureW (pf := fn5) rfl rfl ha (Nat.le_of_ble_eq_true rfl) (by simp [PV.clean, cleanL, clean_encSl clean_Api_Element]) rfl ?_
  refine WB.of (pf := fn5) rfl ?_
  have H := Hp.start []
  refine WC.seqR ?_
  refine WO.box' rfl rfl rfl rfl H ?_
  intro i1 S hi1 H
  refine WO.step (v := (.bool false)) rfl rfl ?_
  refine WO.nil ?_
  refine WC.seq ?_
  refine WC.seqR ?_
  obtain ⟨y2, hy2, h⟩ := bindS h
  refine WO.step (v := (.bool y2)) rfl (stp_call (vs := []) rfl rfl (s10 _ hy2 rfl _)) ?_
  refine WO.step (v := (.bool (!y2))) rfl rfl ?_
  refine WO.nil ?_
  rcases iteS h with ⟨hc46, h⟩ | ⟨hc46, h⟩
  · refine WC.condT rfl hc46 ?_
    refine WC.seqR ?_
    refine WO.step (v := (.bool false)) rfl rfl ?_
    refine WO.nil ?_
    refine WC.ret ?_
    refine KX.seq_r ?_
    obtain rfl := Option.some.inj h
    refine KB.ret (vs := [(.bool false)]) (res_tmp rfl res_nil) ?_
    exact rfl
  · refine WC.condF rfl hc46 ?_
    refine WC.skip ?_
    refine KX.seq_n ?_
    refine WC.seq ?_
    refine WC.seqR ?_
    refine WO.step (v := (.agg [(.int .u8 a0.Tag), (.str a0.Body), (encSl e_Api_Element a0.Kids)])) rfl (stp_load rfl (H.get 0 rfl) rfl) ?_
    obtain ⟨y4, hy4, h⟩ := bindS h
    refine WO.step (v := (.bool y4)) rfl (stp_call (vs := [(.agg [(.int .u8 a0.Tag), (.str a0.Body), (encSl e_Api_Element a0.Kids)]), (.int .i64 0)]) rfl rfl (s16 _ hy4 (by simp only [st_agg, List.map_cons, List.map_nil, st1_int, st1_str, strip1_enc, e_Api_Element_eq, st_int, tupled]) _)) ?_
    refine WO.step (v := (.bool (!y4))) rfl rfl ?_
    refine WO.step (v := (.bool (!y4))) rfl rfl ?_
    refine WO.split 4 (fun σ' S' e' => Known ([(1, (.str a1)), (2, (.int .u16 a2)), (3, (.ptr i1 0)), (26, (.bool ((!y4) || (decide ((Str.len a1) > 100)))))]) σ' ∧ Hp [] [] S' [(i1, [(.int .u8 a0.Tag), (.str a0.Body), (encSl e_Api_Element a0.Kids)])] [] ∧ e' = false) ?_ ?_
    · cases hc5 : (!y4)
      · skip
        refine WO.go0 rfl rfl ?_
        refine WO.step (v := (.str a1)) rfl rfl ?_
        refine WO.go0 rfl rfl ?_
        refine WO.step (v := (.int .i64 (Str.len a1))) rfl rfl ?_
        refine WO.go0 rfl rfl ?_
        refine WO.step (v := (.bool (decide ((Str.len a1) > 100)))) rfl rfl ?_
        refine WO.step (v := (.bool (decide ((Str.len a1) > 100)))) rfl rfl ?_
        refine WO.nil ?_
        exact ⟨(known_cons rfl (known_cons rfl (known_cons rfl (known_cons rfl known_nil)))), H, rfl⟩
      · skip
        refine WO.by rfl rfl rfl ?_
        refine WO.by rfl rfl rfl ?_
        refine WO.by rfl rfl rfl ?_
        refine WO.step (v := (.bool true)) rfl rfl ?_
        refine WO.nil ?_
        exact ⟨(known_cons rfl (known_cons rfl (known_cons rfl (known_cons rfl known_nil)))), H, rfl⟩
    · rintro σ S e ⟨hk, H, rfl⟩
      refine WO.of_known hk ?_
      refine WO.nil ?_
      rcases iteS h with ⟨hc45, h⟩ | ⟨hc45, h⟩
      · refine WC.condT rfl hc45 ?_
        refine WC.seqR ?_
        refine WO.step (v := (.bool true)) rfl rfl ?_
        refine WO.nil ?_
        refine WC.ret ?_
        refine KX.seq_r ?_
        obtain rfl := Option.some.inj h
        refine KB.ret (vs := [(.bool true)]) (res_tmp rfl res_nil) ?_
        exact rfl
      · refine WC.condF rfl hc45 ?_
        refine WC.skip ?_
        refine KX.seq_n ?_
        refine WC.seqR ?_
        refine WO.step (v := (.agg [(.int .u8 a0.Tag), (.str a0.Body), (encSl e_Api_Element a0.Kids)])) rfl (stp_load rfl (H.get 0 rfl) rfl) ?_
        obtain ⟨y7, hy7, h⟩ := bindS h
        refine WO.step (v := (.tup [(.str y7.1), (.int .i64 y7.2)])) rfl (stp_call (vs := [(.agg [(.int .u8 a0.Tag), (.str a0.Body), (encSl e_Api_Element a0.Kids)])]) rfl rfl (s17 _ hy7 (by simp only [st_agg, List.map_cons, List.map_nil, st1_int, st1_str, strip1_enc, e_Api_Element_eq, tupled]) _)) ?_
        refine WO.step (v := (.tup [(.str y7.1), (.int .i64 y7.2)])) rfl rfl ?_
        refine WO.step (v := (.str y7.1)) rfl rfl ?_
        refine WO.step (v := (.int .i64 y7.2)) rfl rfl ?_
        refine WO.step (v := (.str y7.1)) rfl rfl ?_
        refine WO.step (v := (.int .i64 y7.2)) rfl rfl ?_
        refine WO.nil ?_
        refine WC.seq ?_
        refine WC.seqR ?_
        refine WO.step (v := (.int .i64 y7.2)) rfl rfl ?_
        refine WO.step (v := (.bool (y7.2 != 0))) rfl rfl ?_
        refine WO.nil ?_
        rcases iteS h with ⟨hc44, h⟩ | ⟨hc44, h⟩
        · refine WC.condT rfl hc44 ?_
          refine WC.seqR ?_
          refine WO.step (v := (.str y7.1)) rfl rfl ?_
          refine WO.step (v := (.bool (y7.1 == []))) rfl rfl ?_
          refine WO.step (v := (.bool (y7.1 == []))) rfl rfl ?_
          obtain ⟨y20, hy20, hOy20⟩ := bindS h
          refine WO.split 4 (fun σ' S' e' => Known ([(40, (.bool y20))]) σ' ∧ Hp [] [] S' [(i1, [(.int .u8 a0.Tag), (.str a0.Body), (encSl e_Api_Element a0.Kids)])] [] ∧ e' = false) ?_ ?_
          · replace h := hy20
            cases hc22 : (y7.1 == [])
            · replace h := iteF h hc22
              refine WO.by rfl rfl rfl ?_
              refine WO.by rfl rfl rfl ?_
              refine WO.by rfl rfl rfl ?_
              refine WO.step (v := (.bool false)) rfl rfl ?_
              refine WO.nil ?_
              obtain rfl := Option.some.inj h
              exact ⟨(known_cons rfl known_nil), (H.sub (.cons_cons _ .slnil) .slnil), rfl⟩
            · replace h := iteT h hc22
              refine WO.go0 rfl rfl ?_
              refine WO.step (v := (.agg [(.int .u8 a0.Tag), (.str a0.Body), (encSl e_Api_Element a0.Kids)])) rfl (stp_load rfl (H.get 0 rfl) rfl) ?_
              refine WO.go0 rfl rfl ?_
              obtain ⟨y21, hy21, h⟩ := bindS h
              refine WO.step (v := (.bool y21)) rfl (stp_call (vs := [(.agg [(.int .u8 a0.Tag), (.str a0.Body), (encSl e_Api_Element a0.Kids)])]) rfl rfl (s19 _ hy21 (by simp only [st_agg, List.map_cons, List.map_nil, st1_int, st1_str, strip1_enc, e_Api_Element_eq, tupled]) _)) ?_
              refine WO.go0 rfl rfl ?_
              refine WO.step (v := (.bool (!y21))) rfl rfl ?_
              refine WO.step (v := (.bool (!y21))) rfl rfl ?_
              refine WO.nil ?_
              obtain rfl := Option.some.inj h
              exact ⟨(known_cons rfl known_nil), (H.sub (.cons_cons _ .slnil) .slnil), rfl⟩
          · rintro σ S e ⟨hk, H, rfl⟩
            replace h := hOy20
            refine WO.of_known hk ?_
            refine WO.step (v := (.bool y20)) rfl rfl ?_
            refine WO.nil ?_
            refine WC.ret ?_
            refine KX.seq_r ?_
            obtain rfl := Option.some.inj h
            refine KB.ret (vs := [(.bool y20)]) (res_tmp rfl res_nil) ?_
            exact rfl
        · refine WC.condF rfl hc44 ?_
          refine WC.skip ?_
          refine KX.seq_n ?_
          refine WC.seqR ?_
          refine WO.step (v := (.str y7.1)) rfl rfl ?_
          refine WO.step (v := (.str a1)) rfl rfl ?_
          obtain ⟨z23, hz23, h⟩ := bindS h
          refine WO.step (v := (.str z23)) rfl (stp_strApp rfl rfl hz23) ?_
          obtain ⟨y24, hy24, h⟩ := bindS h
          refine WO.step (v := (.tup [(.agg [(.int .u8 y24.1.Tag), (.str y24.1.Body), (encSl e_Api_Element y24.1.Kids)]), (.int .i64 y24.2.1), (.int .i64 y24.2.2.1), (.int .i64 y24.2.2.2)])) rfl (stp_call (vs := [(.str z23)]) rfl rfl (s11 _ hy24 rfl _)) ?_
          refine WO.step (v := (.tup [(.agg [(.int .u8 y24.1.Tag), (.str y24.1.Body), (encSl e_Api_Element y24.1.Kids)]), (.int .i64 y24.2.1), (.int .i64 y24.2.2.1), (.int .i64 y24.2.2.2)])) rfl rfl ?_
          refine WO.step (v := (.agg [(.int .u8 y24.1.Tag), (.str y24.1.Body), (encSl e_Api_Element y24.1.Kids)])) rfl rfl ?_
          refine WO.step (v := (.int .i64 y24.2.1)) rfl rfl ?_
          refine WO.step (v := (.int .i64 y24.2.2.1)) rfl rfl ?_
          refine WO.step (v := (.int .i64 y24.2.2.2)) rfl rfl ?_
          refine WO.alloc' (ti := ty25) rfl rfl rfl rfl H ?_
          intro i25 S hi25 H
          refine WO.store 0 rfl H rfl rfl rfl rfl rfl rfl rfl (Nat.le_of_ble_eq_true rfl) rfl (own_e hi25) ?_
          intro S H
          replace H : Hp [] [] _ [(i25, [(.int .u8 y24.1.Tag), (.str y24.1.Body), (encSl e_Api_Element y24.1.Kids)]), (i1, [(.int .u8 a0.Tag), (.str a0.Body), (encSl e_Api_Element a0.Kids)])] [] := H
          refine WO.step (v := (.int .i64 y24.2.1)) rfl rfl ?_
          refine WO.step (v := (.int .i64 y24.2.2.1)) rfl rfl ?_
          refine WO.step (v := (.int .i64 y24.2.2.2)) rfl rfl ?_
          refine WO.nil ?_
          refine WC.seq ?_
          refine WC.seqR ?_
          refine WO.step (v := (.int .i64 y24.2.2.2)) rfl rfl ?_
          refine WO.step (v := (.bool (y24.2.2.2 != 0))) rfl rfl ?_
          refine WO.step (v := (.bool (y24.2.2.2 != 0))) rfl rfl ?_
          refine WO.split 5 (fun σ' S' e' => Known ([(2, (.int .u16 a2)), (3, (.ptr i1 0)), (7, (.str y7.1)), (9, (.ptr i25 0)), (11, (.int .i64 y24.2.2.1)), (57, (.bool ((y24.2.2.2 != 0) || (y24.2.1 != (Str.len y7.1)))))]) σ' ∧ Hp [] [] S' [(i25, [(.int .u8 y24.1.Tag), (.str y24.1.Body), (encSl e_Api_Element y24.1.Kids)]), (i1, [(.int .u8 a0.Tag), (.str a0.Body), (encSl e_Api_Element a0.Kids)])] [] ∧ e' = false) ?_ ?_
          · cases hc26 : (y24.2.2.2 != 0)
            · skip
              refine WO.go0 rfl rfl ?_
              refine WO.step (v := (.int .i64 y24.2.1)) rfl rfl ?_
              refine WO.go0 rfl rfl ?_
              refine WO.step (v := (.str y7.1)) rfl rfl ?_
              refine WO.go0 rfl rfl ?_
              refine WO.step (v := (.int .i64 (Str.len y7.1))) rfl rfl ?_
              refine WO.go0 rfl rfl ?_
              refine WO.step (v := (.bool (y24.2.1 != (Str.len y7.1)))) rfl rfl ?_
              refine WO.step (v := (.bool (y24.2.1 != (Str.len y7.1)))) rfl rfl ?_
              refine WO.nil ?_
              exact ⟨(known_cons rfl (known_cons rfl (known_cons rfl (known_cons rfl (known_cons rfl (known_cons rfl known_nil)))))), H, rfl⟩
            · skip
              refine WO.by rfl rfl rfl ?_
              refine WO.by rfl rfl rfl ?_
              refine WO.by rfl rfl rfl ?_
              refine WO.by rfl rfl rfl ?_
              refine WO.step (v := (.bool true)) rfl rfl ?_
              refine WO.nil ?_
              exact ⟨(known_cons rfl (known_cons rfl (known_cons rfl (known_cons rfl (known_cons rfl (known_cons rfl known_nil)))))), H, rfl⟩
          · rintro σ S e ⟨hk, H, rfl⟩
            refine WO.of_known hk ?_
            refine WO.step (v := (.bool ((y24.2.2.2 != 0) || (y24.2.1 != (Str.len y7.1))))) rfl rfl ?_
            refine WO.split 3 (fun σ' S' e' => Known ([(2, (.int .u16 a2)), (3, (.ptr i1 0)), (7, (.str y7.1)), (9, (.ptr i25 0)), (61, (.bool (((y24.2.2.2 != 0) || (y24.2.1 != (Str.len y7.1))) || (y24.2.2.1 != 0))))]) σ' ∧ Hp [] [] S' [(i25, [(.int .u8 y24.1.Tag), (.str y24.1.Body), (encSl e_Api_Element y24.1.Kids)]), (i1, [(.int .u8 a0.Tag), (.str a0.Body), (encSl e_Api_Element a0.Kids)])] [] ∧ e' = false) ?_ ?_
            · cases hc27 : ((y24.2.2.2 != 0) || (y24.2.1 != (Str.len y7.1)))
              · skip
                refine WO.go0 rfl rfl ?_
                refine WO.step (v := (.int .i64 y24.2.2.1)) rfl rfl ?_
                refine WO.go0 rfl rfl ?_
                refine WO.step (v := (.bool (y24.2.2.1 != 0))) rfl rfl ?_
                refine WO.step (v := (.bool (y24.2.2.1 != 0))) rfl rfl ?_
                refine WO.nil ?_
                exact ⟨(known_cons rfl (known_cons rfl (known_cons rfl (known_cons rfl (known_cons rfl known_nil))))), H, rfl⟩
              · skip
                refine WO.by rfl rfl rfl ?_
                refine WO.by rfl rfl rfl ?_
                refine WO.step (v := (.bool true)) rfl rfl ?_
                refine WO.nil ?_
                exact ⟨(known_cons rfl (known_cons rfl (known_cons rfl (known_cons rfl (known_cons rfl known_nil))))), H, rfl⟩
            · rintro σ S e ⟨hk, H, rfl⟩
              refine WO.of_known hk ?_
              refine WO.step (v := (.bool (((y24.2.2.2 != 0) || (y24.2.1 != (Str.len y7.1))) || (y24.2.2.1 != 0)))) rfl rfl ?_
              obtain ⟨y32, hy32, hOy32⟩ := bindS h
              refine WO.split 5 (fun σ' S' e' => Known ([(2, (.int .u16 a2)), (7, (.str y7.1)), (67, (.bool y32))]) σ' ∧ Hp [] [] S' [(i25, [(.int .u8 y24.1.Tag), (.str y24.1.Body), (encSl e_Api_Element y24.1.Kids)]), (i1, [(.int .u8 a0.Tag), (.str a0.Body), (encSl e_Api_Element a0.Kids)])] [] ∧ e' = false) ?_ ?_
              · replace h := hy32
                cases hc34 : (((y24.2.2.2 != 0) || (y24.2.1 != (Str.len y7.1))) || (y24.2.2.1 != 0))
                · replace h := iteF h hc34
                  refine WO.go0 rfl rfl ?_
                  refine WO.step (v := (.agg [(.int .u8 a0.Tag), (.str a0.Body), (encSl e_Api_Element a0.Kids)])) rfl (stp_load rfl (H.get 1 rfl) rfl) ?_
                  refine WO.go0 rfl rfl ?_
                  refine WO.step (v := (.agg [(.int .u8 y24.1.Tag), (.str y24.1.Body), (encSl e_Api_Element y24.1.Kids)])) rfl (stp_load rfl (H.get 0 rfl) rfl) ?_
                  refine WO.go0 rfl rfl ?_
                  obtain ⟨y33, hy33, h⟩ := bindS h
                  refine WO.step (v := (.bool y33)) rfl (stp_call (vs := [(.agg [(.int .u8 a0.Tag), (.str a0.Body), (encSl e_Api_Element a0.Kids)]), (.agg [(.int .u8 y24.1.Tag), (.str y24.1.Body), (encSl e_Api_Element y24.1.Kids)])]) rfl rfl (s20 _ hy33 (by simp only [st_agg, List.map_cons, List.map_nil, st1_int, st1_str, strip1_enc, e_Api_Element_eq, tupled]) _)) ?_
                  refine WO.go0 rfl rfl ?_
                  refine WO.step (v := (.bool (!y33))) rfl rfl ?_
                  refine WO.step (v := (.bool (!y33))) rfl rfl ?_
                  refine WO.nil ?_
                  obtain rfl := Option.some.inj h
                  exact ⟨(known_cons rfl (known_cons rfl (known_cons rfl known_nil))), (H.sub (.cons_cons _ (.cons_cons _ .slnil)) .slnil), rfl⟩
                · replace h := iteT h hc34
                  refine WO.by rfl rfl rfl ?_
                  refine WO.by rfl rfl rfl ?_
                  refine WO.by rfl rfl rfl ?_
                  refine WO.by rfl rfl rfl ?_
                  refine WO.step (v := (.bool true)) rfl rfl ?_
                  refine WO.nil ?_
                  obtain rfl := Option.some.inj h
                  exact ⟨(known_cons rfl (known_cons rfl (known_cons rfl known_nil))), (H.sub (.cons_cons _ (.cons_cons _ .slnil)) .slnil), rfl⟩
              · rintro σ S e ⟨hk, H, rfl⟩
                replace h := hOy32
                refine WO.of_known hk ?_
                refine WO.step (v := (.bool y32)) rfl rfl ?_
                refine WO.split 4 (fun σ' S' e' => Known ([(2, (.int .u16 a2)), (7, (.str y7.1)), (72, (.bool (y32 || (decide ((Str.len y7.1) < 2)))))]) σ' ∧ Hp [] [] S' [(i25, [(.int .u8 y24.1.Tag), (.str y24.1.Body), (encSl e_Api_Element y24.1.Kids)]), (i1, [(.int .u8 a0.Tag), (.str a0.Body), (encSl e_Api_Element a0.Kids)])] [] ∧ e' = false) ?_ ?_
                · cases hc35 : y32
                  · skip
                    refine WO.go0 rfl rfl ?_
                    refine WO.step (v := (.str y7.1)) rfl rfl ?_
                    refine WO.go0 rfl rfl ?_
                    refine WO.step (v := (.int .i64 (Str.len y7.1))) rfl rfl ?_
                    refine WO.go0 rfl rfl ?_
                    refine WO.step (v := (.bool (decide ((Str.len y7.1) < 2)))) rfl rfl ?_
                    refine WO.step (v := (.bool (decide ((Str.len y7.1) < 2)))) rfl rfl ?_
                    refine WO.nil ?_
                    exact ⟨(known_cons rfl (known_cons rfl (known_cons rfl known_nil))), H, rfl⟩
                  · skip
                    refine WO.by rfl rfl rfl ?_
                    refine WO.by rfl rfl rfl ?_
                    refine WO.by rfl rfl rfl ?_
                    refine WO.step (v := (.bool true)) rfl rfl ?_
                    refine WO.nil ?_
                    exact ⟨(known_cons rfl (known_cons rfl (known_cons rfl known_nil))), H, rfl⟩
                · rintro σ S e ⟨hk, H, rfl⟩
                  refine WO.of_known hk ?_
                  refine WO.nil ?_
                  rcases iteS h with ⟨hc43, h⟩ | ⟨hc43, h⟩
                  · refine WC.condT rfl hc43 ?_
                    refine WC.seqR ?_
                    refine WO.step (v := (.bool false)) rfl rfl ?_
                    refine WO.nil ?_
                    refine WC.ret ?_
                    refine KX.seq_r ?_
                    obtain rfl := Option.some.inj h
                    refine KB.ret (vs := [(.bool false)]) (res_tmp rfl res_nil) ?_
                    exact rfl
                  · refine WC.condF rfl hc43 ?_
                    refine WC.skip ?_
                    refine KX.seq_n ?_
                    refine WC.seqR ?_
                    refine WO.step (v := (.str y7.1)) rfl rfl ?_
                    refine WO.step (v := (.int .u16 a2)) rfl rfl ?_
                    refine WO.step (v := (.int .i64 (cv .i64 a2))) rfl rfl ?_
                    refine WO.step (v := (.str y7.1)) rfl rfl ?_
                    refine WO.step (v := (.int .i64 (Str.len y7.1))) rfl rfl ?_
                    obtain ⟨z37, hz37, h⟩ := bindS h
                    refine WO.step (v := (.int .i64 z37)) rfl (stp_rem rfl rfl hz37) ?_
                    obtain ⟨z38, hz38, h⟩ := bindS h
                    refine WO.step (v := (.str z38)) rfl (stp_subStr rfl rfl rfl rfl hz38) ?_
                    obtain ⟨y39, hy39, h⟩ := bindS h
                    refine WO.step (v := (.tup [(.agg [(.int .u8 y39.1.Tag), (.str y39.1.Body), (encSl e_Api_Element y39.1.Kids)]), (.int .i64 y39.2.1), (.int .i64 y39.2.2.1), (.int .i64 y39.2.2.2)])) rfl (stp_call (vs := [(.str z38)]) rfl rfl (s11 _ hy39 rfl _)) ?_
                    refine WO.step (v := (.tup [(.agg [(.int .u8 y39.1.Tag), (.str y39.1.Body), (encSl e_Api_Element y39.1.Kids)]), (.int .i64 y39.2.1), (.int .i64 y39.2.2.1), (.int .i64 y39.2.2.2)])) rfl rfl ?_
                    refine WO.step (v := (.agg [(.int .u8 y39.1.Tag), (.str y39.1.Body), (encSl e_Api_Element y39.1.Kids)])) rfl rfl ?_
                    refine WO.step (v := (.int .i64 y39.2.1)) rfl rfl ?_
                    refine WO.step (v := (.int .i64 y39.2.2.1)) rfl rfl ?_
                    refine WO.step (v := (.int .i64 y39.2.2.2)) rfl rfl ?_
                    refine WO.alloc' (ti := ty25) rfl rfl rfl rfl H ?_
                    intro i40 S hi40 H
                    refine WO.store 0 rfl H rfl rfl rfl rfl rfl rfl rfl (Nat.le_of_ble_eq_true rfl) rfl (own_e hi40) ?_
                    intro S H
                    replace H : Hp [] [] _ [(i40, [(.int .u8 y39.1.Tag), (.str y39.1.Body), (encSl e_Api_Element y39.1.Kids)]), (i25, [(.int .u8 y24.1.Tag), (.str y24.1.Body), (encSl e_Api_Element y24.1.Kids)]), (i1, [(.int .u8 a0.Tag), (.str a0.Body), (encSl e_Api_Element a0.Kids)])] [] := H
                    refine WO.step (v := (.int .i64 y39.2.1)) rfl rfl ?_
                    refine WO.step (v := (.int .i64 y39.2.2.1)) rfl rfl ?_
                    refine WO.step (v := (.int .i64 y39.2.2.2)) rfl rfl ?_
                    refine WO.nil ?_
                    refine WC.seqR ?_
                    refine WO.step (v := (.int .i64 y39.2.2.2)) rfl rfl ?_
                    refine WO.step (v := (.bool (y39.2.2.2 == 10))) rfl rfl ?_
                    refine WO.step (v := (.bool (y39.2.2.2 == 10))) rfl rfl ?_
                    refine WO.split 5 (fun σ' S' e' => Known ([(13, (.ptr i40 0)), (93, (.bool ((y39.2.2.2 == 10) && ((Sl.len y39.1.Kids) == 0))))]) σ' ∧ Hp [] [] S' [(i40, [(.int .u8 y39.1.Tag), (.str y39.1.Body), (encSl e_Api_Element y39.1.Kids)]), (i25, [(.int .u8 y24.1.Tag), (.str y24.1.Body), (encSl e_Api_Element y24.1.Kids)]), (i1, [(.int .u8 a0.Tag), (.str a0.Body), (encSl e_Api_Element a0.Kids)])] [] ∧ e' = false) ?_ ?_
                    · cases hc41 : (y39.2.2.2 == 10)
                      · skip
                        refine WO.by rfl rfl rfl ?_
                        refine WO.by rfl rfl rfl ?_
                        refine WO.by rfl rfl rfl ?_
                        refine WO.by rfl rfl rfl ?_
                        refine WO.step (v := (.bool false)) rfl rfl ?_
                        refine WO.nil ?_
                        exact ⟨(known_cons rfl (known_cons rfl known_nil)), H, rfl⟩
                      · skip
                        refine WO.go0 rfl rfl ?_
                        refine WO.step (v := (.ptr i40 2)) rfl rfl ?_
                        refine WO.go0 rfl rfl ?_
                        refine WO.step (v := (encSl e_Api_Element y39.1.Kids)) rfl (stp_load rfl (H.get 0 rfl) rfl) ?_
                        refine WO.go0 rfl rfl ?_
                        refine WO.step (v := (.int .i64 (Sl.len y39.1.Kids))) rfl (stp_len rfl (isSl_enc _ _) rfl) ?_
                        refine WO.go0 rfl rfl ?_
                        refine WO.step (v := (.bool ((Sl.len y39.1.Kids) == 0))) rfl rfl ?_
                        refine WO.step (v := (.bool ((Sl.len y39.1.Kids) == 0))) rfl rfl ?_
                        refine WO.nil ?_
                        exact ⟨(known_cons rfl (known_cons rfl known_nil)), H, rfl⟩
                    · rintro σ S e ⟨hk, H, rfl⟩
                      refine WO.of_known hk ?_
                      refine WO.step (v := (.bool ((y39.2.2.2 == 10) && ((Sl.len y39.1.Kids) == 0)))) rfl rfl ?_
                      refine WO.split 4 (fun σ' S' e' => Known ([(98, (.bool (((y39.2.2.2 == 10) && ((Sl.len y39.1.Kids) == 0)) && (y39.1.Body == []))))]) σ' ∧ Hp [] [] S' [(i40, [(.int .u8 y39.1.Tag), (.str y39.1.Body), (encSl e_Api_Element y39.1.Kids)]), (i25, [(.int .u8 y24.1.Tag), (.str y24.1.Body), (encSl e_Api_Element y24.1.Kids)]), (i1, [(.int .u8 a0.Tag), (.str a0.Body), (encSl e_Api_Element a0.Kids)])] [] ∧ e' = false) ?_ ?_
                      · cases hc42 : ((y39.2.2.2 == 10) && ((Sl.len y39.1.Kids) == 0))
                        · skip
                          refine WO.by rfl rfl rfl ?_
                          refine WO.by rfl rfl rfl ?_
                          refine WO.by rfl rfl rfl ?_
                          refine WO.step (v := (.bool false)) rfl rfl ?_
                          refine WO.nil ?_
                          exact ⟨(known_cons rfl known_nil), H, rfl⟩
                        · skip
                          refine WO.go0 rfl rfl ?_
                          refine WO.step (v := (.ptr i40 1)) rfl rfl ?_
                          refine WO.go0 rfl rfl ?_
                          refine WO.step (v := (.str y39.1.Body)) rfl (stp_load rfl (H.get 0 rfl) rfl) ?_
                          refine WO.go0 rfl rfl ?_
                          refine WO.step (v := (.bool (y39.1.Body == []))) rfl rfl ?_
                          refine WO.step (v := (.bool (y39.1.Body == []))) rfl rfl ?_
                          refine WO.nil ?_
                          exact ⟨(known_cons rfl known_nil), H, rfl⟩
                      · rintro σ S e ⟨hk, H, rfl⟩
                        refine WO.of_known hk ?_
                        refine WO.step (v := (.bool (((y39.2.2.2 == 10) && ((Sl.len y39.1.Kids) == 0)) && (y39.1.Body == [])))) rfl rfl ?_
                        refine WO.nil ?_
                        refine WC.ret ?_
                        obtain rfl := Option.some.inj h
                        refine KB.ret (vs := [(.bool (((y39.2.2.2 == 10) && ((Sl.len y39.1.Kids) == 0)) && (y39.1.Body == [])))]) (res_tmp rfl res_nil) ?_
                        exact rfl
-- 7 prefect/prefectlaw1.BerDeep
def F7_L0 (k : Nat) (a27 : Int) : Nat → Str → Int → Api_Element → Option (Str × Int × Api_Element)
  | 0, _, _, _ => none
  | n + 1, x28, x29, b30 =>
    if decide (x29 < a27) then
    Option.bind (F21 k (Api_Element.mk 48 [] (some [b30]))) fun y36 =>
    F7_L0 k a27 n y36.1 (ad .i64 x29 1) (Api_Element.mk 48 [] (some [b30]))
    else
    some (x28, x29, b30)
/-- prefect/prefectlaw1.BerDeep -/
def F7 (k : Nat) (a0 : Int) (a1 : Str) : Option Bool :=
  Option.bind (F10 k ) fun y1 =>
  if !y1 then
  some false
  else
  if decide ((Str.len a1) > 60) then
  some true
  else
  Option.bind (rem? a0 4) fun z4 =>
  Option.bind (F21 k (Api_Element.mk 4 a1 none)) fun y6 =>
  Option.bind (F7_L0 k (sb .i64 (ad .i64 (cv .i64 z4) 20) 2) k y6.1 1 (Api_Element.mk 4 a1 none)) fun y39 =>
  Option.bind (F17 k y39.2.2) fun y41 =>
  Option.bind (F11 k y39.1) fun y42 =>
  if decide ((sb .i64 (ad .i64 (cv .i64 z4) 20) 2) > 20) then
  Option.bind (if ((y41.2 == 12) && (y42.2.2.2 == 12)) && (decide (y42.2.2.1 ≥ 40)) then
  Option.bind (F19 k y39.2.2) fun y61 =>
  some (!y61)
  else
  some false) fun y60 =>
  some y60
  else
  Option.bind (if (y41.2 == 0) && (y42.2.2.2 == 0) then
  Option.bind (F19 k y39.2.2) fun y69 =>
  some y69
  else
  some false) fun y68 =>
  some y68
theorem l7_L0 {k : Nat} {a27 : Int} {S0 : List SObj} {R : List Nat} {K : KX} {i5 : Nat} (hi5 : S0.length ≤ i5)  {o : (Str × Int × Api_Element)}
    (hbrk : ∀ {σ' : Nat → PV} {S' : List SObj}, ∀ (v38 : PV) (_ : IsSl e_Api_Element o.2.2.Kids v38), Known [(5, (.int .i64 a27)), (6, (.ptr i5 0)), (7, (.str o.1)), (9, (.int .i64 o.2.1))] σ' → Hp S0 R S' [(i5, [(.int .u8 o.2.2.Tag), (.str o.2.2.Body), v38])] [] → K (.exit 0) σ' S' false) :
    ∀ {n : Nat} {x28 : Str} {x29 : Int} {b30 : Api_Element}, F7_L0 k a27 n x28 x29 b30 = some o → ∀ {σ : Nat → PV} {S : List SObj}, ∀ (v31 : PV) (_ : IsSl e_Api_Element b30.Kids v31), Known [(5, (.int .i64 a27)), (6, (.ptr i5 0)), (7, (.str x28)), (9, (.int .i64 x29))] σ → Hp S0 R S [(i5, [(.int .u8 b30.Tag), (.str b30.Body), v31])] [] → WC env ⟨85, S0.length⟩ (.loop pc7L0) σ S false K := by
  intro n
  induction n with
  | zero => intro _ _ _ h; cases h
  | succ n ih =>
    intro x28 x29 b30 h σ S v31 hv31 hk H
    rw [F7_L0] at h
    refine WC.loop ?_
    refine WC.of_known hk ?_
    refine WC.seq ?_
    refine WC.seqR ?_
    refine WO.step (v := (.int .i64 x29)) rfl rfl ?_
    refine WO.step (v := (.int .i64 a27)) rfl rfl ?_
    refine WO.step (v := (.bool (decide (x29 < a27)))) rfl rfl ?_
    refine WO.nil ?_
    rcases iteS h with ⟨hc37, h⟩ | ⟨hc37, h⟩
    · refine WC.condT rfl hc37 ?_
      refine WC.skip ?_
      refine KX.seq_n ?_
      refine WC.seq ?_
      refine WC.block ?_
      refine WC.seqR ?_
      refine WO.step (v := (.agg [(.int .u8 b30.Tag), (.str b30.Body), v31])) rfl (stp_load rfl (H.get 0 rfl) rfl) ?_
      refine WO.step rfl (stp_buildSlice (ys := [b30]) (f := e_Api_Element) (parts := [(0, (.agg [(.int .u8 b30.Tag), (.str b30.Body), v31]))]) rfl rfl rfl rfl rfl (by simp only [st_agg, List.map_cons, List.map_nil, st1_int, st1_str, hv31.strip1, e_Api_Element_eq, tupled]) (fc ⟨rfl, rfl⟩ (fun p hp => nomatch hp)) rfl) ?_
      have hv35 : IsSl e_Api_Element (some [b30]) _ := ⟨.full, rfl⟩
      refine WO.step (v := (.agg [(.int .u8 48), (.str []), (.lst (List.map e_Api_Element [b30]) .full)])) rfl (stp_build (ti := ty25) rfl rfl rfl rfl rfl (fill_cons rfl rfl rfl rfl (Nat.le_of_ble_eq_true rfl) rfl (fill_cons rfl hv35.one.1 hv35.one.2 rfl (Nat.le_of_ble_eq_true rfl) rfl rfl))) ?_
      refine WO.store 0 rfl H rfl rfl rfl rfl rfl rfl rfl (Nat.le_of_ble_eq_true rfl) rfl (own_e hi5) ?_
      intro S H
      replace H : Hp S0 R _ [(i5, [(.int .u8 48), (.str []), (.lst (List.map e_Api_Element [b30]) .full)])] [] := H
      refine WO.nil ?_
      refine WC.region ?_
      refine WO.step (v := (.agg [(.int .u8 48), (.str []), (.lst (List.map e_Api_Element [b30]) .full)])) rfl (stp_load rfl (H.get 0 rfl) rfl) ?_
      obtain ⟨y36, hy36, h⟩ := bindS h
      refine WO.step (v := (.tup [(.str y36.1), (.bool y36.2)])) rfl (stp_call (vs := [(.agg [(.int .u8 48), (.str []), (.lst (List.map e_Api_Element [b30]) .full)])]) rfl rfl (s21 _ hy36 (by simp only [st_agg, List.map_cons, List.map_nil, st1_int, st1_str, hv35.strip1, st1_lst, encSl_some, eI, eB, eS, e_Api_Element_eq, tupled]) _)) ?_
      refine WO.step (v := (.tup [(.str y36.1), (.bool y36.2)])) rfl rfl ?_
      refine WO.step (v := (.str y36.1)) rfl rfl ?_
      refine WO.step (v := (.bool y36.2)) rfl rfl ?_
      refine WO.step (v := (.str y36.1)) rfl rfl ?_
      refine WO.nil ?_
      refine KX.block_n ?_
      refine KX.seq_n ?_
      refine WC.region ?_
      refine WO.step (v := (.int .i64 x29)) rfl rfl ?_
      refine WO.step (v := (.int .i64 (ad .i64 x29 1))) rfl rfl ?_
      refine WO.step (v := (.int .i64 (ad .i64 x29 1))) rfl rfl ?_
      refine WO.nil ?_
      refine KX.seq_n ?_
      exact ih h (.lst (List.map e_Api_Element [b30]) .full) (hv35) (known_cons rfl (known_cons rfl (known_cons rfl (known_cons rfl known_nil)))) (H.sub (.cons_cons _ .slnil) .slnil)
    · refine WC.condF rfl hc37 ?_
      refine WC.exit ?_
      refine KX.seq_x ?_
      refine KX.seq_x ?_
      obtain rfl := Option.some.inj h
      exact hbrk v31 (hv31) (known_cons rfl (known_cons rfl (known_cons rfl (known_cons rfl known_nil)))) (H.sub (.cons_cons _ .slnil) .slnil)
theorem s7 : ∀ k : Nat, ∀ {a0 : Int} {a1 : Str} {r : Bool}, F7 k a0 a1 = some r → ∀ {vs : List PV}, vs.map PV.strip = [(.int .u8 a0), (.str a1)] → ∀ S : List SObj, evw env 7 vs S = some ((.bool r), S, false) := by
  intro k a0 a1 r h vs ha S
  unfold F7 at h
  refine evw_pureW (pf := fn7) rfl rfl ha (Nat.le_of_ble_eq_true rfl) rfl rfl ?_
  refine WB.of (pf := fn7) rfl ?_
  have H := Hp.start []
  refine WC.seqR ?_
  refine WO.step (v := (.bool false)) rfl rfl ?_
  refine WO.nil ?_
  refine WC.seq ?_
  refine WC.seqR ?_
  obtain ⟨y1, hy1, h⟩ := bindS h
  refine WO.step (v := (.bool y1)) rfl (stp_call (vs := []) rfl rfl (s10 _ hy1 rfl _)) ?_
  refine WO.step (v := (.bool (!y1))) rfl rfl ?_
  refine WO.nil ?_
  rcases iteS h with ⟨hc73, h⟩ | ⟨hc73, h⟩
  · refine WC.condT rfl hc73 ?_
    refine WC.seqR ?_
    refine WO.step (v := (.bool false)) rfl rfl ?_
    refine WO.nil ?_
    refine WC.ret ?_
    refine KX.seq_r ?_
    obtain rfl := Option.some.inj h
    refine KB.ret (vs := [(.bool false)]) (res_tmp rfl res_nil) ?_
    exact rfl
  · refine WC.condF rfl hc73 ?_
    refine WC.skip ?_
    refine KX.seq_n ?_
    refine WC.seq ?_
    refine WC.seqR ?_
    refine WO.step (v := (.str a1)) rfl rfl ?_
    refine WO.step (v := (.int .i64 (Str.len a1))) rfl rfl ?_
    refine WO.step (v := (.bool (decide ((Str.len a1) > 60)))) rfl rfl ?_
    refine WO.nil ?_
    rcases iteS h with ⟨hc72, h⟩ | ⟨hc72, h⟩
    · refine WC.condT rfl hc72 ?_
      refine WC.seqR ?_
      refine WO.step (v := (.bool true)) rfl rfl ?_
      refine WO.nil ?_
      refine WC.ret ?_
      refine KX.seq_r ?_
      obtain rfl := Option.some.inj h
      refine KB.ret (vs := [(.bool true)]) (res_tmp rfl res_nil) ?_
      exact rfl
    · refine WC.condF rfl hc72 ?_
      refine WC.skip ?_
      refine KX.seq_n ?_
      refine WC.seqR ?_
      refine WO.step (v := (.int .u8 a0)) rfl rfl ?_
      obtain ⟨z4, hz4, h⟩ := bindS h
      refine WO.step (v := (.int .u8 z4)) rfl (stp_rem rfl rfl hz4) ?_
      refine WO.step (v := (.int .i64 (cv .i64 z4))) rfl rfl ?_
      refine WO.step (v := (.int .i64 (ad .i64 (cv .i64 z4) 20))) rfl rfl ?_
      refine WO.step (v := (.int .i64 (sb .i64 (ad .i64 (cv .i64 z4) 20) 2))) rfl rfl ?_
      refine WO.step (v := (.int .i64 (sb .i64 (ad .i64 (cv .i64 z4) 20) 2))) rfl rfl ?_
      refine WO.nil ?_
      refine WC.seqR ?_
      refine WO.step (v := (.str a1)) rfl rfl ?_
      refine WO.step (v := (.agg [(.int .u8 4), (.str a1), .nils])) rfl (stp_build (ti := ty25) rfl rfl rfl rfl rfl (fill_cons rfl rfl rfl rfl (Nat.le_of_ble_eq_true rfl) rfl (fill_cons rfl rfl rfl rfl (Nat.le_of_ble_eq_true rfl) rfl rfl))) ?_
      refine WO.alloc' (ti := ty25) rfl rfl rfl rfl H ?_
      intro i5 S hi5 H
      refine WO.store 0 rfl H rfl rfl rfl rfl rfl rfl rfl (Nat.le_of_ble_eq_true rfl) rfl (own_e hi5) ?_
      intro S H
      replace H : Hp [] [] _ [(i5, [(.int .u8 4), (.str a1), .nils])] [] := H
      refine WO.nil ?_
      refine WC.seqR ?_
      refine WO.step (v := (.agg [(.int .u8 4), (.str a1), .nils])) rfl (stp_load rfl (H.get 0 rfl) rfl) ?_
      obtain ⟨y6, hy6, h⟩ := bindS h
      refine WO.step (v := (.tup [(.str y6.1), (.bool y6.2)])) rfl (stp_call (vs := [(.agg [(.int .u8 4), (.str a1), .nils])]) rfl rfl (s21 _ hy6 (by simp only [st_agg, List.map_cons, List.map_nil, st1_int, st1_str, st1_nils, encSl_none, e_Api_Element_eq, tupled]) _)) ?_
      refine WO.step (v := (.tup [(.str y6.1), (.bool y6.2)])) rfl rfl ?_
      refine WO.step (v := (.str y6.1)) rfl rfl ?_
      refine WO.step (v := (.bool y6.2)) rfl rfl ?_
      refine WO.step (v := (.str y6.1)) rfl rfl ?_
      refine WO.step (v := (.bool y6.2)) rfl rfl ?_
      refine WO.nil ?_
      refine WC.seq ?_
      refine WC.seqR ?_
      refine WO.step (v := (.int .i64 1)) rfl rfl ?_
      refine WO.nil ?_
      obtain ⟨y39, hy39, hOy39⟩ := bindS h
      refine WC.block ?_
      refine l7_L0 hi5 ?_ hy39 .nils (isSl_nil _) (known_cons rfl (known_cons rfl (known_cons rfl (known_cons rfl known_nil)))) (H.sub (.cons_cons _ .slnil) .slnil)
      · intro σ S v40 hv40 hk H; replace h := hOy39
        refine KX.of_known hk ?_
        refine KX.block_x ?_
        refine KX.seq_n ?_
        refine WC.seqR ?_
        refine WO.step (v := (.agg [(.int .u8 y39.2.2.Tag), (.str y39.2.2.Body), v40])) rfl (stp_load rfl (H.get 0 rfl) rfl) ?_
        obtain ⟨y41, hy41, h⟩ := bindS h
        refine WO.step (v := (.tup [(.str y41.1), (.int .i64 y41.2)])) rfl (stp_call (vs := [(.agg [(.int .u8 y39.2.2.Tag), (.str y39.2.2.Body), v40])]) rfl rfl (s17 _ hy41 (by simp only [st_agg, List.map_cons, List.map_nil, st1_int, st1_str, hv40.strip1, e_Api_Element_eq, tupled]) _)) ?_
        refine WO.step (v := (.tup [(.str y41.1), (.int .i64 y41.2)])) rfl rfl ?_
        refine WO.step (v := (.str y41.1)) rfl rfl ?_
        refine WO.step (v := (.int .i64 y41.2)) rfl rfl ?_
        refine WO.step (v := (.str y41.1)) rfl rfl ?_
        refine WO.step (v := (.int .i64 y41.2)) rfl rfl ?_
        refine WO.nil ?_
        refine WC.seqR ?_
        refine WO.step (v := (.str y39.1)) rfl rfl ?_
        obtain ⟨y42, hy42, h⟩ := bindS h
        refine WO.step (v := (.tup [(.agg [(.int .u8 y42.1.Tag), (.str y42.1.Body), (encSl e_Api_Element y42.1.Kids)]), (.int .i64 y42.2.1), (.int .i64 y42.2.2.1), (.int .i64 y42.2.2.2)])) rfl (stp_call (vs := [(.str y39.1)]) rfl rfl (s11 _ hy42 rfl _)) ?_
        refine WO.step (v := (.tup [(.agg [(.int .u8 y42.1.Tag), (.str y42.1.Body), (encSl e_Api_Element y42.1.Kids)]), (.int .i64 y42.2.1), (.int .i64 y42.2.2.1), (.int .i64 y42.2.2.2)])) rfl rfl ?_
        refine WO.step (v := (.agg [(.int .u8 y42.1.Tag), (.str y42.1.Body), (encSl e_Api_Element y42.1.Kids)])) rfl rfl ?_
        refine WO.step (v := (.int .i64 y42.2.1)) rfl rfl ?_
        refine WO.step (v := (.int .i64 y42.2.2.1)) rfl rfl ?_
        refine WO.step (v := (.int .i64 y42.2.2.2)) rfl rfl ?_
        refine WO.alloc' (ti := ty25) rfl rfl rfl rfl H ?_
        intro i43 S hi43 H
        refine WO.store 0 rfl H rfl rfl rfl rfl rfl rfl rfl (Nat.le_of_ble_eq_true rfl) rfl (own_e hi43) ?_
        intro S H
        replace H : Hp [] [] _ [(i43, [(.int .u8 y42.1.Tag), (.str y42.1.Body), (encSl e_Api_Element y42.1.Kids)]), (i5, [(.int .u8 y39.2.2.Tag), (.str y39.2.2.Body), v40])] [] := H
        refine WO.step (v := (.int .i64 y42.2.1)) rfl rfl ?_
        refine WO.step (v := (.int .i64 y42.2.2.1)) rfl rfl ?_
        refine WO.step (v := (.int .i64 y42.2.2.2)) rfl rfl ?_
        refine WO.nil ?_
        refine WC.seq ?_
        refine WC.seqR ?_
        refine WO.step (v := (.int .i64 (sb .i64 (ad .i64 (cv .i64 z4) 20) 2))) rfl rfl ?_
        refine WO.step (v := (.bool (decide ((sb .i64 (ad .i64 (cv .i64 z4) 20) 2) > 20)))) rfl rfl ?_
        refine WO.nil ?_
        rcases iteS h with ⟨hc71, h⟩ | ⟨hc71, h⟩
        · refine WC.condT rfl hc71 ?_
          refine WC.seqR ?_
          refine WO.step (v := (.int .i64 y41.2)) rfl rfl ?_
          refine WO.step (v := (.bool (y41.2 == 12))) rfl rfl ?_
          refine WO.step (v := (.bool (y41.2 == 12))) rfl rfl ?_
          refine WO.split 3 (fun σ' S' e' => Known ([(6, (.ptr i5 0)), (14, (.int .i64 y42.2.2.1)), (65, (.bool ((y41.2 == 12) && (y42.2.2.2 == 12))))]) σ' ∧ Hp [] [] S' [(i43, [(.int .u8 y42.1.Tag), (.str y42.1.Body), (encSl e_Api_Element y42.1.Kids)]), (i5, [(.int .u8 y39.2.2.Tag), (.str y39.2.2.Body), v40])] [] ∧ e' = false) ?_ ?_
          · cases hc54 : (y41.2 == 12)
            · skip
              refine WO.by rfl rfl rfl ?_
              refine WO.by rfl rfl rfl ?_
              refine WO.step (v := (.bool false)) rfl rfl ?_
              refine WO.nil ?_
              exact ⟨(known_cons rfl (known_cons rfl (known_cons rfl known_nil))), H, rfl⟩
            · skip
              refine WO.go0 rfl rfl ?_
              refine WO.step (v := (.int .i64 y42.2.2.2)) rfl rfl ?_
              refine WO.go0 rfl rfl ?_
              refine WO.step (v := (.bool (y42.2.2.2 == 12))) rfl rfl ?_
              refine WO.step (v := (.bool (y42.2.2.2 == 12))) rfl rfl ?_
              refine WO.nil ?_
              exact ⟨(known_cons rfl (known_cons rfl (known_cons rfl known_nil))), H, rfl⟩
          · rintro σ S e ⟨hk, H, rfl⟩
            refine WO.of_known hk ?_
            refine WO.step (v := (.bool ((y41.2 == 12) && (y42.2.2.2 == 12)))) rfl rfl ?_
            refine WO.split 3 (fun σ' S' e' => Known ([(6, (.ptr i5 0)), (69, (.bool (((y41.2 == 12) && (y42.2.2.2 == 12)) && (decide (y42.2.2.1 ≥ 40)))))]) σ' ∧ Hp [] [] S' [(i43, [(.int .u8 y42.1.Tag), (.str y42.1.Body), (encSl e_Api_Element y42.1.Kids)]), (i5, [(.int .u8 y39.2.2.Tag), (.str y39.2.2.Body), v40])] [] ∧ e' = false) ?_ ?_
            · cases hc55 : ((y41.2 == 12) && (y42.2.2.2 == 12))
              · skip
                refine WO.by rfl rfl rfl ?_
                refine WO.by rfl rfl rfl ?_
                refine WO.step (v := (.bool false)) rfl rfl ?_
                refine WO.nil ?_
                exact ⟨(known_cons rfl (known_cons rfl known_nil)), H, rfl⟩
              · skip
                refine WO.go0 rfl rfl ?_
                refine WO.step (v := (.int .i64 y42.2.2.1)) rfl rfl ?_
                refine WO.go0 rfl rfl ?_
                refine WO.step (v := (.bool (decide (y42.2.2.1 ≥ 40)))) rfl rfl ?_
                refine WO.step (v := (.bool (decide (y42.2.2.1 ≥ 40)))) rfl rfl ?_
                refine WO.nil ?_
                exact ⟨(known_cons rfl (known_cons rfl known_nil)), H, rfl⟩
            · rintro σ S e ⟨hk, H, rfl⟩
              refine WO.of_known hk ?_
              refine WO.step (v := (.bool (((y41.2 == 12) && (y42.2.2.2 == 12)) && (decide (y42.2.2.1 ≥ 40))))) rfl rfl ?_
              obtain ⟨y60, hy60, hOy60⟩ := bindS h
              refine WO.split 4 (fun σ' S' e' => Known ([(74, (.bool y60))]) σ' ∧ Hp [] [] S' [(i43, [(.int .u8 y42.1.Tag), (.str y42.1.Body), (encSl e_Api_Element y42.1.Kids)]), (i5, [(.int .u8 y39.2.2.Tag), (.str y39.2.2.Body), v40])] [] ∧ e' = false) ?_ ?_
              · replace h := hy60
                cases hc62 : (((y41.2 == 12) && (y42.2.2.2 == 12)) && (decide (y42.2.2.1 ≥ 40)))
                · replace h := iteF h hc62
                  refine WO.by rfl rfl rfl ?_
                  refine WO.by rfl rfl rfl ?_
                  refine WO.by rfl rfl rfl ?_
                  refine WO.step (v := (.bool false)) rfl rfl ?_
                  refine WO.nil ?_
                  obtain rfl := Option.some.inj h
                  exact ⟨(known_cons rfl known_nil), (H.sub (.cons_cons _ (.cons_cons _ .slnil)) .slnil), rfl⟩
                · replace h := iteT h hc62
                  refine WO.go0 rfl rfl ?_
                  refine WO.step (v := (.agg [(.int .u8 y39.2.2.Tag), (.str y39.2.2.Body), v40])) rfl (stp_load rfl (H.get 1 rfl) rfl) ?_
                  refine WO.go0 rfl rfl ?_
                  obtain ⟨y61, hy61, h⟩ := bindS h
                  refine WO.step (v := (.bool y61)) rfl (stp_call (vs := [(.agg [(.int .u8 y39.2.2.Tag), (.str y39.2.2.Body), v40])]) rfl rfl (s19 _ hy61 (by simp only [st_agg, List.map_cons, List.map_nil, st1_int, st1_str, hv40.strip1, e_Api_Element_eq, tupled]) _)) ?_
                  refine WO.go0 rfl rfl ?_
                  refine WO.step (v := (.bool (!y61))) rfl rfl ?_
                  refine WO.step (v := (.bool (!y61))) rfl rfl ?_
                  refine WO.nil ?_
                  obtain rfl := Option.some.inj h
                  exact ⟨(known_cons rfl known_nil), (H.sub (.cons_cons _ (.cons_cons _ .slnil)) .slnil), rfl⟩
              · rintro σ S e ⟨hk, H, rfl⟩
                replace h := hOy60
                refine WO.of_known hk ?_
                refine WO.step (v := (.bool y60)) rfl rfl ?_
                refine WO.nil ?_
                refine WC.ret ?_
                refine KX.seq_r ?_
                obtain rfl := Option.some.inj h
                refine KB.ret (vs := [(.bool y60)]) (res_tmp rfl res_nil) ?_
                exact rfl
        · refine WC.condF rfl hc71 ?_
          refine WC.skip ?_
          refine KX.seq_n ?_
          refine WC.seqR ?_
          refine WO.step (v := (.int .i64 y41.2)) rfl rfl ?_
          refine WO.step (v := (.bool (y41.2 == 0))) rfl rfl ?_
          refine WO.step (v := (.bool (y41.2 == 0))) rfl rfl ?_
          refine WO.split 3 (fun σ' S' e' => Known ([(6, (.ptr i5 0)), (80, (.bool ((y41.2 == 0) && (y42.2.2.2 == 0))))]) σ' ∧ Hp [] [] S' [(i43, [(.int .u8 y42.1.Tag), (.str y42.1.Body), (encSl e_Api_Element y42.1.Kids)]), (i5, [(.int .u8 y39.2.2.Tag), (.str y39.2.2.Body), v40])] [] ∧ e' = false) ?_ ?_
          · cases hc63 : (y41.2 == 0)
            · skip
              refine WO.by rfl rfl rfl ?_
              refine WO.by rfl rfl rfl ?_
              refine WO.step (v := (.bool false)) rfl rfl ?_
              refine WO.nil ?_
              exact ⟨(known_cons rfl (known_cons rfl known_nil)), H, rfl⟩
            · skip
              refine WO.go0 rfl rfl ?_
              refine WO.step (v := (.int .i64 y42.2.2.2)) rfl rfl ?_
              refine WO.go0 rfl rfl ?_
              refine WO.step (v := (.bool (y42.2.2.2 == 0))) rfl rfl ?_
              refine WO.step (v := (.bool (y42.2.2.2 == 0))) rfl rfl ?_
              refine WO.nil ?_
              exact ⟨(known_cons rfl (known_cons rfl known_nil)), H, rfl⟩
          · rintro σ S e ⟨hk, H, rfl⟩
            refine WO.of_known hk ?_
            refine WO.step (v := (.bool ((y41.2 == 0) && (y42.2.2.2 == 0)))) rfl rfl ?_
            obtain ⟨y68, hy68, hOy68⟩ := bindS h
            refine WO.split 3 (fun σ' S' e' => Known ([(84, (.bool y68))]) σ' ∧ Hp [] [] S' [(i43, [(.int .u8 y42.1.Tag), (.str y42.1.Body), (encSl e_Api_Element y42.1.Kids)]), (i5, [(.int .u8 y39.2.2.Tag), (.str y39.2.2.Body), v40])] [] ∧ e' = false) ?_ ?_
            · replace h := hy68
              cases hc70 : ((y41.2 == 0) && (y42.2.2.2 == 0))
              · replace h := iteF h hc70
                refine WO.by rfl rfl rfl ?_
                refine WO.by rfl rfl rfl ?_
                refine WO.step (v := (.bool false)) rfl rfl ?_
                refine WO.nil ?_
                obtain rfl := Option.some.inj h
                exact ⟨(known_cons rfl known_nil), (H.sub (.cons_cons _ (.cons_cons _ .slnil)) .slnil), rfl⟩
              · replace h := iteT h hc70
                refine WO.go0 rfl rfl ?_
                refine WO.step (v := (.agg [(.int .u8 y39.2.2.Tag), (.str y39.2.2.Body), v40])) rfl (stp_load rfl (H.get 1 rfl) rfl) ?_
                refine WO.go0 rfl rfl ?_
                obtain ⟨y69, hy69, h⟩ := bindS h
                refine WO.step (v := (.bool y69)) rfl (stp_call (vs := [(.agg [(.int .u8 y39.2.2.Tag), (.str y39.2.2.Body), v40])]) rfl rfl (s19 _ hy69 (by simp only [st_agg, List.map_cons, List.map_nil, st1_int, st1_str, hv40.strip1, e_Api_Element_eq, tupled]) _)) ?_
                refine WO.step (v := (.bool y69)) rfl rfl ?_
                refine WO.nil ?_
                obtain rfl := Option.some.inj h
                exact ⟨(known_cons rfl known_nil), (H.sub (.cons_cons _ (.cons_cons _ .slnil)) .slnil), rfl⟩
            · rintro σ S e ⟨hk, H, rfl⟩
              replace h := hOy68
              refine WO.of_known hk ?_
              refine WO.step (v := (.bool y68)) rfl rfl ?_
              refine WO.nil ?_
              refine WC.ret ?_
              obtain rfl := Option.some.inj h
              refine KB.ret (vs := [(.bool y68)]) (res_tmp rfl res_nil) ?_
              exact rfl
-- 8 prefect/prefectlaw1.BerRows
def F8_L0 (k : Nat) (a61 : Sl Str) (a62 : Int) : Nat → Int → Int → Api_Element → Option (Out Bool (Int × Int × Api_Element))
  | 0, _, _, _ => none
  | n + 1, x63, x64, b65 =>
    if decide (x64 < (Sl.len a61)) then
    Option.bind (Sl.at? a61 x64) fun y76 =>
    if decide ((Str.len y76) > 60) then
    some (Out.ret true)
    else
    Option.bind (Sl.at? a61 x64) fun y78 =>
    Option.bind (Sl.app? 48 b65.Kids (Sl.l (some [(Api_Element.mk a62 y78 none)]))) fun z80 =>
    Option.bind (Sl.at? a61 x64) fun y82 =>
    F8_L0 k a61 a62 n (ad .i64 (ad .i64 x63 2) (Str.len y82)) (ad .i64 x64 1) (Api_Element.mk b65.Tag b65.Body z80)
    else
    some (Out.brk (x63, x64, b65))
def F8_L2 (k : Nat) (a151 : Sl Str) (a152 : Int) (a154 : Api_Element) : Nat → Int → Option (Out Bool Int)
  | 0, _ => none
  | n + 1, x153 =>
    if decide (x153 < (Sl.len a151)) then
    Option.bind (Sl.at? a154.Kids x153) fun y165 =>
    Option.bind (Sl.at? a151 x153) fun y166 =>
    Option.bind (if !(y165.Body == y166) then
    some true
    else
    Option.bind (Sl.at? a154.Kids x153) fun y170 =>
    some (y170.Tag != a152)) fun y169 =>
    if y169 then
    some (Out.ret false)
    else
    F8_L2 k a151 a152 a154 n (ad .i64 x153 1)
    else
    some (Out.brk x153)
/-- prefect/prefectlaw1.BerRows -/
def F8 (k : Nat) (a0 : Sl Str) (a1 : Int) : Option Bool :=
  Option.bind (F10 k ) fun y1 =>
  if !y1 then
  some false
  else
  if decide ((Sl.len a0) > 12) then
  some true
  else
  Option.bind (F8_L0 k a0 (bAnd .u8 (bNot .u8 a1 32) 254) k 0 0 (Api_Element.mk 49 [] none)) fun y86 =>
  match y86 with
  | .ret y86r => some y86r
  | .brk y86b =>
  Option.bind (F17 k y86b.2.2) fun y88 =>
  Option.bind (F11 k y88.1) fun y89 =>
  Option.bind (if decide (y86b.1 ≥ 128) then
  some 3
  else
  some 2) fun y93 =>
  Option.bind (if decide (y86b.1 ≥ 256) then
  some 4
  else
  some y93) fun y97 =>
  if ((((y88.2 != 0) || (y89.2.2.2 != 0)) || (y89.2.1 != (Str.len y88.1))) || ((Str.len y88.1) != (ad .i64 y86b.1 y97))) || ((Sl.len y89.1.Kids) != (Sl.len a0)) then
  some false
  else
  Option.bind (F8_L2 k a0 (bAnd .u8 (bNot .u8 a1 32) 254) y89.1 k 0) fun y175 =>
  match y175 with
  | .ret y175r => some y175r
  | .brk y175b =>
  some true
theorem l8_L0 {k : Nat} {a61 : Sl Str} {a62 : Int} {S0 : List SObj} {R : List Nat} {K : KX} {i4 : Nat} (hi4 : S0.length ≤ i4)  {o : Out Bool (Int × Int × Api_Element)}
    (hret : ∀ r : Bool, o = .ret r → ∀ {σ' : Nat → PV} {S' : List SObj}, Known [(4, (.bool r))] σ' → Hp S0 R S' [] [] → K .ret σ' S' false)
    (hbrk : ∀ y : Int × Int × Api_Element, o = .brk y → ∀ {σ' : Nat → PV} {S' : List SObj}, ∀ (v85 : PV) (_ : IsSl e_Api_Element y.2.2.Kids v85), Known [(0, (encSl eS a61)), (5, (.int .u8 a62)), (6, (.ptr i4 0)), (7, (.int .i64 y.1)), (8, (.int .i64 y.2.1))] σ' → Hp S0 R S' [(i4, [(.int .u8 y.2.2.Tag), (.str y.2.2.Body), v85])] [(v85, 3)] → K (.exit 0) σ' S' false) :
    ∀ {n : Nat} {x63 : Int} {x64 : Int} {b65 : Api_Element}, F8_L0 k a61 a62 n x63 x64 b65 = some o → ∀ {σ : Nat → PV} {S : List SObj}, ∀ (v66 : PV) (_ : IsSl e_Api_Element b65.Kids v66), Known [(0, (encSl eS a61)), (5, (.int .u8 a62)), (6, (.ptr i4 0)), (7, (.int .i64 x63)), (8, (.int .i64 x64))] σ → Hp S0 R S [(i4, [(.int .u8 b65.Tag), (.str b65.Body), v66])] [(v66, 3)] → WC env ⟨128, S0.length⟩ (.loop pc8L0) σ S false K := by
  intro n
  induction n with
  | zero => intro _ _ _ h; cases h
  | succ n ih =>
    intro x63 x64 b65 h σ S v66 hv66 hk H
    rw [F8_L0] at h
    refine WC.loop ?_
    refine WC.of_known hk ?_
    refine WC.seq ?_
    refine WC.seqR ?_
    refine WO.step (v := (.int .i64 x64)) rfl rfl ?_
    refine WO.step (v := (encSl eS a61)) rfl rfl ?_
    refine WO.step (v := (.int .i64 (Sl.len a61))) rfl (stp_len rfl (isSl_enc _ _) rfl) ?_
    refine WO.step (v := (.bool (decide (x64 < (Sl.len a61))))) rfl rfl ?_
    refine WO.nil ?_
    rcases iteS h with ⟨hc84, h⟩ | ⟨hc84, h⟩
    · refine WC.condT rfl hc84 ?_
      refine WC.skip ?_
      refine KX.seq_n ?_
      refine WC.seq ?_
      refine WC.block ?_
      refine WC.seq ?_
      refine WC.seqR ?_
      refine WO.step (v := (encSl eS a61)) rfl rfl ?_
      refine WO.step (v := (.int .i64 x64)) rfl rfl ?_
      obtain ⟨y76, hy76, h⟩ := bindS h
      refine WO.step (v := (.iptr [(.str y76)] 0)) rfl (stp_idxAddr rfl (isSl_enc _ _) rfl rfl rfl hy76 rfl rfl) ?_
      refine WO.step (v := (.str y76)) rfl rfl ?_
      refine WO.step (v := (.int .i64 (Str.len y76))) rfl rfl ?_
      refine WO.step (v := (.bool (decide ((Str.len y76) > 60)))) rfl rfl ?_
      refine WO.nil ?_
      rcases iteS h with ⟨hc83, h⟩ | ⟨hc83, h⟩
      · refine WC.condT rfl hc83 ?_
        refine WC.seqR ?_
        refine WO.step (v := (.bool true)) rfl rfl ?_
        refine WO.nil ?_
        refine WC.ret ?_
        refine KX.seq_r ?_
        refine KX.block_r ?_
        refine KX.seq_r ?_
        refine KX.seq_r ?_
        obtain rfl := Option.some.inj h
        exact hret _ rfl (known_cons rfl known_nil) (H.sub (.cons _ .slnil) (.cons _ .slnil))
      · refine WC.condF rfl hc83 ?_
        refine WC.skip ?_
        refine KX.seq_n ?_
        refine WC.seq ?_
        refine WC.draw ?_
        refine WH.step (v := (.ptr i4 2)) rfl rfl rfl rfl ?_
        refine WH.step (v := v66) rfl (stp_load rfl (H.get 0 rfl) rfl) rfl rfl ?_
        refine WH.step (v := (.int .u8 a62)) rfl rfl rfl rfl ?_
        refine WH.step (v := (encSl eS a61)) rfl rfl rfl rfl ?_
        refine WH.step (v := (.int .i64 x64)) rfl rfl rfl rfl ?_
        obtain ⟨y78, hy78, h⟩ := bindS h
        refine WH.step (v := (.iptr [(.str y78)] 0)) rfl (stp_idxAddr rfl (isSl_enc _ _) rfl rfl rfl hy78 rfl rfl) rfl rfl ?_
        refine WH.step (v := (.str y78)) rfl rfl rfl rfl ?_
        refine WH.step (v := (.agg [(.int .u8 a62), (.str y78), .nils])) rfl (stp_build (ti := ty25) rfl rfl rfl rfl rfl (fill_cons rfl rfl rfl rfl (Nat.le_of_ble_eq_true rfl) rfl (fill_cons rfl rfl rfl rfl (Nat.le_of_ble_eq_true rfl) rfl rfl))) rfl rfl ?_
        refine WH.step rfl (stp_buildSlice (ys := [(Api_Element.mk a62 y78 none)]) (f := e_Api_Element) (parts := [(0, (.agg [(.int .u8 a62), (.str y78), .nils]))]) rfl rfl rfl rfl rfl (by simp only [st_agg, List.map_cons, List.map_nil, st1_int, st1_str, st1_nils, encSl_none, e_Api_Element_eq, tupled]) (fc ⟨rfl, rfl⟩ (fun p hp => nomatch hp)) rfl) rfl rfl ?_
        have hv79 : IsSl e_Api_Element (some [(Api_Element.mk a62 y78 none)]) _ := ⟨.full, rfl⟩
        refine WH.nil ?_
        obtain ⟨z80, hz80, h⟩ := bindS h
        refine WO.ex rfl (stp_app (f := e_Api_Element) (ei := ty25) H 0 rfl rfl hv66 rfl hv79 rfl rfl rfl rfl (fun a => (e_Api_Element_one a).2.1) hz80) ?_
        rintro v81 S ⟨hv81, H⟩
        replace H : Hp S0 R _ [(i4, [(.int .u8 b65.Tag), (.str b65.Body), v66])] [(v81, 3)] := H
        refine WO.step (v := (.ptr i4 2)) rfl rfl ?_
        refine WO.store 0 rfl H rfl rfl rfl rfl hv81.one.1 hv81.one.2 rfl (Nat.le_of_ble_eq_true rfl) rfl (own_e hi4) ?_
        intro S H
        replace H : Hp S0 R _ [(i4, [(.int .u8 b65.Tag), (.str b65.Body), v81])] [(v81, 3)] := H
        refine WO.nil ?_
        refine KX.seq_n ?_
        refine WC.region ?_
        refine WO.step (v := (.int .i64 x63)) rfl rfl ?_
        refine WO.step (v := (.int .i64 (ad .i64 x63 2))) rfl rfl ?_
        refine WO.step (v := (encSl eS a61)) rfl rfl ?_
        refine WO.step (v := (.int .i64 x64)) rfl rfl ?_
        obtain ⟨y82, hy82, h⟩ := bindS h
        refine WO.step (v := (.iptr [(.str y82)] 0)) rfl (stp_idxAddr rfl (isSl_enc _ _) rfl rfl rfl hy82 rfl rfl) ?_
        refine WO.step (v := (.str y82)) rfl rfl ?_
        refine WO.step (v := (.int .i64 (Str.len y82))) rfl rfl ?_
        refine WO.step (v := (.int .i64 (ad .i64 (ad .i64 x63 2) (Str.len y82)))) rfl rfl ?_
        refine WO.step (v := (.int .i64 (ad .i64 (ad .i64 x63 2) (Str.len y82)))) rfl rfl ?_
        refine WO.nil ?_
        refine KX.block_n ?_
        refine KX.seq_n ?_
        refine WC.region ?_
        refine WO.step (v := (.int .i64 x64)) rfl rfl ?_
        refine WO.step (v := (.int .i64 (ad .i64 x64 1))) rfl rfl ?_
        refine WO.step (v := (.int .i64 (ad .i64 x64 1))) rfl rfl ?_
        refine WO.nil ?_
        refine KX.seq_n ?_
        exact ih h v81 (hv81) (known_cons rfl (known_cons rfl (known_cons rfl (known_cons rfl (known_cons rfl known_nil))))) (H.sub (.cons_cons _ .slnil) (.cons_cons _ .slnil))
    · refine WC.condF rfl hc84 ?_
      refine WC.exit ?_
      refine KX.seq_x ?_
      refine KX.seq_x ?_
      obtain rfl := Option.some.inj h
      exact hbrk _ rfl v66 (hv66) (known_cons rfl (known_cons rfl (known_cons rfl (known_cons rfl (known_cons rfl known_nil))))) (H.sub (.cons_cons _ .slnil) (.cons_cons _ .slnil))
theorem l8_L2 {k : Nat} {a151 : Sl Str} {a152 : Int} {a154 : Api_Element} {S0 : List SObj} {R : List Nat} {K : KX} {i90 : Nat} (hi90 : S0.length ≤ i90)  {o : Out Bool Int}
    (hret : ∀ r : Bool, o = .ret r → ∀ {σ' : Nat → PV} {S' : List SObj}, Known [(4, (.bool r))] σ' → Hp S0 R S' [] [] → K .ret σ' S' false)
    (hbrk : ∀ y : Int, o = .brk y → ∀ {σ' : Nat → PV} {S' : List SObj}, Known [(16, (.int .i64 y))] σ' → Hp S0 R S' [(i90, [(.int .u8 a154.Tag), (.str a154.Body), (encSl e_Api_Element a154.Kids)])] [] → K (.exit 2) σ' S' false) :
    ∀ {n : Nat} {x153 : Int}, F8_L2 k a151 a152 a154 n x153 = some o → ∀ {σ : Nat → PV} {S : List SObj}, Known [(0, (encSl eS a151)), (5, (.int .u8 a152)), (11, (.ptr i90 0)), (16, (.int .i64 x153))] σ → Hp S0 R S [(i90, [(.int .u8 a154.Tag), (.str a154.Body), (encSl e_Api_Element a154.Kids)])] [] → WC env ⟨128, S0.length⟩ (.loop pc8L2) σ S false K := by
  intro n
  induction n with
  | zero => intro _ h; cases h
  | succ n ih =>
    intro x153 h σ S  hk H
    rw [F8_L2] at h
    refine WC.loop ?_
    refine WC.of_known hk ?_
    refine WC.seq ?_
    refine WC.seqR ?_
    refine WO.step (v := (.int .i64 x153)) rfl rfl ?_
    refine WO.step (v := (encSl eS a151)) rfl rfl ?_
    refine WO.step (v := (.int .i64 (Sl.len a151))) rfl (stp_len rfl (isSl_enc _ _) rfl) ?_
    refine WO.step (v := (.bool (decide (x153 < (Sl.len a151))))) rfl rfl ?_
    refine WO.nil ?_
    rcases iteS h with ⟨hc174, h⟩ | ⟨hc174, h⟩
    · refine WC.condT rfl hc174 ?_
      refine WC.skip ?_
      refine KX.seq_n ?_
      refine WC.seq ?_
      refine WC.block ?_
      refine WC.seq ?_
      refine WC.draw ?_
      refine WH.step (v := (.ptr i90 2)) rfl rfl rfl rfl ?_
      refine WH.step (v := (encSl e_Api_Element a154.Kids)) rfl (stp_load rfl (H.get 0 rfl) rfl) rfl rfl ?_
      refine WH.step (v := (.int .i64 x153)) rfl rfl rfl rfl ?_
      obtain ⟨y165, hy165, h⟩ := bindS h
      refine WH.step (v := (.iptr [(.int .u8 y165.Tag), (.str y165.Body), (encSl e_Api_Element y165.Kids)] 0)) rfl (stp_idxAddr rfl (isSl_enc _ _) rfl rfl rfl hy165 (e_Api_Element_cells _) rfl) rfl rfl ?_
      refine WH.step (v := (.iptr [(.int .u8 y165.Tag), (.str y165.Body), (encSl e_Api_Element y165.Kids)] 1)) rfl rfl rfl rfl ?_
      refine WH.step (v := (.str y165.Body)) rfl rfl rfl rfl ?_
      refine WH.step (v := (encSl eS a151)) rfl rfl rfl rfl ?_
      refine WH.step (v := (.int .i64 x153)) rfl rfl rfl rfl ?_
      obtain ⟨y166, hy166, h⟩ := bindS h
      refine WH.step (v := (.iptr [(.str y166)] 0)) rfl (stp_idxAddr rfl (isSl_enc _ _) rfl rfl rfl hy166 rfl rfl) rfl rfl ?_
      refine WH.step (v := (.str y166)) rfl rfl rfl rfl ?_
      refine WH.step (v := (.bool (!(y165.Body == y166)))) rfl rfl rfl rfl ?_
      refine WH.step (v := (.bool (!(y165.Body == y166)))) rfl rfl rfl rfl ?_
      obtain ⟨y169, hy169, hOy169⟩ := bindS h
      refine WD.split 2 (fun σ' S' e' => Known ([(0, (encSl eS a151)), (5, (.int .u8 a152)), (11, (.ptr i90 0)), (16, (.int .i64 x153)), (127, (.bool y169))]) σ' ∧ Hp S0 R S' [(i90, [(.int .u8 a154.Tag), (.str a154.Body), (encSl e_Api_Element a154.Kids)])] [] ∧ e' = false) ?_ ?_
      · replace h := hy169
        cases hc171 : (!(y165.Body == y166))
        · replace h := iteF h hc171
          refine WH.go0 rfl rfl ?_
          refine WH.step (v := (.ptr i90 2)) rfl rfl rfl rfl ?_
          refine WH.go0 rfl rfl ?_
          refine WH.step (v := (encSl e_Api_Element a154.Kids)) rfl (stp_load rfl (H.get 0 rfl) rfl) rfl rfl ?_
          refine WH.go0 rfl rfl ?_
          refine WH.step (v := (.int .i64 x153)) rfl rfl rfl rfl ?_
          refine WH.go0 rfl rfl ?_
          obtain ⟨y170, hy170, h⟩ := bindS h
          refine WH.step (v := (.iptr [(.int .u8 y170.Tag), (.str y170.Body), (encSl e_Api_Element y170.Kids)] 0)) rfl (stp_idxAddr rfl (isSl_enc _ _) rfl rfl rfl hy170 (e_Api_Element_cells _) rfl) rfl rfl ?_
          refine WH.go0 rfl rfl ?_
          refine WH.step (v := (.iptr [(.int .u8 y170.Tag), (.str y170.Body), (encSl e_Api_Element y170.Kids)] 0)) rfl rfl rfl rfl ?_
          refine WH.go0 rfl rfl ?_
          refine WH.step (v := (.int .u8 y170.Tag)) rfl rfl rfl rfl ?_
          refine WH.go0 rfl rfl ?_
          refine WH.step (v := (.int .u8 a152)) rfl rfl rfl rfl ?_
          refine WH.nil ?_
          refine WO.go0 rfl rfl ?_
          refine WO.step (v := (.bool (y170.Tag != a152))) rfl rfl ?_
          refine WO.step (v := (.bool (y170.Tag != a152))) rfl rfl ?_
          refine WO.nil ?_
          obtain rfl := Option.some.inj h
          exact ⟨(known_cons rfl (known_cons rfl (known_cons rfl (known_cons rfl (known_cons rfl known_nil))))), (H.sub (.cons_cons _ .slnil) .slnil), rfl⟩
        · replace h := iteT h hc171
          refine WH.by rfl rfl rfl ?_
          refine WH.by rfl rfl rfl ?_
          refine WH.by rfl rfl rfl ?_
          refine WH.by rfl rfl rfl ?_
          refine WH.by rfl rfl rfl ?_
          refine WH.by rfl rfl rfl ?_
          refine WH.by rfl rfl rfl ?_
          refine WH.nil ?_
          refine WO.by rfl rfl rfl ?_
          refine WO.step (v := (.bool true)) rfl rfl ?_
          refine WO.nil ?_
          obtain rfl := Option.some.inj h
          exact ⟨(known_cons rfl (known_cons rfl (known_cons rfl (known_cons rfl (known_cons rfl known_nil))))), (H.sub (.cons_cons _ .slnil) .slnil), rfl⟩
      · rintro σ S e ⟨hk, H, rfl⟩
        replace h := hOy169
        refine WO.of_known hk ?_
        refine WO.nil ?_
        refine KX.seq_n ?_
        rcases iteS h with ⟨hc173, h⟩ | ⟨hc173, h⟩
        · refine WC.condT rfl hc173 ?_
          refine WC.seqR ?_
          refine WO.step (v := (.bool false)) rfl rfl ?_
          refine WO.nil ?_
          refine WC.ret ?_
          refine KX.block_r ?_
          refine KX.seq_r ?_
          refine KX.seq_r ?_
          obtain rfl := Option.some.inj h
          exact hret _ rfl (known_cons rfl known_nil) (H.sub (.cons _ .slnil) .slnil)
        · refine WC.condF rfl hc173 ?_
          refine WC.skip ?_
          refine KX.block_n ?_
          refine KX.seq_n ?_
          refine WC.region ?_
          refine WO.step (v := (.int .i64 x153)) rfl rfl ?_
          refine WO.step (v := (.int .i64 (ad .i64 x153 1))) rfl rfl ?_
          refine WO.step (v := (.int .i64 (ad .i64 x153 1))) rfl rfl ?_
          refine WO.nil ?_
          refine KX.seq_n ?_
          exact ih h  (known_cons rfl (known_cons rfl (known_cons rfl (known_cons rfl known_nil)))) (H.sub (.cons_cons _ .slnil) .slnil)
    · refine WC.condF rfl hc174 ?_
      refine WC.exit ?_
      refine KX.seq_x ?_
      refine KX.seq_x ?_
      obtain rfl := Option.some.inj h
      exact hbrk _ rfl  (known_cons rfl known_nil) (H.sub (.cons_cons _ .slnil) .slnil)
theorem s8 : ∀ k : Nat, ∀ {a0 : Sl Str} {a1 : Int} {r : Bool}, F8 k a0 a1 = some r → ∀ {vs : List PV}, vs.map PV.strip = [(encSl eS a0), (.int .u8 a1)] → ∀ S : List SObj, evw env 8 vs S = some ((.bool r), S, false) := by
  intro k a0 a1 r h vs ha S
  unfold F8 at h
  refine evw_pureW (pf := fn8) rfl rfl ha (Nat.le_of_ble_eq_true rfl) (by simp [PV.clean, cleanL, clean_encSl clean_eS]) rfl ?_
  refine WB.of (pf := fn8) rfl ?_
  have H := Hp.start []
  refine WC.seqR ?_
  refine WO.step (v := (.bool false)) rfl rfl ?_
  refine WO.nil ?_
  refine WC.seq ?_
  refine WC.seqR ?_
  obtain ⟨y1, hy1, h⟩ := bindS h
  refine WO.step (v := (.bool y1)) rfl (stp_call (vs := []) rfl rfl (s10 _ hy1 rfl _)) ?_
  refine WO.step (v := (.bool (!y1))) rfl rfl ?_
  refine WO.nil ?_
  rcases iteS h with ⟨hc178, h⟩ | ⟨hc178, h⟩
  · refine WC.condT rfl hc178 ?_
    refine WC.seqR ?_
    refine WO.step (v := (.bool false)) rfl rfl ?_
    refine WO.nil ?_
    refine WC.ret ?_
    refine KX.seq_r ?_
    obtain rfl := Option.some.inj h
    refine KB.ret (vs := [(.bool false)]) (res_tmp rfl res_nil) ?_
    exact rfl
  · refine WC.condF rfl hc178 ?_
    refine WC.skip ?_
    refine KX.seq_n ?_
    refine WC.seq ?_
    refine WC.seqR ?_
    refine WO.step (v := (encSl eS a0)) rfl rfl ?_
    refine WO.step (v := (.int .i64 (Sl.len a0))) rfl (stp_len rfl (isSl_enc _ _) rfl) ?_
    refine WO.step (v := (.bool (decide ((Sl.len a0) > 12)))) rfl rfl ?_
    refine WO.nil ?_
    rcases iteS h with ⟨hc177, h⟩ | ⟨hc177, h⟩
    · refine WC.condT rfl hc177 ?_
      refine WC.seqR ?_
      refine WO.step (v := (.bool true)) rfl rfl ?_
      refine WO.nil ?_
      refine WC.ret ?_
      refine KX.seq_r ?_
      obtain rfl := Option.some.inj h
      refine KB.ret (vs := [(.bool true)]) (res_tmp rfl res_nil) ?_
      exact rfl
    · refine WC.condF rfl hc177 ?_
      refine WC.skip ?_
      refine KX.seq_n ?_
      refine WC.seqR ?_
      refine WO.step (v := (.int .u8 a1)) rfl rfl ?_
      refine WO.step (v := (.int .u8 (bNot .u8 a1 32))) rfl rfl ?_
      refine WO.step (v := (.int .u8 (bAnd .u8 (bNot .u8 a1 32) 254))) rfl rfl ?_
      refine WO.step (v := (.int .u8 (bAnd .u8 (bNot .u8 a1 32) 254))) rfl rfl ?_
      refine WO.nil ?_
      refine WC.seqR ?_
      refine WO.step (v := (.agg [(.int .u8 49), (.str []), .nils])) rfl (stp_build (ti := ty25) rfl rfl rfl rfl rfl (fill_cons rfl rfl rfl rfl (Nat.le_of_ble_eq_true rfl) rfl rfl)) ?_
      refine WO.alloc' (ti := ty25) rfl rfl rfl rfl H ?_
      intro i4 S hi4 H
      refine WO.store 0 rfl H rfl rfl rfl rfl rfl rfl rfl (Nat.le_of_ble_eq_true rfl) rfl (own_e hi4) ?_
      intro S H
      replace H : Hp [] [] _ [(i4, [(.int .u8 49), (.str []), .nils])] [] := H
      refine WO.nil ?_
      refine WC.seqR ?_
      refine WO.step (v := (.int .i64 0)) rfl rfl ?_
      refine WO.nil ?_
      refine WC.seq ?_
      refine WC.seqR ?_
      refine WO.step (v := (.int .i64 0)) rfl rfl ?_
      refine WO.nil ?_
      obtain ⟨y86, hy86, hOy86⟩ := bindS h
      refine WC.block ?_
      have H := H.addNil 3
      refine l8_L0 hi4 ?_ ?_ hy86 .nils (isSl_nil _) (known_cons rfl (known_cons rfl (known_cons rfl (known_cons rfl (known_cons rfl known_nil))))) (H.sub (.cons_cons _ .slnil) (.cons_cons _ .slnil))
      · intro y86r he σ S  hk H; subst he; replace h := hOy86; dsimp only at h
        refine KX.of_known hk ?_
        refine KX.block_r ?_
        refine KX.seq_r ?_
        obtain rfl := Option.some.inj h
        refine KB.ret (vs := [(.bool y86r)]) (res_tmp rfl res_nil) ?_
        exact rfl
      · intro y86b he σ S v87 hv87 hk H; subst he; replace h := hOy86; dsimp only at h
        refine KX.of_known hk ?_
        refine KX.block_x ?_
        refine KX.seq_n ?_
        refine WC.seqR ?_
        refine WO.step (v := (.agg [(.int .u8 y86b.2.2.Tag), (.str y86b.2.2.Body), v87])) rfl (stp_load rfl (H.get 0 rfl) rfl) ?_
        obtain ⟨y88, hy88, h⟩ := bindS h
        refine WO.step (v := (.tup [(.str y88.1), (.int .i64 y88.2)])) rfl (stp_call (vs := [(.agg [(.int .u8 y86b.2.2.Tag), (.str y86b.2.2.Body), v87])]) rfl rfl (s17 _ hy88 (by simp only [st_agg, List.map_cons, List.map_nil, st1_int, st1_str, hv87.strip1, e_Api_Element_eq, tupled]) _)) ?_
        refine WO.step (v := (.tup [(.str y88.1), (.int .i64 y88.2)])) rfl rfl ?_
        refine WO.step (v := (.str y88.1)) rfl rfl ?_
        refine WO.step (v := (.int .i64 y88.2)) rfl rfl ?_
        refine WO.step (v := (.str y88.1)) rfl rfl ?_
        refine WO.step (v := (.int .i64 y88.2)) rfl rfl ?_
        refine WO.nil ?_
        refine WC.seqR ?_
        refine WO.step (v := (.str y88.1)) rfl rfl ?_
        obtain ⟨y89, hy89, h⟩ := bindS h
        refine WO.step (v := (.tup [(.agg [(.int .u8 y89.1.Tag), (.str y89.1.Body), (encSl e_Api_Element y89.1.Kids)]), (.int .i64 y89.2.1), (.int .i64 y89.2.2.1), (.int .i64 y89.2.2.2)])) rfl (stp_call (vs := [(.str y88.1)]) rfl rfl (s11 _ hy89 rfl _)) ?_
        refine WO.step (v := (.tup [(.agg [(.int .u8 y89.1.Tag), (.str y89.1.Body), (encSl e_Api_Element y89.1.Kids)]), (.int .i64 y89.2.1), (.int .i64 y89.2.2.1), (.int .i64 y89.2.2.2)])) rfl rfl ?_
        refine WO.step (v := (.agg [(.int .u8 y89.1.Tag), (.str y89.1.Body), (encSl e_Api_Element y89.1.Kids)])) rfl rfl ?_
        refine WO.step (v := (.int .i64 y89.2.1)) rfl rfl ?_
        refine WO.step (v := (.int .i64 y89.2.2.1)) rfl rfl ?_
        refine WO.step (v := (.int .i64 y89.2.2.2)) rfl rfl ?_
        refine WO.alloc' (ti := ty25) rfl rfl rfl rfl H ?_
        intro i90 S hi90 H
        refine WO.store 0 rfl H rfl rfl rfl rfl rfl rfl rfl (Nat.le_of_ble_eq_true rfl) rfl (own_e hi90) ?_
        intro S H
        replace H : Hp [] [] _ [(i90, [(.int .u8 y89.1.Tag), (.str y89.1.Body), (encSl e_Api_Element y89.1.Kids)]), (i4, [(.int .u8 y86b.2.2.Tag), (.str y86b.2.2.Body), v87])] [(v87, 3)] := H
        refine WO.step (v := (.int .i64 y89.2.1)) rfl rfl ?_
        refine WO.step (v := (.int .i64 y89.2.2.1)) rfl rfl ?_
        refine WO.step (v := (.int .i64 y89.2.2.2)) rfl rfl ?_
        refine WO.nil ?_
        refine WC.seqR ?_
        refine WO.step (v := (.int .i64 2)) rfl rfl ?_
        refine WO.nil ?_
        refine WC.seq ?_
        refine WC.seqR ?_
        refine WO.step (v := (.int .i64 y86b.1)) rfl rfl ?_
        refine WO.step (v := (.bool (decide (y86b.1 ≥ 128)))) rfl rfl ?_
        refine WO.nil ?_
        obtain ⟨y93, hy93, hOy93⟩ := bindS h
        refine WC.join (fun σ' S' e' => Known ([(0, (encSl eS a0)), (5, (.int .u8 (bAnd .u8 (bNot .u8 a1 32) 254))), (7, (.int .i64 y86b.1)), (9, (.str y88.1)), (10, (.int .i64 y88.2)), (11, (.ptr i90 0)), (12, (.int .i64 y89.2.1)), (14, (.int .i64 y89.2.2.2)), (15, (.int .i64 y93))]) σ' ∧ Hp [] [] S' [(i90, [(.int .u8 y89.1.Tag), (.str y89.1.Body), (encSl e_Api_Element y89.1.Kids)]), (i4, [(.int .u8 y86b.2.2.Tag), (.str y86b.2.2.Body), v87])] [(v87, 3)] ∧ e' = false) ?_ ?_
        · replace h := hy93
          rcases iteS h with ⟨hc94, h⟩ | ⟨hc94, h⟩
          · refine WC.condT rfl hc94 ?_
            refine WC.region ?_
            refine WO.step (v := (.int .i64 3)) rfl rfl ?_
            refine WO.nil ?_
            refine KX.seq_n ?_
            obtain rfl := Option.some.inj h
            exact ⟨(known_cons rfl (known_cons rfl (known_cons rfl (known_cons rfl (known_cons rfl (known_cons rfl (known_cons rfl (known_cons rfl (known_cons rfl known_nil))))))))), (H.sub (.cons_cons _ (.cons_cons _ .slnil)) (.cons_cons _ .slnil)), rfl⟩
          · refine WC.condF rfl hc94 ?_
            refine WC.skip ?_
            refine KX.seq_n ?_
            obtain rfl := Option.some.inj h
            exact ⟨(known_cons rfl (known_cons rfl (known_cons rfl (known_cons rfl (known_cons rfl (known_cons rfl (known_cons rfl (known_cons rfl (known_cons rfl known_nil))))))))), (H.sub (.cons_cons _ (.cons_cons _ .slnil)) (.cons_cons _ .slnil)), rfl⟩
        · rintro σ S e ⟨hk, H, rfl⟩
          replace h := hOy93
          refine KX.of_known hk ?_
          refine KX.seq_n ?_
          refine WC.seq ?_
          refine WC.seqR ?_
          refine WO.step (v := (.int .i64 y86b.1)) rfl rfl ?_
          refine WO.step (v := (.bool (decide (y86b.1 ≥ 256)))) rfl rfl ?_
          refine WO.nil ?_
          obtain ⟨y97, hy97, hOy97⟩ := bindS h
          refine WC.join (fun σ' S' e' => Known ([(0, (encSl eS a0)), (5, (.int .u8 (bAnd .u8 (bNot .u8 a1 32) 254))), (7, (.int .i64 y86b.1)), (9, (.str y88.1)), (10, (.int .i64 y88.2)), (11, (.ptr i90 0)), (12, (.int .i64 y89.2.1)), (14, (.int .i64 y89.2.2.2)), (15, (.int .i64 y97))]) σ' ∧ Hp [] [] S' [(i90, [(.int .u8 y89.1.Tag), (.str y89.1.Body), (encSl e_Api_Element y89.1.Kids)]), (i4, [(.int .u8 y86b.2.2.Tag), (.str y86b.2.2.Body), v87])] [(v87, 3)] ∧ e' = false) ?_ ?_
          · replace h := hy97
            rcases iteS h with ⟨hc98, h⟩ | ⟨hc98, h⟩
            · refine WC.condT rfl hc98 ?_
              refine WC.region ?_
              refine WO.step (v := (.int .i64 4)) rfl rfl ?_
              refine WO.nil ?_
              refine KX.seq_n ?_
              obtain rfl := Option.some.inj h
              exact ⟨(known_cons rfl (known_cons rfl (known_cons rfl (known_cons rfl (known_cons rfl (known_cons rfl (known_cons rfl (known_cons rfl (known_cons rfl known_nil))))))))), (H.sub (.cons_cons _ (.cons_cons _ .slnil)) (.cons_cons _ .slnil)), rfl⟩
            · refine WC.condF rfl hc98 ?_
              refine WC.skip ?_
              refine KX.seq_n ?_
              obtain rfl := Option.some.inj h
              exact ⟨(known_cons rfl (known_cons rfl (known_cons rfl (known_cons rfl (known_cons rfl (known_cons rfl (known_cons rfl (known_cons rfl (known_cons rfl known_nil))))))))), (H.sub (.cons_cons _ (.cons_cons _ .slnil)) (.cons_cons _ .slnil)), rfl⟩
          · rintro σ S e ⟨hk, H, rfl⟩
            replace h := hOy97
            refine KX.of_known hk ?_
            refine KX.seq_n ?_
            refine WC.seq ?_
            refine WC.seqR ?_
            refine WO.step (v := (.int .i64 y88.2)) rfl rfl ?_
            refine WO.step (v := (.bool (y88.2 != 0))) rfl rfl ?_
            refine WO.step (v := (.bool (y88.2 != 0))) rfl rfl ?_
            refine WO.split 3 (fun σ' S' e' => Known ([(0, (encSl eS a0)), (5, (.int .u8 (bAnd .u8 (bNot .u8 a1 32) 254))), (7, (.int .i64 y86b.1)), (9, (.str y88.1)), (11, (.ptr i90 0)), (12, (.int .i64 y89.2.1)), (15, (.int .i64 y97)), (78, (.bool ((y88.2 != 0) || (y89.2.2.2 != 0))))]) σ' ∧ Hp [] [] S' [(i90, [(.int .u8 y89.1.Tag), (.str y89.1.Body), (encSl e_Api_Element y89.1.Kids)]), (i4, [(.int .u8 y86b.2.2.Tag), (.str y86b.2.2.Body), v87])] [(v87, 3)] ∧ e' = false) ?_ ?_
            · cases hc99 : (y88.2 != 0)
              · skip
                refine WO.go0 rfl rfl ?_
                refine WO.step (v := (.int .i64 y89.2.2.2)) rfl rfl ?_
                refine WO.go0 rfl rfl ?_
                refine WO.step (v := (.bool (y89.2.2.2 != 0))) rfl rfl ?_
                refine WO.step (v := (.bool (y89.2.2.2 != 0))) rfl rfl ?_
                refine WO.nil ?_
                exact ⟨(known_cons rfl (known_cons rfl (known_cons rfl (known_cons rfl (known_cons rfl (known_cons rfl (known_cons rfl (known_cons rfl known_nil)))))))), H, rfl⟩
              · skip
                refine WO.by rfl rfl rfl ?_
                refine WO.by rfl rfl rfl ?_
                refine WO.step (v := (.bool true)) rfl rfl ?_
                refine WO.nil ?_
                exact ⟨(known_cons rfl (known_cons rfl (known_cons rfl (known_cons rfl (known_cons rfl (known_cons rfl (known_cons rfl (known_cons rfl known_nil)))))))), H, rfl⟩
            · rintro σ S e ⟨hk, H, rfl⟩
              refine WO.of_known hk ?_
              refine WO.step (v := (.bool ((y88.2 != 0) || (y89.2.2.2 != 0)))) rfl rfl ?_
              refine WO.split 5 (fun σ' S' e' => Known ([(0, (encSl eS a0)), (5, (.int .u8 (bAnd .u8 (bNot .u8 a1 32) 254))), (7, (.int .i64 y86b.1)), (9, (.str y88.1)), (11, (.ptr i90 0)), (15, (.int .i64 y97)), (84, (.bool (((y88.2 != 0) || (y89.2.2.2 != 0)) || (y89.2.1 != (Str.len y88.1)))))]) σ' ∧ Hp [] [] S' [(i90, [(.int .u8 y89.1.Tag), (.str y89.1.Body), (encSl e_Api_Element y89.1.Kids)]), (i4, [(.int .u8 y86b.2.2.Tag), (.str y86b.2.2.Body), v87])] [(v87, 3)] ∧ e' = false) ?_ ?_
              · cases hc100 : ((y88.2 != 0) || (y89.2.2.2 != 0))
                · skip
                  refine WO.go0 rfl rfl ?_
                  refine WO.step (v := (.int .i64 y89.2.1)) rfl rfl ?_
                  refine WO.go0 rfl rfl ?_
                  refine WO.step (v := (.str y88.1)) rfl rfl ?_
                  refine WO.go0 rfl rfl ?_
                  refine WO.step (v := (.int .i64 (Str.len y88.1))) rfl rfl ?_
                  refine WO.go0 rfl rfl ?_
                  refine WO.step (v := (.bool (y89.2.1 != (Str.len y88.1)))) rfl rfl ?_
                  refine WO.step (v := (.bool (y89.2.1 != (Str.len y88.1)))) rfl rfl ?_
                  refine WO.nil ?_
                  exact ⟨(known_cons rfl (known_cons rfl (known_cons rfl (known_cons rfl (known_cons rfl (known_cons rfl (known_cons rfl known_nil))))))), H, rfl⟩
                · skip
                  refine WO.by rfl rfl rfl ?_
                  refine WO.by rfl rfl rfl ?_
                  refine WO.by rfl rfl rfl ?_
                  refine WO.by rfl rfl rfl ?_
                  refine WO.step (v := (.bool true)) rfl rfl ?_
                  refine WO.nil ?_
                  exact ⟨(known_cons rfl (known_cons rfl (known_cons rfl (known_cons rfl (known_cons rfl (known_cons rfl (known_cons rfl known_nil))))))), H, rfl⟩
              · rintro σ S e ⟨hk, H, rfl⟩
                refine WO.of_known hk ?_
                refine WO.step (v := (.bool (((y88.2 != 0) || (y89.2.2.2 != 0)) || (y89.2.1 != (Str.len y88.1))))) rfl rfl ?_
                refine WO.split 7 (fun σ' S' e' => Known ([(0, (encSl eS a0)), (5, (.int .u8 (bAnd .u8 (bNot .u8 a1 32) 254))), (11, (.ptr i90 0)), (92, (.bool ((((y88.2 != 0) || (y89.2.2.2 != 0)) || (y89.2.1 != (Str.len y88.1))) || ((Str.len y88.1) != (ad .i64 y86b.1 y97)))))]) σ' ∧ Hp [] [] S' [(i90, [(.int .u8 y89.1.Tag), (.str y89.1.Body), (encSl e_Api_Element y89.1.Kids)]), (i4, [(.int .u8 y86b.2.2.Tag), (.str y86b.2.2.Body), v87])] [(v87, 3)] ∧ e' = false) ?_ ?_
                · cases hc101 : (((y88.2 != 0) || (y89.2.2.2 != 0)) || (y89.2.1 != (Str.len y88.1)))
                  · skip
                    refine WO.go0 rfl rfl ?_
                    refine WO.step (v := (.str y88.1)) rfl rfl ?_
                    refine WO.go0 rfl rfl ?_
                    refine WO.step (v := (.int .i64 (Str.len y88.1))) rfl rfl ?_
                    refine WO.go0 rfl rfl ?_
                    refine WO.step (v := (.int .i64 y86b.1)) rfl rfl ?_
                    refine WO.go0 rfl rfl ?_
                    refine WO.step (v := (.int .i64 y97)) rfl rfl ?_
                    refine WO.go0 rfl rfl ?_
                    refine WO.step (v := (.int .i64 (ad .i64 y86b.1 y97))) rfl rfl ?_
                    refine WO.go0 rfl rfl ?_
                    refine WO.step (v := (.bool ((Str.len y88.1) != (ad .i64 y86b.1 y97)))) rfl rfl ?_
                    refine WO.step (v := (.bool ((Str.len y88.1) != (ad .i64 y86b.1 y97)))) rfl rfl ?_
                    refine WO.nil ?_
                    exact ⟨(known_cons rfl (known_cons rfl (known_cons rfl (known_cons rfl known_nil)))), H, rfl⟩
                  · skip
                    refine WO.by rfl rfl rfl ?_
                    refine WO.by rfl rfl rfl ?_
                    refine WO.by rfl rfl rfl ?_
                    refine WO.by rfl rfl rfl ?_
                    refine WO.by rfl rfl rfl ?_
                    refine WO.by rfl rfl rfl ?_
                    refine WO.step (v := (.bool true)) rfl rfl ?_
                    refine WO.nil ?_
                    exact ⟨(known_cons rfl (known_cons rfl (known_cons rfl (known_cons rfl known_nil)))), H, rfl⟩
                · rintro σ S e ⟨hk, H, rfl⟩
                  refine WO.of_known hk ?_
                  refine WO.step (v := (.bool ((((y88.2 != 0) || (y89.2.2.2 != 0)) || (y89.2.1 != (Str.len y88.1))) || ((Str.len y88.1) != (ad .i64 y86b.1 y97))))) rfl rfl ?_
                  refine WO.split 7 (fun σ' S' e' => Known ([(0, (encSl eS a0)), (5, (.int .u8 (bAnd .u8 (bNot .u8 a1 32) 254))), (11, (.ptr i90 0)), (100, (.bool (((((y88.2 != 0) || (y89.2.2.2 != 0)) || (y89.2.1 != (Str.len y88.1))) || ((Str.len y88.1) != (ad .i64 y86b.1 y97))) || ((Sl.len y89.1.Kids) != (Sl.len a0)))))]) σ' ∧ Hp [] [] S' [(i90, [(.int .u8 y89.1.Tag), (.str y89.1.Body), (encSl e_Api_Element y89.1.Kids)]), (i4, [(.int .u8 y86b.2.2.Tag), (.str y86b.2.2.Body), v87])] [(v87, 3)] ∧ e' = false) ?_ ?_
                  · cases hc102 : ((((y88.2 != 0) || (y89.2.2.2 != 0)) || (y89.2.1 != (Str.len y88.1))) || ((Str.len y88.1) != (ad .i64 y86b.1 y97)))
                    · skip
                      refine WO.go0 rfl rfl ?_
                      refine WO.step (v := (.ptr i90 2)) rfl rfl ?_
                      refine WO.go0 rfl rfl ?_
                      refine WO.step (v := (encSl e_Api_Element y89.1.Kids)) rfl (stp_load rfl (H.get 0 rfl) rfl) ?_
                      refine WO.go0 rfl rfl ?_
                      refine WO.step (v := (.int .i64 (Sl.len y89.1.Kids))) rfl (stp_len rfl (isSl_enc _ _) rfl) ?_
                      refine WO.go0 rfl rfl ?_
                      refine WO.step (v := (encSl eS a0)) rfl rfl ?_
                      refine WO.go0 rfl rfl ?_
                      refine WO.step (v := (.int .i64 (Sl.len a0))) rfl (stp_len rfl (isSl_enc _ _) rfl) ?_
                      refine WO.go0 rfl rfl ?_
                      refine WO.step (v := (.bool ((Sl.len y89.1.Kids) != (Sl.len a0)))) rfl rfl ?_
                      refine WO.step (v := (.bool ((Sl.len y89.1.Kids) != (Sl.len a0)))) rfl rfl ?_
                      refine WO.nil ?_
                      exact ⟨(known_cons rfl (known_cons rfl (known_cons rfl (known_cons rfl known_nil)))), H, rfl⟩
                    · skip
                      refine WO.by rfl rfl rfl ?_
                      refine WO.by rfl rfl rfl ?_
                      refine WO.by rfl rfl rfl ?_
                      refine WO.by rfl rfl rfl ?_
                      refine WO.by rfl rfl rfl ?_
                      refine WO.by rfl rfl rfl ?_
                      refine WO.step (v := (.bool true)) rfl rfl ?_
                      refine WO.nil ?_
                      exact ⟨(known_cons rfl (known_cons rfl (known_cons rfl (known_cons rfl known_nil)))), H, rfl⟩
                  · rintro σ S e ⟨hk, H, rfl⟩
                    refine WO.of_known hk ?_
                    refine WO.nil ?_
                    rcases iteS h with ⟨hc176, h⟩ | ⟨hc176, h⟩
                    · refine WC.condT rfl hc176 ?_
                      refine WC.seqR ?_
                      refine WO.step (v := (.bool false)) rfl rfl ?_
                      refine WO.nil ?_
                      refine WC.ret ?_
                      refine KX.seq_r ?_
                      obtain rfl := Option.some.inj h
                      refine KB.ret (vs := [(.bool false)]) (res_tmp rfl res_nil) ?_
                      exact rfl
                    · refine WC.condF rfl hc176 ?_
                      refine WC.skip ?_
                      refine KX.seq_n ?_
                      refine WC.seq ?_
                      refine WC.seqR ?_
                      refine WO.step (v := (.int .i64 0)) rfl rfl ?_
                      refine WO.nil ?_
                      obtain ⟨y175, hy175, hOy175⟩ := bindS h
                      refine WC.block ?_
                      refine l8_L2 hi90 ?_ ?_ hy175  (known_cons rfl (known_cons rfl (known_cons rfl (known_cons rfl known_nil)))) (H.sub (.cons_cons _ (.cons _ .slnil)) (.cons _ .slnil))
                      · intro y175r he σ S  hk H; subst he; replace h := hOy175; dsimp only at h
                        refine KX.of_known hk ?_
                        refine KX.block_r ?_
                        refine KX.seq_r ?_
                        obtain rfl := Option.some.inj h
                        refine KB.ret (vs := [(.bool y175r)]) (res_tmp rfl res_nil) ?_
                        exact rfl
                      · intro y175b he σ S  hk H; subst he; replace h := hOy175; dsimp only at h
                        refine KX.of_known hk ?_
                        refine KX.block_x ?_
                        refine KX.seq_n ?_
                        refine WC.seqR ?_
                        refine WO.step (v := (.bool true)) rfl rfl ?_
                        refine WO.nil ?_
                        refine WC.ret ?_
                        obtain rfl := Option.some.inj h
                        refine KB.ret (vs := [(.bool true)]) (res_tmp rfl res_nil) ?_
                        exact rfl
-- 9 prefect/prefectlaw1.BerInner
def F9_L0 (k : Nat) (a18 : Int) (a19 : Int) : Nat → Str → Int → Option (Str × Int)
  | 0, _, _ => none
  | n + 1, x20, x21 =>
    if decide (x21 < a19) then
    Option.bind (Str.app? x20 [4, 1, 120]) fun z24 =>
    F9_L0 k a18 a19 n z24 (ad .i64 x21 1)
    else
    some (x20, x21)
/-- prefect/prefectlaw1.BerInner -/
def F9 (k : Nat) (a0 : Int) (a1 : Int) (a2 : Int) : Option Bool :=
  Option.bind (F10 k ) fun y1 =>
  if !y1 then
  some false
  else
  Option.bind (rem? a0 10) fun z3 =>
  Option.bind (F9_L0 k a2 (cv .i64 z3) k [] 0) fun y26 =>
  Option.bind (rem? a2 4) fun z27 =>
  Option.bind (if z27 == 1 then
  some ([31, 0], 14)
  else
  Option.bind (if z27 == 2 then
  some [4, 127]
  else
  Option.bind (if z27 == 3 then
  some [4]
  else
  some [4, 128]) fun y128 =>
  some y128) fun y125 =>
  some (y125, 11)) fun y114 =>
  Option.bind (Str.app? (Str.of (some [48, cv .u8 (ad .i64 (Str.len y26.1) (Str.len y114.1))])) y26.1) fun z133 =>
  Option.bind (Str.app? z133 y114.1) fun z134 =>
  Option.bind (F11 k z134) fun y135 =>
  some (((((y135.2.2.2 == y114.2) && (y135.2.2.1 == (ad .i64 2 (Str.len y26.1)))) && (y135.2.1 == 0)) && ((Sl.len y135.1.Kids) == 0)) && (y135.1.Tag == 0))
theorem l9_L0 {k : Nat} {a18 : Int} {a19 : Int} {S0 : List SObj} {R : List Nat} {K : KX}  {o : (Str × Int)}
    (hbrk : ∀ {σ' : Nat → PV} {S' : List SObj}, Known [(2, (.int .u8 a18)), (8, (.str o.1)), (9, (.int .i64 o.2))] σ' → Hp S0 R S' [] [] → K (.exit 0) σ' S' false) :
    ∀ {n : Nat} {x20 : Str} {x21 : Int}, F9_L0 k a18 a19 n x20 x21 = some o → ∀ {σ : Nat → PV} {S : List SObj}, Known [(2, (.int .u8 a18)), (7, (.int .i64 a19)), (8, (.str x20)), (9, (.int .i64 x21))] σ → Hp S0 R S [] [] → WC env ⟨81, S0.length⟩ (.loop pc9L0) σ S false K := by
  intro n
  induction n with
  | zero => intro _ _ h; cases h
  | succ n ih =>
    intro x20 x21 h σ S  hk H
    rw [F9_L0] at h
    refine WC.loop ?_
    refine WC.of_known hk ?_
    refine WC.seq ?_
    refine WC.seqR ?_
    refine WO.step (v := (.int .i64 x21)) rfl rfl ?_
    refine WO.step (v := (.int .i64 a19)) rfl rfl ?_
    refine WO.step (v := (.bool (decide (x21 < a19)))) rfl rfl ?_
    refine WO.nil ?_
    rcases iteS h with ⟨hc25, h⟩ | ⟨hc25, h⟩
    · refine WC.condT rfl hc25 ?_
      refine WC.skip ?_
      refine KX.seq_n ?_
      refine WC.seq ?_
      refine WC.block ?_
      refine WC.region ?_
      refine WO.step (v := (.str x20)) rfl rfl ?_
      obtain ⟨z24, hz24, h⟩ := bindS h
      refine WO.step (v := (.str z24)) rfl (stp_strApp rfl rfl hz24) ?_
      refine WO.step (v := (.str z24)) rfl rfl ?_
      refine WO.nil ?_
      refine KX.block_n ?_
      refine KX.seq_n ?_
      refine WC.region ?_
      refine WO.step (v := (.int .i64 x21)) rfl rfl ?_
      refine WO.step (v := (.int .i64 (ad .i64 x21 1))) rfl rfl ?_
      refine WO.step (v := (.int .i64 (ad .i64 x21 1))) rfl rfl ?_
      refine WO.nil ?_
      refine KX.seq_n ?_
      exact ih h  (known_cons rfl (known_cons rfl (known_cons rfl (known_cons rfl known_nil)))) (H.sub .slnil .slnil)
    · refine WC.condF rfl hc25 ?_
      refine WC.exit ?_
      refine KX.seq_x ?_
      refine KX.seq_x ?_
      obtain rfl := Option.some.inj h
      exact hbrk  (known_cons rfl (known_cons rfl (known_cons rfl known_nil))) (H.sub .slnil .slnil)
theorem s9 : ∀ k : Nat, ∀ {a0 : Int} {a1 : Int} {a2 : Int} {r : Bool}, F9 k a0 a1 a2 = some r → ∀ {vs : List PV}, vs.map PV.strip = [(.int .u8 a0), (.int .u8 a1), (.int .u8 a2)] → ∀ S : List SObj, evw env 9 vs S = some ((.bool r), S, false) := by
  intro k a0 a1 a2 r h vs ha S
  unfold F9 at h
  refine evw_pureW (pf := fn9) rfl rfl ha (Nat.le_of_ble_eq_true rfl) rfl rfl ?_
  refine WB.of (pf := fn9) rfl ?_
  have H := Hp.start []
  refine WC.seqR ?_
  refine WO.step (v := (.bool false)) rfl rfl ?_
  refine WO.nil ?_
  refine WC.seq ?_
  refine WC.seqR ?_
  obtain ⟨y1, hy1, h⟩ := bindS h
  refine WO.step (v := (.bool y1)) rfl (stp_call (vs := []) rfl rfl (s10 _ hy1 rfl _)) ?_
  refine WO.step (v := (.bool (!y1))) rfl rfl ?_
  refine WO.nil ?_
  rcases iteS h with ⟨hc141, h⟩ | ⟨hc141, h⟩
  · refine WC.condT rfl hc141 ?_
    refine WC.seqR ?_
    refine WO.step (v := (.bool false)) rfl rfl ?_
    refine WO.nil ?_
    refine WC.ret ?_
    refine KX.seq_r ?_
    obtain rfl := Option.some.inj h
    refine KB.ret (vs := [(.bool false)]) (res_tmp rfl res_nil) ?_
    exact rfl
  · refine WC.condF rfl hc141 ?_
    refine WC.skip ?_
    refine KX.seq_n ?_
    refine WC.seqR ?_
    refine WO.step (v := (.int .u8 a0)) rfl rfl ?_
    obtain ⟨z3, hz3, h⟩ := bindS h
    refine WO.step (v := (.int .u8 z3)) rfl (stp_rem rfl rfl hz3) ?_
    refine WO.step (v := (.int .i64 (cv .i64 z3))) rfl rfl ?_
    refine WO.step (v := (.int .i64 (cv .i64 z3))) rfl rfl ?_
    refine WO.nil ?_
    refine WC.seqR ?_
    refine WO.step (v := (.str [])) rfl rfl ?_
    refine WO.nil ?_
    refine WC.seq ?_
    refine WC.seqR ?_
    refine WO.step (v := (.int .i64 0)) rfl rfl ?_
    refine WO.nil ?_
    obtain ⟨y26, hy26, hOy26⟩ := bindS h
    refine WC.block ?_
    refine l9_L0 ?_ hy26  (known_cons rfl (known_cons rfl (known_cons rfl (known_cons rfl known_nil)))) (H.sub .slnil .slnil)
    · intro σ S  hk H; replace h := hOy26
      refine KX.of_known hk ?_
      refine KX.block_x ?_
      refine KX.seq_n ?_
      refine WC.seqR ?_
      refine WO.step (v := (.str [4, 128])) rfl rfl ?_
      refine WO.nil ?_
      refine WC.seqR ?_
      refine WO.step (v := (.int .i64 11)) rfl rfl ?_
      refine WO.nil ?_
      refine WC.seq ?_
      refine WC.seqR ?_
      refine WO.step (v := (.int .u8 a2)) rfl rfl ?_
      obtain ⟨z27, hz27, h⟩ := bindS h
      refine WO.step (v := (.int .u8 z27)) rfl (stp_rem rfl rfl hz27) ?_
      refine WO.nil ?_
      refine WC.block ?_
      refine WC.seqR ?_
      refine WO.step (v := (.bool (z27 == 1))) rfl rfl ?_
      refine WO.step (v := (.bool (z27 == 1))) rfl rfl ?_
      refine WO.nil ?_
      obtain ⟨y114, hy114, hOy114⟩ := bindS h
      refine WC.join (fun σ' S' e' => Known ([(8, (.str y26.1)), (10, (.str y114.1)), (11, (.int .i64 y114.2))]) σ' ∧ Hp [] [] S' [] [] ∧ e' = false) ?_ ?_
      · replace h := hy114
        rcases iteS h with ⟨hc131, h⟩ | ⟨hc131, h⟩
        · refine WC.condT rfl hc131 ?_
          refine WC.seqR ?_
          refine WO.step (v := (.str [31, 0])) rfl rfl ?_
          refine WO.nil ?_
          refine WC.region ?_
          refine WO.step (v := (.int .i64 14)) rfl rfl ?_
          refine WO.nil ?_
          refine KX.seq_n ?_
          obtain rfl := Option.some.inj h
          exact ⟨(known_cons rfl (known_cons rfl (known_cons rfl known_nil))), (H.sub .slnil .slnil), rfl⟩
        · refine WC.condF rfl hc131 ?_
          refine WC.seqR ?_
          refine WO.step (v := (.bool (z27 == 2))) rfl rfl ?_
          refine WO.step (v := (.bool (z27 == 2))) rfl rfl ?_
          refine WO.nil ?_
          obtain ⟨y125, hy125, hOy125⟩ := bindS h
          refine WC.join (fun σ' S' e' => Known ([(8, (.str y26.1)), (10, (.str y125)), (11, (.int .i64 11))]) σ' ∧ Hp [] [] S' [] [] ∧ e' = false) ?_ ?_
          · replace h := hy125
            rcases iteS h with ⟨hc130, h⟩ | ⟨hc130, h⟩
            · refine WC.condT rfl hc130 ?_
              refine WC.region ?_
              refine WO.step (v := (.str [4, 127])) rfl rfl ?_
              refine WO.nil ?_
              refine KX.seq_n ?_
              obtain rfl := Option.some.inj h
              exact ⟨(known_cons rfl (known_cons rfl (known_cons rfl known_nil))), (H.sub .slnil .slnil), rfl⟩
            · refine WC.condF rfl hc130 ?_
              refine WC.seqR ?_
              refine WO.step (v := (.bool (z27 == 3))) rfl rfl ?_
              refine WO.step (v := (.bool (z27 == 3))) rfl rfl ?_
              refine WO.nil ?_
              obtain ⟨y128, hy128, hOy128⟩ := bindS h
              refine WC.join (fun σ' S' e' => Known ([(8, (.str y26.1)), (10, (.str y128)), (11, (.int .i64 11))]) σ' ∧ Hp [] [] S' [] [] ∧ e' = false) ?_ ?_
              · replace h := hy128
                rcases iteS h with ⟨hc129, h⟩ | ⟨hc129, h⟩
                · refine WC.condT rfl hc129 ?_
                  refine WC.region ?_
                  refine WO.step (v := (.str [4])) rfl rfl ?_
                  refine WO.nil ?_
                  refine KX.seq_n ?_
                  obtain rfl := Option.some.inj h
                  exact ⟨(known_cons rfl (known_cons rfl (known_cons rfl known_nil))), (H.sub .slnil .slnil), rfl⟩
                · refine WC.condF rfl hc129 ?_
                  refine WC.skip ?_
                  refine KX.seq_n ?_
                  obtain rfl := Option.some.inj h
                  exact ⟨(known_cons rfl (known_cons rfl (known_cons rfl known_nil))), (H.sub .slnil .slnil), rfl⟩
              · rintro σ S e ⟨hk, H, rfl⟩
                replace h := hOy128
                refine KX.of_known hk ?_
                refine KX.seq_n ?_
                obtain rfl := Option.some.inj h
                exact ⟨(known_cons rfl (known_cons rfl (known_cons rfl known_nil))), (H.sub .slnil .slnil), rfl⟩
          · rintro σ S e ⟨hk, H, rfl⟩
            replace h := hOy125
            refine KX.of_known hk ?_
            refine KX.seq_n ?_
            obtain rfl := Option.some.inj h
            exact ⟨(known_cons rfl (known_cons rfl (known_cons rfl known_nil))), (H.sub .slnil .slnil), rfl⟩
      · rintro σ S e ⟨hk, H, rfl⟩
        replace h := hOy114
        refine KX.of_known hk ?_
        refine KX.block_n ?_
        refine KX.seq_n ?_
        refine WC.seqR ?_
        refine WO.step (v := (.str y26.1)) rfl rfl ?_
        refine WO.step (v := (.int .i64 (Str.len y26.1))) rfl rfl ?_
        refine WO.step (v := (.str y114.1)) rfl rfl ?_
        refine WO.step (v := (.int .i64 (Str.len y114.1))) rfl rfl ?_
        refine WO.step (v := (.int .i64 (ad .i64 (Str.len y26.1) (Str.len y114.1)))) rfl rfl ?_
        refine WO.step (v := (.int .u8 (cv .u8 (ad .i64 (Str.len y26.1) (Str.len y114.1))))) rfl rfl ?_
        refine WO.step rfl (stp_buildSlice (ys := [48, cv .u8 (ad .i64 (Str.len y26.1) (Str.len y114.1))]) (f := (eI .u8)) (parts := [(0, (.int .u8 48)), (1, (.int .u8 (cv .u8 (ad .i64 (Str.len y26.1) (Str.len y114.1)))))]) rfl rfl rfl rfl rfl rfl (fc ⟨rfl, rfl⟩ (fc ⟨rfl, rfl⟩ (fun p hp => nomatch hp))) rfl) ?_
        have hv132 : IsSl (eI .u8) (some [48, cv .u8 (ad .i64 (Str.len y26.1) (Str.len y114.1))]) _ := ⟨.full, rfl⟩
        refine WO.step (v := (.str (Str.of (some [48, cv .u8 (ad .i64 (Str.len y26.1) (Str.len y114.1))])))) rfl (stp_text rfl hv132 rfl rfl rfl) ?_
        refine WO.step (v := (.str y26.1)) rfl rfl ?_
        obtain ⟨z133, hz133, h⟩ := bindS h
        refine WO.step (v := (.str z133)) rfl (stp_strApp rfl rfl hz133) ?_
        refine WO.step (v := (.str y114.1)) rfl rfl ?_
        obtain ⟨z134, hz134, h⟩ := bindS h
        refine WO.step (v := (.str z134)) rfl (stp_strApp rfl rfl hz134) ?_
        refine WO.step (v := (.str z134)) rfl rfl ?_
        refine WO.nil ?_
        refine WC.seqR ?_
        refine WO.step (v := (.str z134)) rfl rfl ?_
        obtain ⟨y135, hy135, h⟩ := bindS h
        refine WO.step (v := (.tup [(.agg [(.int .u8 y135.1.Tag), (.str y135.1.Body), (encSl e_Api_Element y135.1.Kids)]), (.int .i64 y135.2.1), (.int .i64 y135.2.2.1), (.int .i64 y135.2.2.2)])) rfl (stp_call (vs := [(.str z134)]) rfl rfl (s11 _ hy135 rfl _)) ?_
        refine WO.step (v := (.tup [(.agg [(.int .u8 y135.1.Tag), (.str y135.1.Body), (encSl e_Api_Element y135.1.Kids)]), (.int .i64 y135.2.1), (.int .i64 y135.2.2.1), (.int .i64 y135.2.2.2)])) rfl rfl ?_
        refine WO.step (v := (.agg [(.int .u8 y135.1.Tag), (.str y135.1.Body), (encSl e_Api_Element y135.1.Kids)])) rfl rfl ?_
        refine WO.step (v := (.int .i64 y135.2.1)) rfl rfl ?_
        refine WO.step (v := (.int .i64 y135.2.2.1)) rfl rfl ?_
        refine WO.step (v := (.int .i64 y135.2.2.2)) rfl rfl ?_
        refine WO.alloc' (ti := ty25) rfl rfl rfl rfl H ?_
        intro i136 S hi136 H
        refine WO.store 0 rfl H rfl rfl rfl rfl rfl rfl rfl (Nat.le_of_ble_eq_true rfl) rfl (own_e hi136) ?_
        intro S H
        replace H : Hp [] [] _ [(i136, [(.int .u8 y135.1.Tag), (.str y135.1.Body), (encSl e_Api_Element y135.1.Kids)])] [] := H
        refine WO.step (v := (.int .i64 y135.2.1)) rfl rfl ?_
        refine WO.step (v := (.int .i64 y135.2.2.1)) rfl rfl ?_
        refine WO.step (v := (.int .i64 y135.2.2.2)) rfl rfl ?_
        refine WO.nil ?_
        refine WC.seqR ?_
        refine WO.step (v := (.int .i64 y135.2.2.2)) rfl rfl ?_
        refine WO.step (v := (.int .i64 y114.2)) rfl rfl ?_
        refine WO.step (v := (.bool (y135.2.2.2 == y114.2))) rfl rfl ?_
        refine WO.step (v := (.bool (y135.2.2.2 == y114.2))) rfl rfl ?_
        refine WO.split 6 (fun σ' S' e' => Known ([(13, (.ptr i136 0)), (14, (.int .i64 y135.2.1)), (65, (.bool ((y135.2.2.2 == y114.2) && (y135.2.2.1 == (ad .i64 2 (Str.len y26.1))))))]) σ' ∧ Hp [] [] S' [(i136, [(.int .u8 y135.1.Tag), (.str y135.1.Body), (encSl e_Api_Element y135.1.Kids)])] [] ∧ e' = false) ?_ ?_
        · cases hc137 : (y135.2.2.2 == y114.2)
          · skip
            refine WO.by rfl rfl rfl ?_
            refine WO.by rfl rfl rfl ?_
            refine WO.by rfl rfl rfl ?_
            refine WO.by rfl rfl rfl ?_
            refine WO.by rfl rfl rfl ?_
            refine WO.step (v := (.bool false)) rfl rfl ?_
            refine WO.nil ?_
            exact ⟨(known_cons rfl (known_cons rfl (known_cons rfl known_nil))), H, rfl⟩
          · skip
            refine WO.go0 rfl rfl ?_
            refine WO.step (v := (.int .i64 y135.2.2.1)) rfl rfl ?_
            refine WO.go0 rfl rfl ?_
            refine WO.step (v := (.str y26.1)) rfl rfl ?_
            refine WO.go0 rfl rfl ?_
            refine WO.step (v := (.int .i64 (Str.len y26.1))) rfl rfl ?_
            refine WO.go0 rfl rfl ?_
            refine WO.step (v := (.int .i64 (ad .i64 2 (Str.len y26.1)))) rfl rfl ?_
            refine WO.go0 rfl rfl ?_
            refine WO.step (v := (.bool (y135.2.2.1 == (ad .i64 2 (Str.len y26.1))))) rfl rfl ?_
            refine WO.step (v := (.bool (y135.2.2.1 == (ad .i64 2 (Str.len y26.1))))) rfl rfl ?_
            refine WO.nil ?_
            exact ⟨(known_cons rfl (known_cons rfl (known_cons rfl known_nil))), H, rfl⟩
        · rintro σ S e ⟨hk, H, rfl⟩
          refine WO.of_known hk ?_
          refine WO.step (v := (.bool ((y135.2.2.2 == y114.2) && (y135.2.2.1 == (ad .i64 2 (Str.len y26.1)))))) rfl rfl ?_
          refine WO.split 3 (fun σ' S' e' => Known ([(13, (.ptr i136 0)), (69, (.bool (((y135.2.2.2 == y114.2) && (y135.2.2.1 == (ad .i64 2 (Str.len y26.1)))) && (y135.2.1 == 0))))]) σ' ∧ Hp [] [] S' [(i136, [(.int .u8 y135.1.Tag), (.str y135.1.Body), (encSl e_Api_Element y135.1.Kids)])] [] ∧ e' = false) ?_ ?_
          · cases hc138 : ((y135.2.2.2 == y114.2) && (y135.2.2.1 == (ad .i64 2 (Str.len y26.1))))
            · skip
              refine WO.by rfl rfl rfl ?_
              refine WO.by rfl rfl rfl ?_
              refine WO.step (v := (.bool false)) rfl rfl ?_
              refine WO.nil ?_
              exact ⟨(known_cons rfl (known_cons rfl known_nil)), H, rfl⟩
            · skip
              refine WO.go0 rfl rfl ?_
              refine WO.step (v := (.int .i64 y135.2.1)) rfl rfl ?_
              refine WO.go0 rfl rfl ?_
              refine WO.step (v := (.bool (y135.2.1 == 0))) rfl rfl ?_
              refine WO.step (v := (.bool (y135.2.1 == 0))) rfl rfl ?_
              refine WO.nil ?_
              exact ⟨(known_cons rfl (known_cons rfl known_nil)), H, rfl⟩
          · rintro σ S e ⟨hk, H, rfl⟩
            refine WO.of_known hk ?_
            refine WO.step (v := (.bool (((y135.2.2.2 == y114.2) && (y135.2.2.1 == (ad .i64 2 (Str.len y26.1)))) && (y135.2.1 == 0)))) rfl rfl ?_
            refine WO.split 5 (fun σ' S' e' => Known ([(13, (.ptr i136 0)), (75, (.bool ((((y135.2.2.2 == y114.2) && (y135.2.2.1 == (ad .i64 2 (Str.len y26.1)))) && (y135.2.1 == 0)) && ((Sl.len y135.1.Kids) == 0))))]) σ' ∧ Hp [] [] S' [(i136, [(.int .u8 y135.1.Tag), (.str y135.1.Body), (encSl e_Api_Element y135.1.Kids)])] [] ∧ e' = false) ?_ ?_
            · cases hc139 : (((y135.2.2.2 == y114.2) && (y135.2.2.1 == (ad .i64 2 (Str.len y26.1)))) && (y135.2.1 == 0))
              · skip
                refine WO.by rfl rfl rfl ?_
                refine WO.by rfl rfl rfl ?_
                refine WO.by rfl rfl rfl ?_
                refine WO.by rfl rfl rfl ?_
                refine WO.step (v := (.bool false)) rfl rfl ?_
                refine WO.nil ?_
                exact ⟨(known_cons rfl (known_cons rfl known_nil)), H, rfl⟩
              · skip
                refine WO.go0 rfl rfl ?_
                refine WO.step (v := (.ptr i136 2)) rfl rfl ?_
                refine WO.go0 rfl rfl ?_
                refine WO.step (v := (encSl e_Api_Element y135.1.Kids)) rfl (stp_load rfl (H.get 0 rfl) rfl) ?_
                refine WO.go0 rfl rfl ?_
                refine WO.step (v := (.int .i64 (Sl.len y135.1.Kids))) rfl (stp_len rfl (isSl_enc _ _) rfl) ?_
                refine WO.go0 rfl rfl ?_
                refine WO.step (v := (.bool ((Sl.len y135.1.Kids) == 0))) rfl rfl ?_
                refine WO.step (v := (.bool ((Sl.len y135.1.Kids) == 0))) rfl rfl ?_
                refine WO.nil ?_
                exact ⟨(known_cons rfl (known_cons rfl known_nil)), H, rfl⟩
            · rintro σ S e ⟨hk, H, rfl⟩
              refine WO.of_known hk ?_
              refine WO.step (v := (.bool ((((y135.2.2.2 == y114.2) && (y135.2.2.1 == (ad .i64 2 (Str.len y26.1)))) && (y135.2.1 == 0)) && ((Sl.len y135.1.Kids) == 0)))) rfl rfl ?_
              refine WO.split 4 (fun σ' S' e' => Known ([(80, (.bool (((((y135.2.2.2 == y114.2) && (y135.2.2.1 == (ad .i64 2 (Str.len y26.1)))) && (y135.2.1 == 0)) && ((Sl.len y135.1.Kids) == 0)) && (y135.1.Tag == 0))))]) σ' ∧ Hp [] [] S' [(i136, [(.int .u8 y135.1.Tag), (.str y135.1.Body), (encSl e_Api_Element y135.1.Kids)])] [] ∧ e' = false) ?_ ?_
              · cases hc140 : ((((y135.2.2.2 == y114.2) && (y135.2.2.1 == (ad .i64 2 (Str.len y26.1)))) && (y135.2.1 == 0)) && ((Sl.len y135.1.Kids) == 0))
                · skip
                  refine WO.by rfl rfl rfl ?_
                  refine WO.by rfl rfl rfl ?_
                  refine WO.by rfl rfl rfl ?_
                  refine WO.step (v := (.bool false)) rfl rfl ?_
                  refine WO.nil ?_
                  exact ⟨(known_cons rfl known_nil), H, rfl⟩
                · skip
                  refine WO.go0 rfl rfl ?_
                  refine WO.step (v := (.ptr i136 0)) rfl rfl ?_
                  refine WO.go0 rfl rfl ?_
                  refine WO.step (v := (.int .u8 y135.1.Tag)) rfl (stp_load rfl (H.get 0 rfl) rfl) ?_
                  refine WO.go0 rfl rfl ?_
                  refine WO.step (v := (.bool (y135.1.Tag == 0))) rfl rfl ?_
                  refine WO.step (v := (.bool (y135.1.Tag == 0))) rfl rfl ?_
                  refine WO.nil ?_
                  exact ⟨(known_cons rfl known_nil), H, rfl⟩
              · rintro σ S e ⟨hk, H, rfl⟩
                refine WO.of_known hk ?_
                refine WO.step (v := (.bool (((((y135.2.2.2 == y114.2) && (y135.2.2.1 == (ad .i64 2 (Str.len y26.1)))) && (y135.2.1 == 0)) && ((Sl.len y135.1.Kids) == 0)) && (y135.1.Tag == 0)))) rfl rfl ?_
                refine WO.nil ?_
                refine WC.ret ?_
                obtain rfl := Option.some.inj h
                refine KB.ret (vs := [(.bool (((((y135.2.2.2 == y114.2) && (y135.2.2.1 == (ad .i64 2 (Str.len y26.1)))) && (y135.2.1 == 0)) && ((Sl.len y135.1.Kids) == 0)) && (y135.1.Tag == 0)))]) (res_tmp rfl res_nil) ?_
                exact rfl
-- openings
inductive Ok_Api_Element : Api_Element → Prop
  | mk (x : Api_Element) (h0 : (Lit.int .u8 x.Tag).wf = true) (h1 : x.Body.length ≤ maxLen) (h2 : (Sl.l x.Kids).length ≤ maxLen) (g2 : ∀ a ∈ Sl.l x.Kids, Ok_Api_Element a) : Ok_Api_Element x
theorem opens_Api_Element {H : Type} {enc : TypeId × Value → H} {w : World} {sp : Nat → Bool} {held : Bool} (hsp : ∀ b, sp b = true) : ∀ fuel, Opens enc Try.prog w sp held fuel 25 e_Api_Element Ok_Api_Element := by
  intro fuel
  induction fuel using Nat.strongRecOn with
  | ind fuel ih =>
  intro cs x h
  obtain ⟨xs, m, rfl, _, hl, hx, hf⟩ := DataW.trod_struct Try.underlying25 h
  have hl : cs.length = 3 := hl.trans (by kernel_rfl)
  have hx : xs.length = 3 := hx
  have c0 : ∃ y, DataW.trod enc Try.prog w 0 sp held m 5 ((cs.drop 0).take 1) = some y := by
    have h1 := hf 0 _ rfl
    have h2 : DataW.trod enc Try.prog w 0 sp held m 5 ((cs.drop 0).take (Try.prog.cellsOf 5)) = xs[0]? := h1
    rw [show Try.prog.cellsOf 5 = 1 from by kernel_rfl, List.getElem?_eq_getElem (by omega)] at h2
    exact ⟨_, h2⟩
  obtain ⟨y0, hy0⟩ := c0
  obtain ⟨a0, o0, v0⟩ := (fun m => opens_int Try.underlying5) m _ _ hy0
  have c1 : ∃ y, DataW.trod enc Try.prog w 0 sp held m 9 ((cs.drop 1).take 1) = some y := by
    have h1 := hf 1 _ rfl
    have h2 : DataW.trod enc Try.prog w 0 sp held m 9 ((cs.drop 1).take (Try.prog.cellsOf 9)) = xs[1]? := h1
    rw [show Try.prog.cellsOf 9 = 1 from by kernel_rfl, List.getElem?_eq_getElem (by omega)] at h2
    exact ⟨_, h2⟩
  obtain ⟨y1, hy1⟩ := c1
  obtain ⟨a1, o1, v1⟩ := (fun m => opens_str Try.underlying9) m _ _ hy1
  have c2 : ∃ y, DataW.trod enc Try.prog w 0 sp held m 23 ((cs.drop 2).take 1) = some y := by
    have h1 := hf 2 _ rfl
    have h2 : DataW.trod enc Try.prog w 0 sp held m 23 ((cs.drop 2).take (Try.prog.cellsOf 23)) = xs[2]? := h1
    rw [show Try.prog.cellsOf 23 = 1 from by kernel_rfl, List.getElem?_eq_getElem (by omega)] at h2
    exact ⟨_, h2⟩
  obtain ⟨y2, hy2⟩ := c2
  obtain ⟨a2, o2, v2⟩ := (fun m => opens_slice (sz := 3) Try.underlying23 (by kernel_rfl) (by decide) (fun a => (e_Api_Element_one a).2.1) hsp (fun n hn => ih n (by omega))) m _ _ hy2
  refine ⟨⟨a0, a1, a2⟩, .mk _ o0 o1 o2.1 o2.2, ?_⟩
  rw [e_Api_Element_cells]
  have hc := CV.field v0 (CV.field v1 (CV.field v2 (CV.fin hl)))
  rw [List.drop_zero] at hc
  rw [show (encSl e_Api_Element a2).cells = [encSl e_Api_Element a2] from (isSl_enc _ a2).one.2] at hc
  exact hc
theorem Ok_Api_Element.h0 {x : Api_Element} (h : Ok_Api_Element x) : (Lit.int .u8 x.Tag).wf = true := by cases h; first | assumption | exact ⟨‹_›, ‹_›⟩
theorem Ok_Api_Element.h1 {x : Api_Element} (h : Ok_Api_Element x) : x.Body.length ≤ maxLen := by cases h; first | assumption | exact ⟨‹_›, ‹_›⟩
theorem Ok_Api_Element.h2 {x : Api_Element} (h : Ok_Api_Element x) : ((Sl.l x.Kids).length ≤ maxLen ∧ ∀ a ∈ Sl.l x.Kids, Ok_Api_Element a) := by cases h; first | assumption | exact ⟨‹_›, ‹_›⟩
end Go.Proofs.Ytkaifmdhkoiaeaa.M
