/- The disk's functions walked: Crash. -/
import Derived.Test.YtfpgfgpbjadoaaaDK3
import Derived.Test.YtfpgfgpbjadoaaaPamM4
namespace Go.Proofs.Ytfpgfgpbjadoaaa.M
set_option linter.unusedVariables false
set_option linter.unusedSimpArgs false
open Go Go.Pam
set_option maxRecDepth 4000
theorem Mp.get?_put {α : Type} (k k' : Str) (x : α) : ∀ m : Mp α, Mp.get? (Mp.put m k x) k' = if k' == k then some x else Mp.get? m k'
  | [] => by simp [Mp.put, Mp.get?]
  | p :: m => by
    have ih := Mp.get?_put k k' x m
    unfold Mp.put
    split
    · rename_i h
      have h := beq_iff_eq.1 h
      simp only [Mp.get?, h]
      split <;> rfl
    · rename_i h
      simp only [Mp.get?, ih]
      by_cases h2 : k' = p.1
      · subst h2
        have : (p.1 == k) = false := by simpa using fun e => h (by simp [e])
        simp [this]
      · simp [h2]
def bitK (keep : Int) (i : Nat) : Bool := if (i : Int) < 64 then bAnd .u64 (keep.fdiv (2 ^ (min i 64))) 1 == 1 else false
def crash1 (keep : Int) (i : Nat) (y : DOp) (kept : Mp Str) (stuck : Bool) : Mp Str :=
  if stuck then kept
  else if bitK keep i && y.put then Mp.put kept y.name y.b
  else if bitK keep i then Mp.put kept y.name (((Mp.get? kept y.name).getD []) ++ y.b)
  else if !y.put && (y.b.take (y.b.length / 2) != []) then Mp.put kept y.name (((Mp.get? kept y.name).getD []) ++ y.b.take (y.b.length / 2))
  else kept
def crashL (keep : Int) : List DOp → Nat → Mp Str → Mp Bool → Mp Str
  | [], _, kept, _ => kept
  | y :: l, i, kept, st => crashL keep l (i + 1) (crash1 keep i y kept ((Mp.get? st y.name).getD false)) (Mp.put st y.name (((Mp.get? st y.name).getD false) || !bitK keep i))
def Dsk.crash (d : Dsk) (keep : Int) : Dsk := { d with kept := crashL keep d.pend 0 d.kept [], now := crashL keep d.pend 0 d.kept [], pend := [], left := -1 }
section
variable {S S0 : List SObj} {R : List Nat} {C : List (Nat × SObj)} {A : List (PV × Nat)} {W : List (PV × SObj)} {i j1 j2 : Nat} {v : PV} {o : SObj} {d d' : Dsk}
abbrev LK (i : Nat) (keep : Int) (st m ib : Nat) (done : Bool) (half : Str) (v : PV) (n : Nat) : List (Nat × PV) :=
  [(0, .ptr i 0), (1, .int .u64 keep), (4, .map st), (6, .ptr ib 0), (7, .bool done), (8, .str half), (13, v), (14, .int .i64 n), (15, .int .i64 m)]
abbrev LJ (i : Nat) (keep : Int) (st m : Nat) (v : PV) (n : Nat) : List (Nat × PV) :=
  [(0, .ptr i 0), (1, .int .u64 keep), (4, .map st), (13, v), (14, .int .i64 n), (15, .int .i64 m)]
/-- Is its bit set? -/
theorem crA {base : Nat} {K : KX} {σ : Nat → PV} {keep : Int} {st m ib n : Nat} {y : DOp} {c : PC} (hyb : y.b.length ≤ 1000000000)
    (hk : Known ((6, .ptr ib 0) :: (5, .int .i64 (m : Int)) :: LJ i keep st m v n) σ) (H : Hp S0 R S ((ib, .cells [.str y.name, .str y.b, .bool y.put]) :: C) A W)
    (h : ∀ σ', Known (LK i keep st m ib (bitK keep m) (y.b.take (y.b.length / 2)) v n) σ' → WC env ⟨110, base⟩ c σ' S false K) :
    WC env ⟨110, base⟩ (.seq (.region [⟨some 20, .move (.tmp 5), none, false⟩,
    ⟨some 21, .binOp .lss 3 (.tmp 20) (.const (.int .i64 64)) 3, none, false⟩,
    ⟨some 22, .move (.tmp 21), none, false⟩,
    ⟨some 23, .move (.tmp 1), some (22, true), false⟩,
    ⟨some 24, .move (.tmp 5), some (22, true), false⟩,
    ⟨some 25, .binOp .shr 23 (.tmp 23) (.tmp 24) 3, some (22, true), false⟩,
    ⟨some 26, .binOp .and 23 (.tmp 25) (.const (.int .u64 1)) 23, some (22, true), false⟩,
    ⟨some 27, .binOp .eql 23 (.tmp 26) (.const (.int .u64 1)) 23, some (22, true), false⟩,
    ⟨some 28, .pick (.tmp 22) (.tmp 27) (.const (.bool false)), none, false⟩,
    ⟨some 7, .assign (.tmp 28), none, false⟩])
    (.seq (.region [⟨some 29, .fieldAddr 49 (.tmp 6) 1, none, false⟩,
    ⟨some 30, .load 9 (.tmp 29), none, false⟩,
    ⟨some 31, .fieldAddr 49 (.tmp 6) 1, none, false⟩,
    ⟨some 32, .load 9 (.tmp 31), none, false⟩,
    ⟨some 33, .call ⟨.builtin .len, #[.tmp 32], #[9]⟩, none, false⟩,
    ⟨some 34, .binOp .quo 3 (.tmp 33) (.const (.int .i64 2)) 3, none, false⟩,
    ⟨some 35, .slice 9 (.tmp 30) none (some (.tmp 34)) none, none, false⟩,
    ⟨some 8, .assign (.tmp 35), none, false⟩]) c)) σ S false K := by
  refine WC.of_known hk ?_
  have rest : ∀ {σ : Nat → PV}, Known ((6, .ptr ib 0) :: (7, .bool (bitK keep m)) :: LJ i keep st m v n) σ → WC env ⟨110, base⟩ (.seq (.region [⟨some 29, .fieldAddr 49 (.tmp 6) 1, none, false⟩,
    ⟨some 30, .load 9 (.tmp 29), none, false⟩,
    ⟨some 31, .fieldAddr 49 (.tmp 6) 1, none, false⟩,
    ⟨some 32, .load 9 (.tmp 31), none, false⟩,
    ⟨some 33, .call ⟨.builtin .len, #[.tmp 32], #[9]⟩, none, false⟩,
    ⟨some 34, .binOp .quo 3 (.tmp 33) (.const (.int .i64 2)) 3, none, false⟩,
    ⟨some 35, .slice 9 (.tmp 30) none (some (.tmp 34)) none, none, false⟩,
    ⟨some 8, .assign (.tmp 35), none, false⟩]) c) σ S false K := fun {σ} hk => by
    refine WC.of_known hk (WC.seqR (us 1 rfl ?_))
    refine Wg H 0 rfl (us 1 rfl ?_)
    refine Wg H 0 rfl (us 1 rfl ?_)
    have e1 : quo? .i64 (Str.len y.b) 2 = some ((y.b.length / 2 : Nat) : Int) := by
      unfold quo?
      rw [if_neg (by decide), Str.len_nat]
      congr 1
      rw [Int.tdiv_eq_ediv_of_nonneg (by omega), IntWalk.i64_in _ (by omega)]
      omega
    refine WO.step rfl (nz rfl (stp_quo rfl rfl e1)) ?_
    have e2 : Str.sub? y.b 0 ((y.b.length / 2 : Nat) : Int) = some (y.b.take (y.b.length / 2)) := by
      have := Str.sub?_nat (s := y.b) (l := 0) (h := y.b.length / 2) (by omega) (by omega)
      simpa using this
    refine WO.step rfl (nz rfl (stp_subStr rfl rfl rfl rfl e2)) (us 1 rfl (WO.nil ?_))
    refine h _ ?_
    exact known_cons rfl (known_cons rfl (known_cons rfl (known_cons rfl (known_cons rfl (known_cons rfl (known_cons rfl (known_cons rfl (known_cons rfl known_nil))))))))
  refine WC.seqR (us 1 rfl ?_)
  refine WO.step (v := .bool (decide ((m : Int) < 64))) rfl (nz rfl rfl) ?_
  unfold bitK at rest
  by_cases h6 : (m : Int) < 64
  · rw [decide_eq_true h6, if_pos h6] at *
    refine us 1 rfl ?_
    refine WO.go0 (b := true) rfl rfl (WO.step (v := .int .u64 keep) rfl (nz rfl rfl) ?_)
    refine WO.go0 (b := true) rfl rfl (WO.step (v := .int .i64 (m : Int)) rfl (nz rfl rfl) ?_)
    have e1 : shr? .u64 keep (m : Int) = some (keep.fdiv (2 ^ (min m 64))) := by unfold shr?; rw [if_neg (by omega)]; rfl
    refine WO.go0 (b := true) rfl rfl (WO.step rfl (nz rfl (stp_shr rfl rfl e1)) ?_)
    refine us 4 rfl (WO.nil ?_)
    exact rest (known_cons rfl (known_cons rfl (known_cons rfl (known_cons rfl (known_cons rfl (known_cons rfl (known_cons rfl (known_cons rfl known_nil))))))))
  · rw [decide_eq_false h6, if_neg h6] at *
    refine us 8 rfl (WO.nil ?_)
    exact rest (known_cons rfl (known_cons rfl (known_cons rfl (known_cons rfl (known_cons rfl (known_cons rfl (known_cons rfl (known_cons rfl known_nil))))))))
theorem crash1_len {keep : Int} {m : Nat} {y : DOp} {kept : Mp Str} {stuck : Bool} {B : Nat} (h : ∀ q, ((Mp.get? kept q).getD []).length + y.b.length ≤ B) : ∀ q, ((Mp.get? (crash1 keep m y kept stuck) q).getD []).length ≤ B := by
  intro q
  have h0 := h q
  have h1 := h y.name
  have ht : (y.b.take (y.b.length / 2)).length ≤ y.b.length := by rw [List.length_take]; omega
  unfold crash1
  split
  · omega
  split
  · rw [Mp.get?_put]; split <;> simp <;> omega
  split
  · rw [Mp.get?_put]; split
    · simp; omega
    · omega
  split
  · rw [Mp.get?_put]; split
    · simp only [Option.getD_some, List.length_append]; omega
    · omega
  · omega
theorem crL {base r st : Nat} {xs : List PV} {keep : Int} {K : KX} (hx : d.pend.map eOp ++ xs.drop d.pend.length = xs) (hlp : d.pend.length ≤ 1000000) :
    ∀ (k m : Nat) (kept : Mp Str) (stuck : Mp Bool) (σ : Nat → PV) (S : List SObj), m + k = d.pend.length →
      (∀ q, ((Mp.get? kept q).getD []).length + ((d.pend.drop m).map (·.b.length)).sum ≤ 1000000000) →
      (∀ σ' S' st', Known [(0, .ptr i 0)] σ' → Hp S0 R S' ((st, encM eB st') :: DC i j1 j2 (.rsl r d.pend.length) { d with kept := crashL keep (d.pend.drop m) m kept stuck } C) A ((.rsl r d.pend.length, .row xs 3 false) :: W) → K (.exit 0) σ' S' false) →
      Known (LJ i keep st m (.rsl r d.pend.length) d.pend.length) σ → Hp S0 R S ((st, encM eB stuck) :: DC i j1 j2 (.rsl r d.pend.length) { d with kept := kept } C) A ((.rsl r d.pend.length, .row xs 3 false) :: W) →
      WC env ⟨110, base⟩ (.loop pc11L0) σ S false K := by
  intro k
  induction k with
  | zero =>
    intro m kept stuck σ S hm hb hK hk H
    refine WC.of_known hk (WC.loop (WC.seqR (us 1 rfl (WO.nil ?_))))
    refine WC.seq (WC.condF (t := decide ((m : Int) < (d.pend.length : Int))) rfl (by simp; omega) (WC.exit (KX.seq_x (KX.seq_x ?_))))
    refine hK _ _ stuck (known_cons rfl known_nil) ?_
    have e : d.pend.drop m = [] := List.drop_eq_nil_of_le (by omega)
    rw [e]; exact H
  | succ k ih =>
    intro m kept stuck σ S hm hb hK hk H
    have hlt : m < d.pend.length := by omega
    have hy : d.pend[m]? = some d.pend[m] := List.getElem?_eq_getElem hlt
    have hdrop : d.pend.drop m = d.pend[m] :: d.pend.drop (m + 1) := List.drop_eq_getElem_cons hlt
    generalize d.pend[m] = y at hy hdrop
    rw [hdrop] at hb hK
    simp only [List.map_cons, List.sum_cons] at hb
    have hb1 := hb []
    refine WC.of_known hk (WC.loop (WC.seqR (us 1 rfl (WO.nil ?_))))
    refine WC.seq (WC.condT (t := decide ((m : Int) < (d.pend.length : Int))) rfl (by simp; omega) (WC.skip ?_))
    refine KX.seq_n (WC.seq (WC.block ?_))
    refine WC.seqR (us 1 rfl ?_)
    refine WO.step (v := .ptr r (m * 3)) rfl (nz rfl (stp_idxR (m := m) (n := d.pend.length) rfl rfl hlt)) ?_
    refine WO.ldx (w := eOp y) rfl rfl (ldR (H.getW 0 rfl rfl) hx hy) ?_
    refine Wa (cs := [.str [], .str [], .bool false]) H rfl fun ib S1 _ H => ?_
    refine us 1 rfl ?_
    refine WO.stc 0 H (cs' := [.str y.name, .str y.b, .bool y.put]) rfl fun S2 H => WO.nil ?_
    refine crA (ib := ib) (m := m) (by omega) (known_cons rfl (known_cons rfl (known_cons rfl (known_cons rfl (known_cons rfl (known_cons rfl (known_cons rfl (known_cons rfl known_nil)))))))) H fun σ1 hk1 => ?_
    refine WC.seqJ (fun σ' S' e' => Known (LK i keep st m ib (bitK keep m) (y.b.take (y.b.length / 2)) (.rsl r d.pend.length) d.pend.length) σ' ∧
      Hp S0 R S' ((ib, .cells [.str y.name, .str y.b, .bool y.put]) :: (st, encM eB stuck) :: DC i j1 j2 (.rsl r d.pend.length) { d with kept := crash1 keep m y kept ((Mp.get? stuck y.name).getD false) } C) A ((.rsl r d.pend.length, .row xs 3 false) :: W) ∧ e' = false) ?_ ?_
    · refine WC.of_known hk1 (WC.block ?_)
      refine WC.seqR (us 2 rfl ?_)
      refine Wg H 0 rfl ?_
      refine WO.look 1 (z := false) H rfl rfl (us 1 rfl (WO.nil ?_))
      obtain ⟨yn, yb, yp⟩ := y
      have hb2 := hb yn
      unfold crash1
      generalize (Mp.get? stuck yn).getD false = sk
      generalize bitK keep m = dn
      cases sk with
      | true => exact WC.condT rfl rfl (WC.skip (KX.block_n (KX.seq_n ⟨(known_cons rfl (known_cons rfl (known_cons rfl (known_cons rfl (known_cons rfl (known_cons rfl (known_cons rfl (known_cons rfl (known_cons rfl known_nil))))))))), H, rfl⟩)))
      | false =>
        refine WC.condF rfl rfl (WC.seqR (us 2 rfl ?_))
        cases dn with
        | true =>
          refine WO.go0 (b := true) rfl rfl (us 1 rfl ?_)
          refine WO.go0 (b := true) rfl rfl (Wg H 0 rfl (us 2 rfl (WO.nil ?_)))
          cases yp with
          | true =>
            refine WC.condT rfl rfl (WC.draw ?_)
            refine wh _ rfl rfl ?_
            refine wh _ rfl rfl ?_
            refine wh _ rfl rfl ?_
            refine Wgh H 2 rfl ?_
            refine wh _ rfl rfl ?_
            refine Wgh H 0 rfl ?_
            refine wh _ rfl rfl ?_
            refine Wgh H 0 rfl ?_
            refine WH.nil ?_
            refine WO.mupd 3 (y := yb) H rfl rfl fun S3 H => WO.nil ?_
            exact KX.block_n (KX.seq_n ⟨(known_cons rfl (known_cons rfl (known_cons rfl (known_cons rfl (known_cons rfl (known_cons rfl (known_cons rfl (known_cons rfl (known_cons rfl known_nil))))))))), H, rfl⟩)
          | false =>
            refine WC.condF rfl rfl (WC.seqR (us 2 rfl (WO.nil ?_)))
            refine WC.condT rfl rfl (WC.draw ?_)
            refine wh _ rfl rfl ?_
            refine wh _ rfl rfl ?_
            refine wh _ rfl rfl ?_
            refine Wgh H 2 rfl ?_
            refine wh _ rfl rfl ?_
            refine Wgh H 0 rfl ?_
            refine WH.look 3 (z := []) H rfl rfl ?_
            refine wh _ rfl rfl ?_
            refine Wgh H 0 rfl ?_
            refine WH.nil ?_
            refine WO.step rfl (nz rfl (stp_strApp rfl rfl (Str.app?_ok (a := (Mp.get? kept yn).getD []) (b := yb) (by simp at hb2; omega)))) ?_
            refine WO.mupd 3 (y := (Mp.get? kept yn).getD [] ++ yb) H rfl rfl fun S3 H => WO.nil ?_
            exact KX.block_n (KX.seq_n ⟨(known_cons rfl (known_cons rfl (known_cons rfl (known_cons rfl (known_cons rfl (known_cons rfl (known_cons rfl (known_cons rfl (known_cons rfl known_nil))))))))), H, rfl⟩)
        | false =>
          refine us 4 rfl (WO.nil ?_)
          refine WC.condF rfl rfl (WC.seqR (us 2 rfl (WO.nil ?_)))
          refine WC.condF rfl rfl (WC.seqR (us 1 rfl ?_))
          refine Wg H 0 rfl ?_
          cases yp with
          | true =>
            refine us 6 rfl (WO.nil ?_)
            refine WC.condF rfl rfl (WC.skip ?_)
            exact KX.block_n (KX.seq_n ⟨(known_cons rfl (known_cons rfl (known_cons rfl (known_cons rfl (known_cons rfl (known_cons rfl (known_cons rfl (known_cons rfl (known_cons rfl known_nil))))))))), H, rfl⟩)
          | false =>
            refine us 3 rfl ?_
            refine WO.go0 (b := true) rfl rfl (WO.step (v := .bool (!((yb.take (yb.length / 2)) == []))) rfl (nz rfl rfl) (us 2 rfl (WO.nil ?_)))
            by_cases hh : (yb.take (yb.length / 2) == []) = true
            · have e : (yb.take (yb.length / 2) != []) = false := by rw [bne, hh]; rfl
              rw [hh, e]
              refine WC.condF rfl rfl (WC.skip ?_)
              exact KX.block_n (KX.seq_n ⟨(known_cons rfl (known_cons rfl (known_cons rfl (known_cons rfl (known_cons rfl (known_cons rfl (known_cons rfl (known_cons rfl (known_cons rfl known_nil))))))))), H, rfl⟩)
            · have hh : (yb.take (yb.length / 2) == []) = false := by simpa using hh
              have e : (yb.take (yb.length / 2) != []) = true := by rw [bne, hh]; rfl
              rw [hh, e]
              have hb3 : (yb.take (yb.length / 2)).length ≤ yb.length := by rw [List.length_take]; omega
              refine WC.condT rfl rfl (WC.draw ?_)
              refine wh _ rfl rfl ?_
              refine wh _ rfl rfl ?_
              refine wh _ rfl rfl ?_
              refine Wgh H 2 rfl ?_
              refine wh _ rfl rfl ?_
              refine Wgh H 0 rfl ?_
              refine WH.look 3 (z := []) H rfl rfl ?_
              refine wh _ rfl rfl ?_
              refine WH.nil ?_
              refine WO.step rfl (nz rfl (stp_strApp rfl rfl (Str.app?_ok (a := (Mp.get? kept yn).getD []) (b := yb.take (yb.length / 2)) (by simp at hb2; omega)))) ?_
              refine WO.mupd 3 (y := (Mp.get? kept yn).getD [] ++ yb.take (yb.length / 2)) H rfl rfl fun S3 H => WO.nil ?_
              exact KX.block_n (KX.seq_n ⟨(known_cons rfl (known_cons rfl (known_cons rfl (known_cons rfl (known_cons rfl (known_cons rfl (known_cons rfl (known_cons rfl (known_cons rfl known_nil))))))))), H, rfl⟩)
    · rintro σ2 S3 e2 ⟨hk2, H, rfl⟩
      refine WC.of_known hk2 ?_
      refine WC.region (us 2 rfl ?_)
      refine Wg H 0 rfl (us 2 rfl ?_)
      refine Wg H 0 rfl ?_
      refine WO.look 1 (z := false) H rfl rfl (us 1 rfl ?_)
      have fin : ∀ {σ' : Nat → PV} {S' : List SObj} {bb : Bool}, bb = (((Mp.get? stuck y.name).getD false) || !bitK keep m) → Known (LJ i keep st m (.rsl r d.pend.length) d.pend.length) σ' →
          Hp S0 R S' ((ib, .cells [.str y.name, .str y.b, .bool y.put]) :: (st, encM eB (Mp.put stuck y.name bb)) :: DC i j1 j2 (.rsl r d.pend.length) { d with kept := crash1 keep m y kept ((Mp.get? stuck y.name).getD false) } C) A ((.rsl r d.pend.length, .row xs 3 false) :: W) →
          WC env ⟨110, base⟩ (.region [⟨some 95, .binOp .add 3 (.tmp 15) (.const (.int .i64 1)) 3, none, false⟩, ⟨some 15, .move (.tmp 95), none, false⟩]) σ' S' false (K.seq fun σ' S' e' => WC env ⟨110, base⟩ (.loop pc11L0) σ' S' e' K) := fun {σ' S' bb} hbb hk3 H3 => by
        refine WC.of_known hk3 (WC.region (us 2 rfl (WO.nil (KX.seq_n ?_))))
        have e : ad .i64 (m : Int) 1 = ((m + 1 : Nat) : Int) := ad_nat (by omega)
        subst hbb
        refine ih (m + 1) _ _ _ _ (by omega) ?_ hK (known_cons rfl (known_cons rfl (known_cons rfl (known_cons rfl (known_cons rfl (known_cons (Eq.trans rfl (congrArg (PV.int .i64) e)) known_nil)))))) H3.dropC
        intro q
        have := crash1_len (keep := keep) (m := m) (y := y) (kept := kept) (stuck := (Mp.get? stuck y.name).getD false) (B := 1000000000 - ((d.pend.drop (m + 1)).map (·.b.length)).sum) (fun q => by have := hb q; omega) q
        omega
      rcases hs : (Mp.get? stuck y.name).getD false with _ | _
      · refine WO.go0 (b := false) rfl rfl (us 1 rfl ?_)
        refine WO.go0 (b := false) rfl rfl (us 2 rfl ?_)
        refine WO.mupd 1 (y := !bitK keep m) H rfl rfl fun S4 H => WO.nil ?_
        refine KX.block_n (KX.seq_n ?_)
        exact fin (by rw [hs]; rfl) (known_cons rfl (known_cons rfl (known_cons rfl (known_cons rfl (known_cons rfl (known_cons rfl known_nil)))))) H
      · refine us 3 rfl ?_
        refine WO.mupd 1 (y := true) H rfl rfl fun S4 H => WO.nil ?_
        refine KX.block_n (KX.seq_n ?_)
        exact fin (by rw [hs]; rfl) (known_cons rfl (known_cons rfl (known_cons rfl (known_cons rfl (known_cons rfl (known_cons rfl known_nil)))))) H
theorem crash_dk {keep : Int} (hp : IsP d.pend v o) (H : DH S0 R S i j1 j2 v o d C A W) (hlp : d.pend.length ≤ 1000000) (hb : ∀ q, ((Mp.get? d.kept q).getD []).length + (d.pend.map (·.b.length)).sum ≤ 1000000000) :
    ∃ S' j2', evw env 11 [.ptr i 0, .int .u64 keep] S = some (.tup [], S', true) ∧ IsP [] .nils .dead ∧ DH S0 R S' i j1 j2' .nils .dead (d.crash keep) C A W := by
  have hlt : i < S.length := H.ltC (i, SObj.cells (dcell j1 j2 v d)) (by simp)
  obtain ⟨q, h1, S', j2', rfl, h2⟩ := evw_storeW (env := env) (f := 11) (pf := fn11) (args := [.ptr i 0, .int .u64 keep]) (S := S) (K := fun q => ∃ S' j2', q = (.tup [], S', true) ∧ DH S0 R S' i j1 j2' .nils .dead (d.crash keep) C A W) rfl rfl (Nat.le_of_ble_eq_true rfl) rfl
    (WB.of (pf := fn11) rfl (by
      refine WC.seqR (WO.mmap Bool eB H rfl fun st S1 _ H => us 1 rfl (WO.nil ?_))
      have tail : ∀ {σ : Nat → PV} {S' : List SObj} {st' : Mp Bool}, Known [(0, .ptr i 0)] σ → Hp S0 R S' ((st, encM eB st') :: DC i j1 j2 v { d with kept := crashL keep d.pend 0 d.kept [] } C) A ((v, o) :: W) →
          WC env ⟨110, S.length⟩ (.region [⟨some 96, .move (.tmp 0), none, false⟩,
    ⟨some 97, .move (.tmp 0), none, false⟩,
    ⟨some 98, .move (.tmp 0), none, false⟩,
    ⟨some 99, .move (.tmp 0), none, false⟩,
    ⟨some 100, .nilCheck (.tmp 99), none, false⟩,
    ⟨some 101, .fieldAddr 46 (.tmp 100) 1, none, false⟩,
    ⟨some 102, .load 43 (.tmp 101), none, false⟩,
    ⟨some 103, .call ⟨.value (.func 22), #[.tmp 102], #[43]⟩, none, false⟩,
    ⟨some 104, .nilCheck (.tmp 96), none, false⟩,
    ⟨some 105, .fieldAddr 46 (.tmp 104) 2, none, false⟩,
    ⟨none, .store 43 (.tmp 105) (.tmp 103), none, false⟩,
    ⟨some 106, .nilCheck (.tmp 97), none, false⟩,
    ⟨some 107, .fieldAddr 46 (.tmp 106) 3, none, false⟩,
    ⟨none, .store 44 (.tmp 107) (.const (.slice none 0 0)), none, false⟩,
    ⟨some 108, .nilCheck (.tmp 98), none, false⟩,
    ⟨some 109, .fieldAddr 46 (.tmp 108) 5, none, false⟩,
    ⟨none, .store 3 (.tmp 109) (.const (.int .i64 (-1))), none, false⟩]) σ S' false (KB env fn11 fun v S' e => ∃ S'' j2', leave S.length v S' e = (.tup [], S'', true) ∧ DH S0 R S'' i j1 j2' .nils .dead (d.crash keep) C A W) := fun {σ S' st'} hk H => by
        refine WC.of_known hk (WC.region (us 6 rfl ?_))
        refine Wg H 1 rfl ?_
        refine WO.clone 2 H rfl rfl fun j2' S2 _ H => us 2 rfl ?_
        refine WO.ste 2 H hlt (v := .map j2') (cs' := dcell j1 j2' v { d with kept := crashL keep d.pend 0 d.kept [] }) rfl fun S3 H => us 2 rfl ?_
        refine WO.stc 2 H (cs' := dcell j1 j2' .nils { d with kept := crashL keep d.pend 0 d.kept [] }) rfl fun S4 H => us 2 rfl ?_
        refine WO.stc 2 H (cs' := dcell j1 j2' .nils (d.crash keep)) rfl fun S5 H => WO.nil ?_
        refine KB.normal rfl rfl ⟨S5, j2', rfl, ?_⟩
        have H1 := (H.sub (C' := (j2', encM eS (d.crash keep).now) :: (i, SObj.cells (dcell j1 j2' .nils (d.crash keep))) :: (j1, encM eS (d.crash keep).kept) :: C) (.cons_cons _ (.cons _ (.cons_cons _ (.cons_cons _ (List.sublist_cons_self _ _))))) (List.Sublist.refl _) (List.sublist_cons_self _ _)).addNoW .nils .dead rfl
        exact H1.perm (List.perm_middle (l₁ := [_, _]) (l₂ := C)).symm
      refine WC.seq (WC.seqR (us 3 rfl ?_))
      refine Wg H 1 rfl ?_
      cases hp with
      | nil o h =>
        refine us 2 rfl (WO.nil ?_)
        refine WC.block (WC.loop (WC.seqR (us 1 rfl (WO.nil ?_))))
        refine WC.seq (WC.condF rfl rfl (WC.exit (KX.seq_x (KX.seq_x (KX.block_x (KX.seq_n ?_))))))
        refine tail (st' := []) (known_cons rfl known_nil) ?_
        have e : crashL keep d.pend 0 d.kept [] = d.kept := by rw [h]; rfl
        rw [e]; exact H
      | row r xs h =>
        refine us 2 rfl (WO.nil ?_)
        refine WC.block ?_
        refine crL h hlp d.pend.length 0 d.kept [] _ _ (by omega) hb (fun σ' S' st' hk H => KX.block_x (KX.seq_n (tail hk H))) ?_ H
        exact known_cons rfl (known_cons rfl (known_cons rfl (known_cons rfl (known_cons rfl (known_cons rfl known_nil)))))))
  exact ⟨S', j2', h1, .nil _ rfl, h2⟩
end
end Go.Proofs.Ytfpgfgpbjadoaaa.M
