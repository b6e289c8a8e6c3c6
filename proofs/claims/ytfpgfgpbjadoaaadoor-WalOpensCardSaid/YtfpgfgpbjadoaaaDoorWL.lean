/- The laws of the log walked. -/
import Derived.Test.YtfpgfgpbjadoaaaDoorWQ
namespace Go.Proofs.YtfpgfgpbjadoaaaDoor.M
set_option linter.unusedVariables false
set_option linter.unusedSimpArgs false
open Go Go.Pam
set_option maxRecDepth 4000
theorem l6a {l m1 : Sl Str} {st kp : Int} {K : KX} (hret : ∀ σ', σ' 8 = .bool true → K .ret σ' [] false)
    (hex : ∀ σ', Known [(0, encSl eS l), (1, encSl eS m1), (2, .int .u8 st), (3, .int .u64 kp)] σ' → (∀ b ∈ Sl.l l, b.length ≤ 100) → K (.exit 0) σ' [] false) (hn : (Sl.l l).length ≤ 1000) :
    ∀ (j m : Nat) (σ : Nat → PV), m + j = (Sl.l l).length → (∀ b ∈ (Sl.l l).take m, b.length ≤ 100) → Known ((9, .int .i64 (m : Int)) :: [(0, encSl eS l), (1, encSl eS m1), (2, .int .u8 st), (3, .int .u64 kp)]) σ → WC env ⟨92, 0⟩ (.loop pc6L0) σ [] false K := by
  intro j
  induction j with
  | zero =>
    intro m σ hm hb hk
    refine WC.reset hk fun σ0 => WC.loop ?_
    refine WC.seq (WC.seq (WC.region (us 2 rfl ?_)))
    refine WO.step rfl (nz rfl (stp_len rfl (isSl_enc _ _) rfl)) (us 1 rfl (WO.nil ?_))
    refine KX.seq_n (WC.condF (t := decide ((m : Int) < Sl.len l)) rfl (by rw [Sl.len_nat]; simp; omega) (WC.exit (KX.seq_x (KX.seq_x ?_))))
    refine hex _ (known_cons rfl (known_cons rfl (known_cons rfl (known_cons rfl known_nil)))) ?_
    rwa [show m = (Sl.l l).length by omega, List.take_length] at hb
  | succ j ih =>
    intro m σ hm hb hk
    have hlt : m < (Sl.l l).length := by omega
    have e1 : Sl.at? l (m : Int) = some ((Sl.l l)[m]) := by rw [Sl.at?_nat, List.getElem?_eq_getElem hlt]
    have ht : (Sl.l l).take (m + 1) = (Sl.l l).take m ++ [(Sl.l l)[m]] := by rw [List.take_add_one, List.getElem?_eq_getElem hlt]; rfl
    generalize (Sl.l l)[m] = y at e1 ht
    refine WC.reset hk fun σ0 => WC.loop ?_
    refine WC.seq (WC.seq (WC.region (us 2 rfl ?_)))
    refine WO.step rfl (nz rfl (stp_len rfl (isSl_enc _ _) rfl)) (us 1 rfl (WO.nil ?_))
    refine KX.seq_n (WC.condT (t := decide ((m : Int) < Sl.len l)) rfl (by rw [Sl.len_nat]; simp; omega) (WC.skip ?_))
    refine KX.seq_n (WC.seq (WC.block (WC.seqR (us 2 rfl ?_))))
    refine WO.step (v := .iptr [.str y] 0) rfl (nz rfl (stp_idxAddr rfl (isSl_enc _ _) rfl rfl rfl e1 rfl rfl)) (us 3 rfl (WO.nil ?_))
    by_cases hy : y.length ≤ 100
    · refine WC.condF (t := decide ((y.length : Int) > 100)) rfl (by simp; omega) (WC.skip (KX.block_n (KX.seq_n ?_)))
      refine WC.region (us 3 rfl (WO.nil (KX.seq_n ?_)))
      have e : ad .i64 (m : Int) 1 = ((m + 1 : Nat) : Int) := ad_nat (by omega)
      refine ih (m + 1) _ (by omega) ?_ (known_cons (Eq.trans rfl (congrArg (PV.int .i64) e)) (known_cons rfl (known_cons rfl (known_cons rfl (known_cons rfl known_nil)))))
      intro b hb'
      rw [ht] at hb'
      rcases List.mem_append.1 hb' with h1 | h1
      · exact hb b h1
      · obtain rfl := List.mem_singleton.1 h1; exact hy
    · refine WC.condT (t := decide ((y.length : Int) > 100)) rfl (by simp; omega) (WC.seqR (us 1 rfl (WO.nil ?_)))
      exact WC.ret (KX.block_r (KX.seq_r (KX.seq_r (hret _ rfl))))
theorem l6b {l m1 : Sl Str} {st kp : Int} {K : KX} (hret : ∀ σ', σ' 8 = .bool true → K .ret σ' [] false)
    (hex : ∀ σ', Known [(0, encSl eS l), (1, encSl eS m1), (2, .int .u8 st), (3, .int .u64 kp)] σ' → (∀ b ∈ Sl.l m1, b.length ≤ 100) → K (.exit 2) σ' [] false) (hn : (Sl.l m1).length ≤ 1000) :
    ∀ (j m : Nat) (σ : Nat → PV), m + j = (Sl.l m1).length → (∀ b ∈ (Sl.l m1).take m, b.length ≤ 100) → Known ((10, .int .i64 (m : Int)) :: [(0, encSl eS l), (1, encSl eS m1), (2, .int .u8 st), (3, .int .u64 kp)]) σ → WC env ⟨92, 0⟩ (.loop pc6L2) σ [] false K := by
  intro j
  induction j with
  | zero =>
    intro m σ hm hb hk
    refine WC.reset hk fun σ0 => WC.loop ?_
    refine WC.seq (WC.seq (WC.region (us 2 rfl ?_)))
    refine WO.step rfl (nz rfl (stp_len rfl (isSl_enc _ _) rfl)) (us 1 rfl (WO.nil ?_))
    refine KX.seq_n (WC.condF (t := decide ((m : Int) < Sl.len m1)) rfl (by rw [Sl.len_nat]; simp; omega) (WC.exit (KX.seq_x (KX.seq_x ?_))))
    refine hex _ (known_cons rfl (known_cons rfl (known_cons rfl (known_cons rfl known_nil)))) ?_
    rwa [show m = (Sl.l m1).length by omega, List.take_length] at hb
  | succ j ih =>
    intro m σ hm hb hk
    have hlt : m < (Sl.l m1).length := by omega
    have e1 : Sl.at? m1 (m : Int) = some ((Sl.l m1)[m]) := by rw [Sl.at?_nat, List.getElem?_eq_getElem hlt]
    have ht : (Sl.l m1).take (m + 1) = (Sl.l m1).take m ++ [(Sl.l m1)[m]] := by rw [List.take_add_one, List.getElem?_eq_getElem hlt]; rfl
    generalize (Sl.l m1)[m] = y at e1 ht
    refine WC.reset hk fun σ0 => WC.loop ?_
    refine WC.seq (WC.seq (WC.region (us 2 rfl ?_)))
    refine WO.step rfl (nz rfl (stp_len rfl (isSl_enc _ _) rfl)) (us 1 rfl (WO.nil ?_))
    refine KX.seq_n (WC.condT (t := decide ((m : Int) < Sl.len m1)) rfl (by rw [Sl.len_nat]; simp; omega) (WC.skip ?_))
    refine KX.seq_n (WC.seq (WC.block (WC.seqR (us 2 rfl ?_))))
    refine WO.step (v := .iptr [.str y] 0) rfl (nz rfl (stp_idxAddr rfl (isSl_enc _ _) rfl rfl rfl e1 rfl rfl)) (us 3 rfl (WO.nil ?_))
    by_cases hy : y.length ≤ 100
    · refine WC.condF (t := decide ((y.length : Int) > 100)) rfl (by simp; omega) (WC.skip (KX.block_n (KX.seq_n ?_)))
      refine WC.region (us 3 rfl (WO.nil (KX.seq_n ?_)))
      have e : ad .i64 (m : Int) 1 = ((m + 1 : Nat) : Int) := ad_nat (by omega)
      refine ih (m + 1) _ (by omega) ?_ (known_cons (Eq.trans rfl (congrArg (PV.int .i64) e)) (known_cons rfl (known_cons rfl (known_cons rfl (known_cons rfl known_nil)))))
      intro b hb'
      rw [ht] at hb'
      rcases List.mem_append.1 hb' with h1 | h1
      · exact hb b h1
      · obtain rfl := List.mem_singleton.1 h1; exact hy
    · refine WC.condT (t := decide ((y.length : Int) > 100)) rfl (by simp; omega) (WC.seqR (us 1 rfl (WO.nil ?_)))
      exact WC.ret (KX.block_r (KX.seq_r (KX.seq_r (hret _ rfl))))
theorem l5a {l m1 : Sl Str} {kp : Int} {z : Str} {K : KX} (hret : ∀ σ', σ' 8 = .bool true → K .ret σ' [] false)
    (hex : ∀ σ', Known [(0, encSl eS l), (1, encSl eS m1), (2, .int .u64 kp), (3, .str z)] σ' → (∀ b ∈ Sl.l l, b.length ≤ 100) → K (.exit 0) σ' [] false) (hn : (Sl.l l).length ≤ 1000) :
    ∀ (j m : Nat) (σ : Nat → PV), m + j = (Sl.l l).length → (∀ b ∈ (Sl.l l).take m, b.length ≤ 100) → Known ((9, .int .i64 (m : Int)) :: [(0, encSl eS l), (1, encSl eS m1), (2, .int .u64 kp), (3, .str z)]) σ → WC env ⟨134, 0⟩ (.loop pc5L0) σ [] false K := by
  intro j
  induction j with
  | zero =>
    intro m σ hm hb hk
    refine WC.reset hk fun σ0 => WC.loop ?_
    refine WC.seq (WC.seq (WC.region (us 2 rfl ?_)))
    refine WO.step rfl (nz rfl (stp_len rfl (isSl_enc _ _) rfl)) (us 1 rfl (WO.nil ?_))
    refine KX.seq_n (WC.condF (t := decide ((m : Int) < Sl.len l)) rfl (by rw [Sl.len_nat]; simp; omega) (WC.exit (KX.seq_x (KX.seq_x ?_))))
    refine hex _ (known_cons rfl (known_cons rfl (known_cons rfl (known_cons rfl known_nil)))) ?_
    rwa [show m = (Sl.l l).length by omega, List.take_length] at hb
  | succ j ih =>
    intro m σ hm hb hk
    have hlt : m < (Sl.l l).length := by omega
    have e1 : Sl.at? l (m : Int) = some ((Sl.l l)[m]) := by rw [Sl.at?_nat, List.getElem?_eq_getElem hlt]
    have ht : (Sl.l l).take (m + 1) = (Sl.l l).take m ++ [(Sl.l l)[m]] := by rw [List.take_add_one, List.getElem?_eq_getElem hlt]; rfl
    generalize (Sl.l l)[m] = y at e1 ht
    refine WC.reset hk fun σ0 => WC.loop ?_
    refine WC.seq (WC.seq (WC.region (us 2 rfl ?_)))
    refine WO.step rfl (nz rfl (stp_len rfl (isSl_enc _ _) rfl)) (us 1 rfl (WO.nil ?_))
    refine KX.seq_n (WC.condT (t := decide ((m : Int) < Sl.len l)) rfl (by rw [Sl.len_nat]; simp; omega) (WC.skip ?_))
    refine KX.seq_n (WC.seq (WC.block (WC.seqR (us 2 rfl ?_))))
    refine WO.step (v := .iptr [.str y] 0) rfl (nz rfl (stp_idxAddr rfl (isSl_enc _ _) rfl rfl rfl e1 rfl rfl)) (us 3 rfl (WO.nil ?_))
    by_cases hy : y.length ≤ 100
    · refine WC.condF (t := decide ((y.length : Int) > 100)) rfl (by simp; omega) (WC.skip (KX.block_n (KX.seq_n ?_)))
      refine WC.region (us 3 rfl (WO.nil (KX.seq_n ?_)))
      have e : ad .i64 (m : Int) 1 = ((m + 1 : Nat) : Int) := ad_nat (by omega)
      refine ih (m + 1) _ (by omega) ?_ (known_cons (Eq.trans rfl (congrArg (PV.int .i64) e)) (known_cons rfl (known_cons rfl (known_cons rfl (known_cons rfl known_nil)))))
      intro b hb'
      rw [ht] at hb'
      rcases List.mem_append.1 hb' with h1 | h1
      · exact hb b h1
      · obtain rfl := List.mem_singleton.1 h1; exact hy
    · refine WC.condT (t := decide ((y.length : Int) > 100)) rfl (by simp; omega) (WC.seqR (us 1 rfl (WO.nil ?_)))
      exact WC.ret (KX.block_r (KX.seq_r (KX.seq_r (hret _ rfl))))
theorem l5b {l m1 : Sl Str} {kp : Int} {z : Str} {K : KX} (hret : ∀ σ', σ' 8 = .bool true → K .ret σ' [] false)
    (hex : ∀ σ', Known [(0, encSl eS l), (1, encSl eS m1), (2, .int .u64 kp), (3, .str z)] σ' → (∀ b ∈ Sl.l m1, b.length ≤ 100) → K (.exit 2) σ' [] false) (hn : (Sl.l m1).length ≤ 1000) :
    ∀ (j m : Nat) (σ : Nat → PV), m + j = (Sl.l m1).length → (∀ b ∈ (Sl.l m1).take m, b.length ≤ 100) → Known ((10, .int .i64 (m : Int)) :: [(0, encSl eS l), (1, encSl eS m1), (2, .int .u64 kp), (3, .str z)]) σ → WC env ⟨134, 0⟩ (.loop pc5L2) σ [] false K := by
  intro j
  induction j with
  | zero =>
    intro m σ hm hb hk
    refine WC.reset hk fun σ0 => WC.loop ?_
    refine WC.seq (WC.seq (WC.region (us 2 rfl ?_)))
    refine WO.step rfl (nz rfl (stp_len rfl (isSl_enc _ _) rfl)) (us 1 rfl (WO.nil ?_))
    refine KX.seq_n (WC.condF (t := decide ((m : Int) < Sl.len m1)) rfl (by rw [Sl.len_nat]; simp; omega) (WC.exit (KX.seq_x (KX.seq_x ?_))))
    refine hex _ (known_cons rfl (known_cons rfl (known_cons rfl (known_cons rfl known_nil)))) ?_
    rwa [show m = (Sl.l m1).length by omega, List.take_length] at hb
  | succ j ih =>
    intro m σ hm hb hk
    have hlt : m < (Sl.l m1).length := by omega
    have e1 : Sl.at? m1 (m : Int) = some ((Sl.l m1)[m]) := by rw [Sl.at?_nat, List.getElem?_eq_getElem hlt]
    have ht : (Sl.l m1).take (m + 1) = (Sl.l m1).take m ++ [(Sl.l m1)[m]] := by rw [List.take_add_one, List.getElem?_eq_getElem hlt]; rfl
    generalize (Sl.l m1)[m] = y at e1 ht
    refine WC.reset hk fun σ0 => WC.loop ?_
    refine WC.seq (WC.seq (WC.region (us 2 rfl ?_)))
    refine WO.step rfl (nz rfl (stp_len rfl (isSl_enc _ _) rfl)) (us 1 rfl (WO.nil ?_))
    refine KX.seq_n (WC.condT (t := decide ((m : Int) < Sl.len m1)) rfl (by rw [Sl.len_nat]; simp; omega) (WC.skip ?_))
    refine KX.seq_n (WC.seq (WC.block (WC.seqR (us 2 rfl ?_))))
    refine WO.step (v := .iptr [.str y] 0) rfl (nz rfl (stp_idxAddr rfl (isSl_enc _ _) rfl rfl rfl e1 rfl rfl)) (us 3 rfl (WO.nil ?_))
    by_cases hy : y.length ≤ 100
    · refine WC.condF (t := decide ((y.length : Int) > 100)) rfl (by simp; omega) (WC.skip (KX.block_n (KX.seq_n ?_)))
      refine WC.region (us 3 rfl (WO.nil (KX.seq_n ?_)))
      have e : ad .i64 (m : Int) 1 = ((m + 1 : Nat) : Int) := ad_nat (by omega)
      refine ih (m + 1) _ (by omega) ?_ (known_cons (Eq.trans rfl (congrArg (PV.int .i64) e)) (known_cons rfl (known_cons rfl (known_cons rfl (known_cons rfl known_nil)))))
      intro b hb'
      rw [ht] at hb'
      rcases List.mem_append.1 hb' with h1 | h1
      · exact hb b h1
      · obtain rfl := List.mem_singleton.1 h1; exact hy
    · refine WC.condT (t := decide ((y.length : Int) > 100)) rfl (by simp; omega) (WC.seqR (us 1 rfl (WO.nil ?_)))
      exact WC.ret (KX.block_r (KX.seq_r (KX.seq_r (hret _ rfl))))
end Go.Proofs.YtfpgfgpbjadoaaaDoor.M
