/- Messages: what spoils one. -/
import Derived.Test.YtbinlabnilidiaaGreatDoorMDz
import Derived.Test.YtbinlabnilidiaaGreatDoorMsF
namespace Go.Proofs.YtbinlabnilidiaaGreatDoor.M
open Go Go.Pam
set_option maxRecDepth 20000
set_option linter.unusedVariables false
set_option linter.unusedSimpArgs false

theorem not_msg {k : Nat} (hk : 200200 ≤ k) (hk2 : k < 400000000000000) {a : Ms} (ha : Few a) (h : isM a = false) : F9 k a = some ([], 14) := by
  unfold F9
  rw [bnd (f11 hk hk2 ha), h]
  rfl

theorem sc1_of {a b : Ms} (h : msgEq a b = true) : a.ID = b.ID ∧ a.Op = b.Op ∧ a.Of = b.Of ∧ a.Version = b.Version ∧ a.Scope = b.Scope ∧ a.Size = b.Size ∧ a.Code = b.Code := by
  unfold msgEq at h
  rw [Bool.and_eq_true, Bool.and_eq_true] at h
  have h := h.1.2
  unfold sc1 at h
  simp only [Bool.and_eq_true, beq_iff_eq] at h
  obtain ⟨⟨⟨⟨⟨⟨h1, h2⟩, h3⟩, h4⟩, h5⟩, h6⟩, h7⟩ := h
  exact ⟨h1, h2, h3, h4, h5, h6, h7⟩

theorem spoiled {k : Nat} (hk : 200200 ≤ k) (hk2 : k < 400000000000000) {a b : Ms} (ha : Few a) (hb : Few b) (hai : isM a = true) (hbi : isM b = false) (hne : msgEq a b = false) :
    (Option.bind (F9 k b) fun y983 => Option.bind (F11 k b) fun y984 =>
      Option.bind (if (!y984) && (y983.2 == 14) then Option.bind (F13 k a b) fun y991 => some (!y991) else some false) fun y990 =>
      Option.bind (if y990 then Option.bind (F11 k a) fun y998 => some y998 else some false) fun y997 => some y997) = some true := by
  rw [bnd (not_msg hk hk2 hb hbi), bnd (f11 hk hk2 hb), hbi, if_pos (by decide), bnd (f13 hk hk2 ha hb.filter), hne, bnd rfl, if_pos (by decide), f11 hk hk2 ha, hai]
  rfl

theorem core_sc (a : Ms) : (a.Op ≠ 1 → (coreS a).Version = 0) ∧ (a.Op ≠ 3 → (coreS a).Scope = 0 ∧ (coreS a).Size = 0) ∧ (a.Op ≠ 9 → (coreS a).Code = 0) := by
  unfold coreS
  refine ⟨fun h => ?_, fun h => ?_, fun h => ?_⟩
  all_goals
    (repeat' split)
    all_goals first | rfl | exact ⟨rfl, rfl⟩ | omega

theorem opS_of {a : Ms} (h : opS a = true) : (a.Op = 1 → 1 ≤ a.Version ∧ a.Version ≤ 127) ∧ (a.Op = 3 → 0 ≤ a.Scope ∧ a.Scope ≤ 2 ∧ 0 ≤ a.Size) ∧ (a.Op = 9 → 0 ≤ a.Code ∧ a.Code ≤ 127) ∧ 1 ≤ a.Op ∧ a.Op ≤ 10 := by
  unfold opS at h
  by_cases h1 : a.Op = 1
  · rw [if_pos h1, Bool.and_eq_true, decide_eq_true_eq, decide_eq_true_eq] at h
    refine ⟨fun _ => h, fun _ => ?_, fun _ => ?_, ?_⟩ <;> omega
  rw [if_neg h1] at h
  by_cases h3 : a.Op = 3
  · rw [if_pos h3] at h
    simp only [Bool.and_eq_true, decide_eq_true_eq] at h
    refine ⟨fun _ => ?_, fun _ => ?_, fun _ => ?_, ?_⟩ <;> omega
  rw [if_neg h3] at h
  by_cases h4 : a.Op = 4
  · refine ⟨fun _ => ?_, fun _ => ?_, fun _ => ?_, ?_⟩ <;> omega
  rw [if_neg h4] at h
  by_cases h5 : a.Op = 5 ∨ a.Op = 10
  · refine ⟨fun _ => ?_, fun _ => ?_, fun _ => ?_, ?_⟩ <;> omega
  rw [if_neg h5] at h
  by_cases h9 : a.Op = 9
  · rw [if_pos h9] at h
    simp only [Bool.and_eq_true, decide_eq_true_eq] at h
    refine ⟨fun _ => ?_, fun _ => ?_, fun _ => ?_, ?_⟩ <;> omega
  rw [if_neg h9, Bool.and_eq_true, decide_eq_true_eq, decide_eq_true_eq] at h
  refine ⟨fun _ => ?_, fun _ => ?_, fun _ => ?_, ?_⟩ <;> omega

theorem isM_of {a : Ms} (h : isM a = true) : 0 ≤ a.ID ∧ a.ID ≤ 2147483647 ∧ msgEq a (coreS a) = true ∧ opS a = true := by
  unfold isM at h
  simp only [Bool.and_eq_true, decide_eq_true_eq] at h
  exact ⟨h.1.1.1.1, h.1.1.1.2, h.1.1.2, h.2⟩

/-- What a message's numbers can be. -/
structure Nums (a : Ms) : Prop where
  id : 0 ≤ a.ID
  op : 1 ≤ a.Op ∧ a.Op ≤ 10
  version : if a.Op = 1 then 1 ≤ a.Version ∧ a.Version ≤ 127 else a.Version = 0
  scope : if a.Op = 3 then 0 ≤ a.Scope ∧ a.Scope ≤ 2 else a.Scope = 0
  size : if a.Op = 3 then 0 ≤ a.Size else a.Size = 0
  code : if a.Op = 9 then 0 ≤ a.Code ∧ a.Code ≤ 127 else a.Code = 0

theorem nums {a : Ms} (h : isM a = true) : Nums a := by
  obtain ⟨h1, h2, h3, h4⟩ := isM_of h
  obtain ⟨o1, o3, o9, o0⟩ := opS_of h4
  obtain ⟨_, _, _, c4, c5, c6, c7⟩ := sc1_of h3
  obtain ⟨k1, k3, k9⟩ := core_sc a
  refine ⟨h1, o0, ?_, ?_, ?_, ?_⟩
  · split
    · exact o1 ‹_›
    · rw [c4]; exact k1 ‹_›
  · split
    · have := o3 ‹_›; omega
    · rw [c5]; exact (k3 ‹_›).1
  · split
    · have := o3 ‹_›; omega
    · rw [c6]; exact (k3 ‹_›).2
  · split
    · exact o9 ‹_›
    · rw [c7]; exact k9 ‹_›

theorem ne_of {a b : Ms} (h : ¬ (a.ID = b.ID ∧ a.Op = b.Op ∧ a.Version = b.Version ∧ a.Scope = b.Scope ∧ a.Size = b.Size ∧ a.Code = b.Code)) : msgEq a b = false := by
  cases e : msgEq a b
  · rfl
  · obtain ⟨h1, h2, _, h4, h5, h6, h7⟩ := sc1_of e
    exact absurd ⟨h1, h2, h4, h5, h6, h7⟩ h

theorem F6_true {a : Ms} {which : Int} (hM : (Sl.l a.Mods).length ≤ 9223372036854775807) : ∃ k, F6 k a which = some true := by
  refine ⟨(if (Sl.l a.Mods).length < 100 then 0 else (Sl.l a.Mods).length) + 300000, ?_⟩
  generalize hn0 : (if (Sl.l a.Mods).length < 100 then 0 else (Sl.l a.Mods).length) = n
  obtain ⟨b, hb, hb2⟩ := f8 (k := n + 300000) (by omega) a (by split at hn0 <;> omega) hM
  unfold F6
  rw [bnd (show F7 (n + 300000) = some true from rfl), if_neg (by decide), bnd hb]
  cases b with
  | false => rfl
  | true =>
    have hz : n = 0 := by have := (hb2 rfl).mods; rw [← hn0, if_pos (by omega)]
    subst hz
    have ha := hb2 rfl
    have h11 := f11 (k := 0 + 300000) (by omega) (by omega) ha
    rw [if_neg (by decide), bnd h11]
    cases hai : isM a with
    | false => rfl
    | true =>
      have hn := nums hai
      rw [bnd rfl, if_neg (by decide)]
      have hr : rem? which 6 = some (which.tmod 6) := rfl
      rw [bnd hr]
      generalize which.tmod 6 = z
      have hv : ad .i64 a.Version 128 = a.Version + 128 := ad64 (by have := hn.version; split at this <;> omega)
      have hc : ad .i64 a.Code 128 = a.Code + 128 := ad64 (by have := hn.code; split at this <;> omega)
      rw [hv, hc]
      have fin : ∀ {b : Ms}, Few b → isM b = false → msgEq a b = false → _ := fun hb h1 h2 => spoiled (k := 0 + 300000) (by omega) (by omega) ha hb hai h1 h2
      have bad : ∀ {b : Ms}, ¬ Nums b → isM b = false := fun {b} h => by
        cases e : isM b
        · rfl
        · exact absurd (nums e) h
      obtain ⟨n1, n2, n3, n4, n5, n6⟩ := hn
      by_cases z0 : z = 0
      · rw [if_pos (by simp [z0]), bnd rfl]
        exact fin (b := { a with ID := -1 }) ⟨ha.1, ha.2, ha.3, ha.4, ha.5, ha.6, ha.7, ha.8, ha.9, ha.10, ha.11, ha.12⟩ (bad fun h => by have := h.id; simp at this) (ne_of (by simp only; omega))
      rw [if_neg (by simpa using z0)]
      by_cases z1 : z = 1
      · rw [if_pos (by simp [z1]), bnd rfl, bnd rfl]
        exact fin (b := { a with Op := 11 }) ⟨ha.1, ha.2, ha.3, ha.4, ha.5, ha.6, ha.7, ha.8, ha.9, ha.10, ha.11, ha.12⟩ (bad fun h => by have := h.op; simp at this) (ne_of (by simp only; omega))
      rw [if_neg (by simpa using z1)]
      by_cases z2 : z = 2
      · rw [if_pos (by simp [z2]), bnd rfl, bnd rfl, bnd rfl]
        exact fin (b := { a with Version := a.Version + 128 }) ⟨ha.1, ha.2, ha.3, ha.4, ha.5, ha.6, ha.7, ha.8, ha.9, ha.10, ha.11, ha.12⟩ (bad fun h => by have := h.version; simp only at this; split at this <;> simp_all <;> omega) (ne_of (by simp only; omega))
      rw [if_neg (by simpa using z2)]
      by_cases z3 : z = 3
      · rw [if_pos (by simp [z3]), bnd rfl, bnd rfl, bnd rfl, bnd rfl]
        exact fin (b := { a with Scope := 3 }) ⟨ha.1, ha.2, ha.3, ha.4, ha.5, ha.6, ha.7, ha.8, ha.9, ha.10, ha.11, ha.12⟩ (bad fun h => by have := h.scope; simp only at this; split at this <;> omega) (ne_of (by simp only; split at n4 <;> omega))
      rw [if_neg (by simpa using z3)]
      by_cases z4 : z = 4
      · rw [if_pos (by simp [z4]), bnd rfl, bnd rfl, bnd rfl, bnd rfl, bnd rfl]
        exact fin (b := { a with Code := a.Code + 128 }) ⟨ha.1, ha.2, ha.3, ha.4, ha.5, ha.6, ha.7, ha.8, ha.9, ha.10, ha.11, ha.12⟩ (bad fun h => by have := h.code; simp only at this; split at this <;> simp_all <;> omega) (ne_of (by simp only; omega))
      rw [if_neg (by simpa using z4), bnd rfl, bnd rfl, bnd rfl, bnd rfl, bnd rfl]
      exact fin (b := { a with Size := -1 }) ⟨ha.1, ha.2, ha.3, ha.4, ha.5, ha.6, ha.7, ha.8, ha.9, ha.10, ha.11, ha.12⟩ (bad fun h => by have := h.size; simp only at this; split at this <;> omega) (ne_of (by simp only; split at n5 <;> omega))

abbrev eM (a : Ms) : PV := .agg [(.int .i64 a.ID), (.int .i64 a.Op), (.int .i64 a.Of), (.str a.DN), (.int .i64 a.Version), (.str a.Pass), (.int .i64 a.Scope), (.int .i64 a.Size), (.int .i64 a.Filter.Kind), (.str a.Filter.Attr), (.str a.Filter.Value), (encSl eS a.Filter.Subs), (encSl e_Api_Filter a.Filter.Kids), (encSl eS a.Wants), (encSl e_Api_Mod a.Mods), (.str a.RDN), (.bool a.DelOld), (.bool a.HasSup), (.str a.Sup), (.str a.Attr), (.str a.Value), (.int .i64 a.Code), (.str a.Matched)]
theorem msgSpoils_true (a0 : Ms) (a1 : Int) (o0 : Ok_Api_Msg a0) (o1 : (Lit.int .u8 a1).wf = true) : evw env 6 [eM a0, .int .u8 a1] [] = some (.bool true, [], false) := by
  obtain ⟨k, hk⟩ := F6_true (a := a0) (which := a1) o0.h10.1
  refine s6 k hk ?_ []
  simp only [List.map_cons, List.map_nil, st_agg, st_int, st1_int, st1_str, st1_bool, strip1_enc]

end Go.Proofs.YtbinlabnilidiaaGreatDoor.M
