/- What the library's functions of numbers' texts do is what the machine says. -/
import Derived.Test.YtecimmaoilignaaGreatDoorSL
import Derived.Test.YtecimmaoilignaaGreatDoorPamM4
import Derived.Lib.LaidTab
import Derived.Lib.ItoaNum
import Derived.Lib.ParseIntBTie
import Derived.Lib.ConvBytes
import Derived.Lib.UnsafeStr
import Derived.Lib.CountLaws
import Derived.Sort.Grow
namespace Go.Proofs.YtecimmaoilignaaGreatDoor.M
open Go Go.Pam Go.RowKit
set_option linter.unusedSimpArgs false
set_option linter.unusedVariables false
theorem digF_dec : ∀ (f u : Nat), u < 10 ^ (f + 1) → digF (f + 1) u = Lib.decDigits u
  | f, u, h => by
    rw [Lib.decDigits]
    unfold digF
    by_cases hu : u < 10
    · have e : Nat.ble 10 u = false := by
        cases e : Nat.ble 10 u with
        | false => rfl
        | true => have := Nat.le_of_ble_eq_true e; omega
      rw [e, dif_pos hu]
    · have e : Nat.ble 10 u = true := Nat.ble_eq_true_of_le (by omega)
      rw [e, dif_neg hu]
      cases f with
      | zero => simp at h; omega
      | succ f =>
        have : u / 10 < 10 ^ (f + 1) := by rw [Nat.pow_succ] at h; omega
        show digF (f + 1) (u / 10) ++ _ = _
        rw [digF_dec f (u / 10) this]
theorem itoa?_eq {n : Int} {y : Str} (h : itoa? n = some y) : 0 ≤ n ∧ n ≤ 999999999999999999 ∧ y = Lib.itoa n := by
  unfold itoa? at h
  split at h
  · rename_i u
    split at h
    · rename_i hb
      injection h with h
      subst h
      have hu := Nat.le_of_ble_eq_true hb
      show (0 : Int) ≤ (u : Int) ∧ (u : Int) ≤ 999999999999999999 ∧ digF 20 u = Lib.itoa (u : Int)
      refine ⟨by omega, by omega, ?_⟩
      rw [digF_dec 19 u (by omega), Lib.itoa, if_neg (by omega)]
      rfl
    · cases h
  · cases h
theorem cntB_nat (c : UInt8) : ∀ s : Str, cntB c s = s.count c
  | [] => rfl
  | x :: xs => by
    have ih := cntB_nat c xs
    rw [List.count_cons, cntB]
    by_cases hx : x = c
    · subst hx
      have e : Nat.beq x.toNat x.toNat = true := Nat.beq_refl _
      rw [e, ih]; simp
    · have e : Nat.beq x.toNat c.toNat = false := by
        cases e : Nat.beq x.toNat c.toNat with
        | false => rfl
        | true => exact absurd (UInt8.toNat_inj.1 (Nat.eq_of_beq_eq_true e)) hx
      rw [e, ih]; simp [hx]
theorem cntB_eq (c : UInt8) (s : Str) : (cntB c s : Int) = Lib.countByte s c := by
  rw [cntB_nat]; rfl
section
variable {P : Program} {ctx : Ctx} {f : FuncId}
theorem good_str {S : List SObj} {g : G} {w w' : World} {base : Nat} {bd : Nat → Nat} (hR : R S w g base bd) (B : Below w.heap.size w w') (y : Str) : Go.Pam.Good base bd S g w (.str y) S false (.string ⟨y.toArray⟩) w' := by
  obtain ⟨k1, k2⟩ := R.below hR B
  exact ⟨g, V.str ⟨y.toArray⟩, by simpa using k1, k2, Nat.le_refl _⟩
theorem grow_below (w : World) (k : Nat) (os : Array Obj) : Below w.heap.size w (Sort.grow (w.drewN k) os) := by
  refine ⟨rfl, rfl, rfl, ?_, fun b hb => ?_⟩
  · simp [Sort.grow, World.drewN]
  · show (w.heap ++ os)[b]? = w.heap[b]?
    rw [Array.getElem?_append_left hb]
theorem fmt_ok (hfn : ∃ fn, P.funcs[f]? = some fn ∧ fn.body.isNone = false ∧ fn.name ≠ "runtime.NumGoroutine")
    (htab : ∀ (w : World) (g : G), Gl ctx w g → Lib.TabIs P w "internal/strconv.uint64pow10" .u64 Lib.pow10Tab)
    (hX : ∀ (n : Int), -9223372036854775808 ≤ n → n ≤ 9223372036854775807 → ∀ w : World, Lib.TabIs P w "internal/strconv.uint64pow10" .u64 Lib.pow10Tab →
      Calls P f #[.int .i64 n, .int .i64 10] w fun e w' => e = .returned (.string ⟨(Lib.itoa n).toArray⟩) ∧ ∃ k os, w' = Sort.grow (w.drewN k) os)
    (args : List PV) (S : List SObj) (v : PV) (S' : List SObj) (e : Bool) (h : fmtH args S = some (v, S', e))
    (w : World) (g : G) (base : Nat) (bd : Nat → Nat) (cargs : Array Value) (hR : Go.Pam.R S w g base bd) (hgl : Gl ctx w g) (hl : args.length = cargs.size) (hV : ∀ (i : Nat) (c : PV), args[i]? = some c → V g w S.length c (cargs.getD i undef)) :
    (∃ fn, P.funcs[f]? = some fn ∧ fn.body.isNone = false ∧ fn.name ≠ "runtime.NumGoroutine") ∧ Calls P f cargs w (fun en w' => ∃ rv, en = .returned rv ∧ Go.Pam.Good base bd S g w v S' e rv w') := by
  refine ⟨hfn, ?_⟩
  unfold fmtH at h
  split at h
  case h_2 => cases h
  rename_i n b
  split at h
  case h_2 => cases h
  rename_i b'
  split at h
  case h_2 => cases h
  rename_i hb
  split at h
  case h_2 => cases h
  rename_i y hy
  injection h with h; injection h with h1 h2; injection h2 with h2 h3; subst h1 h2 h3
  obtain rfl : b' = 10 := Nat.eq_of_beq_eq_true hb
  obtain ⟨h0, h1, rfl⟩ := itoa?_eq hy
  obtain ⟨a, b, rfl, va, vb⟩ := args2 hl hV
  rw [va.inv_int, vb.inv_int]
  refine (hX n (by omega) (by omega) w (htab w g hgl)).mono ?_
  rintro en w' ⟨rfl, k, os, rfl⟩
  exact ⟨_, rfl, good_str hR (grow_below w k os) _⟩
theorem ito_ok (hfn : ∃ fn, P.funcs[f]? = some fn ∧ fn.body.isNone = false ∧ fn.name ≠ "runtime.NumGoroutine")
    (htab : ∀ (w : World) (g : G), Gl ctx w g → Lib.TabIs P w "internal/strconv.uint64pow10" .u64 Lib.pow10Tab)
    (hX : ∀ (n : Int), -9223372036854775808 ≤ n → n ≤ 9223372036854775807 → ∀ w : World, Lib.TabIs P w "internal/strconv.uint64pow10" .u64 Lib.pow10Tab →
      Calls P f #[.int .i64 n] w fun e w' => e = .returned (.string ⟨(Lib.itoa n).toArray⟩) ∧ ∃ k os, w' = Sort.grow (w.drewN k) os)
    (args : List PV) (S : List SObj) (v : PV) (S' : List SObj) (e : Bool) (h : itoH args S = some (v, S', e))
    (w : World) (g : G) (base : Nat) (bd : Nat → Nat) (cargs : Array Value) (hR : Go.Pam.R S w g base bd) (hgl : Gl ctx w g) (hl : args.length = cargs.size) (hV : ∀ (i : Nat) (c : PV), args[i]? = some c → V g w S.length c (cargs.getD i undef)) :
    (∃ fn, P.funcs[f]? = some fn ∧ fn.body.isNone = false ∧ fn.name ≠ "runtime.NumGoroutine") ∧ Calls P f cargs w (fun en w' => ∃ rv, en = .returned rv ∧ Go.Pam.Good base bd S g w v S' e rv w') := by
  refine ⟨hfn, ?_⟩
  unfold itoH at h
  split at h
  case h_2 => cases h
  rename_i n
  split at h
  case h_2 => cases h
  rename_i y hy
  injection h with h; injection h with h1 h2; injection h2 with h2 h3; subst h1 h2 h3
  obtain ⟨h0, h1, rfl⟩ := itoa?_eq hy
  obtain ⟨a, rfl⟩ : ∃ a, cargs = #[a] := by
    obtain ⟨l⟩ := cargs
    match l, hl with
    | [a], _ => exact ⟨a, rfl⟩
  have va : V g w S.length (.int .i64 n) a := hV 0 _ rfl
  rw [va.inv_int]
  refine (hX n (by omega) (by omega) w (htab w g hgl)).mono ?_
  rintro en w' ⟨rfl, k, os, rfl⟩
  exact ⟨_, rfl, good_str hR (grow_below w k os) _⟩
theorem cnt_ok (hfn : ∃ fn, P.funcs[f]? = some fn ∧ fn.body.isNone = false ∧ fn.name ≠ "runtime.NumGoroutine")
    (hX : ∀ (s : ByteArray) (c : UInt8) (w : World), Calls P f #[.string s, .string ⟨#[c]⟩] w fun e w' => e = .returned (.int .i64 (Lib.countByte s.data.toList c)) ∧ w' = w)
    (args : List PV) (S : List SObj) (v : PV) (S' : List SObj) (e : Bool) (h : cntH args S = some (v, S', e))
    (w : World) (g : G) (base : Nat) (bd : Nat → Nat) (cargs : Array Value) (hR : Go.Pam.R S w g base bd) (_hgl : Gl ctx w g) (hl : args.length = cargs.size) (hV : ∀ (i : Nat) (c : PV), args[i]? = some c → V g w S.length c (cargs.getD i undef)) :
    (∃ fn, P.funcs[f]? = some fn ∧ fn.body.isNone = false ∧ fn.name ≠ "runtime.NumGoroutine") ∧ Calls P f cargs w (fun en w' => ∃ rv, en = .returned rv ∧ Go.Pam.Good base bd S g w v S' e rv w') := by
  refine ⟨hfn, ?_⟩
  unfold cntH at h
  split at h
  case h_2 => cases h
  rename_i s c
  injection h with h; injection h with h1 h2; injection h2 with h2 h3; subst h1 h2 h3
  obtain ⟨a, b, rfl, va, vb⟩ := args2 hl hV
  obtain ⟨s', rfl, rfl⟩ : ∃ s' : ByteArray, a = .string s' ∧ s'.data.toList = s := by
    cases va with
    | str s => exact ⟨s, rfl, rfl⟩
  obtain ⟨c', rfl, hc⟩ : ∃ s' : ByteArray, b = .string s' ∧ s'.data.toList = [c] := by
    generalize hq : [c] = q at vb
    cases vb with
    | str s => exact ⟨s, rfl, rfl⟩
  obtain rfl : c' = ⟨#[c]⟩ := by
    obtain ⟨⟨l⟩⟩ := c'
    have : l = [c] := hc
    subst this
    rfl
  refine (hX s' c w).mono ?_
  rintro en w' ⟨rfl, rfl⟩
  rw [cntB_eq]
  exact ⟨_, rfl, Go.Pam.Good.same hR (.int _ _)⟩
end
namespace L
theorem pnum_parse : ∀ (s : Str) (a k n : Nat), a < 10 ^ k → s.length + k ≤ 18 → pnum a s = some n → Lib.parseUint10 a s = .ok n ∧ n < 10 ^ (k + s.length)
  | [], a, k, n, ha, hl, h => by
    injection h with h
    subst h
    exact ⟨rfl, by simpa using ha⟩
  | c :: r, a, k, n, ha, hl, h => by
    have hl' : r.length + 1 + k ≤ 18 := by simpa using hl
    have hp : 10 ^ k ≤ 10 ^ 17 := Nat.pow_le_pow_right (by decide) (by omega)
    have e17 : (10 : Nat) ^ 17 = 100000000000000000 := by decide
    unfold pnum at h
    split at h
    case isFalse => cases h
    rename_i hd
    have hlt : 10 * a + (c.toNat - 48) < 10 ^ (k + 1) := by rw [Nat.pow_succ]; omega
    obtain ⟨h1, h2⟩ := pnum_parse r _ (k + 1) n hlt (by omega) h
    refine ⟨?_, by rw [List.length_cons, show k + (r.length + 1) = k + 1 + r.length by omega]; exact h2⟩
    unfold Lib.parseUint10
    rw [if_pos hd, if_neg (by omega), if_neg (by omega), Nat.mul_comm a 10]
    exact h1
theorem pint_parse {s : Str} {n : Int} (h : pint? s = some n) : s.length ≤ 18 ∧ Lib.parseIntB 64 s = .ok n := by
  unfold pint? at h
  split at h
  case isFalse => cases h
  rename_i hs
  obtain ⟨hl, hne⟩ := hs
  refine ⟨hl, ?_⟩
  cases hp : pnum 0 s with
  | none => rw [hp] at h; cases h
  | some m =>
    rw [hp] at h
    injection h with h
    subst h
    obtain ⟨h1, h2⟩ := pnum_parse s 0 0 m (by decide) (by omega) hp
    rw [Lib.parseIntB_64]
    cases s with
    | nil => exact absurd rfl hne
    | cons c r =>
      have hc : 48 ≤ c.toNat ∧ c.toNat ≤ 57 := by
        unfold pnum at hp
        split at hp
        · assumption
        · cases hp
      have e18 : (10 : Nat) ^ 18 = 1000000000000000000 := by decide
      have hm : m < 10 ^ 18 := Nat.lt_of_lt_of_le h2 (Nat.pow_le_pow_right (by decide) (by omega))
      unfold Lib.atoiAll
      simp only
      rw [if_neg (by omega)]
      unfold Lib.parseMag
      rw [if_neg (by simp), h1]
      simp only
      rw [if_neg (by omega), if_neg (by omega), if_neg (by omega)]
theorem bytes_below (w : World) (e : TypeId) (s : ByteArray) : Below w.heap.size w (Lib.bytesWorld w e s) := by
  unfold Lib.bytesWorld
  exact Lib.below_freeze ((Below.refl _ _).drew.alloc (Nat.le_refl _) _) (Nat.le_refl _) _
theorem pi_ok {P : Program} {ctx : Ctx} {f : FuncId} {t5 : TypeId} (hfn : ∃ fn, P.funcs[f]? = some fn ∧ fn.body.isNone = false ∧ fn.name ≠ "runtime.NumGoroutine")
    (hX : ∀ (s : ByteArray), s.size ≤ 9223372036854775806 → ∀ v : Int, Lib.parseIntB 64 s.data.toList = .ok v → ∀ w : World, Calls P f #[.string s, .int .i64 10, .int .i64 64] w fun e w' => e = .returned (.tuple #[.int .i64 v, .nilIface]) ∧ (w' = w ∨ ∃ t, w' = Lib.bytesWorld w t5 t))
    (args : List PV) (S : List SObj) (v : PV) (S' : List SObj) (e : Bool) (h : piH args S = some (v, S', e))
    (w : World) (g : G) (base : Nat) (bd : Nat → Nat) (cargs : Array Value) (hR : Go.Pam.R S w g base bd) (_hgl : Gl ctx w g) (hl : args.length = cargs.size) (hV : ∀ (i : Nat) (c : PV), args[i]? = some c → V g w S.length c (cargs.getD i undef)) :
    (∃ fn, P.funcs[f]? = some fn ∧ fn.body.isNone = false ∧ fn.name ≠ "runtime.NumGoroutine") ∧ Calls P f cargs w (fun en w' => ∃ rv, en = .returned rv ∧ Go.Pam.Good base bd S g w v S' e rv w') := by
  refine ⟨hfn, ?_⟩
  unfold piH at h
  split at h
  case h_2 => cases h
  rename_i s b c
  split at h
  case isFalse => cases h
  rename_i hbc
  obtain ⟨rfl, rfl⟩ := hbc
  split at h
  case h_2 => cases h
  rename_i n hn
  injection h with h; injection h with h1 h2; injection h2 with h2 h3; subst h1 h2 h3
  obtain ⟨a, b, c, rfl, va, vb, vc⟩ : ∃ a b c, cargs = #[a, b, c] ∧ V g w S.length (.str s) a ∧ V g w S.length (.int .i64 10) b ∧ V g w S.length (.int .i64 64) c := by
    obtain ⟨l⟩ := cargs
    match l, hl with
    | [a, b, c], _ => exact ⟨a, b, c, rfl, hV 0 _ rfl, hV 1 _ rfl, hV 2 _ rfl⟩
  obtain ⟨s', rfl, rfl⟩ : ∃ s' : ByteArray, a = .string s' ∧ s'.data.toList = s := by
    cases va with
    | str s => exact ⟨s, rfl, rfl⟩
  obtain ⟨hls, hpi⟩ := pint_parse hn
  have hsz : s'.size ≤ 9223372036854775806 := by
    have : s'.size = s'.data.toList.length := by rw [Array.length_toList]; rfl
    omega
  have hc := hX s' hsz n hpi w
  rw [vb.inv_int, vc.inv_int]
  refine hc.mono ?_
  rintro en w' ⟨rfl, hw⟩
  have B : Below w.heap.size w w' := by
    rcases hw with rfl | ⟨t, rfl⟩
    · exact Below.refl _ _
    · exact bytes_below _ _ _
  obtain ⟨k1, k2⟩ := R.below hR B
  refine ⟨_, rfl, g, ?_, by simpa using k1, k2, Nat.le_refl _⟩
  refine V.tup _ _ rfl fun i c hi => ?_
  match i with
  | 0 => injection hi with hi; subst hi; exact .int _ _
  | 1 => injection hi with hi; subst hi; exact .nili
  | i + 2 => simp at hi
end L
end Go.Proofs.YtecimmaoilignaaGreatDoor.M
