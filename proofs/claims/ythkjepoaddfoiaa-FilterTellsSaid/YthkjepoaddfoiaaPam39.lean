/- strings.Join and strings.IndexByte as steps of the abstract machine. -/
import Derived.Test.YthkjepoaddfoiaaPam38
import Derived.Lib.Bytealg
namespace Go.Pam
open Go.RowKit Go.Shelf Go.Proofs
set_option linter.unusedSimpArgs false
set_option linter.unusedVariables false

section
variable {S : List SObj} {w w' : World} {g : G} {base : Nat} {bd : Nat → Nat}
theorem R.below (h : R S w g base bd) (hb : Below w.heap.size w w') : R S w' g base bd ∧ Evo S.length g w g w' := by
  have hsz := hb.size
  have evo : ∀ m, Evo m g w g w' := fun m => by
    refine ⟨fun _ => Nat.le_refl _, fun b o ho => ?_, fun _ _ => rfl, fun _ _ _ => rfl, fun _ _ => rfl, fun _ _ => Nat.le_refl _, fun _ _ _ => rfl, fun k cap hk hob _ ht => ?_, hsz, rfl, fun k hk => hb.block k (h.hfix k hk), fun _ _ => rfl, hb.os, hb.tape, hb.output⟩
    · have : b < w.heap.size := by
        rcases Nat.lt_or_ge b w.heap.size with hb' | hb'
        · exact hb'
        · have := h.hpp b hb'; omega
      exact cell?_of_heap (hb.block b this) o
    · exact TipC.heap (g := g) rfl rfl rfl rfl (hb.block _ ht.lt) ht
  refine ⟨⟨h.hbase, h.hbd, fun k hk => by have := h.hfix k hk; omega, fun b hb' => h.hpp b (by omega), fun k o hk => ?_, h.inj⟩, evo _⟩
  exact (h.live k o hk).evo (evo _) rfl rfl rfl rfl (fun hd _ => ⟨hb.block _ ((h.live k o hk).loc_lt hd), rfl⟩)
end

def strsOf : List PV → Option (List Str)
  | [] => some []
  | .str s :: r => (strsOf r).map (s :: ·)
  | _ => none
theorem strsOf_map : ∀ (l : List Str), strsOf (l.map eS) = some l
  | [] => rfl
  | s :: r => by simp only [List.map_cons, strsOf, strsOf_map r]; rfl
theorem strsOf_inv : ∀ {l : List PV} {ss : List Str}, strsOf l = some ss → l = ss.map eS
  | [], ss, h => by simp only [strsOf, Option.some.injEq] at h; subst h; rfl
  | x :: r, ss, h => by
    cases x with
    | str s =>
      simp only [strsOf] at h
      cases hr : strsOf r with
      | none => rw [hr] at h; cases h
      | some t => rw [hr] at h; simp only [Option.map_some, Option.some.injEq] at h; subst h; rw [strsOf_inv hr]; rfl
    | _ => simp only [strsOf] at h; cases h

def Sl.join? (x : Sl Str) (sep : Str) : Option Str := if x.l.length ≤ 140737488355328 ∧ (Lib.join x.l sep).length ≤ 140737488355328 then some (Lib.join x.l sep) else none

def joinH : List PV → List SObj → Option (PV × List SObj × Bool)
  | [x, .str sep], S => match x with
    | .nils => some (.str [], S, false)
    | .lst xs _ => (strsOf xs).bind fun ss => (Sl.join? (some ss) sep).map fun r => (.str r, S, false)
    | _ => none
  | _, _ => none
def idxH : List PV → List SObj → Option (PV × List SObj × Bool)
  | [.str s, .int .u8 c], S => some (.int .i64 (Lib.indexByte s c.toNat.toUInt8), S, false)
  | _, _ => none

section
variable {P : Program} {ρ : Ren}

theorem idx_ok {f : FuncId} (hfn : ∃ fn, P.funcs[f]? = some fn ∧ fn.body.isNone = false ∧ fn.name ≠ "runtime.NumGoroutine")
    (hX : ∀ (s : ByteArray) (c : Int) (w : World), Calls P f #[.string s, .int .u8 c] w fun e w' => e = .returned (.int .i64 (Lib.indexByte s.data.toList c.toNat.toUInt8)) ∧ w' = w)
    (args : List PV) (S : List SObj) (v : PV) (S' : List SObj) (e : Bool) (h : idxH args S = some (v, S', e))
    (w : World) (g : G) (base : Nat) (bd : Nat → Nat) (cargs : Array Value) (hR : Go.Pam.R S w g base bd) (hl : args.length = cargs.size) (hV : ∀ (i : Nat) (c : PV), args[i]? = some c → V g w S.length c (cargs.getD i undef)) :
    (∃ fn, P.funcs[f]? = some fn ∧ fn.body.isNone = false ∧ fn.name ≠ "runtime.NumGoroutine") ∧ Calls P f cargs w (fun en w' => ∃ rv, en = .returned rv ∧ Good base bd S g w v S' e rv w') := by
  refine ⟨hfn, ?_⟩
  unfold idxH at h
  split at h
  case h_2 => cases h
  rename_i s c
  injection h with h; injection h with h1 h2; injection h2 with h2 h3; subst h1 h2 h3
  obtain ⟨a, b, rfl, va, vb⟩ := arg2 rfl hl hV
  have e2 := vb.inv_int
  subst e2
  obtain ⟨s', rfl, rfl⟩ : ∃ s' : ByteArray, a = .string s' ∧ s'.data.toList = s := by
    cases va with
    | str s => exact ⟨s, rfl, rfl⟩
  refine (hX s' c w).mono ?_
  rintro en w' ⟨rfl, rfl⟩
  exact ⟨_, rfl, Good.same hR (.int _ _)⟩

theorem join_ok (L : Lays.n156 P ρ) (X : Builder.Extra P ρ) (hfn : ∃ fn, P.funcs[ρ.f 156]? = some fn ∧ fn.body.isNone = false ∧ fn.name ≠ "runtime.NumGoroutine")
    (args : List PV) (S : List SObj) (v : PV) (S' : List SObj) (e : Bool) (h : joinH args S = some (v, S', e))
    (w : World) (g : G) (base : Nat) (bd : Nat → Nat) (cargs : Array Value) (hR : Go.Pam.R S w g base bd) (hl : args.length = cargs.size) (hV : ∀ (i : Nat) (c : PV), args[i]? = some c → V g w S.length c (cargs.getD i undef)) :
    (∃ fn, P.funcs[ρ.f 156]? = some fn ∧ fn.body.isNone = false ∧ fn.name ≠ "runtime.NumGoroutine") ∧ Calls P (ρ.f 156) cargs w (fun en w' => ∃ rv, en = .returned rv ∧ Good base bd S g w v S' e rv w') := by
  refine ⟨hfn, ?_⟩
  unfold joinH at h
  split at h
  case h_2 => cases h
  rename_i x sep
  obtain ⟨a, b, rfl, va, vb⟩ := arg2 rfl hl hV
  obtain ⟨s', rfl, rfl⟩ : ∃ s' : ByteArray, b = .string s' ∧ s'.data.toList = sep := by
    cases vb with
    | str s => exact ⟨s, rfl, rfl⟩
  have none_ : ∀ (ad : Option Addr) (c : Nat), a = .slice ad 0 c → Calls P (ρ.f 156) #[a, .string s'] w (fun en w' => ∃ rv, en = .returned rv ∧ Good base bd S g w (.str []) S false rv w') := by
    rintro ad c rfl
    refine (Any.strings_Join_none L X ad c s' w).mono ?_
    rintro en w' ⟨rfl, rfl⟩
    exact ⟨_, rfl, Good.same hR (.str ⟨#[]⟩)⟩
  split at h
  · injection h with h; injection h with h1 h2; injection h2 with h2 h3; subst h1 h2 h3
    cases va with
    | nils => exact none_ none 0 rfl
  · rename_i xs tag
    cases hs : strsOf xs with
    | none => rw [hs] at h; cases h
    | some ss =>
      rw [hs] at h
      simp only [Option.bind_some] at h
      unfold Sl.join? at h
      split at h
      case isFalse => cases h
      rename_i hle
      simp only [Option.map_some, Option.some.injEq, Prod.mk.injEq] at h
      obtain ⟨rfl, rfl, rfl⟩ := h
      rw [Sl.l_some] at hle ⊢
      have hx := strsOf_inv hs
      subst hx
      by_cases h0 : ss = []
      · subst h0
        rw [Lib.join_nil]
        rw [List.map_nil] at va
        cases va with
        | lst xs tag b o cap sz u hc h1 h2 h3 h4 h5 ht => exact none_ _ cap rfl
        | lst0 ad => exact none_ _ 0 rfl
      · generalize hxs : ss.map eS = xs0 at va
        cases va with
        | lst0 ad => exact absurd (List.map_eq_nil_iff.1 hxs) h0
        | lst xs tag b o cap sz u hc h1 h2 h3 h4 h5 ht =>
          subst hxs
          have hpos : 0 < ss.length := List.length_pos_iff.2 h0
          have hsz : sz = 1 := by
            have := h1 0 (.str ss[0]) (by rw [List.getElem?_map, List.getElem?_eq_getElem hpos]; rfl)
            simpa [PV.cells] using this.symm
          subst hsz
          let bs : List ByteArray := ss.map fun s => ⟨s.toArray⟩
          have hbl : bs.length = ss.length := by simp [bs]
          have hcells : ∀ (j : Nat) x, bs[j]? = some x → w.cell? ⟨b, o + j, none⟩ = some (.string x) := by
            intro j x hj
            have hjl : j < ss.length := by have := (List.getElem?_eq_some_iff.1 hj).1; omega
            have hxj : (ss.map eS)[j]? = some (.str ss[j]) := by rw [List.getElem?_map, List.getElem?_eq_getElem hjl]; rfl
            have hxx : x = ⟨(ss[j]).toArray⟩ := by
              simp only [bs, List.getElem?_map, List.getElem?_eq_getElem hjl, Option.map_some, Option.some.injEq] at hj
              exact hj.symm
            have c3 := h3 j _ 0 (.str ss[j]) hxj rfl
            have c4 := h4 j _ 0 (.str ss[j]) hxj rfl
            rw [Nat.mul_one, Nat.add_zero] at c3
            rw [c3]
            generalize hu : u j 0 = uv at c4 ⊢
            generalize hq : ss[j] = q at c4 hxx
            cases c4 with
            | str s => subst hxx; rfl
          have hbk : b < w.heap.size := by
            have := hcells 0 bs[0] (List.getElem?_eq_getElem (by omega))
            rcases Nat.lt_or_ge b w.heap.size with hb | hb
            · exact hb
            · simp [World.cell?, Array.getElem?_eq_none hb] at this
          have hmap : bs.map (·.data.toList) = ss := by simp [bs, Function.comp_def]
          have hcall := Any.strings_Join L X b o cap bs s' w hcells hbk (by omega) (by rw [List.length_map] at hc; omega) (by rw [hmap]; exact hle.2)
          rw [hmap, hbl] at hcall
          have hlen : (ss.map eS).length = ss.length := by simp
          rw [hlen]
          refine hcall.mono ?_
          rintro en w' ⟨rfl, hbel⟩
          obtain ⟨k1, k2⟩ := R.below hR hbel
          exact ⟨_, rfl, g, V.str ⟨(Lib.join ss s'.data.toList).toArray⟩, by simpa using k1, k2, Nat.le_refl _⟩
  · cases h
end

variable {env : Env} {fr : Fr} {σ : Nat → PV} {S : List SObj}
theorem evw_idx {f : FuncId} (hi : env.intr f = some idxH) {s : Str} {c : Int} (S : List SObj) : evw env f [.str s, .int .u8 c] S = some (.int .i64 (Lib.indexByte s c.toNat.toUInt8), S, false) := evw_intr hi rfl
theorem evw_join {f : FuncId} (hi : env.intr f = some joinH) {x : Sl Str} {v : PV} {sep r : Str} (hx : IsSl eS x v) (hr : Sl.join? x sep = some r) (S : List SObj) : evw env f [v, .str sep] S = some (.str r, S, false) := by
  refine evw_intr hi ?_
  cases x with
  | none =>
    cases hx
    unfold Sl.join? at hr
    split at hr
    case isFalse => cases hr
    injection hr with hr
    rw [Sl.l_none, Lib.join_nil] at hr
    subst hr
    rfl
  | some l =>
    obtain ⟨tag, rfl⟩ := hx
    simp only [joinH, strsOf_map, Option.bind_some, hr, Option.map_some]
end Go.Pam
namespace Go.Pam
variable {env : Env} {fr : Fr} {σ : Nat → PV} {S : List SObj} {S0 : List SObj} {R : List Nat} {C : List (Nat × SObj)} {A : List (PV × Nat)} {W : List (PV × SObj)} {hist : List (List SObj)} {pend : List (TypeId × PV × PV)}
theorem WK.alloc' {t : TypeId} {ti : TyI} {d : Option Nat} {rest : List POp} {e : Bool} {K : KS} {cs : List PV} (hd : dstOk fr.ntmps d = true) (ht : env.ctx.ty t = some ti) (hs : ti.zero.storable = true) (hv : ti.zero.cells = cs) (H : Hp S0 R S C A W)
    (h : ∀ i S', S0.length ≤ i → Hp S0 R S' ((i, .cells cs) :: C) A W → PendOk env.ctx pend S' ∧ WK env fr rest (S :: hist) pend (upd σ d (.ptr i 0)) S' (e || false) K) : WK env fr (⟨d, .alloc t, none, false⟩ :: rest) hist pend σ S e K :=
  WK.turn hd (nz rfl (stp_alloc ht hs hv)) rfl (h _ _ H.len (H.push cs))
theorem WK.box' {t : TypeId} {x : Operand} {d : Option Nat} {rest : List POp} {e : Bool} {K : KS} {v : PV} {cs : List PV} (hd : dstOk fr.ntmps d = true) (hz : frzT (frzArgs env.ctx σ (.box t x)) σ S = (σ, S)) (hx : opd σ x = v) (hs : v.storable = true) (hv : v.cells = cs) (H : Hp S0 R S C A W)
    (h : ∀ i S', S0.length ≤ i → Hp S0 R S' ((i, .cells cs) :: C) A W → PendOk env.ctx pend S' ∧ WK env fr rest (S :: hist) pend (upd σ d (.ptr i 0)) S' (e || false) K) : WK env fr (⟨d, .box t x, none, false⟩ :: rest) hist pend σ S e K :=
  WK.turn hd (nz hz (stp_box hx hs hv)) rfl (h _ _ H.len (H.push cs))
end Go.Pam
namespace Go.Pam
def nilThen {α β : Type} (x : Sl α) (r : Option β) : Option β := if x.isNone = true then r else none
theorem nilS {α β : Type} {x : Sl α} {r : Option β} {y : β} (h : nilThen x r = some y) : x = none ∧ r = some y := by
  unfold nilThen at h
  split at h
  · rename_i hx; exact ⟨by cases x <;> simp_all, h⟩
  · cases h
theorem IsSl.nil {α : Type} {f : α → PV} {x : Sl α} {v : PV} (h : IsSl f x v) (hx : x = none) : v = .nils := by subst hx; exact h
theorem Hp.addNil' {S S0 : List SObj} {R : List Nat} {C : List (Nat × SObj)} {A : List (PV × Nat)} {W : List (PV × SObj)} (h : Hp S0 R S C A W) (sz : Nat) {v : PV} (hv : v = .nils) : Hp S0 R S C ((v, sz) :: A) W := by subst hv; exact h.addNil sz
end Go.Pam
