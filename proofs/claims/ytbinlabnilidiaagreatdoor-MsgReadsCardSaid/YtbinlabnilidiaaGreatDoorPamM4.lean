/- The abstract machine and its soundness, part 4. -/
import Derived.Shelf.Strings.BuilderK
import Derived.Shelf.Strings.OnBuilder
import Derived.Lib.Bytealg
import Derived.Test.YtbinlabnilidiaaGreatDoorPamM1
import Derived.Test.YtbinlabnilidiaaGreatDoorPamM2
import Derived.Test.YtbinlabnilidiaaGreatDoorPamM3
set_option linter.unusedVariables false
set_option linter.unusedSimpArgs false
namespace Go.Pam
open Go.RowKit Go.Shelf Go.Lib Go.Proofs
section
variable {P : Program} (w : World)
end
section
variable {P : Program} {ρ : Ren}
end
end Go.Pam
namespace Go.Pam
open Go.RowKit Go.Shelf Go.Proofs
section
variable {S : List SObj} {w w' : World} {g : G} {base : Nat} {bd : Nat → Nat}
theorem R.below (h : R S w g base bd) (hb : Below w.heap.size w w') : R S w' g base bd ∧ Evo S.length g w g w' := by
 have hsz := hb.size
 have evo : ∀ m, Evo m g w g w' := fun m => by
  refine ⟨fun _ => Nat.le_refl _, fun b o ho => ?_, fun _ _ => rfl, fun _ _ _ => rfl, fun _ _ => rfl, fun _ _ => Nat.le_refl _, fun _ _ _ => rfl, fun k cap hk hob _ ht => ?_, hsz, rfl, fun k hk => hb.block k (h.hfix k hk), fun _ _ => rfl, hb.os, hb.tape, hb.output⟩
  ·have : b < w.heap.size := by
    rcases Nat.lt_or_ge b w.heap.size with hb' | hb'
    ·exact hb'
    ·have := h.hpp b hb'; omega
   exact Xc7 (hb.block b this) o
  ·exact XhD.heap (g := g) rfl rfl rfl rfl (hb.block _ ht.lt) ht
 refine ⟨⟨h.hbase, h.hbd, fun k hk => by have := h.hfix k hk; omega, fun b hb' => h.hpp b (by omega), fun k o hk => ?_, h.inj⟩, evo _⟩
 exact (h.live k o hk).evo (evo _) rfl rfl rfl rfl (fun hd _ => ⟨hb.block _ ((h.live k o hk).loc_lt hd), rfl⟩)
end
def Xeb : List PV → Option (List Str)
 | [] => some []
 | .str s :: r => (Xeb r).map (s :: ·)
 | _ => none
theorem XgQ : ∀ (l : List Str), Xeb (l.map eS) = some l
 | [] => rfl
 | s :: r => by simp only [List.map_cons, Xeb, XgQ r]; rfl
theorem XgR : ∀ {l : List PV} {ss : List Str}, Xeb l = some ss → l = ss.map eS
 | [], ss, h => by simp only [Xeb, Option.some.injEq] at h; subst h; rfl
 | x :: r, ss, h => by
  cases x with
  | str s =>
   simp only [Xeb] at h
   cases hr : Xeb r with
   | none => rw [hr] at h; cases h
   | some t => rw [hr] at h; simp only [Option.map_some, Option.some.injEq] at h; subst h; rw [XgR hr]; rfl
  | _ => simp only [Xeb] at h; cases h
def Sl.join? (x : Sl Str) (sep : Str) : Option Str := if x.l.length ≤ 140737488355328 ∧ (Lib.join x.l sep).length ≤ 140737488355328 then some (Lib.join x.l sep) else none
def Xkh : List PV → List SObj → Option (PV × List SObj × Bool)
 | [x, .str sep], S => match x with
  | .nils => some (.str [], S, false)
  | .lst xs _ => (Xeb xs).bind fun ss => (Sl.join? (some ss) sep).map fun r => (.str r, S, false)
  | _ => none
 | _, _ => none
section
variable {P : Program} {ρ : Ren}
theorem XmJ (L : Lays.n156 P ρ) (X : Builder.Extra P ρ) (hfn : ∃ fn, P.funcs[ρ.f 156]? = some fn ∧ fn.body.isNone = false ∧ fn.name ≠ "runtime.NumGoroutine")
  (args : List PV) (S : List SObj) (v : PV) (S' : List SObj) (e : Bool) (h : Xkh args S = some (v, S', e))
  (w : World) (g : G) (base : Nat) (bd : Nat → Nat) (cargs : Array Value) (hR : Go.Pam.R S w g base bd) (hl : args.length = cargs.size) (hV : ∀ (i : Nat) (c : PV), args[i]? = some c → V g w S.length c (cargs.getD i undef)) :
  (∃ fn, P.funcs[ρ.f 156]? = some fn ∧ fn.body.isNone = false ∧ fn.name ≠ "runtime.NumGoroutine") ∧ Calls P (ρ.f 156) cargs w (fun en w' => ∃ rv, en = .returned rv ∧ XbE base bd S g w v S' e rv w') := by
 refine ⟨hfn, ?_⟩
 unfold Xkh at h
 split at h
 case h_2 => cases h
 rename_i x sep
 obtain ⟨a, b, rfl, va, vb⟩ := arg2 rfl hl hV
 obtain ⟨s', rfl, rfl⟩ : ∃ s' : ByteArray, b = .string s' ∧ s'.data.toList = sep := by
  cases vb with
  | str s => exact ⟨s, rfl, rfl⟩
 have none_ : ∀ (ad : Option Addr) (c : Nat), a = .slice ad 0 c → Calls P (ρ.f 156) #[a, .string s'] w (fun en w' => ∃ rv, en = .returned rv ∧ XbE base bd S g w (.str []) S false rv w') := by
  rintro ad c rfl
  refine (Any.strings_Join_none L X ad c s' w).mono ?_
  rintro en w' ⟨rfl, rfl⟩
  exact ⟨_, rfl, XbE.same hR (.str ⟨#[]⟩)⟩
 split at h
 ·injection h with h; injection h with h1 h2; injection h2 with h2 h3; subst h1 h2 h3
  cases va with
  | nils => exact none_ none 0 rfl
 ·rename_i xs tag
  cases hs : Xeb xs with
  | none => rw [hs] at h; cases h
  | some ss =>
   rw [hs] at h
   simp only [Option.bind_some] at h
   unfold Sl.join? at h
   split at h
   case isFalse => cases h
   rename_i hle
   simp only [Option.map_some, Option.some.injEq, Prod.mk.injEq] at h
   obtain ⟨rfl, rfl, rfl⟩ := h
   rw [Sl.l_some] at hle ⊢
   have hx := XgR hs
   subst hx
   by_cases h0 : ss = []
   ·subst h0
    rw [Lib.join_nil]
    rw [List.map_nil] at va
    cases va with
    | lst xs tag b o cap sz u hc h1 h2 h3 h4 h5 ht => exact none_ _ cap rfl
    | lst0 ad => exact none_ _ 0 rfl
   ·generalize hxs : ss.map eS = xs0 at va
    cases va with
    | lst0 ad => exact absurd (List.map_eq_nil_iff.1 hxs) h0
    | lst xs tag b o cap sz u hc h1 h2 h3 h4 h5 ht =>
     subst hxs
     have hpos : 0 < ss.length := List.length_pos_iff.2 h0
     have hsz : sz = 1 := by
      have := h1 0 (.str ss[0]) (by rw [List.getElem?_map, List.getElem?_eq_getElem hpos]; rfl)
      simpa [PV.cells] using this.symm
     subst hsz
     let bs : List ByteArray := ss.map fun s => ⟨s.toArray⟩
     have hbl : bs.length = ss.length := by simp [bs]
     have hcells : ∀ (j : Nat) x, bs[j]? = some x → w.cell? ⟨b, o + j, none⟩ = some (.string x) := by
      intro j x hj
      have hjl : j < ss.length := by have := (List.getElem?_eq_some_iff.1 hj).1; omega
      have hxj : (ss.map eS)[j]? = some (.str ss[j]) := by rw [List.getElem?_map, List.getElem?_eq_getElem hjl]; rfl
      have hxx : x = ⟨(ss[j]).toArray⟩ := by
       simp only [bs, List.getElem?_map, List.getElem?_eq_getElem hjl, Option.map_some, Option.some.injEq] at hj
       exact hj.symm
      have c3 := h3 j _ 0 (.str ss[j]) hxj rfl
      have c4 := h4 j _ 0 (.str ss[j]) hxj rfl
      rw [Nat.mul_one, Nat.add_zero] at c3
      rw [c3]
      generalize hu : u j 0 = uv at c4 ⊢
      generalize hq : ss[j] = q at c4 hxx
      cases c4 with
      | str s => subst hxx; rfl
     have hbk : b < w.heap.size := by
      have := hcells 0 bs[0] (List.getElem?_eq_getElem (by omega))
      rcases Nat.lt_or_ge b w.heap.size with hb | hb
      ·exact hb
      ·simp [World.cell?, Array.getElem?_eq_none hb] at this
     have hmap : bs.map (·.data.toList) = ss := by simp [bs, Function.comp_def]
     have hcall := Any.strings_Join L X b o cap bs s' w hcells hbk (by omega) (by rw [List.length_map] at hc; omega) (by rw [hmap]; exact hle.2)
     rw [hmap, hbl] at hcall
     have hlen : (ss.map eS).length = ss.length := by simp
     rw [hlen]
     refine hcall.mono ?_
     rintro en w' ⟨rfl, hbel⟩
     obtain ⟨k1, k2⟩ := R.below hR hbel
     exact ⟨_, rfl, g, V.str ⟨(Lib.join ss s'.data.toList).toArray⟩, by simpa using k1, k2, Nat.le_refl _⟩
 ·cases h
end
variable {env : Env} {fr : Fr} {σ : Nat → PV} {S : List SObj}
theorem Xl9 {f : FuncId} (hi : env.intr f = some Xkh) {x : Sl Str} {v : PV} {sep r : Str} (hx : Xa8 eS x v) (hr : Sl.join? x sep = some r) (S : List SObj) : evw env f [v, .str sep] S = some (.str r, S, false) := by
 refine Xhu hi ?_
 cases x with
 | none =>
  cases hx
  unfold Sl.join? at hr
  split at hr
  case isFalse => cases hr
  injection hr with hr
  rw [Sl.l_none, Lib.join_nil] at hr
  subst hr
  rfl
 | some l =>
  obtain ⟨tag, rfl⟩ := hx
  simp only [Xkh, XgQ, Option.bind_some, hr, Option.map_some]
end Go.Pam
namespace Go.Pam
variable {env : Env} {fr : Fr} {σ : Nat → PV} {S : List SObj} {S0 : List SObj} {R : List Nat} {C : List (Nat × SObj)} {A : List (PV × Nat)} {W : List (PV × SObj)} {hist : List (List SObj)} {pend : List (TypeId × PV × PV)}
theorem WK.alloc' {t : TypeId} {ti : TyI} {d : Option Nat} {rest : List POp} {e : Bool} {K : KS} {cs : List PV} (hd : XaS fr.ntmps d = true) (ht : env.ctx.ty t = some ti) (hs : ti.zero.storable = true) (hv : ti.zero.cells = cs) (H : Hp S0 R S C A W)
  (h : ∀ i S', S0.length ≤ i → Hp S0 R S' ((i, .cells cs) :: C) A W → Xch env.ctx pend S' ∧ WK env fr rest (S :: hist) pend (upd σ d (.ptr i 0)) S' (e || false) K) : WK env fr (⟨d, .alloc t, none, false⟩ :: rest) hist pend σ S e K :=
 WK.turn hd (nz rfl (XfR ht hs hv)) rfl (h _ _ H.len (H.push cs))
theorem WK.box' {t : TypeId} {x : Operand} {d : Option Nat} {rest : List POp} {e : Bool} {K : KS} {v : PV} {cs : List PV} (hd : XaS fr.ntmps d = true) (hz : XbD (Xa5 env.ctx σ (.box t x)) σ S = (σ, S)) (hx : opd σ x = v) (hs : v.storable = true) (hv : v.cells = cs) (H : Hp S0 R S C A W)
  (h : ∀ i S', S0.length ≤ i → Hp S0 R S' ((i, .cells cs) :: C) A W → Xch env.ctx pend S' ∧ WK env fr rest (S :: hist) pend (upd σ d (.ptr i 0)) S' (e || false) K) : WK env fr (⟨d, .box t x, none, false⟩ :: rest) hist pend σ S e K :=
 WK.turn hd (nz hz (XiO hx hs hv)) rfl (h _ _ H.len (H.push cs))
end Go.Pam
namespace Go.Pam
theorem Xa8.nil {α : Type} {f : α → PV} {x : Sl α} {v : PV} (h : Xa8 f x v) (hx : x = none) : v = .nils := by subst hx; exact h
end Go.Pam
namespace Go.Pam
section
variable {env : Env} {fr : Fr} {op : Op} {d : Option Nat} {wr : Bool} {rest : List POp} {σ : Nat → PV} {S S0 : List SObj} {e : Bool} {K : KS} {R : List Nat} {C : List (Nat × SObj)} {A : List (PV × Nat)} {W : List (PV × SObj)}
theorem w (v : PV) (hd : XaS fr.ntmps d = true) (hs : stF env fr σ S ⟨d, op, none, wr⟩ = some (v, S, false)) (h : WO env fr rest (upd σ d v) S (e || false) K) : WO env fr (⟨d, op, none, wr⟩ :: rest) σ S e K := WO.step hd hs h
theorem wl {α : Type} {f : α → PV} {x : Sl α} {a : Operand} {t : TypeId} {e' : TypeId} (hd : XaS fr.ntmps d = true) (ho : opd σ a = Xar f x) (ht : (env.ctx.ty t).map (·.und) = some (.slice e')) (h : WO env fr rest (upd σ d (.int .i64 (Sl.len x))) S (e || false) K) :
  WO env fr (⟨d, .call ⟨.builtin .len, #[a], #[t]⟩, none, false⟩ :: rest) σ S e K := WO.step hd (nz rfl (XdC ho (XcR _ _) ht)) h
theorem wg (H : Hp S0 R S C A W) (j : Nat) {t : TypeId} {a : Operand} {id off : Nat} {cs : List PV} {v : PV} (hd : XaS fr.ntmps d = true) (ho : opd σ a = .ptr id off) (hj : C[j]? = some (id, .cells cs)) (hp : Xbz env.ctx t cs off = some v)
  (h : WO env fr rest (upd σ d v) S (e || false) K) : WO env fr (⟨d, .load t a, none, false⟩ :: rest) σ S e K := WO.step hd (nz rfl (Xjr ho (H.get j hj) hp)) h
end
theorem kn {l : List (Nat × PV)} {σ : Nat → PV} (h : Xa2 l σ := by repeat' (first | exact Xe0 | refine XeN rfl ?_)) : Xa2 l σ := h
theorem hs {S0 S : List SObj} {R : List Nat} {C C' : List (Nat × SObj)} {A A' : List (PV × Nat)} {W W' : List (PV × SObj)} (H : Hp S0 R S C A W)
  (h1 : C'.Sublist C := by repeat' (first | exact .slnil | refine .cons_cons _ ?_ | refine .cons _ ?_))
  (h2 : A'.Sublist A := by repeat' (first | exact .slnil | refine .cons_cons _ ?_ | refine .cons _ ?_))
  (h3 : W'.Sublist W := by repeat' (first | exact .slnil | refine .cons_cons _ ?_ | refine .cons _ ?_)) : Hp S0 R S C' A' W' := H.sub h1 h2 h3
def SJ (l : List (Nat × PV)) (S0 : List SObj) (R : List Nat) (C : List (Nat × SObj)) (A : List (PV × Nat)) (W : List (PV × SObj)) (b : Bool) : KS := fun σ S e => Xa2 l σ ∧ Hp S0 R S C A W ∧ e = b
theorem WK.store {env : Env} {fr : Fr} {σ : Nat → PV} {S : List SObj} {S0 : List SObj} {R : List Nat} {C : List (Nat × SObj)} {A : List (PV × Nat)} {W : List (PV × SObj)} {hist : List (List SObj)} {pend : List (TypeId × PV × PV)}
  (j : Nat) {t : TypeId} {a x : Operand} {d : Option Nat} {rest : List POp} {id off sz : Nat} {cs cs' xc : List PV} {v : PV} {e e' : Bool} {K : KS} (hd : XaS fr.ntmps d = true) (hz : XbD (Xa5 env.ctx σ (.store t a x)) σ S = (σ, S)) (H : Hp S0 R S C A W) (hj : C[j]? = some (id, .cells cs))
  (ho : opd σ a = .ptr id off) (hx : opd σ x = v) (ht : (env.ctx.ty t).map (·.size) = some sz) (hs : v.storable = true) (hv : v.cells = xc) (hl : xc.length = sz) (hb : off + sz ≤ cs.length)
  (hc : cs.take off ++ xc ++ cs.drop (off + sz) = cs') (he : (decide (id < fr.base) && !v.clean) = e')
  (h : ∀ S', Hp S0 R S' (C.set j (id, .cells cs')) A W → Xch env.ctx pend S' ∧ WK env fr rest (S :: hist) pend (upd σ d (.tup [])) S' (e || e') K) : WK env fr (⟨d, .store t a x, none, false⟩ :: rest) hist pend σ S e K :=
 WK.turn hd (nz hz (Xif ho hx (H.get j hj) ht hs hv hl hb hc he)) rfl (h _ (H.set j hj cs'))
theorem pz {env : Env} {fr : Fr} {σ : Nat → PV} {S S1 : List SObj} {d : Option Nat} {o : Operand} {args : Array Operand} {ts : Array TypeId} {g : Option (Nat × Bool)} {f : FuncId} {cap bs : List PV} {v : PV} {e1 : Bool}
  (hz : XbD (Xa5 env.ctx σ (.call ⟨.value o, args, ts⟩)) σ S = (σ, S)) (hf : opd σ o = .fn (.func f) [] cap) (ha : (args.toList.map (opd σ) ++ cap).map PV.strip = bs) (hc : XaW bs = true)
  (hs : evw env f bs [] = some (v, S1, e1)) (hv : v.clean = true) (hvs : v.strip = v) : stF env fr σ S ⟨d, .call ⟨.value o, args, ts⟩, g, true⟩ = some (v, S, false) := by
 show XaM env.ctx (evw env) fr.base σ S ⟨d, .call ⟨.value o, args, ts⟩, g, true⟩ = _
 unfold XaM
 simp only [hz, if_true, Xd2, XeG, XcP, hf, ha, hc, hs, hvs, hv, Option.map_some]
theorem XgS {env : Env} {fr : Fr} {σ : Nat → PV} {S : List SObj} {α : Type} {xs : List α} {a i : Operand} {t e : TypeId} {k : IntKind} {n : Int} {y : α} {id off sz m : Nat} (ho : opd σ a = .ptr id off) (hi : opd σ i = .int k n)
  (ht : (env.ctx.ty t).map (·.und) = some (.array m e)) (he : (env.ctx.ty e).map (·.size) = some sz) (hm : xs.length = m) (hy : Sl.at? (some xs) n = some y) :
  stp env fr σ S (.indexAddr t a i) = some (.ptr id (off + n.toNat * sz), S, false) := by
 cases hti : env.ctx.ty t with
 | none => rw [hti] at ht; cases ht
 | some ti =>
  rw [hti] at ht
  have hu : ti.und = .array m e := by simpa using ht
  cases hei : env.ctx.ty e with
  | none => rw [hei] at he; cases he
  | some ei =>
   rw [hei] at he
   have hs : ei.size = sz := by simpa using he
   unfold Sl.at? at hy
   split at hy
   ·rename_i h0
    have hlt : n.toNat < m := by
     rw [← hm]
     exact (List.getElem?_eq_some_iff.1 (by simpa [Sl.l] using hy)).1
    simp only [stp, XaL, hi, ho, XbW, hti, hu, hei, hs]
    rw [if_pos ⟨h0, by omega⟩]
    rfl
   ·cases hy
theorem Xij {env : Env} {fr : Fr} {σ : Nat → PV} {S : List SObj} {α : Type} {f : α → PV} {xs : List α} {a : Operand} {t : TypeId} {n : Int} {y : α} {id : Nat} {cs : List PV} (ho : opd σ a = .ptr id (0 + n.toNat * 1)) (hg : S[id]? = some (.cells cs)) (hc : cs = xs.map f)
  (ht : (env.ctx.ty t).map (·.agg) = some false) (hy : Sl.at? (some xs) n = some y) : stp env fr σ S (.load t a) = some (f y, S, false) := by
 cases hti : env.ctx.ty t with
 | none => rw [hti] at ht; cases ht
 | some ti =>
  rw [hti] at ht
  have hu : ti.agg = false := by simpa using ht
  unfold Sl.at? at hy
  split at hy
  ·have : xs[n.toNat]? = some y := by simpa [Sl.l] using hy
   simp [stp, XaL, ho, Xb2, hg, Xbz, hti, hu, hc, this]
  ·cases hy
theorem Xcx {env : Env} {fr : Fr} {σ : Nat → PV} {S : List SObj} {t : TypeId} {ps : Array (Nat × Operand)} {ti ei : TyI} {n : Nat} {e : TypeId} {parts : List (Nat × PV)} {cs : List PV} (ht : env.ctx.ty t = some ti) (hu : ti.und = .array n e) (hz : ti.zero.storable = true)
  (he : env.ctx.ty e = some ei) (hps : (ps.toList.map fun p => (p.1, opd σ p.2)) = parts) (hf : Xda (fun i => some (i * ei.size, ei.size)) ti.zero.cells parts = some cs) :
  stp env fr σ S (.build t ps) = some (.agg cs, S, false) := by
 have hz' : ¬ ti.zero.storable = false := by rw [hz]; simp
 simp only [stp, XaL, hps, XeF, ht, hu, if_neg hz', he, hf, Option.map_some]
theorem XmK {env : Env} {σ : Nat → PV} {α : Type} {f : α → PV} {x : Sl α} {v : PV} {a : Operand} {t : TypeId} {d : Option Nat} {g : Option (Nat × Bool)} (ho : opd σ a = v) (h : Xa8 f x v) : XfA env.ctx σ ⟨d, .call ⟨.builtin .len, #[a], #[t]⟩, g, false⟩ = true := by
 cases x with
 | none => cases h; simp [XfA, XeG, Xee, Xa5, XbD, ho]
 | some l => obtain ⟨tag, rfl⟩ := h; simp [XfA, XeG, Xee, Xa5, XbD, ho]
theorem Xfz {env : Env} {σ : Nat → PV} {o : Operand} {args : Array Operand} {ts : Array TypeId} {d : Option Nat} {g : Option (Nat × Bool)} (h2 : ∀ y ∈ Xa5 env.ctx σ (.call ⟨.value o, args, ts⟩), Go.Pam.notRow (opd σ y) = true) :
  XfA env.ctx σ ⟨d, .call ⟨.value o, args, ts⟩, g, true⟩ = true := by
 simp only [XfA, XeG, Bool.true_and, List.all_eq_true]
 exact h2
end Go.Pam
namespace Go.Pam
open Go.RowKit
theorem R.garbage {S : List SObj} {base : Nat} {bd : Nat → Nat} : ∀ (os : List Obj) {w : World} {g : G}, R S w g base bd →
  ∃ g', R S (os.foldl World.alloc w) g' base bd ∧ Evo S.length g w g' (os.foldl World.alloc w)
 | [], w, g, h => ⟨g, h, Evo.refl _ _ _⟩
 | o :: os, w, g, h => by
  obtain ⟨h1, e1⟩ := h.newRow o 0
  obtain ⟨g', h2, e2⟩ := R.garbage os h1
  exact ⟨g', h2, e1.trans e2⟩
def Xfe (TE TP TT : TypeId) : List PV → List SObj → Option (PV × List SObj × Bool)
 | [.nili, _], S => some (.bool false, S, false)
 | [.ifc tp (.ptr i 0), .ifc tt (.ptr j 0)], S =>
  if tp = TP ∧ tt = TT then
   match S[i]?, S[j]? with
   | some (.cells [.ifc te (.int .i64 n), _]), some (.cells [.int .i64 _]) => if te = TE then some (.bool true, S.set j (.cells [.int .i64 n]), false) else none
   | _, _ => none
  else none
 | _, _ => none
theorem XoU {g : G} {w : World} {n : Nat} {x y : PV} {cargs : Array Value} (hl : [x, y].length = cargs.size) (hV : ∀ (i : Nat) (c : PV), [x, y][i]? = some c → V g w n c (cargs.getD i undef)) :
  ∃ a b, cargs = #[a, b] ∧ V g w n x a ∧ V g w n y b := by
 refine ⟨cargs.getD 0 undef, cargs.getD 1 undef, ?_, hV 0 x rfl, hV 1 y rfl⟩
 have hs : cargs.size = 2 := by simpa using hl.symm
 apply Array.ext
 ·simp [hs]
 ·intro i h1 h2
  have h3 : i = 0 ∨ i = 1 := by simp at h2; omega
  rcases h3 with rfl | rfl <;> simp [Array.getD_eq_getD_getElem?, h1]
theorem XlA {P : Program} {ctx : Ctx} {f : FuncId} {TE TP TT : TypeId} {gv : Value} (hg : (0, gv) ∈ ctx.gls) (hfn : ∃ fn, P.funcs[f]? = some fn ∧ fn.body.isNone = false ∧ fn.name ≠ "runtime.NumGoroutine")
  (hnil : ∀ (t : Value) (w : World), Calls P f #[.nilIface, t] w fun e w' => e = .returned (.bool false) ∧ w' = w)
  (hhit : ∀ (bF t : Addr) (n : Int) (old : Value) (w : World), w.cell? ⟨0, 0, none⟩ = some gv → w.cell? bF = some (.iface TE (.int .i64 n)) → bF.spot = none → bF.off = 0 → w.cell? t = some old → w.frozen? t = false →
   Calls P f #[.iface TP (.pointer (some bF)), .iface TT (.pointer (some t))] w fun ev w' => ev = .returned (.bool true) ∧ ∃ os : List Obj, w' = (os.foldl World.alloc w).setCell t (.int .i64 n))
  (args : List PV) (S : List SObj) (v : PV) (S' : List SObj) (e : Bool) (h : Xfe TE TP TT args S = some (v, S', e))
  (w : World) (g : G) (base : Nat) (bd : Nat → Nat) (cargs : Array Value) (hR : Go.Pam.R S w g base bd) (hgl : Gl ctx w g) (hl : args.length = cargs.size) (hV : ∀ (i : Nat) (c : PV), args[i]? = some c → V g w S.length c (cargs.getD i undef)) :
  (∃ fn, P.funcs[f]? = some fn ∧ fn.body.isNone = false ∧ fn.name ≠ "runtime.NumGoroutine") ∧ Calls P f cargs w (fun en w' => ∃ rv, en = .returned rv ∧ XbE base bd S g w v S' e rv w') := by
 refine ⟨hfn, ?_⟩
 unfold Xfe at h
 split at h
 ·injection h with h; injection h with h1 h2; injection h2 with h2 h3
  subst h1 h2 h3
  obtain ⟨a, b, rfl, va, _⟩ := XoU hl hV
  rw [va.inv_nili]
  refine (hnil b w).mono ?_
  rintro en w' ⟨rfl, rfl⟩
  exact ⟨_, rfl, XbE.same hR (.bool _)⟩
 ·rename_i tp i tt j
  split at h
  case isFalse => cases h
  rename_i ht
  obtain ⟨rfl, rfl⟩ := ht
  split at h
  case h_2 => cases h
  rename_i te n at' old hi hj
  split at h
  case isFalse => cases h
  rename_i hte
  subst hte
  injection h with h; injection h with h1 h2; injection h2 with h2 h3
  subst h1 h2 h3
  obtain ⟨a, b, rfl, va, vb⟩ := XoU hl hV
  obtain ⟨a', rfl, va1⟩ := va.inv_ifc
  obtain ⟨b', rfl, vb1⟩ := vb.inv_ifc
  obtain ⟨rfl, _, _⟩ := va1.inv_ptr
  obtain ⟨rfl, hjn, hjo⟩ := vb1.inv_ptr
  obtain ⟨l1, l2, l3, cur, t, l4, l5, l6, l7⟩ := hR.live i _ hi
  obtain ⟨m1, m2, m3, cur', t', m4, m5, m6, m7⟩ := hR.live j _ hj
  have k1 : cur.size = 2 := by simpa using l5
  have k2 : cur'.size = 1 := by simpa using m5
  have c1 : w.cell? ⟨g.loc i, 0, none⟩ = some (.iface te (.int .i64 n)) := by
   have hv := l7 0 _ rfl
   obtain ⟨z, hz, hv⟩ := hv.inv_ifc
   rw [hv.inv_int] at hz
   have h0 : cur[0]? = some (cur.getD 0 undef) := by rw [Array.getD_eq_getD_getElem?, Array.getElem?_eq_getElem (by omega)]; rfl
   rw [← hz]
   unfold World.cell?
   rw [l4]
   exact h0
  have c2 : w.cell? ⟨g.loc j, 0, none⟩ = some (cur'.getD 0 undef) := by
   have h0 : cur'[0]? = some (cur'.getD 0 undef) := by rw [Array.getD_eq_getD_getElem?, Array.getElem?_eq_getElem (by omega)]; rfl
   unfold World.cell?
   rw [m4]
   exact h0
  have c3 : w.frozen? ⟨g.loc j, 0, none⟩ = false := by simp [World.frozen?, m4]
  refine (hhit ⟨g.loc i, 0, none⟩ ⟨g.loc j, 0, none⟩ n _ w (hgl _ hg).2 c1 rfl rfl c2 c3).mono ?_
  rintro en w' ⟨rfl, os, rfl⟩
  refine ⟨_, rfl, ?_⟩
  obtain ⟨g', r1, e1⟩ := hR.garbage os
  have hloc : g'.loc j = g.loc j := e1.loc j hjn (.inl hjo)
  obtain ⟨r2, e2⟩ := R.setCell r1 hj (j := 0) (by simp) (c := .int .i64 n) (v := .int .i64 n) (.int _ _) rfl S.length
  rw [hloc] at r2 e2
  refine ⟨g', .bool _, ?_, e1.trans e2, by simp⟩
  simpa using r2
 ·cases h
theorem XkB {env : Env} {f : FuncId} {TE TP TT : TypeId} (hi : env.intr f = some (Xfe TE TP TT)) (x : PV) (S : List SObj) : evw env f [.nili, x] S = some (.bool false, S, false) :=
 Xhu hi rfl
theorem XkC {env : Env} {f : FuncId} {TE TP TT : TypeId} (hi : env.intr f = some (Xfe TE TP TT)) {i j : Nat} {S : List SObj} {n m : Int} {a : PV} (h1 : S[i]? = some (.cells [.ifc TE (.int .i64 n), a])) (h2 : S[j]? = some (.cells [.int .i64 m])) :
  evw env f [.ifc TP (.ptr i 0), .ifc TT (.ptr j 0)] S = some (.bool true, S.set j (.cells [.int .i64 n]), false) :=
 Xhu hi (by simp [Xfe, h1, h2])
theorem XlB : PV.strip2 .nili = .nili := rfl
theorem XmL (t : TypeId) (k : IntKind) (n : Int) : PV.strip2 (.ifc t (.int k n)) = .ifc t (.int k n) := rfl
/-! Functions that hand on an error: none, a number, or a fault: a new object that holds a number and a place. -/
inductive Er where
 | nil
 | no (n : Int)
 | at (n a : Int)
def ErV (TE TP : TypeId) (mk : PV → PV) (S0 : List SObj) (er : Er) (v : PV) (S' : List SObj) : Prop := match er with
 | .nil => v.strip = mk .nili
 | .no n => v.strip = mk (.ifc TE (.int .i64 n))
 | .at n a => ∃ i, v = mk (.ifc TP (.ptr i 0)) ∧ Hp S0 [] S' [(i, .cells [.ifc TE (.int .i64 n), .int .i64 a])] [] []
def ErA (TE TP : TypeId) (mk : PV → PV) (S : List SObj) (er : Er) (v : PV) (S' : List SObj) : Prop := match er with
 | .nil => v = mk .nili ∧ S' = S
 | .no n => v = mk (.ifc TE (.int .i64 n)) ∧ S' = S
 | .at n a => ∃ i, v = mk (.ifc TP (.ptr i 0)) ∧ Hp S [] S' [(i, .cells [.ifc TE (.int .i64 n), .int .i64 a])] [] []
section
variable {env : Env} {fr : Fr} {σ : Nat → PV} {S S0 : List SObj} {R : List Nat} {C : List (Nat × SObj)} {A : List (PV × Nat)} {W : List (PV × SObj)} {TE TP : TypeId} {mk : PV → PV} {er : Er}
theorem XlC {f : FuncId} {pf : PFn} (hi : env.intr f = none) (hf : env.fn f = some pf) {bs : List PV} (hs : bs.map PV.strip = bs) (hl : bs.length ≤ pf.ntmps) (hc : XaW bs = true)
  (m1 : (mk .nili).clean = true) (m2 : ∀ n, (mk (.ifc TE (.int .i64 n))).clean = true) (m3 : ∀ i, (mk (.ifc TP (.ptr i 0))).strip.clean = false)
  (h : ∀ S, WB env pf bs S fun v S' e => e = false ∧ ErV TE TP mk S er v S') (S : List SObj) : ∃ v S', evw env f bs S = some (v, S', false) ∧ ErA TE TP mk S er v S' := by
 obtain ⟨w0, S1, e1, hb0, _, hw0⟩ := (h []).run
 obtain ⟨k0, hk0⟩ := Xfx hb0
 have fast : ∀ u : PV, u.clean = true → w0.strip = u → evw env f bs S = some (u, S, false) := by
  intro u hu hw
  refine XfN (k0 + 1) fun k' hk' => ?_
  obtain ⟨j, rfl⟩ : ∃ j, k' = j + 1 := ⟨k' - 1, by omega⟩
  simp only [ev, hi, hf, hl, if_true, hs, hc, hk0 j (by omega), hw, hu]
 cases er with
 | nil => exact ⟨_, S, fast _ m1 hw0, rfl, rfl⟩
 | no n => exact ⟨_, S, fast _ (m2 n) hw0, rfl, rfl⟩
 | «at» n a =>
  obtain ⟨i0, rfl, _⟩ := hw0
  obtain ⟨w, S2, e2, hb, rfl, i, rfl, hp⟩ := (h S).run
  obtain ⟨k, hk⟩ := Xfx hb
  refine ⟨_, S2, XfN (k0 + k + 1) fun k' hk' => ?_, i, rfl, hp⟩
  obtain ⟨j, rfl⟩ : ∃ j, k' = j + 1 := ⟨k' - 1, by omega⟩
  simp only [ev, hi, hf, hl, if_true, hs, hc, hk0 j (by omega), hk j (by omega), m3, XfB, Bool.false_eq_true, if_false, and_false]
theorem WO.callE {f : FuncId} {op : Operand} {args : Array Operand} {ts : Array TypeId} {d : Option Nat} {rest : List POp} {cap vs : List PV} {e : Bool} {K : KS} (hd : XaS fr.ntmps d = true)
  (hf : opd σ op = .fn (.func f) [] cap) (ha : args.toList.map (opd σ) ++ cap = vs) (hz : XbD (Xa5 env.ctx σ (.call ⟨.value op, args, ts⟩)) σ S = (σ, S)) (H : Hp S0 R S C A W) (hc : ∃ v S', evw env f vs S = some (v, S', false) ∧ ErA TE TP mk S er v S')
  (h0 : er = .nil → WO env fr rest (upd σ d (mk .nili)) S (e || false) K) (h1 : ∀ n, er = .no n → WO env fr rest (upd σ d (mk (.ifc TE (.int .i64 n)))) S (e || false) K)
  (h2 : ∀ n a, er = .at n a → ∀ i S', S0.length ≤ i → Hp S0 R S' ((i, .cells [.ifc TE (.int .i64 n), .int .i64 a]) :: C) A W → WO env fr rest (upd σ d (mk (.ifc TP (.ptr i 0)))) S' (e || false) K) :
  WO env fr (⟨d, .call ⟨.value op, args, ts⟩, none, false⟩ :: rest) σ S e K := by
 obtain ⟨v, S', hv, hr⟩ := hc
 cases er with
 | nil => obtain ⟨rfl, rfl⟩ := hr; exact WO.step hd (nz hz (XcA hf ha hv)) (h0 rfl)
 | no n => obtain ⟨rfl, rfl⟩ := hr; exact WO.step hd (nz hz (XcA hf ha hv)) (h1 n rfl)
 | «at» n a =>
  obtain ⟨i, rfl, N⟩ := hr
  have := N.new_lt
  have := H.len
  exact WO.step hd (nz hz (XcA hf ha hv)) (h2 n a rfl i S' (by omega) (H.callNew N))
theorem WO.callAs (ci cj : Nat) {TT : TypeId} {f : FuncId} {op : Operand} {args : Array Operand} {ts : Array TypeId} {d : Option Nat} {rest : List POp} {cap : List PV} {e : Bool} {K : KS} {i j : Nat} {n m : Int} {a : PV} (hd : XaS fr.ntmps d = true)
  (hf : opd σ op = .fn (.func f) [] cap) (ha : args.toList.map (opd σ) ++ cap = [.ifc TP (.ptr i 0), .ifc TT (.ptr j 0)]) (hz : XbD (Xa5 env.ctx σ (.call ⟨.value op, args, ts⟩)) σ S = (σ, S)) (H : Hp S0 R S C A W)
  (hi : env.intr f = some (Xfe TE TP TT)) (h1 : C[ci]? = some (i, .cells [.ifc TE (.int .i64 n), a])) (h2 : C[cj]? = some (j, .cells [.int .i64 m]))
  (h : ∀ S', Hp S0 R S' (C.set cj (j, .cells [.int .i64 n])) A W → WO env fr rest (upd σ d (.bool true)) S' (e || false) K) :
  WO env fr (⟨d, .call ⟨.value op, args, ts⟩, none, false⟩ :: rest) σ S e K :=
 WO.step hd (nz hz (XcA hf ha (XkC hi (H.get ci h1) (H.get cj h2)))) (h _ (H.set cj h2 _))
end
end Go.Pam
namespace Go.Pam
section
variable {env : Env} {fr : Fr} {σ : Nat → PV} {S S0 : List SObj} {e : Bool} {K : KS} {R : List Nat} {C : List (Nat × SObj)} {A : List (PV × Nat)} {W : List (PV × SObj)}
theorem us (n : Nat) {l : List POp} {σ' : Nat → PV} {S' : List SObj} {e' : Bool} (h : XbM env.ctx (evw env) fr (l.take n) σ S e = some (σ', S', e')) (k : WO env fr (l.drop n) σ' S' e' K) : WO env fr l σ S e K :=
 WO.split n (fun a b c => a = σ' ∧ b = S' ∧ c = e') ⟨_, _, _, h, rfl, rfl, rfl⟩ fun _ _ _ ⟨ha, hb, hc⟩ => by subst ha hb hc; exact k
theorem cl (v : PV) (vs : List PV) {f : FuncId} {o : Operand} {args : Array Operand} {ts : Array TypeId} {cap : List PV} {d : Option Nat} {rest : List POp} (hd : XaS fr.ntmps d = true) (hf : opd σ o = .fn (.func f) [] cap) (ha : args.toList.map (opd σ) ++ cap = vs)
  (hz : XbD (Xa5 env.ctx σ (.call ⟨.value o, args, ts⟩)) σ S = (σ, S)) (hs : ∀ S, evw env f vs S = some (v, S, false)) (h : WO env fr rest (upd σ d v) S (e || false) K) : WO env fr (⟨d, .call ⟨.value o, args, ts⟩, none, false⟩ :: rest) σ S e K :=
 w v hd (nz hz (XcA hf ha (hs S))) h
theorem fe {α : Type} {f : α → PV} {x : Sl α} {t : Nat} {xs : List Operand} {r : (Nat → PV) × List SObj} (h : σ t = Xar f x) (hs : XbD xs σ S = r) : XbD (.tmp t :: xs) σ S = r := Xaw (by rw [h]; exact (XcR _ _).frz) hs
def Operand.notTmp : Operand → Bool
 | .tmp _ => false
 | _ => true
theorem fo {y : Operand} {xs : List Operand} {r : (Nat → PV) × List SObj} (h : Operand.notTmp y = true) (hs : XbD xs σ S = r) : XbD (y :: xs) σ S = r := XmI (fun t ht => by subst ht; cases h) hs
theorem kf {l : List (Nat × PV)} (H : Hp S0 R S C A W) (hk : Xa2 l σ := by repeat' (first | exact Xe0 | refine XeN rfl ?_)) : SJ l S0 R C A W false σ S false := ⟨hk, H, rfl⟩
theorem kh {l : List (Nat × PV)} {C' : List (Nat × SObj)} {A' : List (PV × Nat)} {W' : List (PV × SObj)} (H : Hp S0 R S C A W) (hk : Xa2 l σ := by repeat' (first | exact Xe0 | refine XeN rfl ?_))
  (h1 : C'.Sublist C := by repeat' (first | exact .slnil | refine .cons_cons _ ?_ | refine .cons _ ?_))
  (h2 : A'.Sublist A := by repeat' (first | exact .slnil | refine .cons_cons _ ?_ | refine .cons _ ?_))
  (h3 : W'.Sublist W := by repeat' (first | exact .slnil | refine .cons_cons _ ?_ | refine .cons _ ?_)) : SJ l S0 R C' A' W' false σ S false := ⟨hk, H.sub h1 h2 h3, rfl⟩
theorem kr (v : PV) {n t : Nat} {c : PC} {K : KV} (h : σ t = v) (hf : Xg5 v S = none) (hk : K (Xal [v]) S e) : KB env ⟨n, [.tmp t], c, false⟩ K .ret σ S e := KB.ret (vs := [v]) (Xk6 h Xas) (Xjv hf rfl) hk
end
end Go.Pam
namespace Go.Pam
def EK (l : List (Nat × PV)) (S0 : List SObj) (R : List Nat) (C : List (Nat × SObj)) (A : List (PV × Nat)) (W : List (PV × SObj)) (k : (Nat → PV) → List SObj → Bool → Prop) : Prop := ∀ {σ' : Nat → PV} {S' : List SObj}, Xa2 l σ' → Hp S0 R S' C A W → k σ' S' false
def Qe (env : Env) (f : FuncId) (bs : List PV) (v : PV) : Prop := ∀ {vs : List PV}, vs.map PV.strip = bs → ∀ S : List SObj, evw env f vs S = some (v, S, false)
theorem Qe.go {env : Env} {f : FuncId} {pf : PFn} {n : Nat} {rs : List ResultVar} {c : PC} {rw : Bool} {bs : List PV} {v : PV} (hi : env.intr f = none) (hf : env.fn f = some pf) (hl : bs.length ≤ pf.ntmps) (hc : XaW bs = true) (hv : v.clean = true) (hpf : pf = ⟨n, rs, c, rw⟩)
  (k : Hp [] [] [] [] [] [] → WC env ⟨n, ([] : List SObj).length⟩ c (fun i => bs.getD i (.tup [])) [] false (KB env ⟨n, rs, c, rw⟩ fun v' _ _ => v'.strip = v)) : Qe env f bs v := by
 intro vs ha S
 exact Xie hi hf ha hl hc hv (WB.of hpf (k (Hp.start [])))
def SH {S0 : List SObj} {R : List Nat} {S : List SObj} {C : List (Nat × SObj)} {A : List (PV × Nat)} {W : List (PV × SObj)} (_ : Hp S0 R S C A W) (l : List (Nat × PV)) : KS := SJ l S0 R C A W false
end Go.Pam
namespace Go.Pam
section
variable {env : Env} {fr : Fr} {σ : Nat → PV} {S S0 : List SObj} {e : Bool} {K : KS} {R : List Nat} {C : List (Nat × SObj)} {A : List (PV × Nat)} {W : List (PV × SObj)} {hist : List (List SObj)} {pend : List (TypeId × PV × PV)}
theorem wk (v : PV) {op : Op} {d : Option Nat} {rest : List POp} (hd : XaS fr.ntmps d = true) (hs : stF env fr σ S ⟨d, op, none, false⟩ = some (v, S, false)) (hc : Xba ⟨d, op, none, false⟩ = false) (hi : XfA env.ctx σ ⟨d, op, none, false⟩ = true)
  (h : WK env fr rest hist pend (upd σ d v) S e K) : WK env fr (⟨d, op, none, false⟩ :: rest) hist pend σ S e K := WK.step hd hs rfl rfl hc hi h
theorem wkl (H : Hp S0 R S C A W) (j : Nat) {t : TypeId} {a : Operand} {d : Option Nat} {rest : List POp} {id off : Nat} {cs : List PV} {v : PV} (hd : XaS fr.ntmps d = true) (ha : opd σ a = .ptr id off) (hj : C[j]? = some (id, .cells cs)) (hp : Xbz env.ctx t cs off = some v)
  (h : WK env fr rest [] ((t, .ptr id off, v) :: pend) (upd σ d v) S e K) : WK env fr (⟨d, .load t a, none, false⟩ :: rest) [] pend σ S e K := WK.load hd ha (ld (H.get j hj) hp) Xl6 h
theorem wh (v : PV) {op : Op} {d : Option Nat} {wr : Bool} {rest : List POp} {K : (Nat → PV) → Prop} (hd : XaS fr.ntmps d = true) (hs : stF env fr σ S ⟨d, op, none, wr⟩ = some (v, S, false)) (h : WH env fr rest (upd σ d v) S K) : WH env fr (⟨d, op, none, wr⟩ :: rest) σ S K := WH.step hd hs rfl rfl h
theorem wos (j : Nat) (H : Hp S0 R S C A W) {t : TypeId} {a x : Operand} {d : Option Nat} {rest : List POp} {id off sz : Nat} {cs cs' xc : List PV} {v : PV} (hi : fr.base ≤ id) (hd : XaS fr.ntmps d = true) (hz : XbD (Xa5 env.ctx σ (.store t a x)) σ S = (σ, S)) (hj : C[j]? = some (id, .cells cs))
  (ho : opd σ a = .ptr id off) (hx : opd σ x = v) (ht : (env.ctx.ty t).map (·.size) = some sz) (hs : v.storable = true) (hv : v.cells = xc) (hl : (xc.length == sz && Nat.ble (off + sz) cs.length) = true) (hc : cs.take off ++ xc ++ cs.drop (off + sz) = cs')
  (h : ∀ S', Hp S0 R S' (C.set j (id, .cells cs')) A W → WO env fr rest (upd σ d (.tup [])) S' (e || false) K) : WO env fr (⟨d, .store t a x, none, false⟩ :: rest) σ S e K := by
 obtain ⟨h1, h2⟩ := Bool.and_eq_true_iff.1 hl
 exact WO.store j hd hz H hj ho hx ht hs hv (by simpa using h1) (Nat.le_of_ble_eq_true h2) hc (XeQ hi) h
theorem wks (j : Nat) (H : Hp S0 R S C A W) {t : TypeId} {a x : Operand} {d : Option Nat} {rest : List POp} {id off sz : Nat} {cs cs' xc : List PV} {v : PV} (hi : fr.base ≤ id) (hd : XaS fr.ntmps d = true) (hz : XbD (Xa5 env.ctx σ (.store t a x)) σ S = (σ, S)) (hj : C[j]? = some (id, .cells cs))
  (ho : opd σ a = .ptr id off) (hx : opd σ x = v) (ht : (env.ctx.ty t).map (·.size) = some sz) (hs : v.storable = true) (hv : v.cells = xc) (hl : (xc.length == sz && Nat.ble (off + sz) cs.length) = true) (hc : cs.take off ++ xc ++ cs.drop (off + sz) = cs')
  (h : ∀ S', Hp S0 R S' (C.set j (id, .cells cs')) A W → Xch env.ctx pend S' ∧ WK env fr rest (S :: hist) pend (upd σ d (.tup [])) S' (e || false) K) : WK env fr (⟨d, .store t a x, none, false⟩ :: rest) hist pend σ S e K := by
 obtain ⟨h1, h2⟩ := Bool.and_eq_true_iff.1 hl
 exact WK.store j hd hz H hj ho hx ht hs hv (by simpa using h1) (Nat.le_of_ble_eq_true h2) hc (XeQ hi) h
end
end Go.Pam
namespace Go.Pam
theorem oi {α : Type} {a b : α} (h : some a = some b) : a = b := Option.some.inj h
end Go.Pam
namespace Go.Pam
section
variable {env : Env} {fr : Fr} {σ : Nat → PV} {S S0 : List SObj} {e : Bool} {K : KS} {K1 : (Nat → PV) → Prop} {R : List Nat} {C : List (Nat × SObj)} {A : List (PV × Nat)} {W : List (PV × SObj)} {d : Option Nat} {rest : List POp}
theorem wx {α : Type} {f : α → PV} {x : Sl α} {a i : Operand} {t e' : TypeId} {k : IntKind} {n : Int} {y : α} {sz : Nat} {cs : List PV} (hy : Sl.at? x n = some y) (hcs : (f y).cells = cs) (hd : XaS fr.ntmps d = true) (ho : opd σ a = Xar f x) (hi : opd σ i = .int k n)
  (ht : (env.ctx.ty t).map (·.und) = some (.slice e')) (he : (env.ctx.ty e').map (·.size) = some sz) (hc : cs.length = sz) (h : WO env fr rest (upd σ d (.iptr cs 0)) S (e || false) K) : WO env fr (⟨d, .indexAddr t a i, none, false⟩ :: rest) σ S e K :=
 w _ hd (nz rfl (Xbv ho (XcR _ _) hi ht he hy hcs hc)) h
theorem whx {α : Type} {f : α → PV} {x : Sl α} {a i : Operand} {t e' : TypeId} {k : IntKind} {n : Int} {y : α} {sz : Nat} {cs : List PV} (hy : Sl.at? x n = some y) (hcs : (f y).cells = cs) (hd : XaS fr.ntmps d = true) (ho : opd σ a = Xar f x) (hi : opd σ i = .int k n)
  (ht : (env.ctx.ty t).map (·.und) = some (.slice e')) (he : (env.ctx.ty e').map (·.size) = some sz) (hc : cs.length = sz) (h : WH env fr rest (upd σ d (.iptr cs 0)) S K1) : WH env fr (⟨d, .indexAddr t a i, none, false⟩ :: rest) σ S K1 :=
 wh _ hd (nz rfl (Xbv ho (XcR _ _) hi ht he hy hcs hc)) h
theorem whl (H : Hp S0 R S C A W) (j : Nat) {t : TypeId} {a : Operand} {id off : Nat} {cs : List PV} {v : PV} (hd : XaS fr.ntmps d = true) (ho : opd σ a = .ptr id off) (hj : C[j]? = some (id, .cells cs)) (hp : Xbz env.ctx t cs off = some v)
  (h : WH env fr rest (upd σ d v) S K1) : WH env fr (⟨d, .load t a, none, false⟩ :: rest) σ S K1 := wh v hd (nz rfl (Xjr ho (H.get j hj) hp)) h
theorem whc (v : PV) (vs : List PV) {f : FuncId} {o : Operand} {args : Array Operand} {ts : Array TypeId} {cap : List PV} (hd : XaS fr.ntmps d = true) (hf : opd σ o = .fn (.func f) [] cap) (ha : args.toList.map (opd σ) ++ cap = vs)
  (hz : XbD (Xa5 env.ctx σ (.call ⟨.value o, args, ts⟩)) σ S = (σ, S)) (hs : ∀ S, evw env f vs S = some (v, S, false)) (h : WH env fr rest (upd σ d v) S K1) : WH env fr (⟨d, .call ⟨.value o, args, ts⟩, none, false⟩ :: rest) σ S K1 :=
 wh v hd (nz hz (XcA hf ha (hs S))) h
end
end Go.Pam
namespace Go.Pam
section
variable {env : Env} {fr : Fr} {σ : Nat → PV} {S S0 : List SObj} {e : Bool} {K : KS} {K1 : (Nat → PV) → Prop} {R : List Nat} {C : List (Nat × SObj)} {A : List (PV × Nat)} {W : List (PV × SObj)} {hist : List (List SObj)} {pend : List (TypeId × PV × PV)} {d : Option Nat} {rest : List POp}
theorem p2 {α β : Type} {a a' : α} {b b' : β} (h : (a, b) = (a', b')) : a = a' ∧ b = b' := Prod.mk.inj h
/-! The same with what is seen by looking said once. -/
theorem Wg (H : Hp S0 R S C A W) (j : Nat) {t : TypeId} {a : Operand} {id off : Nat} {cs : List PV} {v : PV} (q : (XaS fr.ntmps d, opd σ a, C[j]?, Xbz env.ctx t cs off) = (true, .ptr id off, some (id, .cells cs), some v))
  (h : WO env fr rest (upd σ d v) S (e || false) K) : WO env fr (⟨d, .load t a, none, false⟩ :: rest) σ S e K := wg H j (p2 q).1 (p2 (p2 q).2).1 (p2 (p2 (p2 q).2).2).1 (p2 (p2 (p2 q).2).2).2 h
theorem Wgh (H : Hp S0 R S C A W) (j : Nat) {t : TypeId} {a : Operand} {id off : Nat} {cs : List PV} {v : PV} (q : (XaS fr.ntmps d, opd σ a, C[j]?, Xbz env.ctx t cs off) = (true, .ptr id off, some (id, .cells cs), some v))
  (h : WH env fr rest (upd σ d v) S K1) : WH env fr (⟨d, .load t a, none, false⟩ :: rest) σ S K1 := whl H j (p2 q).1 (p2 (p2 q).2).1 (p2 (p2 (p2 q).2).2).1 (p2 (p2 (p2 q).2).2).2 h
theorem Wl {α : Type} {f : α → PV} {x : Sl α} {a : Operand} {t e' : TypeId} (q : (XaS fr.ntmps d, opd σ a, (env.ctx.ty t).map (·.und)) = (true, Xar f x, some (.slice e'))) (h : WO env fr rest (upd σ d (.int .i64 (Sl.len x))) S (e || false) K) :
  WO env fr (⟨d, .call ⟨.builtin .len, #[a], #[t]⟩, none, false⟩ :: rest) σ S e K := wl (p2 q).1 (p2 (p2 q).2).1 (p2 (p2 q).2).2 h
theorem Cl (v : PV) (vs : List PV) {f : FuncId} {o : Operand} {args : Array Operand} {ts : Array TypeId} {cap : List PV} (q : (XaS fr.ntmps d, opd σ o, args.toList.map (opd σ) ++ cap) = (true, .fn (.func f) [] cap, vs))
  (hz : XbD (Xa5 env.ctx σ (.call ⟨.value o, args, ts⟩)) σ S = (σ, S)) (hs : ∀ S, evw env f vs S = some (v, S, false)) (h : WO env fr rest (upd σ d v) S (e || false) K) : WO env fr (⟨d, .call ⟨.value o, args, ts⟩, none, false⟩ :: rest) σ S e K :=
 cl v vs (p2 q).1 (p2 (p2 q).2).1 (p2 (p2 q).2).2 hz hs h
theorem Clh (v : PV) (vs : List PV) {f : FuncId} {o : Operand} {args : Array Operand} {ts : Array TypeId} {cap : List PV} (q : (XaS fr.ntmps d, opd σ o, args.toList.map (opd σ) ++ cap) = (true, .fn (.func f) [] cap, vs))
  (hz : XbD (Xa5 env.ctx σ (.call ⟨.value o, args, ts⟩)) σ S = (σ, S)) (hs : ∀ S, evw env f vs S = some (v, S, false)) (h : WH env fr rest (upd σ d v) S K1) : WH env fr (⟨d, .call ⟨.value o, args, ts⟩, none, false⟩ :: rest) σ S K1 :=
 whc v vs (p2 q).1 (p2 (p2 q).2).1 (p2 (p2 q).2).2 hz hs h
theorem Wx {α : Type} {f : α → PV} {x : Sl α} {a i : Operand} {t e' : TypeId} {k : IntKind} {n : Int} {y : α} {sz : Nat} {cs : List PV} (hy : Sl.at? x n = some y) (hcs : (f y).cells = cs)
  (q : (XaS fr.ntmps d, opd σ a, opd σ i, (env.ctx.ty t).map (·.und), (env.ctx.ty e').map (·.size), cs.length) = (true, Xar f x, .int k n, some (.slice e'), some sz, sz)) (h : WO env fr rest (upd σ d (.iptr cs 0)) S (e || false) K) :
  WO env fr (⟨d, .indexAddr t a i, none, false⟩ :: rest) σ S e K :=
 wx hy hcs (p2 q).1 (p2 (p2 q).2).1 (p2 (p2 (p2 q).2).2).1 (p2 (p2 (p2 (p2 q).2).2).2).1 (p2 (p2 (p2 (p2 (p2 q).2).2).2).2).1 (p2 (p2 (p2 (p2 (p2 q).2).2).2).2).2 h
theorem Wxh {α : Type} {f : α → PV} {x : Sl α} {a i : Operand} {t e' : TypeId} {k : IntKind} {n : Int} {y : α} {sz : Nat} {cs : List PV} (hy : Sl.at? x n = some y) (hcs : (f y).cells = cs)
  (q : (XaS fr.ntmps d, opd σ a, opd σ i, (env.ctx.ty t).map (·.und), (env.ctx.ty e').map (·.size), cs.length) = (true, Xar f x, .int k n, some (.slice e'), some sz, sz)) (h : WH env fr rest (upd σ d (.iptr cs 0)) S K1) :
  WH env fr (⟨d, .indexAddr t a i, none, false⟩ :: rest) σ S K1 :=
 whx hy hcs (p2 q).1 (p2 (p2 q).2).1 (p2 (p2 (p2 q).2).2).1 (p2 (p2 (p2 (p2 q).2).2).2).1 (p2 (p2 (p2 (p2 (p2 q).2).2).2).2).1 (p2 (p2 (p2 (p2 (p2 q).2).2).2).2).2 h
theorem Ws (j : Nat) (H : Hp S0 R S C A W) {t : TypeId} {a x : Operand} {id off sz : Nat} {cs cs' xc : List PV} {v : PV} (hi : fr.base ≤ id)
  (q : (XaS fr.ntmps d, XbD (Xa5 env.ctx σ (.store t a x)) σ S, C[j]?, opd σ a, opd σ x, (env.ctx.ty t).map (·.size), v.storable, v.cells, (xc.length == sz && Nat.ble (off + sz) cs.length), cs.take off ++ xc ++ cs.drop (off + sz)) = (true, (σ, S), some (id, .cells cs), .ptr id off, v, some sz, true, xc, true, cs'))
  (h : ∀ S', Hp S0 R S' (C.set j (id, .cells cs')) A W → WO env fr rest (upd σ d (.tup [])) S' (e || false) K) : WO env fr (⟨d, .store t a x, none, false⟩ :: rest) σ S e K := by
 obtain ⟨h1, q⟩ := p2 q; obtain ⟨h2, q⟩ := p2 q; obtain ⟨h3, q⟩ := p2 q; obtain ⟨h4, q⟩ := p2 q; obtain ⟨h5, q⟩ := p2 q; obtain ⟨h6, q⟩ := p2 q; obtain ⟨h7, q⟩ := p2 q; obtain ⟨h8, q⟩ := p2 q; obtain ⟨h9, q⟩ := p2 q
 exact wos j H hi h1 h2 h3 h4 h5 h6 h7 h8 h9 q h
theorem Wsk (j : Nat) (H : Hp S0 R S C A W) {t : TypeId} {a x : Operand} {id off sz : Nat} {cs cs' xc : List PV} {v : PV} (hi : fr.base ≤ id)
  (q : (XaS fr.ntmps d, XbD (Xa5 env.ctx σ (.store t a x)) σ S, C[j]?, opd σ a, opd σ x, (env.ctx.ty t).map (·.size), v.storable, v.cells, (xc.length == sz && Nat.ble (off + sz) cs.length), cs.take off ++ xc ++ cs.drop (off + sz)) = (true, (σ, S), some (id, .cells cs), .ptr id off, v, some sz, true, xc, true, cs'))
  (h : ∀ S', Hp S0 R S' (C.set j (id, .cells cs')) A W → Xch env.ctx pend S' ∧ WK env fr rest (S :: hist) pend (upd σ d (.tup [])) S' (e || false) K) : WK env fr (⟨d, .store t a x, none, false⟩ :: rest) hist pend σ S e K := by
 obtain ⟨h1, q⟩ := p2 q; obtain ⟨h2, q⟩ := p2 q; obtain ⟨h3, q⟩ := p2 q; obtain ⟨h4, q⟩ := p2 q; obtain ⟨h5, q⟩ := p2 q; obtain ⟨h6, q⟩ := p2 q; obtain ⟨h7, q⟩ := p2 q; obtain ⟨h8, q⟩ := p2 q; obtain ⟨h9, q⟩ := p2 q
 exact wks j H hi h1 h2 h3 h4 h5 h6 h7 h8 h9 q h
theorem Wa {t : TypeId} {ti : TyI} {cs : List PV} (H : Hp S0 R S C A W) (q : (XaS fr.ntmps d, env.ctx.ty t, ti.zero.storable, ti.zero.cells) = (true, some ti, true, cs))
  (h : ∀ i S', S0.length ≤ i → Hp S0 R S' ((i, .cells cs) :: C) A W → WO env fr rest (upd σ d (.ptr i 0)) S' (e || false) K) : WO env fr (⟨d, .alloc t, none, false⟩ :: rest) σ S e K := WO.alloc' (p2 q).1 (p2 (p2 q).2).1 (p2 (p2 (p2 q).2).2).1 (p2 (p2 (p2 q).2).2).2 H h
theorem Wb {t : TypeId} {x : Operand} {v : PV} {cs : List PV} (H : Hp S0 R S C A W) (q : (XaS fr.ntmps d, XbD (Xa5 env.ctx σ (.box t x)) σ S, opd σ x, v.storable, v.cells) = (true, (σ, S), v, true, cs))
  (h : ∀ i S', S0.length ≤ i → Hp S0 R S' ((i, .cells cs) :: C) A W → WO env fr rest (upd σ d (.ptr i 0)) S' (e || false) K) : WO env fr (⟨d, .box t x, none, false⟩ :: rest) σ S e K := WO.box' (p2 q).1 (p2 (p2 q).2).1 (p2 (p2 (p2 q).2).2).1 (p2 (p2 (p2 (p2 q).2).2).2).1 (p2 (p2 (p2 (p2 q).2).2).2).2 H h
theorem Kr (v : PV) {n t : Nat} {c : PC} {K : KV} (q : (σ t, Xg5 v S) = (v, none)) (hk : K (Xal [v]) S e) : KB env ⟨n, [.tmp t], c, false⟩ K .ret σ S e := kr v (p2 q).1 (p2 q).2 hk
end
theorem Qg {env : Env} {f : FuncId} {pf : PFn} {n : Nat} {rs : List ResultVar} {c : PC} {rw : Bool} {bs : List PV} {v : PV} (q : (env.intr f, env.fn f, Nat.ble bs.length pf.ntmps, pf) = (none, some pf, true, ⟨n, rs, c, rw⟩)) (hc : XaW bs = true) (hv : v.clean = true)
  (k : Hp [] [] [] [] [] [] → WC env ⟨n, ([] : List SObj).length⟩ c (fun i => bs.getD i (.tup [])) [] false (KB env ⟨n, rs, c, rw⟩ fun v' _ _ => v'.strip = v)) : Qe env f bs v :=
 Qe.go (p2 q).1 (p2 (p2 q).2).1 (Nat.le_of_ble_eq_true (p2 (p2 (p2 q).2).2).1) hc hv (p2 (p2 (p2 q).2).2).2 k
end Go.Pam
