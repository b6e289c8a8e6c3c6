/- Soundness of the single steps, eighth part: conversions, len, min and max, type assertions, methods. -/
import Derived.Test.YthkjepoaddfoiaaPam12
namespace Go.Pam
set_option linter.unusedVariables false
set_option linter.unusedSimpArgs false
open Go.RowKit

section
variable {P : Program} {ctx : Ctx} {S : List SObj} {g : G} {w : World} {n : Nat} {base : Nat} {bd : Nat → Nat}

theorem bytesOfPV_sound (f : Value → ByteArray → Sem (ForInStep ByteArray)) (hf : ∀ n r, f (.int .u8 n) r = pure (ForInStep.yield (r.push (UInt8.ofNat n.toNat)))) :
    ∀ (xs : List PV) (us : List Value) (b : List UInt8) (s : ByteArray), xs.length = us.length → (∀ (i : Nat) (c : PV), xs[i]? = some c → V g w n c (us.getD i undef)) → convPV.bytesOfPV xs = some b →
    (forIn us s f : Sem ByteArray).run P w = .ok ⟨(s.data.toList ++ b).toArray⟩ w
  | [], [], b, s, _, _, h => by
    simp [convPV.bytesOfPV] at h; subst h
    simp
  | [], _ :: _, _, _, h, _, _ => by simp at h
  | _ :: _, [], _, _, h, _, _ => by simp at h
  | x :: xs, u :: us, b, s, hl, hV, h => by
    have hx := hV 0 x rfl
    simp at hx
    unfold convPV.bytesOfPV at h
    split at h
    · rename_i he; cases he
    · rename_i k r he
      injection he with he1 he2
      subst he1; subst he2
      rw [hx.inv_int]
      cases hb : convPV.bytesOfPV xs with
      | none => simp [hb] at h
      | some b' =>
        simp [hb] at h; subst h
        have := bytesOfPV_sound f hf xs us b' (s.push (UInt8.ofNat k.toNat)) (by simpa using hl) (fun i c hi => by have := hV (i + 1) c (by simpa using hi); simpa using this) hb
        simp only [List.forIn_cons, hf, Sem.run_bind, Sem.run_pure, Result.andThen_ok, this]
        congr 2
        simp
    · cases h

theorem step_conv (hc : CtxTy P ctx) (hR : R S w g base bd) {src dst : TypeId} {x y : PV} {x' : Value} {S' : List SObj} (hx : V g w S.length x x') (h : convPV ctx src dst x S = some (y, S')) :
    ∃ v w', (convert src dst x').run P w = .ok v w' ∧ Good base bd S g w y S' false v w' := by
  unfold convPV at h
  split at h
  case h_2 => cases h
  rename_i si di hsi hdi
  have hs := hc.ty _ _ hsi
  have hd := hc.ty _ _ hdi
  split at h
  · -- numbers
    rename_i k k' k'' i h1 h2
    injection h with h; injection h with hh1 hh2; subst hh1; subst hh2
    rw [hx.inv_int]
    exact ⟨.int k' (k'.wrap i), w, by simp [convert, hs.run_und, hd.run_und, h1, h2, Conv.intToInt], Good.same hR (.int _ _)⟩
  · -- a string
    rename_i s h1 h2
    injection h with h; injection h with hh1 hh2; subst hh1; subst hh2
    obtain ⟨bs, rfl, hb⟩ := hx.inv_str
    exact ⟨.string bs, w, by simp [convert, hs.run_und, hd.run_und, h1, h2], Good.same hR hx⟩
  · -- a string's bytes
    rename_i e s h1 h2
    split at h
    case h_2 => cases h
    rename_i ei hei
    have he := hc.ty _ _ hei
    split at h
    case h_2 => cases h
    rename_i hu8
    injection h with h; injection h with hh1 hh2; subst hh1; subst hh2
    obtain ⟨bs, rfl, hb⟩ := hx.inv_str
    have hlen : bs.size = s.length := by rw [← hb]; simp
    let cap := (Question.appendCap bs.size 0 e).cut (w.tape w.drawn (.appendCap bs.size 0 e))
    have hcap : bs.size ≤ cap := by simp [cap, Question.cut]
    let cur : Array Value := (bs.data.map fun b => Value.int .u8 b.toNat) ++ Array.replicate (cap - bs.size) (.int .u8 0)
    have hcs : cur.size = cap := by simp [cur]; omega
    let w0 : World := { w with drawn := w.drawn + 1 }
    have hR0 : R S w0 g base bd := hR.drawn rfl rfl rfl rfl
    have e0 : Evo S.length g w g w0 := Evo.drawn rfl rfl rfl rfl
    have hf : Flat g w0 S.length 1 (s.map fun b => .int .u8 b.toNat) (s.map fun b => .int .u8 b.toNat) := by
      refine ⟨by simp, fun i x hi => ?_, fun i x j c hi hj => ?_, fun u hu => ?_⟩
      · rw [List.getElem?_map] at hi
        cases hs : s[i]? with
        | none => simp [hs] at hi
        | some b => simp [hs] at hi; subst hi; rfl
      · rw [List.getElem?_map] at hi
        cases hs : s[i]? with
        | none => simp [hs] at hi
        | some b =>
          simp [hs] at hi; subst hi
          cases j with
          | succ j => simp [PV.cells] at hj
          | zero =>
            simp [PV.cells] at hj; subst hj
            simp [List.getElem?_map, hs]
            exact .int _ _
      · simp only [List.mem_map] at hu
        obtain ⟨b, _, rfl⟩ := hu
        rfl
    have hcl : cur.toList = (s.map fun b => Value.int .u8 b.toNat) ++ (Array.replicate (cap - bs.size) (Value.int .u8 0)).toList := by
      simp [cur, ← hb]
    obtain ⟨g', k1, k2, k3, k4⟩ := new_tip hR0 hf e hcl (by simpa using hcs) (by simpa [hlen] using hcap) (cap, cap + 1) (fun i hi h => by omega)
    have hrun : (convert src dst (.string bs)).run P w = .ok (.slice (some ⟨w0.heap.size, 0, none⟩) bs.size cap) (w0.alloc (.cells cur e (cap, cap + 1))) := by
      have hfz : (w0.alloc (.cells cur e)).freeze { block := w0.heap.size, off := cap } 1 = w0.alloc (.cells cur e (cap, cap + 1)) := by
        unfold World.freeze World.alloc
        simp only [Nat.one_ne_zero, if_false]
        congr 1
        apply Array.ext (by simp)
        intro i hi1 hi2
        simp only [Array.size_modify, Array.size_push] at hi1
        rw [Array.getElem_modify]
        by_cases hi : i = w0.heap.size
        · subst hi; simp
        · rw [if_neg (by omega)]
          rw [Array.getElem_push_lt (by omega), Array.getElem_push_lt (by omega)]
      have hsh : (w0.alloc (.cells cur e)).shape? w0.heap.size = some (e, cap) := by
        have := alloc_new w0 (.cells cur e)
        simp only [World.shape?, this, hcs]
      have hq : (Question.appendCap bs.size 0 e).forced = false := rfl
      simp only [convert, Sem.run_bind, hs.run_und, hd.run_und, Result.andThen_ok, h1, h2, he.run_und, hu8, Conv.stringToBytes]
      rw [run_choose, hq, if_neg (by simp), Result.andThen_ok]
      simp only [newRow, Sem.run_bind, run_newObj, Result.andThen_ok, Sem.run_pure]
      show (((markStringish ⟨w0.heap.size, 0, none⟩).run P (w0.alloc (.cells cur e))).andThen _) = _
      simp only [markStringish, Sem.run_bind, run_shape, hsh, Result.andThen_ok, run_freeze, hfz]
      rfl
    simp only [List.length_map] at k1 k2 k4
    rw [hlen] at hrun
    exact ⟨_, _, hrun, g', k1, k2, e0.trans k3, k4⟩
  · -- bytes to a string
    rename_i e xs tag h1 h2
    split at h
    case h_2 => cases h
    rename_i ei hei
    have he := hc.ty _ _ hei
    split at h
    case h_2 => cases h
    rename_i hu8
    cases hb : convPV.bytesOfPV xs with
    | none => simp [hb] at h
    | some b =>
      simp [hb] at h
      obtain ⟨hh1, hh2⟩ := h; subst hh1; subst hh2
      have hcase : (xs = [] ∧ tag = .none ∧ ∃ a, _ = Value.slice (some a) 0 0) ∨ ∃ b o cap sz us, _ = Value.slice (some ⟨b, o, none⟩) xs.length cap ∧ xs.length ≤ cap ∧ Flat g w S.length sz xs us ∧
          (∀ k, k < us.length → o + k < g.pp b) ∧ (∀ (k : Nat) (u : Value), us[k]? = some u → w.cell? ⟨b, o + k, none⟩ = some u) ∧ TagOk g w S.length tag b o xs.length cap sz := hx.flat'
      rcases hcase with ⟨rfl, rfl, a, rfl⟩ | ⟨bl, o, cap, sz, us, rfl, c0, cf, cp, cc, ct⟩
      · simp only [convPV.bytesOfPV, Option.some.injEq] at hb
        subst hb
        refine ⟨.string .empty, w, by simp [convert, hs.run_und, hd.run_und, h1, h2, he.run_und, hu8, Conv.bytesToString, loadCells, loadCellsFrom], Good.same hR ?_⟩
        have := V.str (g := g) (w := w) (n := S.length) .empty
        simpa using this
      have h1s : sizedAll 1 xs = true := by
        clear cf cp cc ct hx c0
        induction xs generalizing b with
        | nil => rfl
        | cons x xs ih =>
          unfold convPV.bytesOfPV at hb
          split at hb
          · rename_i he; cases he
          · rename_i k r he
            injection he with he1 he2
            subst he1; subst he2
            cases hb' : convPV.bytesOfPV xs with
            | none => simp [hb'] at hb
            | some b' => simp [sizedAll, PV.cells, ih b' hb']
          · cases hb
      obtain ⟨cf', _⟩ := sized_flat cf h1s
      have hul : us.length = xs.length := by rw [cf'.1]; omega
      have hld := run_loadCells_list (P := P) w ⟨bl, o, none⟩ us (fun j v hj => by rw [add_mk]; exact cc j v hj)
      have hbs := fun f hf => bytesOfPV_sound (P := P) (g := g) (w := w) (n := S.length) f hf xs us b .empty hul.symm (fun i c hi => by
        have hcl := sizedAll_get h1s hi
        have hcell : c.cells = [c] := by
          cases c with
          | agg cs =>
            exfalso
            have hmem : ∀ (l : List PV) (r : List UInt8), convPV.bytesOfPV l = some r → ∀ (k : Nat) (z : PV), l[k]? = some z → ∃ q, z = .int .u8 q := by
              intro l
              induction l with
              | nil => intro r _ k z hk; simp at hk
              | cons y l ih =>
                intro r hr k z hk
                unfold convPV.bytesOfPV at hr
                split at hr
                · rename_i he; cases he
                · rename_i q r' he
                  injection he with he1 he2
                  subst he1; subst he2
                  cases hb' : convPV.bytesOfPV l with
                  | none => simp [hb'] at hr
                  | some b' =>
                    cases k with
                    | zero => simp at hk; subst hk; exact ⟨q, rfl⟩
                    | succ k => exact ih b' hb' k z (by simpa using hk)
                · cases hr
            obtain ⟨q, hq⟩ := hmem xs b hb i _ hi
            cases hq
          | _ => rfl
        have := cf'.2.2.1 i c 0 c hi (by rw [hcell]; rfl)
        simpa using this) hb
      have hsv : V g w S.length (.str b) (.string ⟨b.toArray⟩) := by
        have := V.str (g := g) (w := w) (n := S.length) ⟨b.toArray⟩
        simpa using this
      refine ⟨.string ⟨b.toArray⟩, w, ?_, Good.same hR hsv⟩
      simp only [convert, Sem.run_bind, hs.run_und, hd.run_und, Result.andThen_ok, h1, h2, he.run_und, hu8, Conv.bytesToString]
      rw [← hul, hld, Result.andThen_ok]
      rw [← Array.forIn_toList]
      rw [show us.toArray.toList = us from rfl, hbs]
      · simp
      · intro n r; rfl
  · -- nil
    rename_i e h1 h2
    split at h
    case h_2 => cases h
    rename_i ei hei
    have he := hc.ty _ _ hei
    split at h
    case h_2 => cases h
    rename_i hu8
    injection h with h; injection h with hh1 hh2; subst hh1; subst hh2
    rw [hx.inv_nils]
    refine ⟨.string .empty, w, by simp [convert, hs.run_und, hd.run_und, h1, h2, he.run_und, hu8, Conv.bytesToString], Good.same hR ?_⟩
    have := V.str (g := g) (w := w) (n := S.length) .empty
    simpa using this
  · cases h

theorem step_len (hc : CtxTy P ctx) (hR : R S w g base bd) {ts : Array TypeId} {t ty : TypeId} {x : PV} {args : Array Value} {x' : Value} {i : Int} (ht : ts[0]? = some t) (h0 : args[0]? = some x') (hx : V g w S.length x x')
    (h : lenPV ctx t x S = some i) : (Builtin.len_ ts ty args).run P w = .ok (.int .i64 i) w := by
  unfold lenPV at h
  split at h
  · cases h
  rename_i ti hti
  have htt := hc.ty _ _ hti
  simp only [Builtin.len_, ht, h0, Sem.run_bind, htt.run_und, Result.andThen_ok]
  split at h
  · rename_i s hund
    obtain ⟨bs, rfl, hb⟩ := hx.inv_str
    injection h with h; subst h
    rw [hund]; simp [goInt, ← hb]
  · rename_i m e hund
    injection h with h; subst h
    rw [hund]; simp [goInt]
  · rename_i hund
    injection h with h; subst h
    rw [hx.inv_nils, hund]; simp [goInt]
  · rename_i xs tag hund
    injection h with h; subst h
    rcases hx.inv_lst with ⟨rfl, _, a, rfl⟩ | ⟨b, o, cap, sz, u, rfl, _⟩ <;> (rw [hund]; simp [goInt])
  · rename_i id off len hund
    injection h with h; subst h
    obtain ⟨cap, rfl, _⟩ := hx.inv_hsl
    rw [hund]; simp [goInt]
  · rename_i hund
    injection h with h; subst h
    obtain ⟨a, rfl⟩ := hx.inv_emp
    rw [hund]; simp [goInt]
  · rename_i id len hund
    injection h with h; subst h
    obtain ⟨rfl, _⟩ := hx.inv_rsl
    rw [hund]; simp [goInt]
  · rename_i hund
    injection h with h; subst h
    rw [hx.inv_nilm, hund]; simp [goInt]
  · rename_i id hund
    split at h
    case h_2 => cases h
    rename_i es hes
    injection h with h; subst h
    obtain ⟨rfl, h1, h2⟩ := hx.inv_map
    obtain ⟨l1, l2, l3, es', clock, l4, l5, l6⟩ := hR.live id _ hes
    rw [hund]
    have : (getObj (g.loc id)).run P w = .ok (.map es' clock) w := by simp [getObj, Sem.run, l4]
    simp [this, goInt, l5]
  · cases h

theorem minmax_go (mx : Bool) : ∀ (xs : List PV) (us : List Value) (k : IntKind) (i : Int) (y : PV), xs.length = us.length → (∀ (j : Nat) (c : PV), xs[j]? = some c → V g w n c (us.getD j undef)) → minmax.go mx k i xs = some y →
    ∃ v, (us.foldlM (m := Sem) (if mx then Builtin.max2 else Builtin.min2) (.int k i)).run P w = .ok v w ∧ V g w n y v
  | [], [], k, i, y, _, _, h => by
    simp [minmax.go] at h; subst h
    exact ⟨_, rfl, .int _ _⟩
  | [], _ :: _, _, _, _, h, _, _ => by simp at h
  | _ :: _, [], _, _, _, h, _, _ => by simp at h
  | x :: xs, u :: us, k, i, y, hl, hV, h => by
    have hx := hV 0 x rfl
    simp at hx
    unfold minmax.go at h
    split at h
    · rename_i he; cases he
    · rename_i k' m r he
      injection he with he1 he2
      subst he1; subst he2
      obtain ⟨v, h1, h2⟩ := minmax_go mx xs us k _ y (by simpa using hl) (fun j c hj => by have := hV (j + 1) c (by simpa using hj); simpa using this) h
      refine ⟨v, ?_, h2⟩
      rw [hx.inv_int]
      simp only [List.foldlM_cons, Sem.run_bind]
      cases mx <;> simp_all [Builtin.max2, Builtin.min2]
    · cases h

theorem step_minmax (mx : Bool) {ts : Array TypeId} {ty : TypeId} {xs : List PV} {args : Array Value} {y : PV} (hl : xs.length = args.size) (hV : ∀ (j : Nat) (c : PV), xs[j]? = some c → V g w n c (args.getD j undef))
    (h : minmax mx xs = some y) : ∃ v, ((if mx then Builtin.max_ ts ty args else Builtin.min_ ts ty args)).run P w = .ok v w ∧ V g w n y v := by
  unfold minmax at h
  split at h
  · cases h
  · rename_i k i r
    have hsz : 0 < args.size := by simp at hl; omega
    obtain ⟨u, us, hargs⟩ : ∃ u us, args.toList = u :: us := by
      cases hh : args.toList with
      | nil => have h0 : args.toList.length = 0 := by rw [hh]; rfl
               rw [Array.length_toList] at h0; omega
      | cons u us => exact ⟨u, us, rfl⟩
    have hV' : ∀ (j : Nat) (c : PV), (PV.int k i :: r)[j]? = some c → V g w n c ((u :: us).getD j undef) := fun j c hj => by
      rw [← hargs, getD_toList]; exact hV j c hj
    have h0 := hV' 0 _ rfl
    simp at h0
    obtain ⟨v, h1, h2⟩ := minmax_go (P := P) mx r us k i y (by have := congrArg List.length hargs; simp at this hl; omega) (fun j c hj => by have := hV' (j + 1) c (by simpa using hj); simpa using this) h
    refine ⟨v, ?_, h2⟩
    rw [h0.inv_int] at hargs
    cases mx
    · simp only [Bool.false_eq_true, if_false, Builtin.min_, hargs]
      simpa using h1
    · simp only [if_true, Builtin.max_, hargs]
      simpa using h1
  · cases h

theorem step_assert (hc : CtxTy P ctx) {x y : PV} {x' : Value} {xt t : TypeId} {ok : Bool} (hx : V g w n x x') (h : assertPV ctx x t ok = some y) :
    ∃ v, (Instr.typeAssert x' xt t ok).run P w = .ok v w ∧ V g w n y v := by
  unfold assertPV at h
  split at h
  · cases h
  rename_i ti hti
  have ht := hc.ty _ _ hti
  obtain ⟨z, z1, z2, z3⟩ := ht.run_zero w
  have hzV := absV_sound g w n z2
  have pairV : ∀ (a b : PV) (a' b' : Value), V g w n a a' → V g w n b b' → V g w n (.tup [a, b]) (.tuple #[a', b']) := by
    intro a b a' b' ha hb
    refine .tup _ _ rfl (fun i c hi => ?_)
    match i with
    | 0 => simp at hi; subst hi; exact ha
    | 1 => simp at hi; subst hi; exact hb
    | i + 2 => simp at hi
  split at h
  · cases h
  · rename_i hni
    split at h
    case isFalse => cases h
    rename_i hok
    injection h with h; subst h
    rw [hx.inv_nili]
    refine ⟨.tuple #[z, .bool false], ?_, pairV _ _ _ _ hzV (.bool _)⟩
    simp only [Instr.typeAssert, Sem.run_bind, ht.run_und, Result.andThen_ok]
    cases hu : ti.und <;> first | (exact absurd hu (hni _)) | simp [hok, z1]
  · rename_i u v hni
    obtain ⟨v', rfl, hv⟩ := hx.inv_ifc
    split at h
    · rename_i hut
      injection h with h; subst h
      subst hut
      cases ok
      · refine ⟨v', ?_, by simpa using hv⟩
        simp only [Instr.typeAssert, Sem.run_bind, ht.run_und, Result.andThen_ok]
        cases hu : ti.und <;> first | (exact absurd hu (hni _)) | simp
      · refine ⟨.tuple #[v', .bool true], ?_, by simpa using pairV _ _ _ _ hv (.bool _)⟩
        simp only [Instr.typeAssert, Sem.run_bind, ht.run_und, Result.andThen_ok]
        cases hu : ti.und <;> first | (exact absurd hu (hni _)) | simp
    · rename_i hut
      split at h
      case isFalse => cases h
      rename_i hok
      injection h with h; subst h
      refine ⟨.tuple #[z, .bool false], ?_, pairV _ _ _ _ hzV (.bool _)⟩
      simp only [Instr.typeAssert, Sem.run_bind, ht.run_und, Result.andThen_ok]
      cases hu : ti.und <;> first | (exact absurd hu (hni _)) | simp [hok, hut, z1]
  · cases h

theorem step_method (hc : CtxTy P ctx) {x v : PV} {x' : Value} {name : String} {f : FuncId} {fuel : Nat} (hx : V g w n x x') (h : methodPV ctx x name = some (f, v)) :
    ∃ t y' v', x' = .iface t y' ∧ (method (fuel + 1) t y' name).run P w = .ok (f, v') w ∧ V g w n v v' := by
  unfold methodPV at h
  split at h
  case h_2 => cases h
  rename_i t y
  obtain ⟨y', rfl, hy⟩ := hx.inv_ifc
  split at h
  · cases h
  rename_i ti hti
  have ht := hc.ty _ _ hti
  obtain ⟨i, z, i1, _, _, _, _, _, _, i8⟩ := ht.info
  split at h
  · cases h
  rename_i m hm
  split at h
  case isFalse => cases h
  rename_i hp
  have hfind : i.methods.find? (fun x => x.name == name) = some m := by
    rw [← Array.find?_toList, i8]; exact hm
  have hpath : m.path = #[] := by simpa using hp
  have key : ∀ (b : Bool), m.func = some (f, b) → (receiverAt t (.val y') b (some ((name.splitOn ".").getLastD name))).run P w = .ok y' w → (method (fuel + 1) t y' name).run P w = .ok (f, y') w := by
    intro b hb hr
    simp only [method, typeInfo, Sem.run_bind, run_program, Result.andThen_ok, i1, Sem.run_pure, hfind, hpath, follow, hb, List.toList_toArray]
    have e : (#[] : Array FieldStep).isEmpty = true := rfl
    simp only [e, if_true, hr, Result.andThen_ok]
  split at h
  · rename_i f' e hf hund
    injection h with h; injection h with h1 h2; subst h1; subst h2
    refine ⟨t, y', y', rfl, key true hf ?_, hy⟩
    simp [receiverAt, ht.run_und, hund, Place.get]
  · cases h
  · rename_i f' hf hne
    injection h with h; injection h with h1 h2; subst h1; subst h2
    refine ⟨t, y', y', rfl, key false hf ?_, hy⟩
    simp only [receiverAt, Sem.run_bind, ht.run_und, Result.andThen_ok]
    cases hu : ti.und <;> first | (exfalso; exact hne _ hu) | simp [Place.get]
  · cases h
end
end Go.Pam
