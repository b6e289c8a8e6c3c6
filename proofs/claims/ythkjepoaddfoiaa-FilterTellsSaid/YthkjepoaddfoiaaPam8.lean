/- Soundness of the single steps, third part: slices, strings, numbers. -/
import Derived.Test.YthkjepoaddfoiaaPam7
namespace Go.Pam
set_option linter.unusedVariables false
set_option linter.unusedSimpArgs false
open Go.RowKit

theorem add_mk (b o n : Nat) : (⟨b, o, none⟩ : Addr).add n = ⟨b, o + n, none⟩ := by
  unfold Addr.add; split
  · rename_i h0; simp [h0]
  · rfl

section
variable {P : Program} {ctx : Ctx} {S : List SObj} {g : G} {w : World} {base : Nat} {bd : Nat → Nat} {σ : Nat → PV} {a : Act}

theorem step_indexAddr (hc : CtxTy P ctx) {n : Nat} {t : TypeId} {x y : PV} {v iv : Value} {k : IntKind} {i : Int} (hx : V g w n x v) (hi : iv = .int k i) (h : indexAddrPV ctx t x i = some y) :
    ∃ v', (Instr.indexAt t v iv).run P w = .ok v' w ∧ V g w n y v' := by
  subst hi
  unfold indexAddrPV at h
  split at h
  · cases h
  rename_i ti hti
  have ht := hc.ty _ _ hti
  split at h
  · rename_i e xs tag hund
    split at h
    case h_2 => cases h
    rename_i ei hei
    have hte := hc.ty _ _ hei
    split at h
    case isFalse => cases h
    rename_i h0
    split at h
    case h_2 => cases h
    rename_i z hz
    split at h
    case isFalse => cases h
    rename_i hsz
    injection h with h; subst h
    rcases hx.inv_lst with ⟨rfl, _, _⟩ | ⟨b, o, cap, sz, u, rfl, c1, c2, c3, c4, c5, c6, c7⟩
    · simp at hz
    have hlt : i.toNat < xs.length := (List.getElem?_eq_some_iff.1 hz).1
    have hs := c2 _ _ hz
    have hrun : (Instr.indexAt t (.slice (some ⟨b, o, none⟩) xs.length cap) (.int k i)).run P w = .ok (.pointer (some ⟨b, o + i.toNat * ei.size, none⟩)) w := by
      simp only [Instr.indexAt, asIntOf, Sem.run_bind, Sem.run_pure, Result.andThen_ok, ht.run_und, hund]
      rw [if_pos ⟨h0, by omega⟩]
      simp [hte.run_size, add_mk]
    refine ⟨_, hrun, ?_⟩
    have := V.iptr (g := g) (w := w) (n := n) z.cells 0 b (o + i.toNat * ei.size) (u i.toNat)
      (fun j c hj => by have := c3 _ _ j c hz hj; rw [← hs, hsz] at this; exact this)
      (fun j c hj => by have := c4 _ _ j c hz hj; rw [← hs, hsz] at this; exact this)
      (fun j c hj => c5 _ _ j c hz hj) (fun j hj => c6 _ _ j hz (by omega))
    exact this
  · rename_i e id off len hund
    split at h
    case h_2 => cases h
    rename_i ei hei
    have hte := hc.ty _ _ hei
    split at h
    case isFalse => cases h
    rename_i h0
    injection h with h; subst h
    obtain ⟨cap, rfl, c1, c2, c3⟩ := hx.inv_hsl
    refine ⟨_, ?_, .ptr id (off + i.toNat * ei.size) c2 c3⟩
    simp only [Instr.indexAt, asIntOf, Sem.run_bind, Sem.run_pure, Result.andThen_ok, ht.run_und, hund]
    rw [if_pos h0]
    simp [hte.run_size, add_mk]
  · rename_i e id len hund
    split at h
    case h_2 => cases h
    rename_i ei hei
    have hte := hc.ty _ _ hei
    split at h
    case isFalse => cases h
    rename_i h0
    injection h with h; subst h
    obtain ⟨rfl, c1, c2, c3⟩ := hx.inv_rsl
    refine ⟨_, ?_, .ptr id (i.toNat * ei.size) c2 c3⟩
    simp only [Instr.indexAt, asIntOf, Sem.run_bind, Sem.run_pure, Result.andThen_ok, ht.run_und, hund]
    rw [if_pos h0]
    simp [hte.run_size, add_mk]
  · rename_i len e id off hund
    split at h
    case h_2 => cases h
    rename_i ei hei
    have hte := hc.ty _ _ hei
    split at h
    case isFalse => cases h
    rename_i h0
    injection h with h; subst h
    obtain ⟨rfl, c2, c3⟩ := hx.inv_ptr
    refine ⟨_, ?_, .ptr id (off + i.toNat * ei.size) c2 c3⟩
    simp only [Instr.indexAt, asIntOf, Sem.run_bind, Sem.run_pure, Result.andThen_ok, ht.run_und, hund, Instr.sureAddr]
    rw [if_pos h0]
    simp [hte.run_size, add_mk]
  · rename_i len e cs off hund
    split at h
    case h_2 => cases h
    rename_i ei hei
    have hte := hc.ty _ _ hei
    split at h
    case isFalse => cases h
    rename_i h0
    injection h with h; subst h
    obtain ⟨b, o, u, rfl, c1, c2, c3, c4⟩ := hx.inv_iptr
    refine ⟨.pointer (some ⟨b, o + (off + i.toNat * ei.size), none⟩), ?_, .iptr cs _ b o u c1 c2 c3 c4⟩
    simp only [Instr.indexAt, asIntOf, Sem.run_bind, Sem.run_pure, Result.andThen_ok, ht.run_und, hund, Instr.sureAddr]
    rw [if_pos h0]
    simp [hte.run_size, add_mk, Nat.add_assoc]
  · cases h

theorem step_index (hc : CtxTy P ctx) {n : Nat} {t : TypeId} {x y : PV} {v iv : Value} {k : IntKind} {i : Int} (hx : V g w n x v) (hi : iv = .int k i) (h : indexPV ctx t x i = some y) :
    ∃ v', (Instr.index t v iv).run P w = .ok v' w ∧ V g w n y v' := by
  subst hi
  unfold indexPV at h
  split at h
  · cases h
  rename_i ti hti
  have ht := hc.ty _ _ hti
  split at h
  · rename_i s hund
    split at h
    case isFalse => cases h
    rename_i h0
    obtain ⟨bs, rfl, hb⟩ := hx.inv_str
    cases hg : s[i.toNat]? with
    | none => simp [hg] at h
    | some b =>
      simp [hg] at h
      subst h
      refine ⟨.int .u8 b.toNat, ?_, .int _ _⟩
      have hbs : bs[i.toNat]? = some b := by
        have h1 : bs.data.toList[i.toNat]? = some b := by rw [hb]; exact hg
        rw [Array.getElem?_toList] at h1
        exact h1
      simp only [Instr.index, asIntOf, Sem.run_bind, Sem.run_pure, Result.andThen_ok, ht.run_und, hund, if_pos h0, hbs]
  · rename_i len e cs hund
    split at h
    case h_2 => cases h
    rename_i ei hei
    have hte := hc.ty _ _ hei
    split at h
    case isFalse => cases h
    rename_i h0
    obtain ⟨cs', rfl, h1, h2, h3⟩ := hx.inv_agg
    obtain ⟨v', hr, hV⟩ := part_sound (P := P) hc h1 h2 h3 h
    refine ⟨v', ?_, hV⟩
    simp only [Instr.index, asIntOf, Sem.run_bind, Sem.run_pure, Result.andThen_ok, ht.run_und, hund, if_pos h0, hte.run_size, hr]
  · cases h

theorem bytes_extract (s : ByteArray) (l h : Nat) : (s.extract l h).data.toList = (s.data.toList.take h).drop l := by
  have : (s.extract l h).data = s.data.extract l h := by simp
  rw [this, Array.toList_extract]
  simp [List.extract, List.drop_take]

theorem sizedAll_get : ∀ {xs : List PV} {n i : Nat} {x : PV}, sizedAll n xs = true → xs[i]? = some x → x.cells.length = n
  | y :: ys, n, 0, x, h, hi => by
    simp at hi; subst hi
    simp [sizedAll] at h; exact h.1
  | y :: ys, n, i + 1, x, h, hi => by
    simp [sizedAll] at h
    exact sizedAll_get h.2 (by simpa using hi)
  | [], n, i, x, _, hi => by simp at hi

theorem bounds_run {lo hi : Option Value} {l h : Int} {len cap : Nat} {isS : Bool} (hl : (lo = none ∧ l = 0) ∨ ∃ k, lo = some (.int k l)) (hh : (hi = none ∧ h = len) ∨ ∃ k, hi = some (.int k h))
    (h0 : 0 ≤ l) (h1 : l ≤ h) (h2 : h ≤ len) (h3 : len ≤ cap) :
    (Instr.sliceBounds isS len cap lo hi none).run P w = .ok (l.toNat, h.toNat, cap) w := by
  have e1 : ((l.toNat : Nat) : Int) = l := Int.toNat_of_nonneg h0
  rcases hl with ⟨rfl, rfl⟩ | ⟨k, rfl⟩ <;> rcases hh with ⟨rfl, rfl⟩ | ⟨k', rfl⟩ <;> simp [Instr.sliceBounds, Instr.sliceBound, asIntOf]
  · omega
  · intro h; have := h h0; omega
  · rw [if_pos (by omega), if_pos (by omega)]

theorem bounds3_run {lo hi mx : Option Value} {k k' : IntKind} {len cap : Nat} (hl : lo = none ∨ ∃ k, lo = some (.int k 0)) (hh : hi = some (.int k 0)) (hm : mx = some (.int k' 0)) :
    (Instr.sliceBounds true len cap lo hi mx).run P w = .ok (0, 0, 0) w := by
  subst hh hm
  rcases hl with rfl | ⟨k2, rfl⟩ <;> simp [Instr.sliceBounds, Instr.sliceBound, asIntOf]

theorem step_slice (hc : CtxTy P ctx) {n : Nat} {t : TypeId} {x y : PV} {v : Value} {lo hi mx : Option PV} {lo' hi' mx' : Option Value} (hx : V g w n x v)
    (hlo : ∀ (d : Nat) (i : Int), boundOf lo d = some i → (lo' = none ∧ i = d) ∨ ∃ k, lo' = some (.int k i)) (hhi : ∀ (d : Nat) (i : Int), boundOf hi d = some i → (hi' = none ∧ i = d) ∨ ∃ k, hi' = some (.int k i))
    (hmx : mx = none → mx' = none) (hmx2 : ∀ (d : Nat) (i : Int), boundOf mx d = some i → (mx' = none ∧ i = d) ∨ ∃ k, mx' = some (.int k i)) (h : slicePV ctx t x lo hi mx = some y) :
    ∃ v', (Instr.sliceAt t v lo' hi' mx').run P w = .ok v' w ∧ V g w n y v' := by
  unfold slicePV at h
  split at h
  · cases h
  rename_i ti hti
  have ht := hc.ty _ _ hti
  split at h
  · -- a string
    rename_i s hund
    rw [hmx rfl]
    split at h
    case h_2 => cases h
    rename_i l h' hl hh
    split at h
    case isFalse => cases h
    rename_i hb
    injection h with h; subst h
    obtain ⟨bs, rfl, hs⟩ := hx.inv_str
    have hsz : s.length = bs.size := by rw [← hs]; simp
    have hbr := bounds_run (P := P) (w := w) (isS := false) (cap := bs.size) (hlo _ _ hl) (by have := hhi _ _ hh; rwa [hsz] at this) hb.1 hb.2.1 (by omega) (Nat.le_refl _)
    refine ⟨.string (bs.extract l.toNat h'.toNat), ?_, ?_⟩
    · simp only [Instr.sliceAt, Sem.run_bind, ht.run_und, hund, Result.andThen_ok, Instr.slice]
      simp [hbr]
    · have := V.str (g := g) (w := w) (n := n) (bs.extract l.toNat h'.toNat)
      rwa [bytes_extract, hs] at this
  · -- a list
    rename_i e xs tag hund
    rw [hmx rfl]
    split at h
    case h_2 => cases h
    rename_i l h' ei hl hh hei
    have hte := hc.ty _ _ hei
    split at h
    case isFalse => cases h
    rename_i hb
    rcases hx.inv_lst with ⟨rfl, rfl, a, rfl⟩ | ⟨b, o, cap, sz, u, rfl, c1, c2, c3, c4, c5, c6, c7⟩
    · have hz : l = 0 ∧ h' = 0 := by simp only [List.length_nil] at hb; omega
      obtain ⟨rfl, rfl⟩ := hz
      rw [if_pos ⟨rfl, rfl⟩] at h
      injection h with h; subst h
      have hbr := bounds_run (P := P) (w := w) (isS := true) (cap := 0) (hlo _ _ hl) (hhi _ _ hh) hb.1 hb.2.1 (by simp) (by simp)
      rw [List.length_nil] at hbr
      refine ⟨_, ?_, .lst0 a⟩
      simp only [Instr.sliceAt, Sem.run_bind, ht.run_und, hund, Result.andThen_ok, Instr.slice, hbr, hte.run_size, Sem.run_pure, Option.map_some, Int.toNat_zero, if_true, Nat.sub_self]
    have hbr := bounds_run (P := P) (w := w) (isS := true) (cap := cap) (hlo _ _ hl) (hhi _ _ hh) hb.1 hb.2.1 (by omega) c1
    have hrun : ∀ z, z = Value.slice (if cap = l.toNat then (some ⟨b, o, none⟩ : Option Addr) else some ⟨b, o + l.toNat * ei.size, none⟩) (h'.toNat - l.toNat) (cap - l.toNat) →
        (Instr.sliceAt t (.slice (some ⟨b, o, none⟩) xs.length cap) lo' hi' none).run P w = .ok z w := by
      rintro z rfl
      simp only [Instr.sliceAt, Sem.run_bind, ht.run_und, hund, Result.andThen_ok, Instr.slice, hbr, hte.run_size, Sem.run_pure, Option.map_some, add_mk]
    split at h
    · rename_i hfull
      injection h with h; subst h
      obtain ⟨rfl, rfl⟩ := hfull
      refine ⟨_, hrun _ rfl, ?_⟩
      simp only [Int.toNat_zero, Nat.zero_mul, Nat.add_zero, Nat.sub_zero, Int.toNat_natCast, ite_self]
      exact .lst xs tag b o cap sz u c1 c2 c3 c4 c5 c6 c7
    · split at h
      case isFalse => cases h
      rename_i hall
      injection h with h; subst h
      refine ⟨_, hrun _ rfl, ?_⟩
      have hlen : ((xs.take h'.toNat).drop l.toNat).length = h'.toNat - l.toNat := by simp; omega
      have hget : ∀ (i : Nat) (z : PV), ((xs.take h'.toNat).drop l.toNat)[i]? = some z → xs[l.toNat + i]? = some z ∧ l.toNat + i < h'.toNat := by
        intro i z hz
        rw [List.getElem?_drop, List.getElem?_take] at hz
        split at hz
        · rename_i hlt; exact ⟨hz, hlt⟩
        · cases hz
      have hmk : ∀ o', (∀ i, l.toNat + i < h'.toNat → o' + i * ei.size = o + (l.toNat + i) * ei.size) →
          V g w n (.lst ((xs.take h'.toNat).drop l.toNat) .none) (.slice (some ⟨b, o', none⟩) (h'.toNat - l.toNat) (cap - l.toNat)) := by
        intro o' ho'
        have hsz : ∀ (i : Nat) (z : PV), xs[i]? = some z → sz = ei.size := fun i z hz => by rw [← c2 i z hz]; exact sizedAll_get hall hz
        have := V.lst (g := g) (w := w) (n := n) ((xs.take h'.toNat).drop l.toNat) .none b o' (cap - l.toNat) ei.size (fun i j => u (l.toNat + i) j) (by rw [hlen]; omega)
          (fun i z hz => by obtain ⟨q1, q2⟩ := hget i z hz; exact sizedAll_get hall q1)
          (fun i z j c hz hj => by obtain ⟨q1, q2⟩ := hget i z hz; have := c3 _ z j c q1 hj; rw [hsz _ _ q1, ← ho' i q2] at this; exact this)
          (fun i z j c hz hj => by obtain ⟨q1, q2⟩ := hget i z hz; have := c4 _ z j c q1 hj; rw [hsz _ _ q1, ← ho' i q2] at this; exact this)
          (fun i z j c hz hj => by obtain ⟨q1, q2⟩ := hget i z hz; exact c5 _ z j c q1 hj)
          (fun i z j hz hj => by obtain ⟨q1, q2⟩ := hget i z hz; exact c6 _ z j q1 (by rw [hsz _ _ q1]; exact hj)) trivial
        rwa [hlen] at this
      split
      · exact hmk o (fun i hi => by omega)
      · exact hmk _ (fun i _ => by rw [Nat.add_mul]; omega)
  · -- nil
    rename_i e hund
    rw [hmx rfl]
    split at h
    case h_2 => cases h
    rename_i l h' ei hl hh hei
    have hte := hc.ty _ _ hei
    split at h
    case isFalse => cases h
    rename_i hb
    obtain ⟨rfl, rfl⟩ := hb
    injection h with h; subst h
    rw [hx.inv_nils]
    have hbr := bounds_run (P := P) (w := w) (isS := true) (len := 0) (cap := 0) (hlo _ _ hl) (hhi _ _ hh) (by omega) (by omega) (by omega) (by omega)
    refine ⟨.slice none 0 0, ?_, .nils⟩
    simp only [Instr.sliceAt, Sem.run_bind, ht.run_und, hund, Result.andThen_ok, Instr.slice, hbr, hte.run_size, Sem.run_pure]
    simp
  · -- nil, of three
    rename_i e m hund
    split at h
    case h_2 => cases h
    rename_i l h' k ei hl hh hk hei
    have hte := hc.ty _ _ hei
    split at h
    case isFalse => cases h
    rename_i hb
    obtain ⟨hs, rfl, rfl, rfl⟩ := hb
    injection h with h; subst h
    have e1 : lo' = none ∨ ∃ k, lo' = some (.int k 0) := (hlo 0 0 hl).imp (fun h => h.1) id
    obtain ⟨k1, rfl⟩ : ∃ k, hi' = some (.int k 0) := by
      have : boundOf hi 1 = some 0 := by cases hi with | none => cases hs | some q => cases q <;> first | exact hh | cases hh
      exact (hhi 1 0 this).resolve_left (fun h => by have := h.2; omega)
    obtain ⟨k2, rfl⟩ : ∃ k, mx' = some (.int k 0) := by
      have : boundOf (some m) 1 = some 0 := by cases m <;> first | exact hk | cases hk
      exact (hmx2 1 0 this).resolve_left (fun h => by have := h.2; omega)
    rw [hx.inv_nils]
    have hbr := bounds3_run (P := P) (w := w) (len := 0) (cap := 0) e1 (rfl : some (Value.int k1 0) = some (.int k1 0)) (rfl : some (Value.int k2 0) = some (.int k2 0))
    refine ⟨.slice none 0 0, ?_, .nils⟩
    simp only [Instr.sliceAt, Sem.run_bind, ht.run_und, hund, Result.andThen_ok, Instr.slice, hbr, hte.run_size, Sem.run_pure]
    simp
  · -- a list, of three
    rename_i e xs tag m hund
    split at h
    case h_2 => cases h
    rename_i l h' k ei hl hh hk hei
    have hte := hc.ty _ _ hei
    split at h
    case isFalse => cases h
    rename_i hb
    obtain ⟨hs, rfl, rfl, rfl⟩ := hb
    injection h with h; subst h
    have e1 : lo' = none ∨ ∃ k, lo' = some (.int k 0) := (hlo 0 0 hl).imp (fun h => h.1) id
    obtain ⟨k1, rfl⟩ : ∃ k, hi' = some (.int k 0) := by
      have : boundOf hi 1 = some 0 := by cases hi with | none => cases hs | some q => cases q <;> first | exact hh | cases hh
      exact (hhi 1 0 this).resolve_left (fun h => by have := h.2; omega)
    obtain ⟨k2, rfl⟩ : ∃ k, mx' = some (.int k 0) := by
      have : boundOf (some m) 1 = some 0 := by cases m <;> first | exact hk | cases hk
      exact (hmx2 1 0 this).resolve_left (fun h => by have := h.2; omega)
    have hsl : ∃ a len cap, v = .slice (some a) len cap := by
      rcases hx.inv_lst with ⟨rfl, rfl, a, rfl⟩ | ⟨b, o, cap, sz, u, rfl, _⟩
      · exact ⟨_, _, _, rfl⟩
      · exact ⟨_, _, _, rfl⟩
    obtain ⟨a, len, cap, rfl⟩ := hsl
    have hbr := bounds3_run (P := P) (w := w) (len := len) (cap := cap) e1 (rfl : some (Value.int k1 0) = some (.int k1 0)) (rfl : some (Value.int k2 0) = some (.int k2 0))
    refine ⟨.slice (some a) 0 0, ?_, .emp a⟩
    simp only [Instr.sliceAt, Sem.run_bind, ht.run_und, hund, Result.andThen_ok, Instr.slice, hbr, hte.run_size, Sem.run_pure]
    simp
  · -- an object's cells
    rename_i e id off len hund
    rw [hmx rfl]
    split at h
    case h_2 => cases h
    rename_i l h' ei hl hh hei
    have hte := hc.ty _ _ hei
    split at h
    case isFalse => cases h
    rename_i hb
    injection h with h; subst h
    obtain ⟨cap, rfl, c1, c2, c3⟩ := hx.inv_hsl
    have hbr := bounds_run (P := P) (w := w) (isS := true) (cap := cap) (hlo _ _ hl) (hhi _ _ hh) hb.1 hb.2.1 (by omega) c1
    refine ⟨.slice (some ⟨g.loc id, off + l.toNat * ei.size, none⟩) (h' - l).toNat (cap - l.toNat), ?_, .hsl id _ _ _ c2 c3 (by omega)⟩
    simp only [Instr.sliceAt, Sem.run_bind, ht.run_und, hund, Result.andThen_ok, Instr.slice, hbr, hte.run_size, Sem.run_pure, Option.map_some, add_mk]
    rw [if_neg (by omega), show h'.toNat - l.toNat = (h' - l).toNat by omega]
  · -- an array
    rename_i len e id off hund
    rw [hmx rfl]
    split at h
    case h_2 => cases h
    rename_i l h' ei hl hh hei
    have hte := hc.ty _ _ hei
    split at h
    case isFalse => cases h
    rename_i hb
    injection h with h; subst h
    obtain ⟨rfl, c2, c3⟩ := hx.inv_ptr
    have hbr := bounds_run (P := P) (w := w) (isS := false) (cap := len) (hlo _ _ hl) (hhi _ _ hh) hb.1 hb.2.1 (by omega) (Nat.le_refl _)
    refine ⟨.slice (some ⟨g.loc id, off + l.toNat * ei.size, none⟩) (h' - l).toNat (len - l.toNat), ?_, .hsl id _ _ _ c2 c3 (by omega)⟩
    simp only [Instr.sliceAt, Sem.run_bind, ht.run_und, hund, Result.andThen_ok, hbr, hte.run_size, Sem.run_pure, add_mk, Instr.sureAddr]
    rw [if_neg (by omega), show h'.toNat - l.toNat = (h' - l).toNat by omega]
  · cases h

end
end Go.Pam
