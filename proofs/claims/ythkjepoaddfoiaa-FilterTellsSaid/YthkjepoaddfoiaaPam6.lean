/- Soundness of the single steps, first part. -/
import Derived.Test.YthkjepoaddfoiaaPam5
namespace Go.Pam
set_option linter.unusedVariables false
set_option linter.unusedSimpArgs false
open Go.RowKit

structure TyOk (P : Program) (t : TypeId) (ti : TyI) : Prop where
  und : P.underlying t = some ti.und
  info : ∃ i z, P.info? t = some i ∧ i.size = ti.size ∧ i.bytes = ti.bytes ∧ i.zero = some z ∧ absV z = some ti.zero ∧ z.cells.size = ti.zero.cells.length ∧
    i.comparable = ti.comp ∧ i.methods.toList = ti.methods
  eqok : ti.eqok = true → P.eqGuardType P.depth t = false ∧ P.stoodInHeld t = false

section inv
variable {g : G} {w : World} {n : Nat} {v : Value}

theorem V.inv_bool {b : Bool} (h : V g w n (.bool b) v) : v = .bool b := by cases h; rfl
theorem V.inv_int {k : IntKind} {i : Int} (h : V g w n (.int k i) v) : v = .int k i := by cases h; rfl
theorem V.inv_str {l : List UInt8} (h : V g w n (.str l) v) : ∃ s : ByteArray, v = .string s ∧ s.data.toList = l := by
  generalize hx : PV.str l = x at h
  cases h with
  | str s => exact ⟨s, rfl, by injection hx with hx; exact hx.symm⟩
  | _ => cases hx
theorem V.inv_nilp (h : V g w n .nilp v) : v = .pointer none := by cases h; rfl
theorem V.inv_ptr {id off : Nat} (h : V g w n (.ptr id off) v) : v = .pointer (some ⟨g.loc id, off, none⟩) ∧ id < n ∧ g.obj id = true := by
  cases h with
  | ptr _ _ h1 h2 => exact ⟨rfl, h1, h2⟩
theorem V.inv_iptr {cs : List PV} {off : Nat} (h : V g w n (.iptr cs off) v) : ∃ b o, ∃ u : Nat → Value, v = .pointer (some ⟨b, o + off, none⟩) ∧
    (∀ (j : Nat) (c : PV), cs[j]? = some c → o + j < g.pp b) ∧ (∀ (j : Nat) (c : PV), cs[j]? = some c → w.cell? ⟨b, o + j, none⟩ = some (u j)) ∧
    (∀ (j : Nat) (c : PV), cs[j]? = some c → V g w n c (u j)) ∧ (∀ (j : Nat), j < cs.length → (u j).oneCell' = true) := by
  cases h with
  | iptr _ _ b o u h1 h2 h3 h4 => exact ⟨b, o, u, rfl, h1, h2, h3, h4⟩
theorem V.inv_nils (h : V g w n .nils v) : v = .slice none 0 0 := by cases h; rfl
theorem V.inv_lst {xs : List PV} {tag : Tag} (h : V g w n (.lst xs tag) v) : (xs = [] ∧ tag = .none ∧ ∃ a, v = .slice (some a) 0 0) ∨ ∃ b o cap sz, ∃ u : Nat → Nat → Value, v = .slice (some ⟨b, o, none⟩) xs.length cap ∧ xs.length ≤ cap ∧
    (∀ (i : Nat) (x : PV), xs[i]? = some x → x.cells.length = sz) ∧
    (∀ (i : Nat) (x : PV) (j : Nat) (c : PV), xs[i]? = some x → x.cells[j]? = some c → o + i * sz + j < g.pp b) ∧
    (∀ (i : Nat) (x : PV) (j : Nat) (c : PV), xs[i]? = some x → x.cells[j]? = some c → w.cell? ⟨b, o + i * sz + j, none⟩ = some (u i j)) ∧
    (∀ (i : Nat) (x : PV) (j : Nat) (c : PV), xs[i]? = some x → x.cells[j]? = some c → V g w n c (u i j)) ∧
    (∀ (i : Nat) (x : PV) (j : Nat), xs[i]? = some x → j < sz → (u i j).oneCell' = true) ∧ TagOk g w n tag b o xs.length cap sz := by
  cases h with
  | lst _ _ b o cap sz u hc h1 h2 h3 h4 h5 ht => exact .inr ⟨b, o, cap, sz, u, rfl, hc, h1, h2, h3, h4, h5, ht⟩
  | lst0 a => exact .inl ⟨rfl, rfl, a, rfl⟩
theorem V.inv_hsl {id off len : Nat} (h : V g w n (.hsl id off len) v) : ∃ cap, v = .slice (some ⟨g.loc id, off, none⟩) len cap ∧ len ≤ cap ∧ id < n ∧ g.obj id = true := by
  cases h with
  | hsl _ _ _ cap h1 h2 h3 => exact ⟨cap, rfl, h3, h1, h2⟩
theorem V.inv_emp (h : V g w n .emp v) : ∃ a, v = .slice (some a) 0 0 := by
  cases h with
  | emp a => exact ⟨a, rfl⟩
theorem V.inv_rsl {id len : Nat} (h : V g w n (.rsl id len) v) : v = .slice (some ⟨g.loc id, 0, none⟩) len (g.hw id) ∧ len ≤ g.hw id ∧ id < n ∧ g.obj id = true := by
  cases h with
  | rsl _ _ h1 h2 h3 => exact ⟨rfl, h3, h1, h2⟩
theorem V.inv_nilm (h : V g w n .nilm v) : v = .map none := by cases h; rfl
theorem V.inv_map {id : Nat} (h : V g w n (.map id) v) : v = .map (some (g.loc id)) ∧ id < n ∧ g.obj id = true := by
  cases h with
  | map _ h1 h2 => exact ⟨rfl, h1, h2⟩
theorem V.inv_nilf (h : V g w n .nilf v) : v = .nilFunc := by cases h; rfl
theorem V.inv_fn {f : Fn} {as bs : List PV} (h : V g w n (.fn f as bs) v) : ∃ as' bs' : Array Value, v = .func f as' bs' ∧ as.length = as'.size ∧ bs.length = bs'.size ∧
    (∀ (i : Nat) (c : PV), as[i]? = some c → V g w n c (as'.getD i undef)) ∧ (∀ (i : Nat) (c : PV), bs[i]? = some c → V g w n c (bs'.getD i undef)) := by
  cases h with
  | fn _ _ _ as' bs' h1 h2 h3 h4 => exact ⟨as', bs', rfl, h1, h2, h3, h4⟩
theorem V.inv_nili (h : V g w n .nili v) : v = .nilIface := by cases h; rfl
theorem V.inv_ifc {t : TypeId} {x : PV} (h : V g w n (.ifc t x) v) : ∃ x', v = .iface t x' ∧ V g w n x x' := by
  cases h with
  | ifc _ _ x' h1 => exact ⟨x', rfl, h1⟩
theorem V.inv_agg {cs : List PV} (h : V g w n (.agg cs) v) : ∃ cs' : Array Value, v = .agg cs' ∧ cs.length = cs'.size ∧ (∀ (i : Nat) (c : PV), cs[i]? = some c → V g w n c (cs'.getD i undef)) ∧
    (∀ v ∈ cs', v.oneCell' = true) := by
  cases h with
  | agg _ cs' h1 h2 h3 => exact ⟨cs', rfl, h1, h2, h3⟩
theorem V.inv_tup {cs : List PV} (h : V g w n (.tup cs) v) : ∃ cs' : Array Value, v = .tuple cs' ∧ cs.length = cs'.size ∧ (∀ (i : Nat) (c : PV), cs[i]? = some c → V g w n c (cs'.getD i undef)) := by
  cases h with
  | tup _ cs' h1 h2 => exact ⟨cs', rfl, h1, h2⟩
end inv

theorem V.storable {g : G} {w : World} {n : Nat} {x : PV} {v : Value} (h : V g w n x v) (hs : x.storable = true) :
    v.cells.size = x.cells.length ∧ (∀ (i : Nat) (c : PV), x.cells[i]? = some c → V g w n c (v.cells.getD i undef)) ∧ (∀ u ∈ v.cells, u.oneCell' = true) := by
  have one : ∀ (y : PV) (u : Value), V g w n y u → u.oneCell' = true → y.cells = [y] → v.cells = #[u] → x.cells = [y] →
      v.cells.size = x.cells.length ∧ (∀ (i : Nat) (c : PV), x.cells[i]? = some c → V g w n c (v.cells.getD i undef)) ∧ (∀ u ∈ v.cells, u.oneCell' = true) := by
    intro y u hy hu _ hv hx
    rw [hv, hx]
    refine ⟨rfl, fun i c hc => ?_, fun z hz => ?_⟩
    · cases i with
      | zero => simp at hc; subst hc; exact hy
      | succ i => simp at hc
    · have : z = u := by simpa using hz
      subst this; exact hu
  cases h with
  | poison => simp [PV.storable] at hs
  | tup => simp [PV.storable] at hs
  | agg cs cs' h1 h2 h3 => exact ⟨h1.symm, h2, h3⟩
  | bool b => exact one _ _ (.bool b) rfl rfl rfl rfl
  | int k i => exact one _ _ (.int k i) rfl rfl rfl rfl
  | str s => exact one _ _ (.str s) rfl rfl rfl rfl
  | nilp => exact one _ _ .nilp rfl rfl rfl rfl
  | ptr id off h1 h2 => exact one _ _ (.ptr id off h1 h2) rfl rfl rfl rfl
  | iptr cs off b o u h1 h2 h3 h4 => exact one _ _ (.iptr cs off b o u h1 h2 h3 h4) rfl rfl rfl rfl
  | nils => exact one _ _ .nils rfl rfl rfl rfl
  | lst xs tag b o cap sz u hc h1 h2 h3 h4 h5 ht => exact one _ _ (.lst xs tag b o cap sz u hc h1 h2 h3 h4 h5 ht) rfl rfl rfl rfl
  | lst0 a => exact one _ _ (.lst0 a) rfl rfl rfl rfl
  | hsl id off len cap h1 h2 h3 => exact one _ _ (.hsl id off len cap h1 h2 h3) rfl rfl rfl rfl
  | emp a => exact one _ _ (.emp a) rfl rfl rfl rfl
  | rsl id len h1 h2 h3 => exact one _ _ (.rsl id len h1 h2 h3) rfl rfl rfl rfl
  | nilm => exact one _ _ .nilm rfl rfl rfl rfl
  | map id h1 h2 => exact one _ _ (.map id h1 h2) rfl rfl rfl rfl
  | nilf => exact one _ _ .nilf rfl rfl rfl rfl
  | fn f as bs as' bs' h1 h2 h3 h4 => exact one _ _ (.fn f as bs as' bs' h1 h2 h3 h4) rfl rfl rfl rfl
  | nili => exact one _ _ .nili rfl rfl rfl rfl
  | ifc t x x' h => exact one _ _ (.ifc t x x' h) rfl rfl rfl rfl

/-! Values of the text -/
theorem absV1_sound (g : G) (w : World) (n : Nat) {v : Value} {x : PV} (h : absV1 v = some x) : V g w n x v ∧ v.oneCell' = true := by
  unfold absV1 at h
  split at h
  · injection h with h; subst h; exact ⟨.bool _, rfl⟩
  · injection h with h; subst h; exact ⟨.int _ _, rfl⟩
  · injection h with h; subst h; exact ⟨.str _, rfl⟩
  · injection h with h; subst h; exact ⟨.nilp, rfl⟩
  · injection h with h; subst h; exact ⟨.nils, rfl⟩
  · injection h with h; subst h; exact ⟨.nilm, rfl⟩
  · injection h with h; subst h; exact ⟨.nilf, rfl⟩
  · injection h with h; subst h; exact ⟨.nili, rfl⟩
  · split at h
    · rename_i hz
      injection h with h; subst h
      exact ⟨.fn _ [] [] _ _ hz.1.symm hz.2.symm (fun i c hc => by simp at hc) (fun i c hc => by simp at hc), rfl⟩
    · cases h
  · cases h

theorem absL_sound (g : G) (w : World) (n : Nat) : ∀ (vs : List Value) (xs : List PV), absL absV1 vs = some xs → xs.length = vs.length ∧
    (∀ (i : Nat) (c : PV), xs[i]? = some c → V g w n c (vs.getD i undef)) ∧ (∀ v ∈ vs, v.oneCell' = true)
  | [], xs, h => by
    simp [absL] at h; subst h
    exact ⟨rfl, fun i c hc => by simp at hc, fun v hv => by simp at hv⟩
  | v :: vs, xs, h => by
    simp only [absL] at h
    split at h
    · rename_i x xs' h1 h2
      injection h with h; subst h
      obtain ⟨i1, i2, i3⟩ := absL_sound g w n vs xs' h2
      obtain ⟨j1, j2⟩ := absV1_sound g w n h1
      refine ⟨by simp [i1], fun i c hc => ?_, fun u hu => ?_⟩
      · cases i with
        | zero => simp at hc; subst hc; exact j1
        | succ i => simpa using i2 i c (by simpa using hc)
      · rcases List.mem_cons.1 hu with rfl | hu
        · exact j2
        · exact i3 u hu
    · cases h

theorem getD_toList (a : Array Value) (i : Nat) : a.toList.getD i undef = a.getD i undef := by
  rw [List.getD_eq_getElem?_getD, Array.getD_eq_getD_getElem?, Array.getElem?_toList]

theorem absV_sound (g : G) (w : World) (n : Nat) {v : Value} {x : PV} (h : absV v = some x) : V g w n x v := by
  unfold absV at h
  split at h
  · rename_i t v
    cases h1 : absV1 v with
    | none => simp [h1] at h
    | some y =>
      simp [h1] at h; subst h
      exact .ifc t y v (absV1_sound g w n h1).1
  · rename_i cs
    cases h1 : absL absV1 cs.toList with
    | none => simp [h1] at h
    | some y =>
      simp [h1] at h; subst h
      obtain ⟨i1, i2, i3⟩ := absL_sound g w n _ _ h1
      exact .agg y cs (by simpa using i1) (fun i c hc => by rw [← getD_toList]; exact i2 i c hc) (fun u hu => i3 u (by simpa using hu))
  · rename_i cs
    cases h1 : absL absV1 cs.toList with
    | none => simp [h1] at h
    | some y =>
      simp [h1] at h; subst h
      obtain ⟨i1, i2, i3⟩ := absL_sound g w n _ _ h1
      exact .tup y cs (by simpa using i1) (fun i c hc => by rw [← getD_toList]; exact i2 i c hc)
  · exact (absV1_sound g w n h).1

/-! What the tables say -/
section ty
variable {P : Program} {t : TypeId} {ti : TyI}
theorem TyOk.run_und (h : TyOk P t ti) (w : World) : (underlying t).run P w = .ok ti.und w := run_underlying h.und w
theorem TyOk.run_size (h : TyOk P t ti) (w : World) : (sizeOf t).run P w = .ok ti.size w := by
  obtain ⟨i, z, h1, h2, _⟩ := h.info
  simp [sizeOf, typeInfo, h1, h2]
theorem TyOk.run_isAgg (h : TyOk P t ti) (w : World) : (isAgg t).run P w = .ok ti.agg w := by
  simp only [isAgg, Sem.run_bind, h.run_und, Result.andThen_ok, TyI.agg]
  split <;> simp_all
theorem TyOk.run_zero (h : TyOk P t ti) (w : World) : ∃ z, (zeroValue t).run P w = .ok z w ∧ absV z = some ti.zero ∧ z.cells.size = ti.zero.cells.length := by
  obtain ⟨i, z, h1, _, _, h4, h5, h6, _⟩ := h.info
  exact ⟨z, by simp [zeroValue, typeInfo, h1, h4], h5, h6⟩
end ty

structure CtxTy (P : Program) (ctx : Ctx) : Prop where
  ty : ∀ t ti, ctx.ty t = some ti → TyOk P t ti

theorem part_sound {P : Program} {ctx : Ctx} (hc : CtxTy P ctx) {g : G} {w : World} {n : Nat} {t : TypeId} {cs : List PV} {cs' : Array Value} {off : Nat} {x : PV}
    (hl : cs.length = cs'.size) (hV : ∀ (i : Nat) (c : PV), cs[i]? = some c → V g w n c (cs'.getD i undef)) (h1 : ∀ v ∈ cs', v.oneCell' = true)
    (h : partOf ctx t cs off = some x) : ∃ v, (part t cs' off).run P w = .ok v w ∧ V g w n x v := by
  unfold partOf at h
  split at h
  · cases h
  rename_i ti hti
  have ht := hc.ty _ _ hti
  simp only [part, Sem.run_bind, ht.run_isAgg, Result.andThen_ok]
  split at h
  · rename_i hagg
    split at h
    · rename_i hle
      injection h with h; subst h
      simp only [hagg, if_true, Sem.run_bind, ht.run_size, Result.andThen_ok, Sem.run_pure]
      refine ⟨_, rfl, .agg _ _ (by simp; omega) (fun i c hic => ?_) (fun v hv => ?_)⟩
      · rw [List.getElem?_take, List.getElem?_drop] at hic
        split at hic
        · have := hV _ c hic
          rw [Array.getD_eq_getD_getElem?] at this ⊢
          rw [Array.getElem?_extract, if_pos (by omega)]
          exact this
        · cases hic
      · rw [Array.mem_iff_getElem] at hv
        obtain ⟨i, hi, rfl⟩ := hv
        rw [Array.getElem_extract]
        exact h1 _ (Array.getElem_mem _)
    · cases h
  · rename_i hagg
    simp only [hagg, Bool.false_eq_true, if_false]
    have hlt : off < cs'.size := by
      have := (List.getElem?_eq_some_iff.1 h).1; omega
    have hv := hV off x h
    rw [Array.getD_eq_getD_getElem?, Array.getElem?_eq_getElem hlt] at hv
    exact ⟨cs'[off], by simp [Array.getElem?_eq_getElem hlt], hv⟩

theorem loadVar_sound {P : Program} {ctx : Ctx} (hc : CtxTy P ctx) {g : G} {w : World} {n : Nat} {t : TypeId} {cs : List PV} {b o off : Nat} {u : Nat → Value} {x : PV}
    (hcell : ∀ (j : Nat) (c : PV), cs[j]? = some c → w.cell? ⟨b, o + j, none⟩ = some (u j)) (hV : ∀ (j : Nat) (c : PV), cs[j]? = some c → V g w n c (u j))
    (h1 : ∀ (j : Nat), j < cs.length → (u j).oneCell' = true) (h : partOf ctx t cs off = some x) :
    ∃ v, (loadVar t ⟨b, o + off, none⟩).run P w = .ok v w ∧ V g w n x v := by
  unfold partOf at h
  split at h
  · cases h
  rename_i ti hti
  have ht := hc.ty _ _ hti
  simp only [loadVar, Sem.run_bind, ht.run_isAgg, Result.andThen_ok]
  have cell : ∀ j, off + j < cs.length → w.cell? ((⟨b, o + off, none⟩ : Addr).add j) = some (u (off + j)) := by
    intro j hj
    have := hcell (off + j) cs[off + j] (List.getElem?_eq_getElem hj)
    unfold Addr.add
    split
    · subst_vars; simpa using this
    · simpa [Nat.add_assoc] using this
  split at h
  · rename_i hagg
    split at h
    · rename_i hle
      injection h with h; subst h
      simp only [hagg, if_true, Sem.run_bind, ht.run_size, Result.andThen_ok]
      rw [run_loadCells w _ _ (fun j => u (off + j)) (fun j hj => cell j (by omega))]
      simp only [Result.andThen_ok, Sem.run_pure]
      refine ⟨_, rfl, .agg _ _ (by simp; omega) (fun i c hic => ?_) (fun v hv => ?_)⟩
      · rw [List.getElem?_take, List.getElem?_drop] at hic
        split at hic
        · rename_i hi
          have := hV _ c hic
          rw [Array.getD_eq_getD_getElem?]
          simpa [hi] using this
        · cases hic
      · simp only [List.mem_toArray, List.mem_map, List.mem_range] at hv
        obtain ⟨j, hj, rfl⟩ := hv
        exact h1 _ (by omega)
    · cases h
  · rename_i hagg
    simp only [hagg, Bool.false_eq_true, if_false]
    have hlt : off < cs.length := (List.getElem?_eq_some_iff.1 h).1
    have hce := hcell off x h
    exact ⟨u off, by simp [hce], hV off x h⟩

section
variable {g : G} {w : World} {n : Nat}
theorem V.strip1 {x : PV} {v : Value} (h : V g w n x v) : V g w n x.strip1 v := by
  unfold PV.strip1
  split
  · rcases h.inv_lst with ⟨rfl, rfl, a, rfl⟩ | ⟨b, o, cap, sz, u, rfl, h0, h1, h2, h3, h4, h5, _⟩
    · exact .lst0 a
    exact .lst _ .none b o cap sz u h0 h1 h2 h3 h4 h5 trivial
  · exact h

theorem V.strip2 {x : PV} {v : Value} (h : V g w n x v) : V g w n x.strip2 v := by
  unfold PV.strip2
  split
  · exact h.strip1
  · obtain ⟨cs', rfl, h1, h2, h3⟩ := h.inv_agg
    refine .agg _ cs' (by simpa using h1) (fun i c hi => ?_) h3
    rw [List.getElem?_map] at hi
    cases hc : (‹List PV›)[i]? with
    | none => simp [hc] at hi
    | some d => simp [hc] at hi; subst hi; exact (h2 i d hc).strip1
  · obtain ⟨x', rfl, h1⟩ := h.inv_ifc
    exact .ifc _ _ x' h1.strip1
  · exact h

theorem V.strip {x : PV} {v : Value} (h : V g w n x v) : V g w n x.strip v := by
  unfold PV.strip
  split
  · exact h.strip1
  · obtain ⟨cs', rfl, h1, h2, h3⟩ := h.inv_agg
    refine .agg _ cs' (by simpa using h1) (fun i c hi => ?_) h3
    rw [List.getElem?_map] at hi
    cases hc : (‹List PV›)[i]? with
    | none => simp [hc] at hi
    | some d => simp [hc] at hi; subst hi; exact (h2 i d hc).strip1
  · obtain ⟨x', rfl, h1⟩ := h.inv_ifc
    exact .ifc _ _ x' h1.strip2
  · obtain ⟨cs', rfl, h1, h2⟩ := h.inv_tup
    refine .tup _ cs' (by simpa using h1) (fun i c hi => ?_)
    rw [List.getElem?_map] at hi
    cases hc : (‹List PV›)[i]? with
    | none => simp [hc] at hi
    | some d => simp [hc] at hi; subst hi; exact (h2 i d hc).strip2
  · exact h

theorem strip_cells_len (x : PV) : x.strip.cells.length = x.cells.length := by
  unfold PV.strip
  split <;> simp [PV.cells]

theorem strip_storable {x : PV} (h : x.storable = true) : x.strip.storable = true := by
  unfold PV.strip
  split <;> first | rfl | exact h | simp_all [PV.storable]

end
end Go.Pam
