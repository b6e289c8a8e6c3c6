/- From what an argument reads as to plain data. -/
import Derived.Test.YthkjepoaddfoiaaPam28
import Derived.WideShapes
import Derived.Carry
import Derived.Deep.Slices
import Derived.ChangeArms
namespace Go.Pam
set_option linter.unusedVariables false
set_option linter.unusedSimpArgs false
open Go.RowKit Go.Deep Go.WideShapes

def CV (w : World) (cells : List PV) (cs : List Value) : Prop :=
  cells.length = cs.length ∧ ∀ (j : Nat) (c : PV) (v : Value), cells[j]? = some c → cs[j]? = some v → V (g0 w) w 0 c v ∧ v.oneCell' = true

variable {H : Type} {enc : TypeId × Value → H} {P : Program} {w : World} {sp : Nat → Bool} {held : Bool}

def Opens (enc : TypeId × Value → H) (P : Program) (w : World) (sp : Nat → Bool) (held : Bool) (fuel : Nat) (t : TypeId) {α : Type} (f : α → PV) (ok : α → Prop) : Prop :=
  ∀ cs x, DataW.trod enc P w 0 sp held fuel t cs = some x → ∃ a, ok a ∧ CV w (f a).cells cs

theorem CV.one {c : PV} {v : Value} (h : V (g0 w) w 0 c v) (ho : v.oneCell' = true) : CV w [c] [v] := by
  refine ⟨rfl, fun j c' v' hc hv => ?_⟩
  cases j with
  | zero => simp only [List.getElem?_cons_zero, Option.some.injEq] at hc hv; subst hc hv; exact ⟨h, ho⟩
  | succ j => simp at hc

theorem CV.append {a b : List PV} {x y : List Value} (h : CV w a x) (k : CV w b y) : CV w (a ++ b) (x ++ y) := by
  refine ⟨by simp [h.1, k.1], fun j c v hc hv => ?_⟩
  rcases Nat.lt_or_ge j a.length with hj | hj
  · rw [List.getElem?_append_left hj] at hc
    rw [List.getElem?_append_left (by rw [← h.1]; exact hj)] at hv
    exact h.2 j c v hc hv
  · rw [List.getElem?_append_right hj] at hc
    rw [List.getElem?_append_right (by rw [← h.1]; exact hj), ← h.1] at hv
    exact k.2 _ c v hc hv

theorem opens_int {fuel : Nat} {t : TypeId} {k : IntKind} (ht : P.underlying t = some (.int k)) : Opens enc P w sp held fuel t (eI k) (fun n => (Lit.int k n).wf = true) := by
  intro cs x h
  obtain ⟨n, rfl, _, hw⟩ := DataW.trod_int ht h
  exact ⟨n, hw, CV.one (.int k n) rfl⟩

theorem opens_bool {fuel : Nat} {t : TypeId} (ht : P.underlying t = some .bool) : Opens enc P w sp held fuel t eB (fun _ => True) := by
  intro cs x h
  obtain ⟨b, rfl, _⟩ := DataW.trod_bool ht h
  exact ⟨b, trivial, CV.one (.bool b) rfl⟩

theorem opens_str {fuel : Nat} {t : TypeId} (ht : P.underlying t = some .string) : Opens enc P w sp held fuel t eS (fun s => s.length ≤ maxLen) := by
  intro cs x h
  have h0 := h
  obtain ⟨s, rfl, _⟩ := DataW.trod_string ht h
  refine ⟨s.data.toList, ?_, CV.one (.str s) rfl⟩
  cases fuel with
  | zero => simp [DataW.trod] at h0
  | succ n =>
    unfold DataW.trod at h0
    rw [ht] at h0
    simp only at h0
    split at h0
    · rename_i hs; simpa using hs
    · cases h0

theorem pp_of_cell {b o : Nat} {v : Value} (h : w.cell? ⟨b, o, none⟩ = some v) : o < (g0 w).pp b := by
  show o < ppOf w b
  unfold World.cell? at h
  unfold ppOf
  split at h
  · rename_i c t fr hb
    simp only [Option.isSome_none, Bool.false_eq_true, if_false] at h
    simp only [hb]
    exact (Array.getElem?_eq_some_iff.1 h).1
  · cases h

theorem opens_slice {α : Type} {f : α → PV} {ok : α → Prop} {fuel : Nat} {t e : TypeId} {sz : Nat} (ht : P.underlying t = some (.slice e)) (hsz : P.cellsOf e = sz) (hpos : 0 < sz) (hf : ∀ a, (f a).cells.length = sz)
    (hsp : ∀ b, sp b = true) (h : ∀ n, n < fuel → Opens enc P w sp held n e f ok) : Opens enc P w sp held fuel t (encSl f) (fun x => x.l.length ≤ maxLen ∧ ∀ a ∈ x.l, ok a) := by
  intro cs x hx
  rcases DataW.trod_slice ht hx with ⟨rfl, _⟩ | ⟨a, len, cap, elems, rest, n, hn, rfl, _, hb, hl, hm, hlen, hel, hrest, _⟩
  · exact ⟨none, ⟨by simp [Sl.l], by simp [Sl.l]⟩, CV.one .nils rfl⟩
  · subst hsz
    have hall : ∀ i, i < len → ∃ (cs' : List Value) (y : DataW H × List MemPlace), w.cells? 0 (a.add (i * P.cellsOf e)) (P.cellsOf e) = some cs' ∧ DataW.trod enc P w 0 sp held n e cs' = some y := by
      intro i hi
      have he : elems[i]? = some elems[i] := List.getElem?_eq_getElem (by omega)
      have := hel i hi
      rw [he] at this
      cases hc : w.cells? 0 (a.add (i * P.cellsOf e)) (P.cellsOf e) with
      | none => rw [hc] at this; cases this
      | some cs' => rw [hc] at this; exact ⟨cs', _, rfl, this⟩
    have hch : ∀ i, i < len → ∃ (cs' : List Value) (z : α), w.cells? 0 (a.add (i * P.cellsOf e)) (P.cellsOf e) = some cs' ∧ ok z ∧ CV w (f z).cells cs' := by
      intro i hi
      obtain ⟨cs', y, h1, h2⟩ := hall i hi
      obtain ⟨z, hz, hcv⟩ := h n (by omega) cs' y h2
      exact ⟨cs', z, h1, hz, hcv⟩
    have hlist : ∀ m, m ≤ len → ∃ (zs : List α), zs.length = m ∧ (∀ z ∈ zs, ok z) ∧ ∀ i z, zs[i]? = some z → ∃ cs', w.cells? 0 (a.add (i * P.cellsOf e)) (P.cellsOf e) = some cs' ∧ CV w (f z).cells cs' := by
      intro m
      induction m with
      | zero => exact fun _ => ⟨[], rfl, by simp, by simp⟩
      | succ m ih =>
        intro hm'
        obtain ⟨zs, h1, h2, h3⟩ := ih (by omega)
        obtain ⟨cs', z, g1, g2, g3⟩ := hch m (by omega)
        refine ⟨zs ++ [z], by simp [h1], fun y hy => ?_, fun i y hy => ?_⟩
        · rcases List.mem_append.1 hy with hy | hy
          · exact h2 y hy
          · rw [List.mem_singleton] at hy; subst hy; exact g2
        · rcases Nat.lt_or_ge i zs.length with hi | hi
          · rw [List.getElem?_append_left hi] at hy; exact h3 i y hy
          · have : i = m := by
              have := (List.getElem?_eq_some_iff.1 hy).1
              simp at this; omega
            subst this
            rw [List.getElem?_append_right (by omega), h1, Nat.sub_self] at hy
            simp only [List.getElem?_cons_zero, Option.some.injEq] at hy
            subst hy
            exact ⟨cs', g1, g3⟩
    obtain ⟨zs, z1, z2, z3⟩ := hlist len (Nat.le_refl _)
    refine ⟨some zs, ⟨by simp [Sl.l]; omega, by simpa [Sl.l] using z2⟩, ?_⟩
    show CV w [PV.lst (zs.map f) .none] [Value.slice (some a) len cap]
    refine CV.one ?_ rfl
    have spot0 : ∀ (cs' : List Value), w.cells? 0 (a.add (0 * P.cellsOf e)) (P.cellsOf e) = some cs' → a.spot = none := by
      intro cs' g1
      obtain ⟨b, o, s⟩ := a
      obtain ⟨_, k1, k2⟩ := World.cells?_some g1
      have := k2 0 hpos
      have hl0 : 0 < cs'.length := by omega
      rw [List.getElem?_eq_getElem hl0] at this
      simp only [Nat.zero_mul, Addr.add, if_true] at this
      cases s with
      | none => rfl
      | some s =>
        unfold World.cell? at this
        split at this
        · simp at this
        · cases this
    by_cases hz0 : len = 0 ∧ cap = 0
    · obtain ⟨rfl, rfl⟩ := hz0
      obtain rfl : zs = [] := List.eq_nil_of_length_eq_zero (by omega)
      exact .lst0 a
    · have hspot : a.spot = none := by
        by_cases hl0 : len = 0
        · subst hl0
          have hr := hrest (hsp _)
          have h0 : 0 < rest.length := by omega
          have := hr.2 0 (by omega)
          rw [List.getElem?_eq_getElem h0] at this
          cases hc : w.cells? 0 (a.add (0 * P.cellsOf e)) (P.cellsOf e) with
          | none => simp only [Nat.add_zero, hc] at this; cases this
          | some cs' => exact spot0 cs' hc
        · obtain ⟨cs', g1, g2⟩ := z3 0 _ (List.getElem?_eq_getElem (by omega : 0 < zs.length))
          exact spot0 cs' g1
      obtain ⟨b, o, s⟩ := a
      simp only at hspot
      subst hspot
      have cell : ∀ (i : Nat) (y : α) (j : Nat) (c : PV), zs[i]? = some y → (f y).cells[j]? = some c → ∃ v, w.cell? ⟨b, o + i * P.cellsOf e + j, none⟩ = some v ∧ V (g0 w) w 0 c v ∧ v.oneCell' = true := by
        intro i y j c hy hc
        obtain ⟨cs', g1, g2⟩ := z3 i y hy
        obtain ⟨_, k1, k2⟩ := World.cells?_some g1
        have hj : j < P.cellsOf e := by rw [← hf y]; exact (List.getElem?_eq_some_iff.1 hc).1
        have := k2 j hj
        have hl : j < cs'.length := by omega
        rw [List.getElem?_eq_getElem hl] at this
        have hadd : (Addr.add ⟨b, o, none⟩ (i * P.cellsOf e)).add j = ⟨b, o + i * P.cellsOf e + j, none⟩ := by
          rw [add_mk, add_mk]
        rw [hadd] at this
        exact ⟨cs'[j], this, g2.2 j c cs'[j] hc (List.getElem?_eq_getElem hl)⟩
      have := V.lst (g := g0 w) (w := w) (n := 0) (zs.map f) .none b o cap (P.cellsOf e) (fun i j => (w.cell? ⟨b, o + i * P.cellsOf e + j, none⟩).getD undef) (by rw [List.length_map]; omega)
        (fun i x hx => by
          rw [List.getElem?_map] at hx
          cases hy : zs[i]? with
          | none => rw [hy] at hx; cases hx
          | some y => rw [hy] at hx; simp only [Option.map_some, Option.some.injEq] at hx; subst hx; exact hf y)
        (fun i x j c hx hc => by
          rw [List.getElem?_map] at hx
          cases hy : zs[i]? with
          | none => rw [hy] at hx; cases hx
          | some y => rw [hy] at hx; simp only [Option.map_some, Option.some.injEq] at hx; subst hx; obtain ⟨v, g1, _⟩ := cell i y j c hy hc; exact pp_of_cell g1)
        (fun i x j c hx hc => by
          rw [List.getElem?_map] at hx
          cases hy : zs[i]? with
          | none => rw [hy] at hx; cases hx
          | some y => rw [hy] at hx; simp only [Option.map_some, Option.some.injEq] at hx; subst hx; obtain ⟨v, g1, _⟩ := cell i y j c hy hc; rw [g1]; rfl)
        (fun i x j c hx hc => by
          rw [List.getElem?_map] at hx
          cases hy : zs[i]? with
          | none => rw [hy] at hx; cases hx
          | some y => rw [hy] at hx; simp only [Option.map_some, Option.some.injEq] at hx; subst hx; obtain ⟨v, g1, g2, _⟩ := cell i y j c hy hc; rw [g1]; exact g2)
        (fun i x j hx hj => by
          rw [List.getElem?_map] at hx
          cases hy : zs[i]? with
          | none => rw [hy] at hx; cases hx
          | some y =>
            rw [hy] at hx; simp only [Option.map_some, Option.some.injEq] at hx; subst hx
            obtain ⟨v, g1, _, g3⟩ := cell i y j _ hy (List.getElem?_eq_getElem (by rw [hf y]; exact hj)); rw [g1]; exact g3) trivial
      rw [List.length_map, z1] at this
      exact this
end Go.Pam
namespace Go.Pam
open Go.RowKit Go.Deep Go.WideShapes
variable {w : World}
theorem CV.field {a b : List PV} {cs : List Value} {o s : Nat} (h : CV w a ((cs.drop o).take s)) (k : CV w b (cs.drop (o + s))) : CV w (a ++ b) (cs.drop o) := by
  have := h.append k
  rwa [← List.drop_drop, List.take_append_drop] at this

theorem CV.fin {cs : List Value} {o : Nat} (h : cs.length = o) : CV w [] (cs.drop o) := by
  rw [List.drop_eq_nil_of_le (by omega)]
  exact ⟨rfl, fun j c v hc => by simp at hc⟩

theorem CV.agg {cells : List PV} {cs : Array Value} (h : CV w cells cs.toList) : V (g0 w) w 0 (.agg cells) (.agg cs) := by
  refine .agg cells cs (by rw [h.1]; simp) (fun i c hi => ?_) (fun v hv => ?_)
  · have hlt : i < cs.size := by have := (List.getElem?_eq_some_iff.1 hi).1; rw [h.1] at this; simpa using this
    have := (h.2 i c cs[i] hi (by rw [Array.getElem?_toList]; exact Array.getElem?_eq_getElem hlt)).1
    rwa [Array.getD_eq_getD_getElem?, Array.getElem?_eq_getElem hlt]
  · obtain ⟨i, hi, rfl⟩ := Array.mem_iff_getElem.1 hv
    have hl : i < cells.length := by rw [h.1]; simpa using hi
    exact (h.2 i cells[i] cs[i] (List.getElem?_eq_getElem hl) (by rw [Array.getElem?_toList]; exact Array.getElem?_eq_getElem hi)).2

theorem CV.single {c : PV} {v : Value} {cs : List Value} (h : CV w [c] cs) (hv : cs = [v]) : V (g0 w) w 0 c v := by
  subst hv
  exact (h.2 0 c v rfl rfl).1

variable {H : Type} {enc : TypeId × Value → H} {P : Program} {sp : Nat → Bool} {held : Bool}

theorem open_one {α : Type} {f : α → PV} {ok : α → Prop} {t : TypeId} {v : Value} {d : DataW H} {ps : List MemPlace} (ho : ∀ n, Opens enc P w sp held n t f ok) (hf : ∀ a, (f a).cells = [f a]) (hv : v.cells.toList = [v]) (h : DataW.Trod enc P w 0 sp held t v d ps) :
    ∃ a, ok a ∧ V (g0 w) w 0 (f a) v := by
  obtain ⟨n, hn⟩ := h
  obtain ⟨a, h1, h2⟩ := ho n _ _ hn
  rw [hf] at h2
  exact ⟨a, h1, h2.single hv⟩

theorem open_agg {α : Type} {f : α → PV} {ok : α → Prop} {t : TypeId} {cs : Array Value} {d : DataW H} {ps : List MemPlace} (ho : ∀ n, Opens enc P w sp held n t f ok) (hf : ∀ a, f a = .agg (f a).cells) (h : DataW.Trod enc P w 0 sp held t (.agg cs) d ps) :
    ∃ a, ok a ∧ V (g0 w) w 0 (f a) (.agg cs) := by
  obtain ⟨n, hn⟩ := h
  obtain ⟨a, h1, h2⟩ := ho n _ _ hn
  refine ⟨a, h1, ?_⟩
  rw [hf]
  exact h2.agg

theorem cells_slice {e : TypeId} {t : TypeId} {r : Reach} {b : Nat} {v : Value} (ht : P.underlying t = some (.slice e)) (h : Value.okWide P w r b t v) : v.cells.toList = [v] := by
  obtain ⟨a, l, c, rfl⟩ := okWide_slice ht h; rfl
theorem cells_string {t : TypeId} {r : Reach} {b : Nat} {v : Value} (ht : P.underlying t = some .string) (h : Value.okWide P w r b t v) : v.cells.toList = [v] := by
  obtain ⟨s, rfl⟩ := okWide_string ht h; rfl
theorem cells_int {k : IntKind} {t : TypeId} {r : Reach} {b : Nat} {v : Value} (ht : P.underlying t = some (.int k)) (h : Value.okWide P w r b t v) : v.cells.toList = [v] := by
  obtain ⟨n, rfl⟩ := okWide_int ht h; rfl
theorem cells_bool {t : TypeId} {r : Reach} {b : Nat} {v : Value} (ht : P.underlying t = some .bool) (h : Value.okWide P w r b t v) : v.cells.toList = [v] := by
  obtain ⟨n, rfl⟩ := okWide_bool ht h; rfl
end Go.Pam
