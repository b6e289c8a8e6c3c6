/- Soundness of the single steps, seventh part: growing rows, conversions, the rest. -/
import Derived.Test.YthkjepoaddfoiaaPam11
namespace Go.Pam
set_option linter.unusedVariables false
set_option linter.unusedSimpArgs false
open Go.RowKit

section
variable {P : Program} {ctx : Ctx} {S : List SObj} {g : G} {w : World} {n : Nat} {base : Nat} {bd : Nat → Nat}

theorem new_tip (hR : R S w g base bd) {size cap : Nat} {xs : List PV} {us rest : List Value} (hf : Flat g w S.length size xs us) (e : TypeId) {cur : Array Value} (hcur : cur.toList = us ++ rest) (hcap : cur.size = cap * size)
    (hle : xs.length ≤ cap) (fr : Nat × Nat) (hfr : ∀ i, i < cur.size → ¬ (fr.1 ≤ i ∧ i < fr.2)) :
    Good base bd S g w (.lst xs (.tip S.length)) (S ++ [.tip xs.length size]) false (.slice (some ⟨w.heap.size, 0, none⟩) xs.length cap) (w.alloc (.cells cur e fr)) := by
  have hpp := hR.hpp w.heap.size (Nat.le_refl _)
  have hgB := hR.hfix
  have evo : Evo S.length g w (g.new S.length w.heap.size (xs.length * size) xs.length size false) (w.alloc (.cells cur e fr)) := Evo.newBlock _ (Nat.le_refl _) hpp hgB
  have hnew := alloc_new w (.cells cur e fr)
  refine ⟨g.new S.length w.heap.size (xs.length * size) xs.length size false, ?_, ?_, evo, by simp⟩
  · refine ((hf.evo evo).mono (by simp)).lst hle (fun k hk => ?_) (fun k u hu => ?_) ?_
    · simp only [G.new, if_true]; rw [hf.1] at hk; omega
    · simp only [Nat.zero_add, World.cell?, hnew]
      have hkl := (List.getElem?_eq_some_iff.1 hu).1
      have : cur.toList[k]? = some u := by rw [hcur, List.getElem?_append_left hkl]; exact hu
      rw [Array.getElem?_toList] at this
      simpa using this
    · refine ⟨by simp, by simp [G.new], by simp [G.new], fun _ => ⟨rfl, by simp [G.new], by simp [G.new], cur, e, fr, ?_, by simpa [G.new] using hcap, fun i _ hi => ?_, by simp [G.new]⟩⟩
      · simpa only [G.new, if_true] using hnew
      · simp only [G.new, if_true, World.frozen?, hnew]
        have := hfr i hi
        simpa using this
  · simp only [Bool.false_eq_true, if_false]
    refine hR.newBlock _ _ ⟨by simp [G.new], by simp [G.new], by simp [G.new], ?_⟩
    refine ⟨fun hk => ?_, by simp [G.new]⟩
    have hk' : g.fix w.heap.size := by simpa [G.new] using hk
    have := hR.hfix _ hk'
    omega

theorem new_row (hR : R S w g base bd) {size cap : Nat} {xs : List PV} {us rest : List Value} (hf : Flat g w S.length size xs us) (e : TypeId) {cur : Array Value} (hcur : cur.toList = us ++ rest) (hcap : cur.size = cap * size)
    (hle : xs.length ≤ cap) (hone : ∀ v ∈ rest, v.oneCell' = true) (fr : Nat × Nat) (hfr : ∀ i, i < cur.size → ¬ (fr.1 ≤ i ∧ i < fr.2)) :
    Good base bd S g w (.rsl S.length xs.length) (S ++ [.row xs size false]) false (.slice (some ⟨w.heap.size, 0, none⟩) xs.length cap) (w.alloc (.cells cur e fr)) := by
  have hpp := hR.hpp w.heap.size (Nat.le_refl _)
  have hgB := hR.hfix
  have evo : Evo S.length g w (g.new S.length w.heap.size 0 cap size true) (w.alloc (.cells cur e fr)) := Evo.newBlock _ (Nat.le_refl _) hpp hgB
  have hnew := alloc_new w (.cells cur e fr)
  refine ⟨g.new S.length w.heap.size 0 cap size true, ?_, ?_, evo, by simp⟩
  · have := V.rsl (g := g.new S.length w.heap.size 0 cap size true) (w := w.alloc (.cells cur e fr)) (n := (S ++ [SObj.row xs size false]).length) S.length xs.length (by simp) (by simp [G.new]) (by simpa [G.new] using hle)
    simpa [G.new] using this
  · simp only [Bool.false_eq_true, if_false]
    refine hR.newBlock _ _ ⟨by simp [G.new], ?_, by simp [G.new], cur, e, fr, ?_, by simpa [G.new] using hle, by simpa [G.new] using hcap, fun v hv => ?_, hfr, hf.2.1, fun i x j c hi hj => ?_⟩
    · intro hk
      have hk' : g.fix w.heap.size := by simpa [G.new] using hk
      have := hR.hfix _ hk'
      omega
    · simpa only [G.new, if_true] using hnew
    · have : v ∈ us ++ rest := by rw [← hcur]; exact Array.mem_def.1 hv
      rcases List.mem_append.1 this with h | h
      · exact hf.2.2.2 v h
      · exact hone v h
    · have h1 := hf.2.2.1 i x j c hi hj
      have hjl : j < size := by rw [← hf.2.1 i x hi]; exact (List.getElem?_eq_some_iff.1 hj).1
      have hl : i * size + j < us.length := by rw [hf.1]; exact idx_lt (List.getElem?_eq_some_iff.1 hi).1 hjl
      have : cur.getD (i * size + j) undef = us.getD (i * size + j) undef := by
        rw [Array.getD_eq_getD_getElem?, ← Array.getElem?_toList, hcur, List.getElem?_append_left hl, ← List.getD_eq_getElem?_getD]
      rw [this]
      exact (h1.evo evo).mono (by omega)

theorem R.kill (h : R S w g base bd) {id : Nat} {o : SObj} (hs : S[id]? = some o) (ho : g.obj id = true) : R (S.set id .dead) w g base bd := by
  refine ⟨by simpa using h.hbase, h.hbd, h.hfix, h.hpp, fun k q hk => ?_, fun i k q p hi hk hq hp hloc => ?_⟩
  · rw [List.length_set]
    by_cases hki : k = id
    · subst hki
      rw [List.getElem?_set_self (R.lt h hs)] at hk
      injection hk with hk; subst hk
      exact ho
    · rw [List.getElem?_set_ne (Ne.symm hki)] at hk
      exact h.live k q hk
  · have aux : ∀ (m : Nat) (q : SObj), (S.set id .dead)[m]? = some q → q ≠ .dead → S[m]? = some q := by
      intro m q hm hq
      by_cases hmi : m = id
      · subst hmi
        rw [List.getElem?_set_self (R.lt h hs)] at hm
        injection hm with hm; exact absurd hm.symm hq
      · rwa [List.getElem?_set_ne (Ne.symm hmi)] at hm
    exact h.inj i k q p (aux i q hi hq) (aux k p hk hp) hq hp hloc

def G.alias (g : G) (n id : Nat) : G :=
  { g with loc := fun k => if k = n then g.loc id else g.loc k, hw := fun k => if k = n then g.hw id else g.hw k, tsz := fun k => if k = n then g.tsz id else g.tsz k, obj := fun k => if k = n then true else g.obj k }

theorem R.rename (h : R S w g base bd) {id : Nat} {xs : List PV} {sz : Nat} (hs : S[id]? = some (.row xs sz false)) :
    R (S.set id .dead ++ [.row xs sz false]) w (g.alias S.length id) base bd ∧ Evo S.length g w (g.alias S.length id) w := by
  have hlive := h.live id _ hs
  obtain ⟨l1, l2, l3, cur, t, fr, l4, l5, l6, l7, l8, l9, l10⟩ := hlive
  have hb := h.hbase
  have hid := R.lt h hs
  have evo : Evo S.length g w (g.alias S.length id) w := by
    refine ⟨fun _ => Nat.le_refl _, fun _ _ _ => rfl, fun k hk => ?_, fun k hk _ => ?_, fun k hk => ?_, fun k hk => ?_, fun k hk _ => ?_, fun k cap hk _ _ ht => ?_, Nat.le_refl _, rfl, fun _ _ => rfl, fun _ _ => rfl, rfl, rfl, rfl⟩
    · simp only [G.alias]; rw [if_neg (by omega)]
    · simp only [G.alias]; rw [if_neg (by omega)]
    · simp only [G.alias]; rw [if_neg (by omega)]
    · simp only [G.alias]; rw [if_neg (by omega)]; exact Nat.le_refl _
    · simp only [G.alias]; rw [if_neg (by omega)]
    · exact TipC.heap (g := g) (by simp only [G.alias]; rw [if_neg (by omega)]) (by simp only [G.alias]; rw [if_neg (by omega)]) (by simp only [G.alias]; rw [if_neg (by omega)]) rfl rfl ht
  have sl : (S.set id .dead).length = S.length := by simp
  have get : ∀ (k : Nat) (q : SObj), (S.set id .dead ++ [.row xs sz false])[k]? = some q → (k = id ∧ q = .dead) ∨ (k ≠ id ∧ k < S.length ∧ S[k]? = some q) ∨ (k = S.length ∧ q = .row xs sz false) := by
    intro k q hk
    rcases Nat.lt_or_ge k S.length with hi | hi
    · rw [List.getElem?_append_left (by omega)] at hk
      by_cases hki : k = id
      · subst hki
        rw [List.getElem?_set_self hid] at hk
        injection hk with hk; exact .inl ⟨rfl, hk.symm⟩
      · rw [List.getElem?_set_ne (Ne.symm hki)] at hk
        exact .inr (.inl ⟨hki, hi, hk⟩)
    · rw [List.getElem?_append_right (by omega), sl] at hk
      cases hz : k - S.length with
      | zero => rw [hz] at hk; injection hk with hk; exact .inr (.inr ⟨by omega, hk.symm⟩)
      | succ j => rw [hz] at hk; simp at hk
  refine ⟨⟨by simp; omega, h.hbd, h.hfix, h.hpp, fun k q hk => ?_, fun i k p q hi hk hp hq hloc => ?_⟩, evo⟩
  · have hlen : (S.set id SObj.dead ++ [SObj.row xs sz false]).length = S.length + 1 := by simp
    rw [hlen]
    rcases get k q hk with ⟨rfl, rfl⟩ | ⟨hne, hlt, hk'⟩ | ⟨rfl, rfl⟩
    · show (g.alias S.length k).obj k = true
      simp only [G.alias]; rw [if_neg (by omega)]; exact l1
    · have hl := h.live k q hk'
      refine Live.mono (m := lim base bd S.length k) (by unfold lim; split <;> omega) (hl.evo (evo.mono (lim_le h k)) ?_ ?_ ?_ ?_ (fun _ _ => ⟨rfl, rfl⟩))
      · simp only [G.alias]; rw [if_neg (by omega)]
      · simp only [G.alias]; rw [if_neg (by omega)]
      · simp only [G.alias]; rw [if_neg (by omega)]
      · simp only [G.alias]; rw [if_neg (by omega)]
    · refine ⟨by simp [G.alias], by simpa [G.alias] using l2, by simpa [G.alias] using l3, cur, t, fr, by simpa [G.alias] using l4, by simpa [G.alias] using l5, by simpa [G.alias] using l6, l7, l8, l9, fun i x j c hi hj => ?_⟩
      refine (((l10 i x j c hi hj).evo (evo.mono (lim_le h id)))).mono ?_
      unfold lim
      rw [if_neg (show ¬ S.length < base by omega)]
      split
      · have := h.hbd id (by assumption); omega
      · omega
  · have hal : ∀ k, k < S.length → (g.alias S.length id).loc k = g.loc k := fun k hk => by simp only [G.alias]; rw [if_neg (by omega)]
    have hself : (g.alias S.length id).loc S.length = g.loc id := by simp [G.alias]
    rcases get i p hi with ⟨_, rfl⟩ | ⟨hne, hlt, hi'⟩ | ⟨rfl, rfl⟩
    · exact absurd rfl hp
    · rcases get k q hk with ⟨_, rfl⟩ | ⟨hne2, hlt2, hk'⟩ | ⟨rfl, rfl⟩
      · exact absurd rfl hq
      · rw [hal i hlt, hal k hlt2] at hloc
        exact h.inj i k p q hi' hk' hp hq hloc
      · rw [hal i hlt, hself] at hloc
        exact absurd (h.inj i id p _ hi' hs hp (by simp) hloc) hne
    · rcases get k q hk with ⟨_, rfl⟩ | ⟨hne2, hlt2, hk'⟩ | ⟨rfl, rfl⟩
      · exact absurd rfl hq
      · rw [hal k hlt2, hself] at hloc
        exact absurd (h.inj id k _ q hs hk' (by simp) hq hloc).symm hne2
      · rfl

theorem Live.grow {w w' : World} {m id : Nat} {xs ys : List PV} {sz : Nat} {us : List Value} (h : Live w g m id (.row xs sz false)) (hf : Flat g w m sz ys us) (hroom : xs.length + ys.length ≤ g.hw id)
    (hw : w' = w.setCells (g.loc id) (xs.length * sz) us) (evo : Evo m g w g w') : Live w' g m id (.row (xs ++ ys) sz false) := by
  obtain ⟨l1, l2, l3, cur, t, fr, l4, l5, l6, l7, l8, l9, l10⟩ := h
  have hle : (xs.length + ys.length) * sz ≤ g.hw id * sz := Nat.mul_le_mul_right _ hroom
  rw [Nat.add_mul] at hle
  have hul := hf.1
  obtain ⟨cur', s1, s2, s3, s4, s5, s6, s7, s8, s9⟩ := setCells_block (g.loc id) t fr us (xs.length * sz) w cur l4 (by omega)
  rw [← hw] at s1
  refine ⟨l1, l2, by simpa using l3, cur', t, fr, s1, by simpa using hroom, by rw [s2]; exact l6, fun v hv => ?_, fun k hk => l8 k (by omega), fun k x hk => ?_, fun k x q c hk hq => ?_⟩
  · obtain ⟨k, hk, rfl⟩ := Array.mem_iff_getElem.1 hv
    by_cases hin : xs.length * sz ≤ k ∧ k < xs.length * sz + us.length
    · have := s4 (k - xs.length * sz) (us[k - xs.length * sz]'(by omega)) (List.getElem?_eq_getElem (by omega))
      rw [show xs.length * sz + (k - xs.length * sz) = k by omega, Array.getElem?_eq_getElem hk] at this
      injection this with this
      rw [this]
      exact hf.2.2.2 _ (List.getElem_mem _)
    · have := s3 k (by omega)
      rw [Array.getElem?_eq_getElem hk, Array.getElem?_eq_getElem (show k < cur.size by omega)] at this
      injection this with this
      rw [this]
      exact l7 _ (Array.getElem_mem _)
  · rcases Nat.lt_or_ge k xs.length with hl | hl
    · rw [List.getElem?_append_left hl] at hk; exact l9 k x hk
    · rw [List.getElem?_append_right hl] at hk; exact hf.2.1 _ x hk
  · rw [Array.getD_eq_getD_getElem?]
    rcases Nat.lt_or_ge k xs.length with hl | hl
    · rw [List.getElem?_append_left hl] at hk
      have hq' : q < sz := by rw [← l9 k x hk]; exact (List.getElem?_eq_some_iff.1 hq).1
      rw [s3 _ (.inl (idx_lt hl hq')), ← Array.getD_eq_getD_getElem?]
      exact (l10 k x q c hk hq).evo evo
    · rw [List.getElem?_append_right hl] at hk
      have hkl := (List.getElem?_eq_some_iff.1 hk).1
      have hq' : q < sz := by rw [← hf.2.1 _ x hk]; exact (List.getElem?_eq_some_iff.1 hq).1
      have e1 : k * sz + q = xs.length * sz + ((k - xs.length) * sz + q) := by
        rw [Nat.sub_mul]
        have : xs.length * sz ≤ k * sz := Nat.mul_le_mul_right _ hl
        omega
      have hin : (k - xs.length) * sz + q < us.length := by rw [hul]; exact idx_lt hkl hq'
      rw [e1, s4 _ _ (List.getElem?_eq_getElem hin)]
      have := hf.2.2.1 _ x q c hk hq
      rw [List.getD_eq_getElem?_getD, List.getElem?_eq_getElem hin] at this
      exact this.evo evo

theorem Live.flat {w : World} {m id : Nat} {xs : List PV} {sz : Nat} {fz : Bool} (h : Live w g m id (.row xs sz fz)) : ∃ us, Flat g w m sz xs us ∧ ∀ (k : Nat) (u : Value), us[k]? = some u → w.cell? ⟨g.loc id, k, none⟩ = some u := by
  obtain ⟨l1, l2, l3, cur, t, fr, l4, l5, l6, l7, l8, l9, l10⟩ := h
  have hle : xs.length * sz ≤ g.hw id * sz := Nat.mul_le_mul_right _ l5
  refine ⟨cur.toList.take (xs.length * sz), ⟨by simp; omega, l9, fun i x j c hi hj => ?_, fun u hu => ?_⟩, fun k u hk => ?_⟩
  · have hj' : j < sz := by rw [← l9 i x hi]; exact (List.getElem?_eq_some_iff.1 hj).1
    have hil := (List.getElem?_eq_some_iff.1 hi).1
    rw [List.getD_eq_getElem?_getD, List.getElem?_take, if_pos (idx_lt hil hj'), Array.getElem?_toList, ← Array.getD_eq_getD_getElem?]
    exact l10 i x j c hi hj
  · exact l7 u (Array.mem_def.2 (List.mem_of_mem_take hu))
  · rw [List.getElem?_take] at hk
    split at hk
    · rw [Array.getElem?_toList] at hk
      simp [World.cell?, l4, hk]
    · cases hk

theorem sized_flat {size sz : Nat} {xs : List PV} {us : List Value} (hf : Flat g w n sz xs us) (hs : sizedAll size xs = true) : Flat g w n size xs us ∧ (xs ≠ [] → sz = size) := by
  cases xs with
  | nil =>
    have h0 : us = [] := by have := hf.1; simp at this; exact this
    subst h0
    exact ⟨Flat.nil _ _ _ _, fun h => absurd rfl h⟩
  | cons x xs =>
    have h1 := hf.2.1 0 x rfl
    have h2 := sizedAll_get (i := 0) hs rfl
    have : sz = size := by omega
    subst this
    exact ⟨hf, fun _ => rfl⟩

theorem growBy_le (m : Nat) (hm : 257 ≤ m) : ∀ (r c : Nat), c ≤ 2 * m → Builtin.growBy m r c ≤ 2 * m
  | 0, c, h => h
  | r + 1, c, h => by
    simp only [Builtin.growBy]
    split
    · exact h
    · exact growBy_le m hm r _ (by omega)

theorem nextslicecap_le {m c : Nat} (h : c < m) : Builtin.nextslicecap m c ≤ 2 * m := by
  unfold Builtin.nextslicecap
  split
  · omega
  · split
    · omega
    · exact growBy_le m (by omega) 4 c (by omega)

theorem listOf_cells {size : Nat} {x : PV} {ys : List PV} {x' : Value} (hx : V g w n x x') (hl : listOf x = some ys) (hsz : sizedAll size ys = true) (hne : ys ≠ []) :
    ∃ us : List Value, (Builtin.lenOf x').run P w = .ok ys.length w ∧ (∀ w' : World, w'.heap = w.heap → (Builtin.firstCells size ys.length x').run P w' = .ok us.toArray w') ∧ Flat g w n size ys us := by
  unfold listOf at hl
  split at hl
  · injection hl with hl; exact absurd hl.symm hne
  · injection hl with hl; exact absurd hl.symm hne
  · rename_i xs tag
    injection hl with hl; subst hl
    obtain ⟨b, o, cap, sz, us, rfl, h0, hf, hpp, hcell, _⟩ := hx.flat (.inl hne)
    obtain ⟨hf', hs⟩ := sized_flat hf hsz
    refine ⟨us, rfl, fun w' hw' => ?_, hf'⟩
    simp only [Builtin.firstCells]
    have hl : us.length = xs.length * size := hf'.1
    rw [← hl]
    exact run_loadCells_list w' _ us (fun j v hj => by rw [add_mk]; have := hcell j v hj; simpa [World.cell?, hw'] using this)
  · rename_i s
    injection hl with hl; subst hl
    obtain ⟨bs, rfl, hb⟩ := hx.inv_str
    have hlen : s.length = bs.size := by rw [← hb]; simp
    have h1 : size = 1 := by
      cases s with
      | nil => simp at hne
      | cons a s => have := sizedAll_get (i := 0) hsz rfl; simpa [PV.cells] using this.symm
    subst h1
    refine ⟨s.map fun b => .int .u8 b.toNat, ?_, ?_, ?_⟩
    · simp [Builtin.lenOf, hlen]
    · intro w' _
      simp only [Builtin.firstCells, List.length_map, hlen]
      show Result.ok _ w' = _
      congr 1
      apply Array.ext'
      subst hb
      simp [ByteArray.extract_zero_size]
    · refine ⟨by simp, fun i x hi => ?_, fun i x j c hi hj => ?_, fun u hu => ?_⟩
      · rw [List.getElem?_map] at hi
        cases hs : s[i]? with
        | none => simp [hs] at hi
        | some b => simp [hs] at hi; subst hi; rfl
      · rw [List.getElem?_map] at hi
        cases hs : s[i]? with
        | none => simp [hs] at hi
        | some b =>
          simp [hs] at hi; subst hi
          cases j with
          | succ j => simp [PV.cells] at hj
          | zero =>
            simp [PV.cells] at hj; subst hj
            simp [List.getElem?_map, hs]
            exact .int _ _
      · simp only [List.mem_map] at hu
        obtain ⟨b, _, rfl⟩ := hu
        rfl
  · cases hl

theorem zeros_one {z : Array Value} (h : ∀ v ∈ z, v.oneCell' = true) {n : Nat} {v : Value} (hv : v ∈ Builtin.zeroCells z n) : v.oneCell' = true := by
  unfold Builtin.zeroCells at hv
  rw [Array.mem_map] at hv
  obtain ⟨i, hi, rfl⟩ := hv
  have hi' : i < n * z.size := by simpa using hi
  have hpos : 0 < z.size := by
    rcases Nat.eq_zero_or_pos z.size with h0 | h0
    · rw [h0] at hi'; simp at hi'
    · exact h0
  rw [getElem!_pos z (i % z.size) (Nat.mod_lt _ hpos)]
  exact h _ (Array.getElem_mem _)

theorem append_grow (hc : CtxTy P ctx) {ts : Array TypeId} {t u e ty : TypeId} {ti ui ei : TyI} (ht0 : ts[0]? = some t) (ht1 : ts[1]? = some u) (hti : ctx.ty t = some ti) (hui : ctx.ty u = some ui) (hei : ctx.ty e = some ei)
    (hund : ti.und = .slice e) (hnum : ∀ k, ui.und ≠ .int k) {args : Array Value} {x' : Value} {A : Option Addr} {len cap m : Nat} {old new : List Value} (h0 : args[0]? = some (.slice A len cap)) (h1 : args[1]? = some x')
    (hlen : (Builtin.lenOf x').run P w = .ok m w) (hnew : ∀ w' : World, w'.heap = w.heap → (Builtin.firstCells ei.size m x').run P w' = .ok new.toArray w')
    (hold : ∀ w' : World, w'.heap = w.heap → (Builtin.firstCells ei.size len (.slice A len cap)).run P w' = .ok old.toArray w')
    (hroom : cap < len + m) (hb : ei.bytes ≠ 0) (hbytes : (len + m) * ei.bytes ≤ 2 ^ 47) (hzs : ei.zero.cells.length = ei.size) :
    ∃ (newCap : Nat) (w0 : World) (cur : Array Value) (rest : List Value), len + m ≤ newCap ∧ w0.heap = w.heap ∧ w0.os = w.os ∧ w0.tape = w.tape ∧ w0.output = w.output ∧ cur.toList = (old ++ new) ++ rest ∧ rest.length = (newCap - (len + m)) * ei.size ∧ (ei.zero.storable = true → ∀ v ∈ rest, v.oneCell' = true) ∧
      (Builtin.append_ ts ty args).run P w = .ok (.slice (some ⟨w0.heap.size, 0, none⟩) (len + m) newCap) (w0.alloc (.cells cur e)) := by
  have ht := hc.ty _ _ hti
  have hu := hc.ty _ _ hui
  have hte := hc.ty _ _ hei
  obtain ⟨i, zi, i1, i2, i3, i4, i5, i6, _⟩ := hte.info
  have hle : len + m ≤ 2 ^ 47 := by
    have : (len + m) * 1 ≤ (len + m) * ei.bytes := Nat.mul_le_mul_left _ (by omega)
    omega
  have hns : ¬ Builtin.nextslicecap (len + m) cap * i.bytes > 2 ^ 48 := by
    rw [i3]
    have := nextslicecap_le hroom
    have h2 : Builtin.nextslicecap (len + m) cap * ei.bytes ≤ 2 * (len + m) * ei.bytes := Nat.mul_le_mul_right _ this
    rw [Nat.mul_assoc] at h2
    omega
  have hq : (Question.appendCap (len + m) cap e).forced = false := rfl
  refine ⟨(Question.appendCap (len + m) cap e).cut (w.tape w.drawn (.appendCap (len + m) cap e)), { w with drawn := w.drawn + 1 },
    old.toArray ++ new.toArray ++ Builtin.zeroCells zi.cells ((Question.appendCap (len + m) cap e).cut (w.tape w.drawn (.appendCap (len + m) cap e)) - (len + m)), (Builtin.zeroCells zi.cells ((Question.appendCap (len + m) cap e).cut (w.tape w.drawn (.appendCap (len + m) cap e)) - (len + m))).toList,
    by simp [Question.cut], rfl, rfl, rfl, rfl, by simp, by simp [Builtin.zeroCells, i6, hzs], fun hst v hv => ?_, ?_⟩
  · exact zeros_one ((absV_sound ⟨fun _ => 0, fun _ => 0, fun _ => 0, fun _ => 0, fun _ => true, fun _ => False⟩ w 0 i5).storable hst).2.2 (Array.mem_def.2 hv)
  simp only [Builtin.append_, ht0, h0, h1, Sem.run_bind, ht.run_und, hund, Result.andThen_ok, hte.run_size, ht1, hu.run_und, Sem.run_pure, Bool.false_eq_true, if_false, hlen]
  rw [if_neg (by omega)]
  have hti' : (typeInfo e).run P w = .ok i w := by simp [typeInfo, i1]
  have hti'' : ∀ w' : World, (typeInfo e).run P w' = .ok i w' := fun w' => by simp [typeInfo, i1]
  have hzv : ∀ w' : World, (zeroValue e).run P w' = .ok zi w' := fun w' => by simp [zeroValue, typeInfo, i1, i4]
  rw [Sem.run_bind, hti', Result.andThen_ok, if_neg (by rw [i3]; simp; omega)]
  rw [Sem.run_bind, hti', Result.andThen_ok, if_neg hns]
  rw [Sem.run_bind, run_choose, hq, if_neg (by simp), Result.andThen_ok]
  simp only [Sem.run_bind, hti'', Result.andThen_ok, run_askRoom, Bool.not_false, if_true]
  have hold' := hold { w with drawn := w.drawn + 1 } rfl
  have hnew' := hnew { w with drawn := w.drawn + 1 } rfl
  rw [hold', Result.andThen_ok, hnew', Result.andThen_ok]
  simp only [hzv, Result.andThen_ok, newRow, Sem.run_bind, run_newObj, Sem.run_pure]
  rfl

theorem append_room (hc : CtxTy P ctx) {ts : Array TypeId} {t u e ty : TypeId} {ti ui ei : TyI} (ht0 : ts[0]? = some t) (ht1 : ts[1]? = some u) (hti : ctx.ty t = some ti) (hui : ctx.ty u = some ui) (hei : ctx.ty e = some ei)
    (hund : ti.und = .slice e) (hnum : ∀ k, ui.und ≠ .int k) {args : Array Value} {x' : Value} {b len cap m : Nat} {new : List Value} (h0 : args[0]? = some (.slice (some ⟨b, 0, none⟩) len cap)) (h1 : args[1]? = some x')
    (hlen : (Builtin.lenOf x').run P w = .ok m w) (hnew : (Builtin.firstCells ei.size m x').run P w = .ok new.toArray w) (hroom : len + m ≤ cap)
    (hcell : ∀ j, j < new.length → (w.cell? ⟨b, len * ei.size + j, none⟩).isSome = true) (hfr : ∀ j, j < new.length → w.frozen? ⟨b, len * ei.size + j, none⟩ = false) (hone : ∀ v ∈ new, v.oneCell' = true) :
    (Builtin.append_ ts ty args).run P w = .ok (.slice (some ⟨b, 0, none⟩) (len + m) cap) (w.setCells b (len * ei.size) new) := by
  have ht := hc.ty _ _ hti
  have hu := hc.ty _ _ hui
  have hte := hc.ty _ _ hei
  have hst := run_storeCells_cells (P := P) b (len * ei.size) new 0 w (by simpa using hcell) (by simpa using hfr) hone
  simp only [Builtin.append_, ht0, h0, h1, Sem.run_bind, ht.run_und, hund, Result.andThen_ok, hte.run_size, ht1, hu.run_und, Sem.run_pure, Bool.false_eq_true, if_false, hlen]
  rw [if_pos hroom]
  simp only [Sem.run_bind, Bool.not_false, if_true, hnew, Result.andThen_ok, add_mk, Nat.zero_add]
  simp only [Nat.add_zero] at hst
  rw [hst]
  rfl

theorem step_append (hc : CtxTy P ctx) (hR : R S w g base bd) {ts : Array TypeId} {ty : TypeId} {s x y : PV} {args : Array Value} {s' x' : Value} {S' : List SObj} (h0 : args[0]? = some s') (h1 : args[1]? = some x')
    (hs : V g w S.length s s') (hx : V g w S.length x x') (h : appendPV ctx ts s x S = some (y, S')) : ∃ v w', (Builtin.append_ ts ty args).run P w = .ok v w' ∧ Good base bd S g w y S' false v w' := by
  unfold appendPV at h
  split at h
  case h_2 => cases h
  rename_i t u ht0 ht1
  split at h
  case h_2 => cases h
  rename_i ti ui ys hti hui hys
  split at h
  · cases h
  case h_3 => cases h
  rename_i e hund hnum'
  have hnum : ∀ k, ui.und ≠ .int k := fun k hk => by simp_all
  split at h
  · cases h
  rename_i ei hei
  split at h
  · rename_i hemp
    have hy0 : ys = [] := by simpa using hemp
    subst hy0
    split at h
    case isFalse => cases h
    rename_i hsl
    injection h with h
    injection h with hh1 hh2
    subst hh1; subst hh2
    have ht := hc.ty _ _ hti
    have hu := hc.ty _ _ hui
    have hte := hc.ty _ _ hei
    have hlen0 : (Builtin.lenOf x').run P w = .ok 0 w ∧ (Builtin.firstCells ei.size 0 x').run P w = .ok #[] w := by
      unfold listOf at hys
      split at hys
      · rw [hx.inv_nils]; exact ⟨rfl, rfl⟩
      · obtain ⟨a, rfl⟩ := hx.inv_emp
        refine ⟨rfl, ?_⟩
        simp [Builtin.firstCells, loadCells, loadCellsFrom]
      · rename_i zs tag
        injection hys with hys; subst hys
        rcases hx.inv_lst with ⟨_, _, a, rfl⟩ | ⟨b, o, cap, sz, u', rfl, _⟩
        · refine ⟨rfl, ?_⟩
          simp [Builtin.firstCells, loadCells, loadCellsFrom]
        refine ⟨rfl, ?_⟩
        simp [Builtin.firstCells, loadCells, loadCellsFrom]
      · rename_i str
        injection hys with hys
        obtain ⟨bs, rfl, hb⟩ := hx.inv_str
        have : str = [] := by simpa using hys
        subst this
        have hsz : bs.size = 0 := by have := congrArg List.length hb; simpa using this
        refine ⟨by simp [Builtin.lenOf, hsz], ?_⟩
        simp [Builtin.firstCells]
      · cases hys
    obtain ⟨A, len, cap, rfl, hle, hA⟩ : ∃ A len cap, s' = .slice A len cap ∧ len ≤ cap ∧ (A = none ∨ ∃ a, A = some a) := by
      unfold isSlice at hsl
      split at hsl
      · exact ⟨_, _, _, hs.inv_nils, Nat.le_refl _, .inl rfl⟩
      · rcases hs.inv_lst with ⟨_, _, a, rfl⟩ | ⟨b, o, cap, sz, u', rfl, h1, _⟩
        · exact ⟨_, _, _, rfl, Nat.le_refl _, .inr ⟨_, rfl⟩⟩
        exact ⟨_, _, _, rfl, h1, .inr ⟨_, rfl⟩⟩
      · obtain ⟨cap, rfl, h1, _⟩ := hs.inv_hsl
        exact ⟨_, _, _, rfl, h1, .inr ⟨_, rfl⟩⟩
      · obtain ⟨a, rfl⟩ := hs.inv_emp
        exact ⟨_, _, _, rfl, Nat.le_refl _, .inr ⟨_, rfl⟩⟩
      · obtain ⟨rfl, h1, _⟩ := hs.inv_rsl
        exact ⟨_, _, _, rfl, h1, .inr ⟨_, rfl⟩⟩
      · cases hsl
    refine ⟨.slice A len cap, w, ?_, Good.same hR hs⟩
    simp only [Builtin.append_, ht0, h0, h1, Sem.run_bind, ht.run_und, hund, Result.andThen_ok, hte.run_size, ht1, hu.run_und, Sem.run_pure, Bool.false_eq_true, if_false, hlen0.1]
    rw [if_pos (by omega)]
    simp only [Sem.run_bind, Bool.not_false, if_true, hlen0.2, Result.andThen_ok]
    rcases hA with rfl | ⟨a, rfl⟩
    · rfl
    · simp [storeCells]
  rename_i hyne
  have hyne' : ys ≠ [] := by simpa using hyne
  split at h
  · cases h
  rename_i hn
  simp only [not_or, Bool.not_eq_false, Decidable.not_not] at hn
  obtain ⟨n1, n2, n3, n4, n5⟩ := hn
  have hyl : 0 < ys.length := by cases ys with | nil => exact absurd rfl hyne' | cons => simp
  obtain ⟨new, l1, l2, l3⟩ := listOf_cells (P := P) hx hys n1 hyne'
  -- a new block with what was there and what is appended
  have grow : ∀ (xs : List PV) (A : Option Addr) (cap : Nat) (old : List Value), s' = .slice A xs.length cap → cap < xs.length + ys.length → (xs.length + ys.length) * ei.bytes ≤ 2 ^ 47 →
      Flat g w S.length ei.size xs old → (∀ w' : World, w'.heap = w.heap → (Builtin.firstCells ei.size xs.length s').run P w' = .ok old.toArray w') →
      ∃ v w', (Builtin.append_ ts ty args).run P w = .ok v w' ∧ Good base bd S g w (.lst (xs ++ ys) (.tip S.length)) (S ++ [.tip (xs.length + ys.length) ei.size]) false v w' := by
    intro xs A cap old hs' hcap hby hfo hold
    subst hs'
    obtain ⟨newCap, w0, cur, rest, q1, q2, q3, q4, q5, q6, q7, q9, q8⟩ := append_grow (ty := ty) hc ht0 ht1 hti hui hei hund hnum h0 h1 l1 l2 hold hcap n3 hby n5
    have hR0 := hR.drawn q2 q3 q4 q5
    have e0 : Evo S.length g w g w0 := Evo.drawn q2 q3 q4 q5
    have hf := ((hfo.append l3).evo e0)
    have hcs : cur.size = newCap * ei.size := by
      have : cur.toList.length = newCap * ei.size := by
        rw [q6, List.length_append, hf.1, q7, List.length_append, ← Nat.add_mul]; congr 1; omega
      simpa using this
    obtain ⟨g', k1, k2, k3, k4⟩ := new_tip hR0 hf e q6 hcs (by simpa using q1) (0, 0) (fun i _ h => by omega)
    have el : (xs ++ ys).length = xs.length + ys.length := List.length_append
    rw [el] at k1 k2 k4
    exact ⟨_, _, q8, g', k1, k2, e0.trans k3, k4⟩
  split at h
  · -- nil
    split at h
    case isFalse => cases h
    rename_i hb
    injection h with h
    injection h with hh1 hh2
    subst hh1; subst hh2
    have := grow [] none 0 [] hs.inv_nils (by simpa using hyl) (by simpa using hb) (Flat.nil _ _ _ _) (fun w' _ => by rw [hs.inv_nils]; rfl)
    simpa using this
  · -- as long as it may be
    rename_i xs
    split at h
    case isFalse => cases h
    rename_i hb
    obtain ⟨hb1, hb2⟩ := hb
    injection h with h
    injection h with hh1 hh2
    subst hh1; subst hh2
    obtain ⟨b, o, cap, sz, us, hv, c0, cf, cp, cc, ct⟩ := hs.flat (.inr (by simp))
    obtain ⟨cf', _⟩ := sized_flat cf hb2
    have hcap : xs.length = cap := ct
    refine grow xs (some ⟨b, o, none⟩) cap us hv (by omega) hb1 cf' (fun w' hw' => ?_)
    rw [hv]
    simp only [Builtin.firstCells]
    rw [← cf'.1]
    exact run_loadCells_list w' _ us (fun j v hj => by rw [add_mk]; have := cc j v hj; simpa [World.cell?, hw'] using this)
  · -- a row that may be written to
    rename_i id len
    split at h
    case h_2 => cases h
    rename_i xs sz hid
    split at h
    case isFalse => cases h
    rename_i hb
    obtain ⟨rfl, rfl, hb3⟩ := hb
    injection h with h
    injection h with hh1 hh2
    subst hh1; subst hh2
    obtain ⟨rfl, c0, c1, c2⟩ := hs.inv_rsl
    have hlive := hR.live id _ hid
    obtain ⟨us, cf, cc⟩ := hlive.flat
    by_cases hroom : xs.length + ys.length ≤ g.hw id
    · obtain ⟨r1, r2⟩ := hR.rename hid
      have hal : (g.alias S.length id).loc S.length = g.loc id := by simp [G.alias]
      have hsl : (S.set id .dead ++ [SObj.row xs ei.size false])[S.length]? = some (.row xs ei.size false) := by
        rw [List.getElem?_append_right (by simp)]; simp
      have hl2 := r1.live S.length _ hsl
      have hlimL : lim base bd (S.set id .dead ++ [SObj.row xs ei.size false]).length S.length = S.length + 1 := by
        have := hR.hbase
        unfold lim; rw [if_neg (by omega)]; simp
      have hl3 := hl2
      obtain ⟨k1, k2, k3, cur, e', fr, k4, k5, k6, k7, k8, k9, k10⟩ := hl2
      rw [hal] at k2 k3 k4
      have hhw : (g.alias S.length id).hw S.length = g.hw id := by simp [G.alias]
      rw [hhw] at k6
      have hle : (xs.length + ys.length) * ei.size ≤ g.hw id * ei.size := Nat.mul_le_mul_right _ hroom
      rw [Nat.add_mul] at hle
      have hnl : new.length = ys.length * ei.size := l3.1
      have hrun := append_room (P := P) (ty := ty) hc ht0 ht1 hti hui hei hund hnum h0 h1 l1 (l2 w rfl) hroom
        (fun j hj => by simp [World.cell?, k4]; omega) (fun j hj => by have := k8 (xs.length * ei.size + j) (by omega); simp only [World.frozen?, k4]; simpa using this) l3.2.2.2
      have hw2 := R.write r1 hsl (by simp) (off := xs.length * ei.size) (vs := new) (o' := .row (xs ++ ys) ei.size false) (by rw [hal]; exact k4) (by rw [hal]; exact k2) (by rw [hal]; simpa using k3) (by omega) (fun evo => by
        refine Live.grow hl3 ?_ (by rw [hhw]; exact hroom) rfl evo
        rw [hlimL]
        exact (l3.evo r2).mono (by omega)) S.length
      rw [hal] at hw2
      have hset : (S.set id .dead ++ [SObj.row xs ei.size false]).set S.length (.row (xs ++ ys) ei.size false) = S.set id .dead ++ [SObj.row (xs ++ ys) ei.size false] := by
        rw [List.set_append_right _ _ (by simp)]; simp
      rw [hset] at hw2
      refine ⟨_, _, hrun, _, ?_, by simpa using hw2.1, r2.trans hw2.2, by simp⟩
      have := V.rsl (g := g.alias S.length id) (w := w.setCells (g.loc id) (xs.length * ei.size) new) (n := (S.set id .dead ++ [SObj.row (xs ++ ys) ei.size false]).length) S.length (xs.length + ys.length) (by simp) (by simp [G.alias]) (by rw [hhw]; exact hroom)
      rw [hal, hhw] at this
      exact this
    · obtain ⟨newCap, w0, cur, rest, q1, q2, q3, q4, q5, q6, q7, q9, q8⟩ := append_grow (ty := ty) (old := us) hc ht0 ht1 hti hui hei hund hnum h0 h1 l1 l2 (fun w' hw' => by
        simp only [Builtin.firstCells]
        rw [← cf.1]
        exact run_loadCells_list w' _ us (fun j v hj => by rw [add_mk, Nat.zero_add]; have := cc j v hj; simpa [World.cell?, hw'] using this)) (by omega) n3 hb3 n5
      have hR0 := (hR.drawn q2 q3 q4 q5).kill hid c2
      have e0 : Evo S.length g w g w0 := Evo.drawn q2 q3 q4 q5
      have hf := (((cf.mono (lim_le hR id)).append l3).evo e0)
      have hcs : cur.size = newCap * ei.size := by
        have : cur.toList.length = newCap * ei.size := by
          rw [q6, List.length_append, hf.1, q7, List.length_append, ← Nat.add_mul]; congr 1; omega
        simpa using this
      have hf' : Flat g w0 (S.set id .dead).length ei.size (xs ++ ys) (us ++ new) := by rw [List.length_set]; exact hf
      obtain ⟨g', k1, k2, k3, k4⟩ := new_row hR0 hf' e q6 hcs (by simpa using q1) (q9 n4) (0, 0) (fun i _ h => by omega)
      have el : (xs ++ ys).length = xs.length + ys.length := List.length_append
      rw [List.length_set, el] at k1
      rw [List.length_set] at k3 k4
      exact ⟨_, _, q8, g', by simpa using k1, k2, e0.trans k3, by simp⟩
  · -- at its end
    rename_i xs id
    split at h
    case h_2 => cases h
    rename_i hw sz hid
    split at h
    case isFalse => cases h
    rename_i hb
    obtain ⟨rfl, rfl, hb3⟩ := hb
    injection h with h
    injection h with hh1 hh2
    subst hh1; subst hh2
    obtain ⟨b, o, cap, sz', us, hv, c0, cf, cp, cc, ct⟩ := hs.flat (.inr (by simp))
    obtain ⟨l1', l2', l3', l4', l5'⟩ := hR.live id _ hid
    obtain ⟨t1, t2, t3, t4⟩ := ct
    obtain ⟨rfl, rfl, hsz', tc⟩ := t4 l2'
    have hsz : sz' = ei.size := hsz'.trans l3'
    subst hsz
    by_cases hroom : xs.length + ys.length ≤ cap
    · -- there is room
      have hnl : new.length = (xs.length + ys.length - xs.length) * ei.size := by rw [l3.1]; congr 1; omega
      obtain ⟨r1, r2, r3⟩ := hR.growIn hid tc (m := xs.length + ys.length) (by omega) (vs := new) hnl hroom
      obtain ⟨cur, e', fr, d1, d2, d3, d4⟩ := tc
      rw [l2', l3'] at d3 d4
      rw [l3'] at d2
      have hle : (xs.length + ys.length) * ei.size ≤ cap * ei.size := Nat.mul_le_mul_right _ hroom
      rw [Nat.add_mul] at hle
      have hnl' : new.length = ys.length * ei.size := l3.1
      have hrun := append_room (P := P) (ty := ty) hc ht0 ht1 hti hui hei hund hnum (h0.trans (by rw [hv])) h1 l1 (l2 w rfl) hroom
        (fun j hj => by simp [World.cell?, d1]; omega) (fun j hj => d3 _ (by omega) (by omega)) l3.2.2.2
      refine ⟨_, _, hrun, _, ?_, by simpa using r1, r2, by simp⟩
      have hlen : (S.set id (SObj.tip (xs.length + ys.length) ei.size)).length = S.length := by simp
      rw [hlen]
      have hff := ((cf.append l3).evo r2)
      have := hff.lst (b := g.loc id) (o := 0) (cap := cap) (tag := .tip id) (by simpa using hroom) (fun k hk => ?_) (fun k u hu => ?_) ?_
      · simpa using this
      · simp only [G.grow, if_true, Nat.zero_add]
        rw [hff.1, List.length_append] at hk
        exact hk
      · rw [Nat.zero_add]
        have hkl := (List.getElem?_eq_some_iff.1 hu).1
        rcases Nat.lt_or_ge k us.length with q | q
        · rw [List.getElem?_append_left q] at hu
          have := cc k u hu
          rw [Nat.zero_add] at this
          rw [World.cell?_setCells_out _ _ _ _ _ (fun _ _ => .inl (by rw [cf.1] at q; exact q))]
          exact this
        · rw [List.getElem?_append_right q] at hu
          have hj := (List.getElem?_eq_some_iff.1 hu).1
          have := World.cell?_setCells_in (g.loc id) new (xs.length * ei.size) w (fun j hj => by simp [World.cell?, d1]; omega) (k - us.length) hj
          have e1 : xs.length * ei.size + (k - us.length) = k := by have := cf.1; omega
          rw [e1] at this
          rw [this]
          rw [List.getElem?_eq_getElem hj] at hu
          exact hu
      · refine ⟨t1, by simpa [G.grow] using t2, by simp [G.grow], fun _ => ⟨rfl, by simp [G.grow], by simpa [G.grow] using hsz', r3⟩⟩
    · -- there is none
      obtain ⟨newCap, w0, cur, rest, q1, q2, q3, q4, q5, q6, q7, q9, q8⟩ := append_grow (ty := ty) (old := us) hc ht0 ht1 hti hui hei hund hnum (h0.trans (by rw [hv])) h1 l1 l2 (fun w' hw' => by
        simp only [Builtin.firstCells]
        rw [← cf.1]
        exact run_loadCells_list w' _ us (fun j v hj => by rw [add_mk]; have := cc j v hj; simpa [World.cell?, hw'] using this)) (by omega) n3 hb3 n5
      have hR0 := hR.drawn q2 q3 q4 q5
      have e0 : Evo S.length g w g w0 := Evo.drawn q2 q3 q4 q5
      have hf := ((cf.append l3).evo e0)
      have hcs : cur.size = newCap * ei.size := by
        have : cur.toList.length = newCap * ei.size := by
          rw [q6, List.length_append, hf.1, q7, List.length_append, ← Nat.add_mul]; congr 1; omega
        simpa using this
      obtain ⟨r1, r2, r3⟩ := hR0.growOut hid (m := xs.length + ys.length) (by omega) e hcs
      refine ⟨_, _, q8, _, ?_, by simpa using r1, e0.trans r2, by simp⟩
      have hlen : (S.set id (SObj.tip (xs.length + ys.length) ei.size)).length = S.length := by simp
      rw [hlen]
      have hff := hf.evo r2
      have hnew := alloc_new w0 (.cells cur e)
      have := hff.lst (b := w0.heap.size) (o := 0) (cap := newCap) (tag := .tip id) (by simpa using q1) (fun k hk => ?_) (fun k u hu => ?_) ?_
      · simpa using this
      · simp only [G.grow, if_true, Nat.zero_add]
        rw [hff.1, List.length_append] at hk
        exact hk
      · simp only [Nat.zero_add, World.cell?, hnew]
        have hkl := (List.getElem?_eq_some_iff.1 hu).1
        have : cur.toList[k]? = some u := by rw [q6, List.getElem?_append_left hkl]; exact hu
        rw [Array.getElem?_toList] at this
        simpa using this
      · refine ⟨t1, by simpa [G.grow] using t2, by simp [G.grow], fun _ => ⟨rfl, by simp [G.grow], by simpa [G.grow] using hsz', r3⟩⟩
  · cases h
end
end Go.Pam
