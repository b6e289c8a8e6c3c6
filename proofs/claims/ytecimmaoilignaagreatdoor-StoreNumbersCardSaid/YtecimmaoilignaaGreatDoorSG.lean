/- What the library's functions do is what the machine says. -/
import Derived.Test.YtecimmaoilignaaGreatDoorSE
import Derived.Test.YtecimmaoilignaaGreatDoorPamM4
namespace Go.Pam
set_option linter.unusedVariables false
set_option linter.unusedSimpArgs false
open Go.RowKit
def G.fixb (g : G) (b p : Nat) : G := { g with pp := fun k => if k = b then p else g.pp k }
theorem Evo.fixb {n : Nat} {g : G} {w w' : World} {b p : Nat} (hpp : ∀ k, w.heap.size ≤ k → g.pp k = 0) (hB : ∀ k, g.fix k → k < w.heap.size) (hb : w.heap.size ≤ b) (hlt : ∀ id, id < n → g.obj id = false → ∀ cap, TipC g w id cap → g.loc id < w.heap.size) (B : Below w.heap.size w w') :
    Evo n g w (g.fixb b p) w' where
  pp k := by
    simp only [G.fixb]
    split
    · rename_i h; rw [h, hpp b hb]; exact Nat.zero_le _
    · exact Nat.le_refl _
  cell k o ho := by
    have hk : k < w.heap.size := by
      rcases Nat.lt_or_ge k w.heap.size with h | h
      · exact h
      · rw [hpp k h] at ho; omega
    exact cell?_of_heap (B.block k hk) o
  obj k hk := rfl
  loc k hk _ := rfl
  tsz k hk := rfl
  hw k hk := Nat.le_refl _
  hwo k hk _ := rfl
  tip k cap hk _ _ ht := by
    have hl := ht.lt
    have hp : (g.fixb b p).pp (g.loc k) = g.pp (g.loc k) := by simp only [G.fixb]; rw [if_neg (by omega)]
    exact TipC.heap (g := g) (g' := g.fixb b p) rfl rfl rfl hp (B.block _ hl) ht
  size := B.size
  fix := rfl
  low k hk := B.block k (hB k hk)
  pplow k hk := by simp only [G.fixb]; rw [if_neg (by have := hB k hk; omega)]
  os := B.os
  tape := B.tape
  output := B.output
theorem R.fixb {S : List SObj} {w w' : World} {g : G} {base : Nat} {bd : Nat → Nat} (h : R S w g base bd) {b p : Nat} (hb : w.heap.size ≤ b) (hb' : b < w'.heap.size) (B : Below w.heap.size w w') : R S w' (g.fixb b p) base bd ∧ Evo S.length g w (g.fixb b p) w' := by
  have E : Evo S.length g w (g.fixb b p) w' := Evo.fixb h.hpp h.hfix hb (fun id _ _ cap ht => ht.lt) B
  refine ⟨⟨h.hbase, h.hbd, fun k hk => Nat.lt_of_lt_of_le (h.hfix k hk) B.size, fun k hk => ?_, fun id x hx => ?_, h.inj⟩, E⟩
  · simp only [G.fixb]
    rw [if_neg (by omega)]
    exact h.hpp k (Nat.le_trans B.size hk)
  · have hl := h.live id x hx
    refine hl.evo (E.mono (lim_le h id)) rfl rfl rfl rfl ?_
    intro hd _
    have hlt := hl.loc_lt hd
    refine ⟨B.block _ hlt, ?_⟩
    simp only [G.fixb]; rw [if_neg (by omega)]
end Go.Pam
namespace Go.Proofs.YtecimmaoilignaaGreatDoor.M
set_option linter.unusedVariables false
set_option linter.unusedSimpArgs false
open Go Go.Pam Go.RowKit
theorem col_ok {P : Program} {ctx : Ctx} {f KF : FuncId} (hfn : ∃ fn, P.funcs[f]? = some fn ∧ fn.body.isNone = false ∧ fn.name ≠ "runtime.NumGoroutine")
    (hhit : ∀ (Bm b : Nat) (en : MapEntry) (x y z : Int) (w : World), w.cell? ⟨Bm, 0, none⟩ = some (.map (some b)) → w.heap[b]? = some (.map #[en] 1) → en.born = 0 → en.key = .agg #[.int .i64 x, .int .i64 y, .int .i64 z] →
      Calls P f #[.func (.func KF) #[] #[.pointer (some ⟨Bm, 0, none⟩)]] w fun e w' => ∃ gb cap cur, e = .returned (.slice (some ⟨gb, 0, none⟩) 1 cap) ∧ w.heap.size ≤ gb ∧ w'.heap[gb]? = some (.cells cur 31 (0, 0)) ∧ 1 ≤ cap ∧ cur.size = cap * 3 ∧
        cur.toList.take 3 = [.int .i64 x, .int .i64 y, .int .i64 z] ∧ Below w.heap.size w w')
    (args : List PV) (S : List SObj) (v : PV) (S' : List SObj) (e : Bool) (h : colH KF args S = some (v, S', e))
    (w : World) (g : G) (base : Nat) (bd : Nat → Nat) (cargs : Array Value) (hR : Go.Pam.R S w g base bd) (_hgl : Gl ctx w g) (hl : args.length = cargs.size) (hV : ∀ (i : Nat) (c : PV), args[i]? = some c → V g w S.length c (cargs.getD i undef)) :
    (∃ fn, P.funcs[f]? = some fn ∧ fn.body.isNone = false ∧ fn.name ≠ "runtime.NumGoroutine") ∧ Calls P f cargs w (fun en w' => ∃ rv, en = .returned rv ∧ Go.Pam.Good base bd S g w v S' e rv w') := by
  refine ⟨hfn, ?_⟩
  unfold colH at h
  split at h
  case h_2 => cases h
  rename_i kf i
  split at h
  case isFalse => cases h
  rename_i hkf
  subst hkf
  split at h
  case h_2 => cases h
  rename_i j hi
  split at h
  case h_2 => cases h
  rename_i x y z val hj
  injection h with h; injection h with h1 h2; injection h2 with h2 h3
  subst h1 h2 h3
  obtain ⟨a, rfl⟩ : ∃ a, cargs = #[a] := by
    obtain ⟨l⟩ := cargs
    match l, hl with
    | [a], _ => exact ⟨a, rfl⟩
  have hv : V g w S.length (.fn (.func kf) [] [.ptr i 0]) a := hV 0 _ rfl
  obtain ⟨as', bs', rfl, q1, q2, q3, q4⟩ := hv.inv_fn
  obtain rfl : as' = #[] := by simpa using q1.symm
  obtain ⟨p, rfl⟩ : ∃ p, bs' = #[p] := by
    obtain ⟨l⟩ := bs'
    match l, q2 with
    | [p], _ => exact ⟨p, rfl⟩
  obtain ⟨rfl, _, _⟩ := (q4 0 _ rfl : V g w S.length (.ptr i 0) p).inv_ptr
  obtain ⟨mv, e1, e2⟩ := cell_of hR hi (k := 0) rfl
  obtain ⟨rfl, _, _⟩ := e2.inv_map
  obtain ⟨l1, l2, l3, es', l4, l5, l6⟩ := hR.live j _ hj
  obtain ⟨en, k1, k2, k3, _⟩ := l6 0 _ rfl
  have hes : es' = #[en] := by
    apply Array.ext
    · rw [l5]; rfl
    · intro n h1 h2
      have : n = 0 := by simp at h2; omega
      subst this
      have := (Array.getElem?_eq_some_iff.1 k1).2
      simpa using this
  subst hes
  obtain ⟨kc, hkc, c1, c2, c3⟩ := k3.inv_agg
  have hkey : en.key = .agg #[.int .i64 x, .int .i64 y, .int .i64 z] := by
    rw [hkc]
    have g0 := (c2 0 _ rfl).inv_int
    have g1 := (c2 1 _ rfl).inv_int
    have g2 := (c2 2 _ rfl).inv_int
    obtain ⟨l⟩ := kc
    match l, c1 with
    | [u, v, t], _ => simp at g0 g1 g2; rw [g0, g1, g2]
  refine (hhit (g.loc i) (g.loc j) en x y z w e1 l4 k2 hkey).mono ?_
  rintro en2 w' ⟨gb, cap, cur, rfl, hgb, hcur, hcap, hsz, htk, B⟩
  have hblt : gb < w'.heap.size := (Array.getElem?_eq_some_iff.1 hcur).1
  obtain ⟨r1, r2⟩ := hR.fixb (p := 3) hgb hblt B
  refine ⟨_, rfl, g.fixb gb 3, ?_, by simpa using r1, r2, by simp⟩
  have hc : ∀ m, m < 3 → w'.cell? ⟨gb, m, none⟩ = [Value.int .i64 x, .int .i64 y, .int .i64 z][m]? := by
    intro m hm
    have h1 : w'.cell? ⟨gb, m, none⟩ = cur[m]? := by simp [World.cell?, hcur]
    rw [h1, ← htk, List.getElem?_take]
    simp [hm]
  have := V.lst (g := g.fixb gb 3) (w := w') (n := S.length) [.agg [.int .i64 x, .int .i64 y, .int .i64 z]] .none gb 0 cap 3 (fun _ m => ([Value.int .i64 x, .int .i64 y, .int .i64 z][m]?).getD undef) hcap
    (fun i' x' h => by rcases i' with _ | i' <;> simp at h; subst h; rfl)
    (fun i' x' m c h h' => by
      rcases i' with _ | i' <;> simp at h
      subst h
      have : m < 3 := (List.getElem?_eq_some_iff.1 h').1
      simp [G.fixb]; omega)
    (fun i' x' m c h h' => by
      rcases i' with _ | i' <;> simp at h
      subst h
      have hm : m < 3 := (List.getElem?_eq_some_iff.1 h').1
      rw [show 0 + 0 * 3 + m = m by omega, hc m hm]
      match m, hm with
      | 0, _ => rfl
      | 1, _ => rfl
      | 2, _ => rfl)
    (fun i' x' m c h h' => by
      rcases i' with _ | i' <;> simp at h
      subst h
      have hm : m < 3 := (List.getElem?_eq_some_iff.1 h').1
      match m, hm, h' with
      | 0, _, h' => injection h' with h'; subst h'; exact .int _ _
      | 1, _, h' => injection h' with h'; subst h'; exact .int _ _
      | 2, _, h' => injection h' with h'; subst h'; exact .int _ _)
    (fun i' x' m h hm => by
      match m, hm with
      | 0, _ => rfl
      | 1, _ => rfl
      | 2, _ => rfl)
    trivial
  simpa using this
end Go.Proofs.YtecimmaoilignaaGreatDoor.M
