/- Plain laws of the log on a disk. -/
import Derived.Test.YtfpgfgpbjadoaaaDoorWS
import Derived.Test.YtfpgfgpbjadoaaaDoorWK5
namespace Go.Proofs.YtfpgfgpbjadoaaaDoor.M
set_option linter.unusedVariables false
set_option linter.unusedSimpArgs false
open Go Go.Pam
set_option maxRecDepth 4000
theorem f25L (k : Nat) (a : Sl Str) (hk : 200 ≤ k) (hb : ∀ b ∈ a.l, b.length ≤ 100) (hn : a.l.length ≤ 30) : ∀ (j fuel i : Nat) (w : Str), i + j = a.l.length → j < fuel → w = recs (a.l.take i) →
    F25_L0 k a (a.l.length : Nat) fuel i w = some ((a.l.length : Int), recs a.l) := by
  intro j
  induction j with
  | zero =>
    intro fuel i w hi hf hw
    obtain ⟨f, rfl⟩ : ∃ f, fuel = f + 1 := ⟨fuel - 1, by omega⟩
    obtain rfl : i = a.l.length := by omega
    rw [List.take_length] at hw
    rw [F25_L0, if_neg (by simp), hw]
  | succ j ih =>
    intro fuel i w hi hf hw
    obtain ⟨f, rfl⟩ : ∃ f, fuel = f + 1 := ⟨fuel - 1, by omega⟩
    have hlt : i < a.l.length := by omega
    have e1 : Sl.at? a (i : Int) = some (a.l[i]) := by rw [Sl.at?_nat, List.getElem?_eq_getElem hlt]
    have hbi := hb (a.l[i]) (List.getElem_mem hlt)
    have ht : a.l.take (i + 1) = a.l.take i ++ [a.l[i]] := by rw [List.take_add_one, List.getElem?_eq_getElem hlt]; rfl
    have hw2 : w.length ≤ 106 * 30 := by
      have := recs_len (l := a.l.take i) fun b hb' => hb b (List.mem_of_mem_take hb')
      rw [hw]; rw [List.length_take] at this; omega
    have e2 : Str.put? w (hdr a.l[i] ++ a.l[i]) = some (w ++ (hdr a.l[i] ++ a.l[i])) := by
      unfold Str.put?
      rw [if_pos (by rw [List.length_append, hdr_len]; omega)]
    rw [F25_L0, if_pos (by simp; omega), bnd e1, bnd (F12_eq k _ (by omega) (by omega)), bnd e2, ad_nat (by omega)]
    refine ih f (i + 1) _ (by omega) (by omega) ?_
    rw [ht, recs_append, hw, recs, recs, List.append_nil]; rfl
theorem F25_eq (k : Nat) (a : Sl Str) (hk : 200 ≤ k) (hb : ∀ b ∈ a.l, b.length ≤ 100) (hn : a.l.length ≤ 30) : F25 k a = some (recs a.l) := by
  unfold F25
  have := f25L k a hk hb hn a.l.length k 0 [] (by omega) (by omega) rfl
  rw [show ((0 : Nat) : Int) = 0 from rfl] at this
  rw [Sl.len_nat, bnd this]
/-- Records, and what comes behind them. -/
theorem scan_pre : ∀ (l : List Str) (t : Str) (m p : Nat), (∀ b ∈ l, b.length ≤ 100) → scanN (l.length + m) p (recs l ++ t) = (l ++ (scanN m (p + (recs l).length) t).1, (scanN m (p + (recs l).length) t).2)
  | [], t, m, p, _ => by simp [recs]
  | b :: l, t, m, p, hl => by
    have hb := hl b (List.mem_cons_self ..)
    rw [recs, List.append_assoc, List.length_cons, show l.length + 1 + m = (l.length + m) + 1 by omega, scan_rec _ p b _ (by omega), scan_pre l t m _ (fun c hc => hl c (List.mem_cons_of_mem _ hc)), List.length_append, rec1_len]
    rw [show p + 6 + b.length + (recs l).length = p + (b.length + 6 + (recs l).length) by omega]
    rfl
theorem scan_cut2 : ∀ (l : List Str) (m p k : Nat), (∀ b ∈ l, b.length ≤ 100) → ∃ j, scanN m p ((recs l).take k) = (l.take j, p + (recs (l.take j)).length, 0) ∧ (recs (l.take j)).length ≤ k
  | [], m, p, k, _ => ⟨0, by rw [recs, List.take_nil, short6 (by simp)]; simp [recs], by simp [recs]⟩
  | b :: l, 0, p, k, _ => ⟨0, by simp [scanN, recs], by simp [recs]⟩
  | b :: l, m + 1, p, k, hl => by
    have hb := hl b (List.mem_cons_self ..)
    by_cases hk : k < b.length + 6
    · exact ⟨0, by rw [recs, scan_part (m + 1) p k b (recs l) (by omega) hk]; simp [recs], by simp [recs]⟩
    · obtain ⟨j, h, hq⟩ := scan_cut2 l m (p + 6 + b.length) (k - (b.length + 6)) fun c hc => hl c (List.mem_cons_of_mem _ hc)
      refine ⟨j + 1, ?_, ?_⟩
      · rw [recs, List.take_append, List.take_of_length_le (by rw [rec1_len]; omega), rec1_len, scan_rec m p b _ (by omega), h, List.take_succ_cons, recs, List.length_append, rec1_len]
        dsimp only
        rw [show p + 6 + b.length + (recs (l.take j)).length = p + (b.length + 6 + (recs (l.take j)).length) by omega]
      · rw [List.take_succ_cons, recs, List.length_append, rec1_len]; omega
theorem recs_take (l : List Str) (j : Nat) : recs l = recs (l.take j) ++ recs (l.drop j) := by rw [← recs_append, List.take_append_drop]
/-! What the disk does with one file. -/
structure DIs (d : Dsk) (kept now : Mp Str) (pend : List DOp) (left : Int) : Prop where
  room : d.room = 1000000
  kept : d.kept = kept
  now : d.now = now
  pend : d.pend = pend
  left : d.left = left
theorem get_one (n s : Str) : Mp.get? [(n, s)] n = some s := by simp [Mp.get?]
theorem put_one (n s x : Str) : Mp.put [(n, s)] n x = [(n, x)] := by simp [Mp.put]
theorem put_nil (n x : Str) : Mp.put ([] : Mp Str) n x = [(n, x)] := rfl
def One (n : Str) (m : Mp Str) (s : Str) : Prop := (m = [] ∧ s = []) ∨ m = [(n, s)]
theorem One.get {n s : Str} {m : Mp Str} (h : One n m s) : (Mp.get? m n).getD [] = s := by
  rcases h with ⟨rfl, rfl⟩ | rfl
  · rfl
  · rw [get_one]; rfl
theorem One.put {n s : Str} {m : Mp Str} (h : One n m s) (x : Str) : Mp.put m n x = [(n, x)] := by
  rcases h with ⟨rfl, rfl⟩ | rfl
  · rfl
  · exact put_one ..
theorem One.len {n s : Str} {m : Mp Str} (h : One n m s) : m.length ≤ 1 := by
  rcases h with ⟨rfl, rfl⟩ | rfl <;> simp
theorem total_one {d : Dsk} {n s x : Str} (h : One n d.now s) (hx : x.length ≤ 1000000000) (hs : s.length ≤ 1000000000) : d.total n x = (x.length : Int) := by
  unfold Dsk.total
  rw [h.get]
  rcases h with ⟨h1, rfl⟩ | h1
  · rw [h1]
    show sb .i64 (Str.len x) (Str.len []) = _
    rw [Str.len_nat, Str.len_nat, sb64 (by simp; omega)]; simp
  · rw [h1]
    show ad .i64 (sb .i64 (Str.len x) (Str.len s)) (Str.len s) = _
    rw [Str.len_nat, Str.len_nat, sb64 (by omega), ad64 (by omega)]; omega
theorem write_ok {d : Dsk} {n s x : Str} {y : DOp} (h : One n d.now s) (h0 : (d.left == 0) = false) (hr : d.room = 1000000) (hx : x.length ≤ 1000000) (hs : s.length ≤ 1000000) :
    d.write n x y = (({ d with now := [(n, x)], pend := d.pend ++ [y] } : Dsk).step, 0) := by
  unfold Dsk.write
  rw [h0, if_neg (by decide), total_one h (by omega) (by omega), hr, if_neg (by simp; omega), h.put]
def dn (l : Int) : Int := if decide (l > 0) then sb .i64 l 1 else l
theorem step_is {d : Dsk} {kept now : Mp Str} {pend : List DOp} {l : Int} (h1 : d.room = 1000000) (h2 : d.kept = kept) (h3 : d.now = now) (h4 : d.pend = pend) (h5 : d.left = l) : DIs d.step kept now pend (dn l) := by
  subst h5
  exact ⟨h1, h2, h3, h4, rfl⟩
theorem write_is {d : Dsk} {kept now : Mp Str} {pend : List DOp} {l : Int} {n s x : Str} (y : DOp) (h : DIs d kept now pend l) (hn : One n now s) (h0 : (l == 0) = false) (hx : x.length ≤ 1000000) (hs : s.length ≤ 1000000) :
    ∃ q, d.write n x y = (q, 0) ∧ DIs q kept [(n, x)] (pend ++ [y]) (dn l) := by
  have hn' : One n d.now s := by rw [h.now]; exact hn
  exact ⟨_, write_ok (y := y) hn' (by rw [h.left]; exact h0) h.room hx hs, step_is h.room h.kept rfl (by rw [← h.pend]) h.left⟩
theorem sync_is {q : Dsk} {kept : Mp Str} {pend : List DOp} {l : Int} {n x s' : Str} (h : DIs q kept [(n, x)] pend l) (hk : One n kept s') (h0 : (l == 0) = false) : ∃ q', q.sync n = (q', 0) ∧ DIs q' [(n, x)] [(n, x)] [] (dn l) := by
  unfold Dsk.sync
  rw [h.left, h0, if_neg (by decide), h.now, get_one]
  exact ⟨_, rfl, step_is h.room (by show Mp.put q.kept n x = _; rw [h.kept]; exact hk.put _) rfl rfl rfl⟩
theorem sync_off {q : Dsk} {kept now : Mp Str} {pend : List DOp} {n : Str} (h : DIs q kept now pend 0) : q.sync n = (q, 22) := by
  unfold Dsk.sync
  rw [h.left, if_pos (by decide)]
/-- Written, and synced. -/
theorem wal_is {d : Dsk} {kept now : Mp Str} {n s s' p : Str} (h : DIs d kept now [] (-1)) (hn : One n now s) (hk : One n kept s') (hx : s.length + p.length ≤ 1000000) :
    ∃ q, d.wal n p = (q, 0) ∧ DIs q [(n, s ++ p)] [(n, s ++ p)] [] (-1) := by
  have hn' : One n d.now s := by rw [h.now]; exact hn
  obtain ⟨q, e1, h2⟩ := write_is (x := s ++ p) ⟨n, p, false⟩ h hn rfl (by rw [List.length_append]; omega) (by omega)
  obtain ⟨q', e2, h3⟩ := sync_is h2 hk rfl
  refine ⟨q', ?_, h3⟩
  unfold Dsk.wal
  rw [hn'.get, e1, if_neg (by show ¬ ((0 : Int) != 0) = true; decide)]
  exact e2
/-- Written, and the power gone. -/
theorem wal_off {d : Dsk} {kept now : Mp Str} {n s p : Str} (h : DIs d kept now [] 1) (hn : One n now s) (hx : s.length + p.length ≤ 1000000) :
    ∃ q, d.wal n p = (q, 22) ∧ DIs q kept [(n, s ++ p)] [⟨n, p, false⟩] 0 := by
  have hn' : One n d.now s := by rw [h.now]; exact hn
  obtain ⟨q, e1, h2⟩ := write_is (x := s ++ p) ⟨n, p, false⟩ h hn rfl (by rw [List.length_append]; omega) (by omega)
  refine ⟨q, ?_, h2⟩
  unfold Dsk.wal
  rw [hn'.get, e1, if_neg (by show ¬ ((0 : Int) != 0) = true; decide)]
  exact sync_off h2
/-- Behind a loss of power: a beginning of what was under way. -/
theorem crash_is {d : Dsk} {now : Mp Str} {n s p : Str} {l keep : Int} (h : DIs d [(n, s)] now [⟨n, p, false⟩] l) : ∃ c, DIs (d.crash keep) [(n, s ++ p.take c)] [(n, s ++ p.take c)] [] (-1) := by
  have e : ∃ c, crashL keep d.pend 0 d.kept [] = [(n, s ++ p.take c)] := by
    rw [h.pend, h.kept]
    show ∃ c, crash1 keep 0 ⟨n, p, false⟩ [(n, s)] false = _
    unfold crash1
    rw [if_neg (by decide)]
    dsimp only
    rw [get_one]
    by_cases hb : bitK keep 0 = true
    · rw [hb, if_neg (by decide), if_pos rfl, put_one]
      exact ⟨p.length, by rw [List.take_length]; rfl⟩
    · have hb : bitK keep 0 = false := by simpa using hb
      rw [hb, if_neg (by decide), if_neg (by decide)]
      split
      · rw [put_one]; exact ⟨_, rfl⟩
      · exact ⟨0, by simp⟩
  obtain ⟨c, e⟩ := e
  exact ⟨c, h.room, e, e, rfl, rfl⟩
/-- Opened: what is no record goes. -/
theorem open_is {d : Dsk} {n s : Str} {m : Nat} (h : DIs d [(n, s)] [(n, s)] [] (-1)) (hm : m ≤ s.length) (hs : s.length ≤ 1000000) : ∃ d', DIs d' [(n, s.take m)] [(n, s.take m)] [] (-1) ∧
    (if m < s.length then (d.write n (s.take m) ⟨n, s.take m, true⟩).2 = 0 ∧ ((d.write n (s.take m) ⟨n, s.take m, true⟩).1.sync n).2 = 0 ∧ d' = ((d.write n (s.take m) ⟨n, s.take m, true⟩).1.sync n).1 else d' = d) := by
  by_cases hc : m < s.length
  · obtain ⟨q, e1, h2⟩ := write_is (s := s) (x := s.take m) ⟨n, s.take m, true⟩ h (.inr rfl) rfl (by rw [List.length_take]; omega) (by omega)
    obtain ⟨q', e2, h3⟩ := sync_is (s' := s) h2 (.inr rfl) rfl
    exact ⟨q', h3, by rw [if_pos hc, e1]; dsimp only; rw [e2]; exact ⟨rfl, rfl, rfl⟩⟩
  · have : s.take m = s := List.take_of_length_le (by omega)
    exact ⟨d, by rw [this]; exact h, by rw [if_neg hc]⟩
end Go.Proofs.YtfpgfgpbjadoaaaDoor.M
