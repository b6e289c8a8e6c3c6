/- Plain laws of records, of the log on a disk. -/
import Derived.Test.YtecimmaoilignaaGreatDoorSP1
import Derived.Test.YtecimmaoilignaaGreatDoorSK5
import Derived.Test.YtecimmaoilignaaGreatDoorSDb
namespace Go.Proofs.YtecimmaoilignaaGreatDoor.M.L
set_option linter.unusedVariables false
set_option linter.unusedSimpArgs false
open Go Go.Pam
set_option maxRecDepth 4000
/-- A record. -/
def rec1 (b : Str) : Str := hdr b ++ b
def recs : List Str → Str
  | [] => []
  | b :: l => rec1 b ++ recs l
theorem hdr_len (b : Str) : (hdr b).length = 6 := rfl
theorem rec1_len (b : Str) : (rec1 b).length = b.length + 6 := by simp [rec1, hdr_len]; omega
theorem recs_append : ∀ l m : List Str, recs (l ++ m) = recs l ++ recs m
  | [], _ => rfl
  | b :: l, m => by simp [recs, recs_append l m]
theorem recs_len {l : List Str} (h : ∀ b ∈ l, b.length ≤ 300) : (recs l).length ≤ 306 * l.length := by
  induction l with
  | nil => simp [recs]
  | cons b l ih =>
    have h1 := h b (List.mem_cons_self ..)
    have h2 := ih fun c hc => h c (List.mem_cons_of_mem _ hc)
    rw [recs, List.length_append, rec1_len, List.length_cons]; omega
/-- One record at the front. -/
theorem scan_rec (m p : Nat) (b r : Str) (hb : b.length ≤ 60000) : scanN (m + 1) p (rec1 b ++ r) = (b :: (scanN m (p + 6 + b.length) r).1, (scanN m (p + 6 + b.length) r).2) := by
  have hn : 256 * (UInt8.ofNat (b.length / 256)).toNat + (UInt8.ofNat b.length).toNat = b.length := by
    rw [UInt8.toNat_ofNat', UInt8.toNat_ofNat']; omega
  unfold rec1 hdr
  simp only [List.cons_append, List.nil_append]
  rw [scanN, hn, if_neg (by rw [List.length_append]; omega), List.take_left, if_pos (show hdr b = [UInt8.ofNat (b.length / 256), UInt8.ofNat b.length, UInt8.ofNat (sumN b / 16777216), UInt8.ofNat (sumN b / 65536), UInt8.ofNat (sumN b / 256), UInt8.ofNat (sumN b)] from rfl), List.drop_left]
theorem scan_all : ∀ (l : List Str) (m p : Nat), l.length < m → (∀ b ∈ l, b.length ≤ 300) → scanN m p (recs l) = (l, p + (recs l).length, 0)
  | [], m, p, _, _ => by rw [recs, short6 (by simp)]; simp
  | b :: l, m + 1, p, hm, hl => by
    have hb := hl b (List.mem_cons_self ..)
    rw [recs, scan_rec m p b (recs l) (by omega), scan_all l m _ (by simp at hm; omega) (fun c hc => hl c (List.mem_cons_of_mem _ hc)), List.length_append, rec1_len]
    simp; omega
theorem f25L (k : Nat) (a : Sl Str) (hk : 400 ≤ k) (hb : ∀ b ∈ a.l, b.length ≤ 300) (hn : a.l.length ≤ 30) : ∀ (j fuel i : Nat) (w : Str), i + j = a.l.length → j < fuel → w = recs (a.l.take i) →
    F49_L0 k a (a.l.length : Nat) fuel i w = some ((a.l.length : Int), recs a.l) := by
  intro j
  induction j with
  | zero =>
    intro fuel i w hi hf hw
    obtain ⟨f, rfl⟩ : ∃ f, fuel = f + 1 := ⟨fuel - 1, by omega⟩
    obtain rfl : i = a.l.length := by omega
    rw [List.take_length] at hw
    rw [F49_L0, if_neg (by simp), hw]
  | succ j ih =>
    intro fuel i w hi hf hw
    obtain ⟨f, rfl⟩ : ∃ f, fuel = f + 1 := ⟨fuel - 1, by omega⟩
    have hlt : i < a.l.length := by omega
    have e1 : Sl.at? a (i : Int) = some (a.l[i]) := by rw [Sl.at?_nat, List.getElem?_eq_getElem hlt]
    have hbi := hb (a.l[i]) (List.getElem_mem hlt)
    have ht : a.l.take (i + 1) = a.l.take i ++ [a.l[i]] := by rw [List.take_add_one, List.getElem?_eq_getElem hlt]; rfl
    have hw2 : w.length ≤ 306 * 30 := by
      have := recs_len (l := a.l.take i) fun b hb' => hb b (List.mem_of_mem_take hb')
      rw [hw]; rw [List.length_take] at this; omega
    have e2 : Str.put? w (hdr a.l[i] ++ a.l[i]) = some (w ++ (hdr a.l[i] ++ a.l[i])) := by
      unfold Str.put?
      rw [if_pos (by rw [List.length_append, hdr_len]; omega)]
    rw [F49_L0, if_pos (by simp; omega), bnd e1, bnd (F95_eq k _ (by omega) (by omega)), bnd e2, ad_nat (by omega)]
    refine ih f (i + 1) _ (by omega) (by omega) ?_
    rw [ht, recs_append, hw, recs, recs, List.append_nil]; rfl
theorem F49_eq (k : Nat) (a : Sl Str) (hk : 400 ≤ k) (hb : ∀ b ∈ a.l, b.length ≤ 300) (hn : a.l.length ≤ 30) : F49 k a = some (recs a.l) := by
  unfold F49
  have := f25L k a hk hb hn a.l.length k 0 [] (by omega) (by omega) rfl
  rw [show ((0 : Nat) : Int) = 0 from rfl] at this
  rw [Sl.len_nat, bnd this]
structure DIs (d : Dsk) (kept now : Mp Str) (pend : List DOp) (left : Int) : Prop where
  room : d.room = 1000000
  kept : d.kept = kept
  now : d.now = now
  pend : d.pend = pend
  left : d.left = left
theorem get_one (n s : Str) : Mp.get? [(n, s)] n = some s := by simp [Mp.get?]
theorem put_one (n s x : Str) : Mp.put [(n, s)] n x = [(n, x)] := by simp [Mp.put]
def One (n : Str) (m : Mp Str) (s : Str) : Prop := (m = [] ∧ s = []) ∨ m = [(n, s)]
theorem One.get {n s : Str} {m : Mp Str} (h : One n m s) : (Mp.get? m n).getD [] = s := by
  rcases h with ⟨rfl, rfl⟩ | rfl
  · rfl
  · rw [get_one]; rfl
theorem One.put {n s : Str} {m : Mp Str} (h : One n m s) (x : Str) : Mp.put m n x = [(n, x)] := by
  rcases h with ⟨rfl, rfl⟩ | rfl
  · rfl
  · exact put_one ..
theorem One.len {n s : Str} {m : Mp Str} (h : One n m s) : m.length ≤ 1 := by
  rcases h with ⟨rfl, rfl⟩ | rfl <;> simp
theorem total_one {d : Dsk} {n s x : Str} (h : One n d.now s) (hx : x.length ≤ 1000000000) (hs : s.length ≤ 1000000000) : d.total n x = (x.length : Int) := by
  unfold Dsk.total
  rw [h.get]
  rcases h with ⟨h1, rfl⟩ | h1
  · rw [h1]
    show sb .i64 (Str.len x) (Str.len []) = _
    rw [Str.len_nat, Str.len_nat, sb64 (by simp; omega)]; simp
  · rw [h1]
    show ad .i64 (sb .i64 (Str.len x) (Str.len s)) (Str.len s) = _
    rw [Str.len_nat, Str.len_nat, sb64 (by omega), ad64 (by omega)]; omega
theorem write_ok {d : Dsk} {n s x : Str} {y : DOp} (h : One n d.now s) (h0 : (d.left == 0) = false) (hr : d.room = 1000000) (hx : x.length ≤ 1000000) (hs : s.length ≤ 1000000) :
    d.write n x y = (({ d with now := [(n, x)], pend := d.pend ++ [y] } : Dsk).step, 0) := by
  unfold Dsk.write
  rw [h0, if_neg (by decide), total_one h (by omega) (by omega), hr, if_neg (by simp; omega), h.put]
def dn (l : Int) : Int := if decide (l > 0) then sb .i64 l 1 else l
theorem step_is {d : Dsk} {kept now : Mp Str} {pend : List DOp} {l : Int} (h1 : d.room = 1000000) (h2 : d.kept = kept) (h3 : d.now = now) (h4 : d.pend = pend) (h5 : d.left = l) : DIs d.step kept now pend (dn l) := by
  subst h5
  exact ⟨h1, h2, h3, h4, rfl⟩
theorem write_is {d : Dsk} {kept now : Mp Str} {pend : List DOp} {l : Int} {n s x : Str} (y : DOp) (h : DIs d kept now pend l) (hn : One n now s) (h0 : (l == 0) = false) (hx : x.length ≤ 1000000) (hs : s.length ≤ 1000000) :
    ∃ q, d.write n x y = (q, 0) ∧ DIs q kept [(n, x)] (pend ++ [y]) (dn l) := by
  have hn' : One n d.now s := by rw [h.now]; exact hn
  exact ⟨_, write_ok (y := y) hn' (by rw [h.left]; exact h0) h.room hx hs, step_is h.room h.kept rfl (by rw [← h.pend]) h.left⟩
theorem sync_is {q : Dsk} {kept : Mp Str} {pend : List DOp} {l : Int} {n x s' : Str} (h : DIs q kept [(n, x)] pend l) (hk : One n kept s') (h0 : (l == 0) = false) : ∃ q', q.sync n = (q', 0) ∧ DIs q' [(n, x)] [(n, x)] [] (dn l) := by
  unfold Dsk.sync
  rw [h.left, h0, if_neg (by decide), h.now, get_one]
  exact ⟨_, rfl, step_is h.room (by show Mp.put q.kept n x = _; rw [h.kept]; exact hk.put _) rfl rfl rfl⟩
/-- Written, and synced. -/
theorem wal_is {d : Dsk} {kept now : Mp Str} {n s s' p : Str} (h : DIs d kept now [] (-1)) (hn : One n now s) (hk : One n kept s') (hx : s.length + p.length ≤ 1000000) :
    ∃ q, d.wal n p = (q, 0) ∧ DIs q [(n, s ++ p)] [(n, s ++ p)] [] (-1) := by
  have hn' : One n d.now s := by rw [h.now]; exact hn
  obtain ⟨q, e1, h2⟩ := write_is (x := s ++ p) ⟨n, p, false⟩ h hn rfl (by rw [List.length_append]; omega) (by omega)
  obtain ⟨q', e2, h3⟩ := sync_is h2 hk rfl
  refine ⟨q', ?_, h3⟩
  unfold Dsk.wal
  rw [hn'.get, e1, if_neg (by show ¬ ((0 : Int) != 0) = true; decide)]
  exact e2
end Go.Proofs.YtecimmaoilignaaGreatDoor.M.L
