/- What the disk does with one file: plain laws. -/
import Derived.Test.YtfpgfgpbjadoaaaDK4
import Derived.Test.YtfpgfgpbjadoaaaPamM3
namespace Go.Proofs.Ytfpgfgpbjadoaaa.M
set_option linter.unusedVariables false
set_option linter.unusedSimpArgs false
open Go Go.Pam
set_option maxRecDepth 4000
/-- The power is on. -/
structure DIs (d : Dsk) (room : Int) (kept now : Mp Str) (pend : List DOp) (steps : Nat) : Prop where
  room : d.room = room
  kept : d.kept = kept
  now : d.now = now
  pend : d.pend = pend
  steps : d.steps = steps
  left : d.left = -1
theorem get_one (n s : Str) : Mp.get? [(n, s)] n = some s := by simp [Mp.get?]
theorem put_one (n s x : Str) : Mp.put [(n, s)] n x = [(n, x)] := by simp [Mp.put]
def One (n : Str) (m : Mp Str) (s : Str) : Prop := (m = [] ∧ s = []) ∨ m = [(n, s)]
theorem One.get {n s : Str} {m : Mp Str} (h : One n m s) : (Mp.get? m n).getD [] = s := by
  rcases h with ⟨rfl, rfl⟩ | rfl
  · rfl
  · rw [get_one]; rfl
theorem One.put {n s : Str} {m : Mp Str} (h : One n m s) (x : Str) : Mp.put m n x = [(n, x)] := by
  rcases h with ⟨rfl, rfl⟩ | rfl
  · rfl
  · exact put_one ..
theorem One.len {n s : Str} {m : Mp Str} (h : One n m s) : m.length ≤ 1 := by
  rcases h with ⟨rfl, rfl⟩ | rfl <;> simp
theorem total_one {d : Dsk} {n s x : Str} (h : One n d.now s) (hx : x.length ≤ 1000000000) (hs : s.length ≤ 1000000000) : d.total n x = (x.length : Int) := by
  unfold Dsk.total
  rw [h.get]
  rcases h with ⟨h1, rfl⟩ | h1
  · rw [h1]
    show sb .i64 (Str.len x) (Str.len []) = _
    rw [Str.len_nat, Str.len_nat, sb64 (by simp; omega)]; simp
  · rw [h1]
    show ad .i64 (sb .i64 (Str.len x) (Str.len s)) (Str.len s) = _
    rw [Str.len_nat, Str.len_nat, sb64 (by omega), ad64 (by omega)]; omega
theorem step_is {d : Dsk} {room : Int} {kept now : Mp Str} {pend : List DOp} {k : Nat} (h1 : d.room = room) (h2 : d.kept = kept) (h3 : d.now = now) (h4 : d.pend = pend) (h5 : d.steps = k) (h6 : d.left = -1) (hk : k < 1000000) : DIs d.step room kept now pend (k + 1) := by
  refine ⟨h1, h2, h3, h4, ?_, ?_⟩
  · show ad .i64 d.steps 1 = _
    rw [h5]; exact ad_nat (by omega)
  · show (if decide (d.left > 0) then sb .i64 d.left 1 else d.left) = -1
    rw [h6]; rfl
theorem write_is {d : Dsk} {room : Int} {kept now : Mp Str} {pend : List DOp} {k : Nat} {n s x : Str} (y : DOp) (h : DIs d room kept now pend k) (hn : One n now s) (hx : (x.length : Int) ≤ room) (hr : room ≤ 1000000) (hs : s.length ≤ 1000000) (hk : k < 1000000) :
    ∃ q, d.write n x y = (q, 0) ∧ DIs q room kept [(n, x)] (pend ++ [y]) (k + 1) := by
  have hn' : One n d.now s := by rw [h.now]; exact hn
  refine ⟨_, ?_, step_is (d := { d with now := [(n, x)], pend := d.pend ++ [y] }) h.room h.kept rfl (by rw [← h.pend]) h.steps h.left hk⟩
  unfold Dsk.write
  rw [h.left, if_neg (by decide), total_one hn' (by omega) (by omega), h.room, if_neg (by simp; omega), hn'.put]
theorem sync_is {q : Dsk} {room : Int} {kept : Mp Str} {pend : List DOp} {k : Nat} {n x s' : Str} (h : DIs q room kept [(n, x)] pend k) (hk : One n kept s') (hk2 : k < 1000000) : ∃ q', q.sync n = (q', 0) ∧ DIs q' room [(n, x)] [(n, x)] [] (k + 1) := by
  unfold Dsk.sync
  rw [h.left, if_neg (by decide), h.now, get_one]
  exact ⟨_, rfl, step_is h.room (by show Mp.put q.kept n x = _; rw [h.kept]; exact hk.put _) rfl rfl h.steps rfl hk2⟩
theorem crash_room {d : Dsk} {room : Int} {kept now r : Mp Str} {pend : List DOp} {k : Nat} {keep : Int} (h : DIs d room kept now pend k) (e : crashL keep pend 0 kept [] = r) : DIs (d.crash keep) room r r [] k := by
  have e' : crashL keep d.pend 0 d.kept [] = r := by rw [h.pend, h.kept]; exact e
  exact ⟨h.room, e', e', rfl, h.steps, rfl⟩
abbrev FF : Str := [102]
abbrev opA (b : Str) : DOp := ⟨FF, b, false⟩
def cat : List Str → Str
  | [] => []
  | b :: l => b ++ cat l
theorem cat_append : ∀ l m : List Str, cat (l ++ m) = cat l ++ cat m
  | [], _ => rfl
  | b :: l, m => by simp [cat, cat_append l m]
theorem cat_len {l : List Str} {n : Nat} (h : ∀ b ∈ l, b.length ≤ n) : (cat l).length ≤ n * l.length := by
  induction l with
  | nil => simp [cat]
  | cons b l ih =>
    have h1 := h b (List.mem_cons_self ..)
    have h2 := ih fun c hc => h c (List.mem_cons_of_mem _ hc)
    rw [cat, List.length_append, List.length_cons, Nat.mul_add]; omega
theorem crash1_no {keep : Int} {i : Nat} {y : DOp} {kept : Mp Str} : crash1 keep i y kept true = kept := by unfold crash1; rw [if_pos rfl]
/-- Behind the first that is not whole nothing comes. -/
theorem crash_stuck {keep : Int} : ∀ (l : List Str) (i : Nat) (kept : Mp Str) (st : Mp Bool), Mp.get? st FF = some true → crashL keep (l.map opA) i kept st = kept
  | [], _, _, _, _ => rfl
  | b :: l, i, kept, st, h => by
    show crashL keep (l.map opA) (i + 1) (crash1 keep i (opA b) kept ((Mp.get? st FF).getD false)) (Mp.put st FF (((Mp.get? st FF).getD false) || !bitK keep i)) = kept
    rw [h]
    show crashL keep (l.map opA) (i + 1) (crash1 keep i (opA b) kept true) _ = kept
    rw [crash1_no]
    exact crash_stuck l (i + 1) kept _ (by rw [Mp.get?_put]; simp)
/-- Of what was appended a beginning. -/
theorem crash_pre {keep : Int} : ∀ (l : List Str) (i : Nat) (kept : Mp Str) (st : Mp Bool) (s : Str), One FF kept s → (Mp.get? st FF).getD false = false →
    ∃ c, One FF (crashL keep (l.map opA) i kept st) (s ++ (cat l).take c) ∧ (kept = [(FF, s)] → crashL keep (l.map opA) i kept st = [(FF, s ++ (cat l).take c)])
  | [], _, kept, _, s, h, _ => ⟨0, by rw [List.take_zero, List.append_nil]; exact h, fun e => by rw [List.take_zero, List.append_nil]; exact e⟩
  | b :: l, i, kept, st, s, h, hst => by
    have e : crashL keep ((b :: l).map opA) i kept st = crashL keep (l.map opA) (i + 1) (crash1 keep i (opA b) kept ((Mp.get? st FF).getD false)) (Mp.put st FF (((Mp.get? st FF).getD false) || !bitK keep i)) := rfl
    rw [e, hst, Bool.false_or]
    by_cases hb : bitK keep i = true
    · have e1 : crash1 keep i (opA b) kept false = [(FF, s ++ b)] := by
        unfold crash1
        rw [if_neg (by decide), hb, if_neg (by show ¬ (true && false) = true; decide), if_pos rfl, h.get, h.put]
      rw [e1, hb]
      obtain ⟨c, h1, h2⟩ := crash_pre l (i + 1) [(FF, s ++ b)] (Mp.put st FF (!true)) (s ++ b) (.inr rfl) (by rw [Mp.get?_put]; simp)
      have e2 : s ++ (cat (b :: l)).take (b.length + c) = s ++ b ++ (cat l).take c := by
        rw [cat, List.take_length_add_append, List.append_assoc]
      exact ⟨b.length + c, by rw [e2]; exact h1, fun _ => by rw [e2]; exact h2 rfl⟩
    · have hb : bitK keep i = false := by simpa using hb
      rw [hb, crash_stuck l _ _ _ (by rw [Mp.get?_put]; simp)]
      refine ⟨b.length / 2, ?_⟩
      have e2 : (cat (b :: l)).take (b.length / 2) = b.take (b.length / 2) := by
        rw [cat, List.take_append_of_le_length (by omega)]
      rw [e2]
      unfold crash1
      rw [if_neg (by decide), hb, if_neg (by show ¬ (false && false) = true; decide), if_neg (by decide), h.get]
      show One FF (if (!false && (b.take (b.length / 2) != [])) = true then Mp.put kept FF (s ++ b.take (b.length / 2)) else kept) _ ∧ (_ → (if (!false && (b.take (b.length / 2) != [])) = true then Mp.put kept FF (s ++ b.take (b.length / 2)) else kept) = _)
      by_cases hh : b.take (b.length / 2) = []
      · rw [hh, if_neg (by decide), List.append_nil]
        exact ⟨h, id⟩
      · rw [if_pos (by simpa using hh), h.put]
        exact ⟨.inr rfl, fun _ => rfl⟩
end Go.Proofs.Ytfpgfgpbjadoaaa.M
