/- Filters: one without kids is read back. -/
import Derived.Test.YthkjepoaddfoiaaFilX
namespace Go.Proofs.Ythkjepoaddfoiaa.M
open Go Go.Pam
set_option maxRecDepth 20000
set_option linter.unusedVariables false
set_option linter.unusedSimpArgs false

theorem At.byte {r : Rd} {c : UInt8} {p : Str} (h : At r (c :: p)) : byteR r (c.toNat : Int) = M.fwd r 1 := by
 have hl := h.len (by simp)
 simp only [List.length_cons] at hl
 unfold byteR
 have hc : (M.nx r != (c.toNat : Int) || decide (r.at_ ≥ Str.len r.s_)) = false := by
  rw [h.nx, bne_self_eq_false, Bool.false_or, decide_eq_false_iff_not]; simp only [Str.len]; omega
 rw [hc, if_neg (by simp), h.ok]
 rfl

theorem f39b {k : Nat} {r : Rd} {c : UInt8} {p : Str} (h : At r (c :: p)) (hs : r.s_.length ≤ 160000) : F39 k r (c.toNat : Int) = some (fwd r 1) := by
 have hl := h.len (by simp)
 simp only [List.length_cons] at hl
 rw [f39 k (h.okr (by omega)) hs, h.byte]

theorem f41A (k : Nat) (x : Int) (b : Fil) : ∀ (a : Str) (n : Nat) (r : Rd) (c : UInt8) (rest : Str), At r (a ++ c :: rest) → (∀ d ∈ a, tyByte (d.toNat : Int) = true) → tyByte (c.toNat : Int) = false → r.s_.length ≤ 160000 → a.length < n →
  F41_L0 k x b n (nx r) r = some ((c.toNat : Int), fwd r a.length)
 | a, 0, r, c, rest, _, _, _, _, hn => by omega
 | [], n + 1, r, c, rest, h, _, hc, _, _ => by
  have h0 : At r (c :: rest) := h
  rw [h0.nx, F41_L0]
  rw [show (((((decide ((c.toNat : Int) ≥ 97)) && (decide ((c.toNat : Int) ≤ 122))) || ((decide ((c.toNat : Int) ≥ 48)) && (decide ((c.toNat : Int) ≤ 57)))) || ((c.toNat : Int) == 45))) = false from hc, if_neg (by simp), List.length_nil, fwd_zero h.ok]
 | d :: a, n + 1, r, c, rest, h, ha, hc, hs, hn => by
  have h0 : At r (d :: (a ++ c :: rest)) := h
  have hl := h0.len (by simp)
  simp only [List.length_cons, List.length_append] at hl
  have hlo := h.lo
  have h1 : At (fwd r 1) (a ++ c :: rest) := At.fwd (p := [d]) h0
  have hd := ha d List.mem_cons_self
  have a1 : ad .i64 r.at_ 1 = r.at_ + 1 := ad64 (by omega)
  have he : (⟨r.s_, r.at_ + 1, r.left, r.fails⟩ : Rd) = fwd r 1 := by rw [h.ok]; rfl
  rw [h0.nx, F41_L0, show (((((decide ((d.toNat : Int) ≥ 97)) && (decide ((d.toNat : Int) ≤ 122))) || ((decide ((d.toNat : Int) ≥ 48)) && (decide ((d.toNat : Int) ≤ 57)))) || ((d.toNat : Int) == 45))) = true from hd, if_pos rfl, a1, he, bnd (f40 k (h1.okr (show r.at_ + ((1 : Nat) : Int) ≤ (r.s_.length : Int) by omega))),
   f41A k x b a n (fwd r 1) c rest h1 (fun d' hd' => ha d' (List.mem_cons_of_mem _ hd')) hc hs (by simp only [List.length_cons] at hn; omega), fwd_fwd, List.length_cons, Nat.add_comm 1]

theorem sub_at {r : Rd} {a p : Str} (h : At r (a ++ p)) (hle : r.at_ + (a.length : Int) ≤ (r.s_.length : Int)) : Str.sub? r.s_ (imin r.at_ (r.at_ + (a.length : Int))) (r.at_ + (a.length : Int)) = some a := by
 have h0 := h.lo
 have hm : imin r.at_ (r.at_ + (a.length : Int)) = r.at_ := by unfold imin; split <;> omega
 rw [hm]
 unfold Str.sub?
 rw [if_pos ⟨h0, by omega, hle⟩]
 congr 1
 have : (r.at_ + (a.length : Int)).toNat = r.at_.toNat + a.length := by omega
 rw [this, List.drop_take, Nat.add_sub_cancel_left, h.dr, List.take_left]

theorem tail_next (l : List Str) (rest : Str) : ∃ (t : UInt8) (p : Str), Lib.joinTail [42] l ++ 41 :: rest = t :: p ∧ (t = 42 ∨ t = 40 ∨ t = 41) := by
 cases l with
 | nil => exact ⟨41, rest, rfl, .inr (.inr rfl)⟩
 | cons a r => exact ⟨42, _, rfl, .inl rfl⟩

theorem f41P (k : Nat) (hk : 160100 ≤ k) (a : Fil) : ∀ (l : List Str) (n : Nat) (b : Fil) (r : Rd) (rest : Str), At r (Lib.joinTail [42] (l.map escS) ++ 41 :: rest) → (∀ v ∈ l, v.length ≤ 1000) → r.s_.length ≤ 160000 → l.length < n → (Sl.l b.Subs).length + l.length ≤ 100 →
  ∃ z, F41_L3 k a n b r = some (⟨b.Kind, b.Attr, b.Value, z, b.Kids⟩, fwd r (Lib.joinTail [42] (l.map escS)).length) ∧ Sl.l z = Sl.l b.Subs ++ l
 | l, 0, b, r, rest, _, _, _, hn, _ => by omega
 | [], n + 1, b, r, rest, h, _, hs, _, _ => by
  have h0 : At r (41 :: rest) := h
  have hl := h0.len (by simp)
  simp only [List.length_cons] at hl
  refine ⟨b.Subs, ?_, by simp⟩
  rw [F41_L3, bnd (f40 k (h0.okr (by omega))), h0.nx, if_neg (by decide)]
  rw [show (Lib.joinTail [42] (([] : List Str).map escS)).length = 0 from rfl, fwd_zero h.ok]; cases b; rfl
 | v :: l, n + 1, b, r, rest, h, hv, hs, hn, hb => by
  have hj : Lib.joinTail [42] ((v :: l).map escS) = [42] ++ escS v ++ Lib.joinTail [42] (l.map escS) := rfl
  rw [hj, List.append_assoc] at h
  have h0 : At r (42 :: (escS v ++ (Lib.joinTail [42] (l.map escS) ++ 41 :: rest))) := by rw [List.append_assoc] at h; exact h
  have hl := h0.len (by simp)
  simp only [List.length_cons] at hl
  have hlo := h.lo
  have h1 : At (fwd r 1) (escS v ++ (Lib.joinTail [42] (l.map escS) ++ 41 :: rest)) := At.fwd (p := [42]) h0
  have h2 := h1.fwd
  obtain ⟨t, p, e1, e2⟩ := tail_next (l.map escS) rest
  have h1' : At (fwd r 1) (escS v ++ t :: p) := by rw [e1] at h1; exact h1
  have a1 : ad .i64 r.at_ 1 = r.at_ + 1 := ad64 (by omega)
  have he : (⟨r.s_, r.at_ + 1, r.left, r.fails⟩ : Rd) = fwd r 1 := by rw [h.ok]; rfl
  obtain ⟨z, z1, z2⟩ := Sl.app?_l (α := Str) (bytes := 16) (x := b.Subs) (ys := [v]) (by simp; omega)
  obtain ⟨z', c1, c2⟩ := f41P k hk a l n ⟨b.Kind, b.Attr, b.Value, z, b.Kids⟩ (fwd (fwd r 1) (escS v).length) rest h2 (fun u hu => hv u (List.mem_cons_of_mem _ hu)) hs (by simp only [List.length_cons] at hn; omega) (by show (Sl.l z).length + _ ≤ _; rw [z2]; simp only [List.length_append, List.length_cons, List.length_nil] at hb ⊢; omega)
  refine ⟨z', ?_, by rw [c2]; show Sl.l z ++ l = _; rw [z2, List.append_assoc]; rfl⟩
  rw [F41_L3, bnd (f40 k (h0.okr (by omega))), h0.nx, if_pos (by decide), a1, he, bnd (f46b h1' e2 hs (hv v List.mem_cons_self) hk), Sl.l_some]
  simp only
  rw [bnd z1, c1, fwd_fwd, fwd_fwd, hj]
  simp only [List.length_append, List.length_cons, List.length_nil]
  rw [show 0 + 1 + (escS v).length + (Lib.joinTail [42] (l.map escS)).length = 1 + ((escS v).length + (Lib.joinTail [42] (l.map escS)).length) by omega]

def bodyS (f : Fil) : Str :=
 if f.Kind = 7 then f.Attr ++ [61, 42] else if f.Kind = 8 then f.Attr ++ [61] ++ Lib.join ((Sl.l f.Subs).map escS) [42] else f.Attr ++ signI f.Kind ++ escS f.Value

theorem f41H {k : Nat} (hk : 160100 ≤ k) {r : Rd} {a sg p : Str} (ha : isTy a = true) (h : At r (a ++ (sg ++ p))) (hs : r.s_.length ≤ 160000) (kd : Int) (hsg : (kd = 4 ∧ sg = [61]) ∨ (kd = 5 ∧ sg = [62, 61]) ∨ (kd = 6 ∧ sg = [60, 61])) (hp : p ≠ []) :
  F41 k r = Option.bind (F46 k (fwd r (a.length + sg.length))) fun y96 =>
   Option.bind (if kd != 4 then some true else Option.bind (F40 k y96.1 ) fun y102 => some (y102 != 42)) fun y101 =>
   if y101 then some (y96.1, (Api_Filter.mk kd a y96.2 none none)) else
   Option.bind (F41_L3 k (Api_Filter.mk 0 [] [] none none) k (Api_Filter.mk kd a [] (some [y96.2]) none) y96.1) fun y172 =>
   Option.bind (if (Sl.len y172.1.Subs) == 2 then Option.bind (Sl.at? y172.1.Subs 0) fun y180 => some (y180 == []) else some false) fun y179 =>
   Option.bind (if y179 then Option.bind (Sl.at? y172.1.Subs 1) fun y187 => some (y187 == []) else some false) fun y186 =>
   Option.bind (if y186 then some (Api_Filter.mk 7 y172.1.Attr y172.1.Value none y172.1.Kids) else some (Api_Filter.mk 8 y172.1.Attr y172.1.Value y172.1.Subs y172.1.Kids)) fun y191 =>
   some (y172.2, y191) := by
 have hty : ∀ d ∈ a, tyByte (d.toNat : Int) = true := by
  cases a with
  | nil => cases ha
  | cons c0 r0 =>
   simp only [isTy, Bool.and_eq_true] at ha
   exact List.all_eq_true.1 ha.2
 have hal := isTy_len ha
 have hlen := h.len (by intro h0; cases a with
  | nil => cases ha
  | cons c0 r0 => cases h0)
 have hppos := List.length_pos_iff.2 hp
 simp only [List.length_append] at hlen
 have hlo := h.lo
 have hA := h.fwd
 obtain ⟨c, sg', hsc, hcty⟩ : ∃ c sg', sg = c :: sg' ∧ tyByte (c.toNat : Int) = false := by
  rcases hsg with ⟨_, rfl⟩ | ⟨_, rfl⟩ | ⟨_, rfl⟩
  ·exact ⟨61, [], rfl, by decide⟩
  ·exact ⟨62, [61], rfl, by decide⟩
  ·exact ⟨60, [61], rfl, by decide⟩
 have h' : At r (a ++ c :: (sg' ++ p)) := by rw [hsc] at h; exact h
 have hL := f41A k r.at_ (Api_Filter.mk 0 [] [] none none) a k r c (sg' ++ p) h' hty hcty hs (by omega)
 have hsub := sub_at h (by omega)
 have hok := h.okr (by omega)
 have hA' : At (fwd r a.length) (c :: (sg' ++ p)) := by rw [hsc] at hA; exact hA
 have hlenA := hA'.len (by simp)
 simp only [List.length_cons, List.length_append] at hlenA
 have hokA := hA'.okr (by omega)
 unfold F41
 rw [bnd (f40 k hok), bnd hL]
 simp only
 have hsub' : Str.sub? (fwd r a.length).s_ (imin r.at_ (fwd r a.length).at_) (fwd r a.length).at_ = some a := hsub
 rw [bnd hsub', bnd (f40 k hokA), hA'.nx]
 have hadA : ad .i64 (fwd r a.length).at_ 1 = (fwd r a.length).at_ + 1 := ad64 (by have : (fwd r a.length).at_ = r.at_ + (a.length : Int) := rfl; omega)
 have heA : (⟨(fwd r a.length).s_, (fwd r a.length).at_ + 1, (fwd r a.length).left, (fwd r a.length).fails⟩ : Rd) = fwd (fwd r a.length) 1 := rfl
 rcases hsg with ⟨rfl, rfl⟩ | ⟨rfl, rfl⟩ | ⟨rfl, rfl⟩
 ·injection hsc with hc hsg'
  subst hc hsg'
  rw [if_neg (by decide), if_neg (by decide)]
  simp only [Option.bind_some]
  have hb : F39 k (fwd r a.length) 61 = some (fwd (fwd r a.length) 1) := f39b (c := 61) hA' hs
  rw [bnd hb, fwd_fwd]
  rfl
 ·injection hsc with hc hsg'
  subst hc hsg'
  rw [if_pos (by decide), hadA, heA]
  simp only [Option.bind_some]
  have hA2 : At (fwd (fwd r a.length) 1) (61 :: p) := At.fwd (p := [62]) hA'
  have hb : F39 k (fwd (fwd r a.length) 1) 61 = some (fwd (fwd (fwd r a.length) 1) 1) := f39b (c := 61) hA2 hs
  rw [bnd hb, fwd_fwd, fwd_fwd]
  rfl
 ·injection hsc with hc hsg'
  subst hc hsg'
  rw [if_neg (by decide), if_pos (by decide), hadA, heA]
  simp only [Option.bind_some]
  have hA2 : At (fwd (fwd r a.length) 1) (61 :: p) := At.fwd (p := [60]) hA'
  have hb : F39 k (fwd (fwd r a.length) 1) 61 = some (fwd (fwd (fwd r a.length) 1) 1) := f39b (c := 61) hA2 hs
  rw [bnd hb, fwd_fwd, fwd_fwd]
  rfl
end Go.Proofs.Ythkjepoaddfoiaa.M
