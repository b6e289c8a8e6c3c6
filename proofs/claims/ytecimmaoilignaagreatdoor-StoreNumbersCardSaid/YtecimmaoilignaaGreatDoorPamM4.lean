/- The abstract machine and its soundness, part 4. -/
import Derived.Shelf.Strings.BuilderK
import Derived.Shelf.Strings.OnBuilder
import Derived.Lib.Bytealg
import Derived.Test.YtecimmaoilignaaGreatDoorPamM1
import Derived.Test.YtecimmaoilignaaGreatDoorPamM2
import Derived.Test.YtecimmaoilignaaGreatDoorPamM3
set_option linter.unusedVariables false
set_option linter.unusedSimpArgs false
namespace Go.Pam
open Go.RowKit Go.Shelf Go.Lib Go.Proofs
section
variable {P : Program} (w : World)
theorem run_append_str_at (base : Nat) (t u ty e : TypeId) (i : TypeInfo) (ht : P.underlying t = some (.slice e)) (hu : P.underlying u = some .string) (hi : P.info? e = some i) (hz : i.zero = some (.int .u8 0))
  (hsize : i.size = 1) (hby : i.bytes = 1)
  (v : Value) (n : Nat) (xs : List Value) (hown : w.ownsRow base e 1 v n xs) (s : ByteArray)
  (h63 : n + s.size ≤ maxLen) (hbytes : n + s.size ≤ 140737488355328) (hbase : base ≤ w.heap.size) :
  ∃ v' w', (Builtin.append_ #[t, u] ty #[v, .string s]).run P w = .ok v' w' ∧ w'.ownsRow base e 1 v' (n + s.size) (xs ++ strCells s) ∧ w.grownBy w' v.ownBlock ∧
   (v' = .slice none 0 0 ↔ v = .slice none 0 0 ∧ s.size = 0) ∧ (v'.ownBlock = v.ownBlock ∨ ∃ q, v'.ownBlock = some q ∧ w.heap.size ≤ q) := by
 rcases hown.2 with ⟨rfl, rfl⟩ | ⟨g, cap, cur, rfl, hbg, hg, hnc, hcm, hcs, htake⟩
 ·obtain ⟨v', w', h1, h2, h3, h4⟩ := run_append_own_string (P := P) w w.heap.size t u ty e i ht hu hi hz hsize hby (.slice none 0 0) 0 xs ⟨hown.1, .inl ⟨rfl, rfl⟩⟩ s h63 hbytes (Nat.le_refl _)
  refine ⟨v', w', h1, ⟨h2.1, ?_⟩, h3, h4, ?_⟩
  ·rcases h2.2 with h | ⟨g, cap, cur, k1, k2, k3⟩
   ·exact .inl h
   ·exact .inr ⟨g, cap, cur, k1, by omega, k3⟩
  ·rcases h2.2 with ⟨h, _⟩ | ⟨g, cap, cur, k1, k2, k3⟩
   ·exact .inl (by rw [h])
   ·exact .inr ⟨g, by rw [k1]; rfl, k2⟩
 ·have hsmall : n + s.size ≤ 9223372036854775807 := by simp only [maxLen] at h63; omega
  have hxl : xs.length = n := by simpa using hown.1
  have hlen : (xs ++ strCells s).length = (n + s.size) * 1 := by rw [List.length_append, hxl, strCells_length, Nat.mul_one]
  by_cases hroom : n + s.size ≤ cap
  ·have hcs' : cur.size = cap := by simpa using hcs
   have hr := run_append_room_stringF (P := P) w t u ty e i ht hu hi hsize g n cap cur (0, 0) hg (by simp) s hroom (by omega)
   refine ⟨_, _, hr, ⟨hlen, .inr ⟨g, cap, _, rfl, hbg, setRow_heap w g cur _ e _ hg, hroom, hcm, ?_, ?_⟩⟩, ⟨rfl, rfl, rfl, by simp, fun k _ hk => setRow_other w g k _ (fun e => hk (by simp [Value.ownBlock, e]))⟩, by simp, .inl rfl⟩
   ·simp only [List.size_toArray, List.length_append, List.length_take, List.length_drop, Array.length_toList, strCells_length]
    omega
   ·have ht' : cur.toList.take n = xs := by simpa using htake
    rw [ht', ← hlen]
    exact List.take_left
  ·have holds : ∀ j u, xs[j]? = some u → w.cell? ((⟨g, 0, none⟩ : Addr).add j) = some u := hown.cells (g := g) rfl
   have hr := run_append_grow_string (P := P) w t u ty e i (.int .u8 0) ht hu hi hz ⟨g, 0, none⟩ n cap xs (by rw [hsize]; simpa using hxl) holds s (by omega) (by omega) (by rw [hby]; exact growslice_fits (by omega) (by omega))
   have hge := grownCap_ge w (n + s.size) cap e
   have hcm2 : grownCap w (n + s.size) cap e ≤ maxLen := grownCap_le_maxLen w (n + s.size) cap e h63
   refine ⟨_, _, hr, ⟨hlen, .inr ⟨w.heap.size, _, _, rfl, hbase, heap_alloc_new w.drew _, hge, hcm2, ?_, ?_⟩⟩, ⟨rfl, rfl, rfl, by simp, fun k hk _ => Lib.alloc_old w.drew _ k hk⟩, by simp, .inr ⟨w.heap.size, rfl, Nat.le_refl _⟩⟩
   ·have hz1 : (Value.int IntKind.u8 0).cells.size = 1 := rfl
    simp only [Array.size_append, List.size_toArray, size_zeroCells, hz1, hxl, strCells_length]
    omega
   ·simp only [Array.toList_append, List.append_assoc]
    rw [← List.append_assoc, ← hlen]
    exact List.take_left
theorem wpList_append_str_at {ops : Array Oper} {rest : List Oper} {o : Oper} {a : Act} {Q : Exit → Act → World → Prop} (hgd : o.guard = none) (sl x : Operand) (t u : TypeId)
  (ho : o.op = .call { callee := .builtin .append, args := #[sl, x], argTypes := #[t, u] })
  (base : Nat) (e : TypeId) (i : TypeInfo) (ht : P.underlying t = some (.slice e)) (hu : P.underlying u = some .string) (hi : P.info? e = some i) (hz : i.zero = some (.int .u8 0))
  (hsize : i.size = 1) (hby : i.bytes = 1)
  (v : Value) (n : Nat) (xs : List Value) (hs : a.eval sl = v) (hown : w.ownsRow base e 1 v n xs) (s : ByteArray) (hx : a.eval x = .string s)
  (h63 : n + s.size ≤ maxLen) (hbytes : n + s.size ≤ 140737488355328) (hbase : base ≤ w.heap.size)
  (h : ∀ v' w', w'.ownsRow base e 1 v' (n + s.size) (xs ++ strCells s) → w.grownBy w' v.ownBlock → (v' = .slice none 0 0 ↔ v = .slice none 0 0 ∧ s.size = 0) → (v'.ownBlock = v.ownBlock ∨ ∃ q, v'.ownBlock = some q ∧ w.heap.size ≤ q) → wpList P ops Q rest (a.put o.dst v') w') : wpList P ops Q (o :: rest) a w := by
 refine wpList_plain hgd fun K hK => ?_
 obtain ⟨v', w', hr, h2, h3, h4, h5⟩ := run_append_str_at (P := P) w base t u o.type e i ht hu hi hz hsize hby v n xs hown s h63 hbytes hbase
 unfold Oper.wp execOp
 simp only [ho, resolve, invoke, builtin, Sem.run_bind, Sem.run_pure, Result.andThen_ok, List.map_toArray, List.map_cons, List.map_nil, hs, hx, hr]
 exact hK _ _ (h v' w' h2 h3 h4 h5)
end
def Checked (T : TypeId) (b : Nat) (v : Value) (w w' : World) : Prop :=
 w'.heap[b]? = some (.cells #[.pointer (some ⟨b, 0, none⟩), v] T (0, 0)) ∧ (∀ k, k ≠ b → w'.heap[k]? = w.heap[k]?) ∧ w'.heap.size = w.heap.size ∧ w'.os = w.os ∧ w'.tape = w.tape ∧ w'.output = w.output
section
variable {P : Program} {ρ : Ren}
theorem copyCheck_x (L : Lays.n240 P ρ) (X : Builder.X72 P ρ) (b : Nat) (p v : Value) (w : World) (hbk : w.heap[b]? = some (.cells #[p, v] (ρ.t 72) (0, 0))) (hp : p = .pointer none ∨ p = .pointer (some ⟨b, 0, none⟩)) :
  Calls P (ρ.f 240) #[.pointer (some ⟨b, 0, none⟩)] w fun e w' => e = .returned (.tuple #[]) ∧ Checked (ρ.t 72) b v w w' := by
 have c0 : w.cell? ⟨b, 0, none⟩ = some p := by rw [Lib.cell_of_heap hbk]; rfl
 rcases hp with rfl | rfl
 ·refine (Any.Builder_copyCheck_fresh L X b w c0 (by simp [World.shape?, hbk]) (Lib.frozen_of_heap hbk 0)).mono ?_
  rintro e w' ⟨rfl, rfl⟩
  refine ⟨rfl, ?_, fun k hk => Below.heap_setCell _ _ _ _ hk, by simp [World.setCell], rfl, rfl, rfl⟩
  simp [World.setCell, Array.getElem?_modify, hbk]
 ·refine (Any.Builder_copyCheck_used L X b w c0).mono ?_
  rintro e w' ⟨rfl, rfl⟩
  exact ⟨rfl, hbk, fun _ _ => rfl, rfl, rfl, rfl, rfl⟩
theorem wrote_of {T t : TypeId} {b : Nat} {v v' : Value} {bs : List UInt8} {w w1 w2 : World} (hne : T ≠ t) (hv : v.ownBlock ≠ some b) (h1 : Checked T b v w w1) (hlt : b < w.heap.size) (hown' : w2.ownsRow 0 t 1 v' bs.length (bcells bs)) (hg : w1.grownBy w2 v.ownBlock)
  (hnil : bs = [] → v = .slice none 0 0 → v' = .slice none 0 0) (hat : v'.ownBlock = v.ownBlock ∨ ∃ q, v'.ownBlock = some q ∧ w1.heap.size ≤ q) : Wrote T t b v bs w (w2.setCell ⟨b, 1, none⟩ v') := by
 obtain ⟨c1, c2, c3, c4, c5, c6⟩ := h1
 have hb2 : w2.heap[b]? = some (.cells #[.pointer (some ⟨b, 0, none⟩), v] T (0, 0)) := by rw [hg.block b (by omega) (fun e => hv e.symm)]; exact c1
 have hput := Lib.BuilderAtF.put (T := T) (e := t) (B := 0) (Nat.zero_le b) hb2 (bs' := bcells bs) (v' := v') (by simpa [bcells] using World.ownsRowF_of hown') hne
 have hnb : v'.ownBlock ≠ some b := Lib.ownBlock_ne hown' hb2 hne
 refine ⟨v', by simp [World.setCell, Array.getElem?_modify, hb2], ?_, ?_, hnil, fun k hk hkb hkv => ?_, by simp [World.setCell]; have := hg.size; omega, (show w2.os = w.os from hg.os.trans c4), (show w2.tape = w.tape from hg.tape.trans c5), (show w2.output = w.output from hg.output.trans c6)⟩
 ·refine ⟨hown'.1, ?_⟩
  rcases hown'.2 with h | ⟨g, cap, cur, k1, k2, k3, k4⟩
  ·exact .inl h
  ·refine .inr ⟨g, cap, cur, k1, k2, ?_, k4⟩
   rw [Below.heap_setCell _ _ _ _ (fun e => hnb (by rw [k1, e]; rfl))]; exact k3
 ·rcases hat with h | ⟨q, h, hq⟩
  ·exact .inl h
  ·exact .inr ⟨q, h, by omega⟩
 ·rw [Below.heap_setCell _ _ _ _ hkb, hg.block k (by omega) hkv]
  exact c2 k hkb
set_option maxHeartbeats 2000000 in
set_option maxRecDepth 100000 in
theorem writeString_x (L : Lays.n166 P ρ) (X : Builder.Extra P ρ) (s : ByteArray) : WrX P (ρ.f 166) (ρ.t 72) (ρ.t 5) [.string s] s.data.toList (.tuple #[.int .i64 s.size, .nilIface]) := by
 intro b p v bs w hbk hp hown hlen
 have hss : s.data.toList.length = s.size := by rw [Array.length_toList]; rfl
 have hlen : bs.length + s.size ≤ 140737488355328 := by rw [← hss]; exact hlen
 have hv : v.ownBlock ≠ some b := Lib.ownBlock_ne hown hbk X.neB5
 have hltw : b < w.heap.size := (Array.getElem?_eq_some_iff.1 hbk).1
 obtain ⟨i0, hi, hz0, hz1, hz2⟩ := info_parts X.infoByte
 have mixed := L.mixed
 have t72 := L.t72; have a72 := L.a72; have z72 := L.z72; have v72 := L.v72; have u72 := run_underlying L.t72
 have t70 := L.t70; have a70 := L.a70; have z70 := L.z70; have v70 := L.v70; have u70 := run_underlying L.t70
 have t37 := L.t37; have a37 := L.a37; have z37 := L.z37; have v37 := L.v37; have u37 := run_underlying L.t37
 have t3 := L.t3; have a3 := L.a3; have z3 := L.z3; have v3 := L.v3; have u3 := run_underlying L.t3
 have t9 := L.t9; have a9 := L.a9; have z9 := L.z9; have v9 := L.v9; have u9 := run_underlying L.t9
 have t4 := L.t4; have a4 := L.a4; have z4 := L.z4; have v4 := L.v4; have u4 := run_underlying L.t4
 have t164 := L.t164; have a164 := L.a164; have z164 := L.z164; have v164 := L.v164; have u164 := run_underlying L.t164
 have t5 := X.t5; have a5 := X.a5; have z5 := X.z5; have v5 := X.v5; have u5 := run_underlying X.t5
 have e240 : ∀ args w, (callFunc (ρ.f 240) args).run P w = .ok (.enter (ρ.f 240) args) w := enters_of L.f240 (by kernel_rfl) rfl
 show Calls P (ρ.f 166) #[.pointer (some ⟨b, 0, none⟩), .string s] w _
 go_enter L.f166, Body.n166_ntmps ρ
 go_wp2_with (go_at_fn (ρ.f 240); refine (copyCheck_x { L with } X.toX72 b p v _ hbk hp).mono ?_)
 rintro e w1 ⟨rfl, h1⟩
 have hck := h1
 have hb1 := h1.1
 have hk1 := h1.2.1
 have hown1 : w1.ownsRow 0 (ρ.t 5) 1 v bs.length (bcells bs) := by
  refine ⟨hown.1, ?_⟩
  rcases hown.2 with h | ⟨g, cap, cur, k1, k2, k3, k4⟩
  ·exact .inl h
  ·exact .inr ⟨g, cap, cur, k1, k2, by rw [hk1 g (fun e => hv (by rw [k1, ← e]; rfl))]; exact k3, k4⟩
 have c0 : w1.cell? ⟨b, 0, none⟩ = some (.pointer (some ⟨b, 0, none⟩)) := by rw [Lib.cell_of_heap hb1]; rfl
 have c1 : w1.cell? ⟨b, 1, none⟩ = some v := by rw [Lib.cell_of_heap hb1]; rfl
 have hlt : b < w1.heap.size := (Array.getElem?_eq_some_iff.1 hb1).1
 go_wp2_with (at_builtin; refine wpList_append_str_at _ rfl _ _ (ρ.t 37) (ρ.t 9) rfl 0 (ρ.t 5) i0 L.t37 L.t9 hi hz0 hz1 hz2 _ _ _ rfl hown1 s rfl ?c3 ?c4 ?c5 ?_)
 case c3 => unfold maxLen; omega
 case c4 => omega
 case c5 => exact Nat.zero_le _
 intro v' w2 hown' hgrow hnil hat
 have hb2 : w2.heap[b]? = some (.cells #[.pointer (some ⟨b, 0, none⟩), v] (ρ.t 72) (0, 0)) := by
  rw [hgrow.block b hlt (fun e => hv e.symm)]; exact hb1
 have d0 : w2.cell? ⟨b, 0, none⟩ = some (.pointer (some ⟨b, 0, none⟩)) := by rw [Lib.cell_of_heap hb2]; rfl
 have d1 : w2.cell? ⟨b, 1, none⟩ = some v := by rw [Lib.cell_of_heap hb2]; rfl
 have f1 : w2.frozen? ⟨b, 1, none⟩ = false := Lib.frozen_of_heap hb2 1
 have hcb : bcells (bs ++ s.data.toList) = bcells bs ++ strCells s := by
  simp only [bcells, List.map_append, strCells, byteCells]
 have hl2 : (bs ++ s.data.toList).length = bs.length + s.size := by rw [List.length_append, hss]
 have hfin : Wrote (ρ.t 72) (ρ.t 5) b v (bs ++ s.data.toList) w (w2.setCell ⟨b, 1, none⟩ v') :=
  wrote_of X.neB5 hv hck hltw (by rw [hcb, hl2]; exact hown') hgrow (fun h1 h2 => hnil.2 ⟨h2, by
   have : s.data.toList = [] := (List.append_eq_nil_iff.1 h1).2
   exact ByteArray.ext (Array.ext' this)⟩) hat
 obtain ⟨ao, n', cap, rfl⟩ : ∃ ao n' cap, v' = .slice ao n' cap := by
  rcases hown'.2 with ⟨hv, _⟩ | ⟨g, cap, cur, hv, _⟩
  ·exact ⟨_, _, _, hv⟩
  ·exact ⟨_, _, _, hv⟩
 go_wp2
 go_ret2
 exact ⟨rfl, hfin⟩
set_option maxHeartbeats 2000000 in
set_option maxRecDepth 100000 in
theorem string_x (L : Lays.n169 P ρ) (X : Builder.Extra P ρ) : StX P (ρ.f 169) (ρ.t 72) (ρ.t 5) := by
 intro b p v l w hbk hown hnil
 have hv : v.ownBlock ≠ some b := Lib.ownBlock_ne hown hbk X.neB5
 by_cases h0 : l = []
 ·subst h0
  have hvn := hnil rfl
  subst hvn
  have hUS := Any.unsafeString_none L X
  have c1 : w.drew.cell? ⟨b, 1, none⟩ = some (.slice none 0 0) := by
   have : w.drew.heap[b]? = some (.cells #[p, .slice none 0 0] (ρ.t 72) (0, 0)) := hbk
   rw [Lib.cell_of_heap this]; rfl
  have hSD : (Builtin.unsafeSliceData_ #[(ρ.t 37)] (ρ.t 127) #[.slice none 0 0]).run P w.drew = .ok (.pointer none) w.drew := rfl
  have mixed := L.mixed
  have t72 := L.t72; have a72 := L.a72; have z72 := L.z72; have v72 := L.v72; have u72 := run_underlying L.t72
  have t70 := L.t70; have a70 := L.a70; have z70 := L.z70; have v70 := L.v70; have u70 := run_underlying L.t70
  have t37 := L.t37; have a37 := L.a37; have z37 := L.z37; have v37 := L.v37; have u37 := run_underlying L.t37
  have t127 := L.t127; have a127 := L.a127; have z127 := L.z127; have v127 := L.v127; have u127 := run_underlying L.t127
  have t3 := L.t3; have a3 := L.a3; have z3 := L.z3; have v3 := L.v3; have u3 := run_underlying L.t3
  have t9 := L.t9; have a9 := L.a9; have z9 := L.z9; have v9 := L.v9; have u9 := run_underlying L.t9
  have t5 := X.t5; have a5 := X.a5; have z5 := X.z5; have v5 := X.v5; have u5 := run_underlying X.t5
  go_enter L.f169, Body.n169_ntmps ρ
  go_wp2
  go_region_o
  all_goals (go_wp2; go_ret; exact ⟨rfl, fun _ _ => rfl, rfl, fun _ _ => rfl, rfl, rfl, rfl⟩)
 ·have hl0 : l.length ≠ 0 := by simpa using h0
  obtain ⟨g, cap, cur, rfl, hbg, hg, hnc, hcm, hcs, htake⟩ : ∃ g cap cur, v = .slice (some ⟨g, 0, none⟩) l.length cap ∧ 0 ≤ g ∧ w.heap[g]? = some (.cells cur (ρ.t 5) (0, 0)) ∧ l.length ≤ cap ∧ cap ≤ maxLen ∧ cur.size = cap * 1 ∧ cur.toList.take (l.length * 1) = bcells l := by
   rcases hown.2 with ⟨_, hz⟩ | ⟨g, cap, cur, hv, r⟩
   ·exact absurd hz hl0
   ·exact ⟨g, cap, cur, hv, r⟩
  have c1 : w.drew.cell? ⟨b, 1, none⟩ = some (.slice (some ⟨g, 0, none⟩) l.length cap) := by
   have : w.drew.heap[b]? = some (.cells #[p, .slice (some ⟨g, 0, none⟩) l.length cap] (ρ.t 72) (0, 0)) := hbk
   rw [Lib.cell_of_heap this]; rfl
  have hSD : (Builtin.unsafeSliceData_ #[(ρ.t 37)] (ρ.t 127) #[.slice (some ⟨g, 0, none⟩) l.length cap]).run P w.drew = .ok (.pointer (some ⟨g, 0, none⟩)) w.drew :=
   Lib.run_unsafeSliceData_row _ _ _ _ _ _ (by omega)
  have hUS : (Builtin.unsafeString_ #[(ρ.t 127), (ρ.t 3)] (ρ.t 9) #[.pointer (some ⟨g, 0, none⟩), .int .i64 l.length]).run P w.drew = .ok (.string ⟨l.toArray⟩) (w.drew.freeze ⟨g, 0, none⟩ l.length) := by
   refine Lib.run_unsafeString_row w.drew (ρ.t 127) (ρ.t 3) (ρ.t 9) (ρ.t 5) L.t127 X.cellsByte g cur.size (by have hg' : w.drew.heap[g]? = some (.cells cur (ρ.t 5) (0, 0)) := hg; simp [World.shape?, hg']) l h0 (by omega) (by unfold maxLen at hcm; omega) ?_
   intro j x hx
   have := hown.cells (g := g) rfl j (.int .u8 x.toNat) (by simp [bcells, hx])
   exact this
  have keep : ∀ k, some k ≠ (Value.slice (some ⟨g, 0, none⟩) l.length cap).ownBlock → (w.drew.freeze ⟨g, 0, none⟩ l.length).heap[k]? = w.heap[k]? := by
   intro k hk
   have hkg : g ≠ k := fun e => hk (by rw [e]; rfl)
   unfold World.freeze
   rw [if_neg hl0]
   show (w.heap.modify g _)[k]? = _
   rw [Array.getElem?_modify, if_neg hkg]
  have size : (w.drew.freeze ⟨g, 0, none⟩ l.length).heap.size = w.heap.size := by
   unfold World.freeze
   rw [if_neg hl0]
   show (w.heap.modify g _).size = _
   rw [Array.size_modify]
  have cell : ∀ k o, (w.drew.freeze ⟨g, 0, none⟩ l.length).cell? ⟨k, o, none⟩ = w.cell? ⟨k, o, none⟩ := by
   intro k o
   by_cases hkg : g = k
   ·subst hkg
    have h1 : (w.drew.freeze ⟨g, 0, none⟩ l.length).heap[g]? = some (.cells cur (ρ.t 5) (0, 0 + l.length)) := by
     unfold World.freeze
     rw [if_neg hl0]
     show (w.heap.modify g _)[g]? = _
     rw [Array.getElem?_modify, if_pos rfl, hg]
     rfl
    simp only [World.cell?, h1, hg]
   ·simp only [World.cell?, keep k (fun e => hkg (by injection e with e; exact e.symm))]
  have osE : (w.drew.freeze ⟨g, 0, none⟩ l.length).os = w.os ∧ (w.drew.freeze ⟨g, 0, none⟩ l.length).tape = w.tape ∧ (w.drew.freeze ⟨g, 0, none⟩ l.length).output = w.output := by
   unfold World.freeze
   rw [if_neg hl0]
   exact ⟨rfl, rfl, rfl⟩
  have mixed := L.mixed
  have t72 := L.t72; have a72 := L.a72; have z72 := L.z72; have v72 := L.v72; have u72 := run_underlying L.t72
  have t70 := L.t70; have a70 := L.a70; have z70 := L.z70; have v70 := L.v70; have u70 := run_underlying L.t70
  have t37 := L.t37; have a37 := L.a37; have z37 := L.z37; have v37 := L.v37; have u37 := run_underlying L.t37
  have t127 := L.t127; have a127 := L.a127; have z127 := L.z127; have v127 := L.v127; have u127 := run_underlying L.t127
  have t3 := L.t3; have a3 := L.a3; have z3 := L.z3; have v3 := L.v3; have u3 := run_underlying L.t3
  have t9 := L.t9; have a9 := L.a9; have z9 := L.z9; have v9 := L.v9; have u9 := run_underlying L.t9
  have t5 := X.t5; have a5 := X.a5; have z5 := X.z5; have v5 := X.v5; have u5 := run_underlying X.t5
  have fin : ∀ {e : Ending} {w' : World}, e = .returned (.string ⟨l.toArray⟩) → w' = w.drew.freeze ⟨g, 0, none⟩ l.length → e = .returned (.string ⟨l.toArray⟩) ∧ (∀ k, some k ≠ (Value.slice (some ⟨g, 0, none⟩) l.length cap).ownBlock → w'.heap[k]? = w.heap[k]?) ∧ w'.heap.size = w.heap.size ∧ (∀ k o, w'.cell? ⟨k, o, none⟩ = w.cell? ⟨k, o, none⟩) ∧ w'.os = w.os ∧ w'.tape = w.tape ∧ w'.output = w.output := by
   rintro e w' rfl rfl
   exact ⟨rfl, keep, size, cell, osE.1, osE.2.1, osE.2.2⟩
  clear keep size cell osE
  go_enter L.f169, Body.n169_ntmps ρ
  go_wp2
  go_region_o
  all_goals (go_wp2; go_ret; exact fin rfl rfl)
end
end Go.Pam
namespace Go.Pam
open Go.RowKit Go.Shelf Go.Proofs
section
variable {S : List SObj} {w w' : World} {g : G} {base : Nat} {bd : Nat → Nat}
theorem R.below (h : R S w g base bd) (hb : Below w.heap.size w w') : R S w' g base bd ∧ Evo S.length g w g w' := by
 have hsz := hb.size
 have evo : ∀ m, Evo m g w g w' := fun m => by
  refine ⟨fun _ => Nat.le_refl _, fun b o ho => ?_, fun _ _ => rfl, fun _ _ _ => rfl, fun _ _ => rfl, fun _ _ => Nat.le_refl _, fun _ _ _ => rfl, fun k cap hk hob _ ht => ?_, hsz, rfl, fun k hk => hb.block k (h.hfix k hk), fun _ _ => rfl, hb.os, hb.tape, hb.output⟩
  ·have : b < w.heap.size := by
    rcases Nat.lt_or_ge b w.heap.size with hb' | hb'
    ·exact hb'
    ·have := h.hpp b hb'; omega
   exact cell?_of_heap (hb.block b this) o
  ·exact TipC.heap (g := g) rfl rfl rfl rfl (hb.block _ ht.lt) ht
 refine ⟨⟨h.hbase, h.hbd, fun k hk => by have := h.hfix k hk; omega, fun b hb' => h.hpp b (by omega), fun k o hk => ?_, h.inj⟩, evo _⟩
 exact (h.live k o hk).evo (evo _) rfl rfl rfl rfl (fun hd _ => ⟨hb.block _ ((h.live k o hk).loc_lt hd), rfl⟩)
end
def strsOf : List PV → Option (List Str)
 | [] => some []
 | .str s :: r => (strsOf r).map (s :: ·)
 | _ => none
def Sl.join? (x : Sl Str) (sep : Str) : Option Str := if x.l.length ≤ 140737488355328 ∧ (Lib.join x.l sep).length ≤ 140737488355328 then some (Lib.join x.l sep) else none
def joinH : List PV → List SObj → Option (PV × List SObj × Bool)
 | [x, .str sep], S => match x with
  | .nils => some (.str [], S, false)
  | .lst xs _ => (strsOf xs).bind fun ss => (Sl.join? (some ss) sep).map fun r => (.str r, S, false)
  | _ => none
 | _, _ => none
def idxH : List PV → List SObj → Option (PV × List SObj × Bool)
 | [.str s, .int .u8 c], S => some (.int .i64 (Lib.indexByte s c.toNat.toUInt8), S, false)
 | _, _ => none
section
variable {P : Program} {ρ : Ren}
theorem idx_ok {f : FuncId} (hfn : ∃ fn, P.funcs[f]? = some fn ∧ fn.body.isNone = false ∧ fn.name ≠ "runtime.NumGoroutine")
  (hX : ∀ (s : ByteArray) (c : Int) (w : World), Calls P f #[.string s, .int .u8 c] w fun e w' => e = .returned (.int .i64 (Lib.indexByte s.data.toList c.toNat.toUInt8)) ∧ w' = w)
  (args : List PV) (S : List SObj) (v : PV) (S' : List SObj) (e : Bool) (h : idxH args S = some (v, S', e))
  (w : World) (g : G) (base : Nat) (bd : Nat → Nat) (cargs : Array Value) (hR : Go.Pam.R S w g base bd) (hl : args.length = cargs.size) (hV : ∀ (i : Nat) (c : PV), args[i]? = some c → V g w S.length c (cargs.getD i undef)) :
  (∃ fn, P.funcs[f]? = some fn ∧ fn.body.isNone = false ∧ fn.name ≠ "runtime.NumGoroutine") ∧ Calls P f cargs w (fun en w' => ∃ rv, en = .returned rv ∧ Good base bd S g w v S' e rv w') := by
 refine ⟨hfn, ?_⟩
 unfold idxH at h
 split at h
 case h_2 => cases h
 rename_i s c
 injection h with h; injection h with h1 h2; injection h2 with h2 h3; subst h1 h2 h3
 obtain ⟨a, b, rfl, va, vb⟩ := arg2 rfl hl hV
 have e2 := vb.inv_int
 subst e2
 obtain ⟨s', rfl, rfl⟩ : ∃ s' : ByteArray, a = .string s' ∧ s'.data.toList = s := by
  cases va with
  | str s => exact ⟨s, rfl, rfl⟩
 refine (hX s' c w).mono ?_
 rintro en w' ⟨rfl, rfl⟩
 exact ⟨_, rfl, Good.same hR (.int _ _)⟩
end
variable {env : Env} {fr : Fr} {σ : Nat → PV} {S : List SObj}
theorem evw_idx {f : FuncId} (hi : env.intr f = some idxH) {s : Str} {c : Int} (S : List SObj) : evw env f [.str s, .int .u8 c] S = some (.int .i64 (Lib.indexByte s c.toNat.toUInt8), S, false) := evw_intr hi rfl
end Go.Pam
namespace Go.Pam
variable {env : Env} {fr : Fr} {σ : Nat → PV} {S : List SObj} {S0 : List SObj} {R : List Nat} {C : List (Nat × SObj)} {A : List (PV × Nat)} {W : List (PV × SObj)} {hist : List (List SObj)} {pend : List (TypeId × PV × PV)}
theorem WK.alloc' {t : TypeId} {ti : TyI} {d : Option Nat} {rest : List POp} {e : Bool} {K : KS} {cs : List PV} (hd : dstOk fr.ntmps d = true) (ht : env.ctx.ty t = some ti) (hs : ti.zero.storable = true) (hv : ti.zero.cells = cs) (H : Hp S0 R S C A W)
  (h : ∀ i S', S0.length ≤ i → Hp S0 R S' ((i, .cells cs) :: C) A W → PendOk env.ctx pend S' ∧ WK env fr rest (S :: hist) pend (upd σ d (.ptr i 0)) S' (e || false) K) : WK env fr (⟨d, .alloc t, none, false⟩ :: rest) hist pend σ S e K :=
 WK.turn hd (nz rfl (stp_alloc ht hs hv)) rfl (h _ _ H.len (H.push cs))
theorem WK.box' {t : TypeId} {x : Operand} {d : Option Nat} {rest : List POp} {e : Bool} {K : KS} {v : PV} {cs : List PV} (hd : dstOk fr.ntmps d = true) (hz : frzT (frzArgs env.ctx σ (.box t x)) σ S = (σ, S)) (hx : opd σ x = v) (hs : v.storable = true) (hv : v.cells = cs) (H : Hp S0 R S C A W)
  (h : ∀ i S', S0.length ≤ i → Hp S0 R S' ((i, .cells cs) :: C) A W → PendOk env.ctx pend S' ∧ WK env fr rest (S :: hist) pend (upd σ d (.ptr i 0)) S' (e || false) K) : WK env fr (⟨d, .box t x, none, false⟩ :: rest) hist pend σ S e K :=
 WK.turn hd (nz hz (stp_box hx hs hv)) rfl (h _ _ H.len (H.push cs))
end Go.Pam
namespace Go.Pam
theorem IsSl.nil {α : Type} {f : α → PV} {x : Sl α} {v : PV} (h : IsSl f x v) (hx : x = none) : v = .nils := by subst hx; exact h
end Go.Pam
namespace Go.Pam
theorem W1 {env : Env} {fr : Fr} {op : Op} {d : Option Nat} {wr : Bool} {rest : List POp} {σ : Nat → PV} {S : List SObj} {e : Bool} {v : PV} {K : KS} (hd : dstOk fr.ntmps d = true)
  (hs : stF env fr σ S ⟨d, op, none, wr⟩ = some (v, S, false)) (h : WO env fr rest (upd σ d v) S (e || false) K) : WO env fr (⟨d, op, none, wr⟩ :: rest) σ S e K := WO.step hd hs h
section
variable {env : Env} {fr : Fr} {op : Op} {d : Option Nat} {wr : Bool} {rest : List POp} {σ : Nat → PV} {S S0 : List SObj} {e : Bool} {K : KS} {R : List Nat} {C : List (Nat × SObj)} {A : List (PV × Nat)} {W : List (PV × SObj)}
theorem w (v : PV) (hd : dstOk fr.ntmps d = true) (hs : stF env fr σ S ⟨d, op, none, wr⟩ = some (v, S, false)) (h : WO env fr rest (upd σ d v) S (e || false) K) : WO env fr (⟨d, op, none, wr⟩ :: rest) σ S e K := WO.step hd hs h
theorem wg (H : Hp S0 R S C A W) (j : Nat) {t : TypeId} {a : Operand} {id off : Nat} {cs : List PV} {v : PV} (hd : dstOk fr.ntmps d = true) (ho : opd σ a = .ptr id off) (hj : C[j]? = some (id, .cells cs)) (hp : partOf env.ctx t cs off = some v)
  (h : WO env fr rest (upd σ d v) S (e || false) K) : WO env fr (⟨d, .load t a, none, false⟩ :: rest) σ S e K := WO.step hd (nz rfl (stp_load ho (H.get j hj) hp)) h
end
theorem kn {l : List (Nat × PV)} {σ : Nat → PV} (h : Known l σ := by repeat' (first | exact known_nil | refine known_cons rfl ?_)) : Known l σ := h
theorem hs {S0 S : List SObj} {R : List Nat} {C C' : List (Nat × SObj)} {A A' : List (PV × Nat)} {W W' : List (PV × SObj)} (H : Hp S0 R S C A W)
  (h1 : C'.Sublist C := by repeat' (first | exact .slnil | refine .cons_cons _ ?_ | refine .cons _ ?_))
  (h2 : A'.Sublist A := by repeat' (first | exact .slnil | refine .cons_cons _ ?_ | refine .cons _ ?_))
  (h3 : W'.Sublist W := by repeat' (first | exact .slnil | refine .cons_cons _ ?_ | refine .cons _ ?_)) : Hp S0 R S C' A' W' := H.sub h1 h2 h3
def SJ (l : List (Nat × PV)) (S0 : List SObj) (R : List Nat) (C : List (Nat × SObj)) (A : List (PV × Nat)) (W : List (PV × SObj)) (b : Bool) : KS := fun σ S e => Known l σ ∧ Hp S0 R S C A W ∧ e = b
theorem WK.store {env : Env} {fr : Fr} {σ : Nat → PV} {S : List SObj} {S0 : List SObj} {R : List Nat} {C : List (Nat × SObj)} {A : List (PV × Nat)} {W : List (PV × SObj)} {hist : List (List SObj)} {pend : List (TypeId × PV × PV)}
  (j : Nat) {t : TypeId} {a x : Operand} {d : Option Nat} {rest : List POp} {id off sz : Nat} {cs cs' xc : List PV} {v : PV} {e e' : Bool} {K : KS} (hd : dstOk fr.ntmps d = true) (hz : frzT (frzArgs env.ctx σ (.store t a x)) σ S = (σ, S)) (H : Hp S0 R S C A W) (hj : C[j]? = some (id, .cells cs))
  (ho : opd σ a = .ptr id off) (hx : opd σ x = v) (ht : (env.ctx.ty t).map (·.size) = some sz) (hs : v.storable = true) (hv : v.cells = xc) (hl : xc.length = sz) (hb : off + sz ≤ cs.length)
  (hc : cs.take off ++ xc ++ cs.drop (off + sz) = cs') (he : (decide (id < fr.base) && !v.clean) = e')
  (h : ∀ S', Hp S0 R S' (C.set j (id, .cells cs')) A W → PendOk env.ctx pend S' ∧ WK env fr rest (S :: hist) pend (upd σ d (.tup [])) S' (e || e') K) : WK env fr (⟨d, .store t a x, none, false⟩ :: rest) hist pend σ S e K :=
 WK.turn hd (nz hz (stp_store ho hx (H.get j hj) ht hs hv hl hb hc he)) rfl (h _ (H.set j hj cs'))
theorem pz {env : Env} {fr : Fr} {σ : Nat → PV} {S S1 : List SObj} {d : Option Nat} {o : Operand} {args : Array Operand} {ts : Array TypeId} {g : Option (Nat × Bool)} {f : FuncId} {cap bs : List PV} {v : PV} {e1 : Bool}
  (hz : frzT (frzArgs env.ctx σ (.call ⟨.value o, args, ts⟩)) σ S = (σ, S)) (hf : opd σ o = .fn (.func f) [] cap) (ha : (args.toList.map (opd σ) ++ cap).map PV.strip = bs) (hc : cleanL bs = true)
  (hs : evw env f bs [] = some (v, S1, e1)) (hv : v.clean = true) (hvs : v.strip = v) : stF env fr σ S ⟨d, .call ⟨.value o, args, ts⟩, g, true⟩ = some (v, S, false) := by
 show evStepF env.ctx (evw env) fr.base σ S ⟨d, .call ⟨.value o, args, ts⟩, g, true⟩ = _
 unfold evStepF
 simp only [hz, if_true, birthF, callV, purePV, hf, ha, hc, hs, hvs, hv, Option.map_some]
end Go.Pam
namespace Go.Pam
open Go.RowKit
theorem R.garbage {S : List SObj} {base : Nat} {bd : Nat → Nat} : ∀ (os : List Obj) {w : World} {g : G}, R S w g base bd →
  ∃ g', R S (os.foldl World.alloc w) g' base bd ∧ Evo S.length g w g' (os.foldl World.alloc w)
 | [], w, g, h => ⟨g, h, Evo.refl _ _ _⟩
 | o :: os, w, g, h => by
  obtain ⟨h1, e1⟩ := h.newRow o 0
  obtain ⟨g', h2, e2⟩ := R.garbage os h1
  exact ⟨g', h2, e1.trans e2⟩
theorem args2 {g : G} {w : World} {n : Nat} {x y : PV} {cargs : Array Value} (hl : [x, y].length = cargs.size) (hV : ∀ (i : Nat) (c : PV), [x, y][i]? = some c → V g w n c (cargs.getD i undef)) :
  ∃ a b, cargs = #[a, b] ∧ V g w n x a ∧ V g w n y b := by
 refine ⟨cargs.getD 0 undef, cargs.getD 1 undef, ?_, hV 0 x rfl, hV 1 y rfl⟩
 have hs : cargs.size = 2 := by simpa using hl.symm
 apply Array.ext
 ·simp [hs]
 ·intro i h1 h2
  have h3 : i = 0 ∨ i = 1 := by simp at h2; omega
  rcases h3 with rfl | rfl <;> simp [Array.getD_eq_getD_getElem?, h1]
/-! Functions that hand on an error: none, a number, or a fault: a new object that holds a number and a place. -/
inductive Er where
 | nil
 | no (n : Int)
 | at (n a : Int)
def ErV (TE TP : TypeId) (mk : PV → PV) (S0 : List SObj) (er : Er) (v : PV) (S' : List SObj) : Prop := match er with
 | .nil => v.strip = mk .nili
 | .no n => v.strip = mk (.ifc TE (.int .i64 n))
 | .at n a => ∃ i, v = mk (.ifc TP (.ptr i 0)) ∧ Hp S0 [] S' [(i, .cells [.ifc TE (.int .i64 n), .int .i64 a])] [] []
def ErA (TE TP : TypeId) (mk : PV → PV) (S : List SObj) (er : Er) (v : PV) (S' : List SObj) : Prop := match er with
 | .nil => v = mk .nili ∧ S' = S
 | .no n => v = mk (.ifc TE (.int .i64 n)) ∧ S' = S
 | .at n a => ∃ i, v = mk (.ifc TP (.ptr i 0)) ∧ Hp S [] S' [(i, .cells [.ifc TE (.int .i64 n), .int .i64 a])] [] []
section
variable {env : Env} {fr : Fr} {σ : Nat → PV} {S S0 : List SObj} {R : List Nat} {C : List (Nat × SObj)} {A : List (PV × Nat)} {W : List (PV × SObj)} {TE TP : TypeId} {mk : PV → PV} {er : Er}
theorem evw_errW {f : FuncId} {pf : PFn} (hi : env.intr f = none) (hf : env.fn f = some pf) {bs : List PV} (hs : bs.map PV.strip = bs) (hl : bs.length ≤ pf.ntmps) (hc : cleanL bs = true)
  (m1 : (mk .nili).clean = true) (m2 : ∀ n, (mk (.ifc TE (.int .i64 n))).clean = true) (m3 : ∀ i, (mk (.ifc TP (.ptr i 0))).strip.clean = false)
  (h : ∀ S, WB env pf bs S fun v S' e => e = false ∧ ErV TE TP mk S er v S') (S : List SObj) : ∃ v S', evw env f bs S = some (v, S', false) ∧ ErA TE TP mk S er v S' := by
 obtain ⟨w0, S1, e1, hb0, _, hw0⟩ := (h []).run
 obtain ⟨k0, hk0⟩ := body_lim hb0
 have fast : ∀ u : PV, u.clean = true → w0.strip = u → evw env f bs S = some (u, S, false) := by
  intro u hu hw
  refine lim_of (k0 + 1) fun k' hk' => ?_
  obtain ⟨j, rfl⟩ : ∃ j, k' = j + 1 := ⟨k' - 1, by omega⟩
  simp only [ev, hi, hf, hl, if_true, hs, hc, hk0 j (by omega), hw, hu]
 cases er with
 | nil => exact ⟨_, S, fast _ m1 hw0, rfl, rfl⟩
 | no n => exact ⟨_, S, fast _ (m2 n) hw0, rfl, rfl⟩
 | «at» n a =>
  obtain ⟨i0, rfl, _⟩ := hw0
  obtain ⟨w, S2, e2, hb, rfl, i, rfl, hp⟩ := (h S).run
  obtain ⟨k, hk⟩ := body_lim hb
  refine ⟨_, S2, lim_of (k0 + k + 1) fun k' hk' => ?_, i, rfl, hp⟩
  obtain ⟨j, rfl⟩ : ∃ j, k' = j + 1 := ⟨k' - 1, by omega⟩
  simp only [ev, hi, hf, hl, if_true, hs, hc, hk0 j (by omega), hk j (by omega), m3, leave, Bool.false_eq_true, if_false, and_false]
theorem WO.callE {f : FuncId} {op : Operand} {args : Array Operand} {ts : Array TypeId} {d : Option Nat} {rest : List POp} {cap vs : List PV} {e : Bool} {K : KS} (hd : dstOk fr.ntmps d = true)
  (hf : opd σ op = .fn (.func f) [] cap) (ha : args.toList.map (opd σ) ++ cap = vs) (hz : frzT (frzArgs env.ctx σ (.call ⟨.value op, args, ts⟩)) σ S = (σ, S)) (H : Hp S0 R S C A W) (hc : ∃ v S', evw env f vs S = some (v, S', false) ∧ ErA TE TP mk S er v S')
  (h0 : er = .nil → WO env fr rest (upd σ d (mk .nili)) S (e || false) K) (h1 : ∀ n, er = .no n → WO env fr rest (upd σ d (mk (.ifc TE (.int .i64 n)))) S (e || false) K)
  (h2 : ∀ n a, er = .at n a → ∀ i S', S0.length ≤ i → Hp S0 R S' ((i, .cells [.ifc TE (.int .i64 n), .int .i64 a]) :: C) A W → WO env fr rest (upd σ d (mk (.ifc TP (.ptr i 0)))) S' (e || false) K) :
  WO env fr (⟨d, .call ⟨.value op, args, ts⟩, none, false⟩ :: rest) σ S e K := by
 obtain ⟨v, S', hv, hr⟩ := hc
 cases er with
 | nil => obtain ⟨rfl, rfl⟩ := hr; exact WO.step hd (nz hz (stp_call hf ha hv)) (h0 rfl)
 | no n => obtain ⟨rfl, rfl⟩ := hr; exact WO.step hd (nz hz (stp_call hf ha hv)) (h1 n rfl)
 | «at» n a =>
  obtain ⟨i, rfl, N⟩ := hr
  have := N.new_lt
  have := H.len
  exact WO.step hd (nz hz (stp_call hf ha hv)) (h2 n a rfl i S' (by omega) (H.callNew N))
end
end Go.Pam
namespace Go.Pam
section
variable {env : Env} {fr : Fr} {σ : Nat → PV} {S S0 : List SObj} {e : Bool} {K : KS} {R : List Nat} {C : List (Nat × SObj)} {A : List (PV × Nat)} {W : List (PV × SObj)}
theorem us (n : Nat) {l : List POp} {σ' : Nat → PV} {S' : List SObj} {e' : Bool} (h : evOps env.ctx (evw env) fr (l.take n) σ S e = some (σ', S', e')) (k : WO env fr (l.drop n) σ' S' e' K) : WO env fr l σ S e K :=
 WO.split n (fun a b c => a = σ' ∧ b = S' ∧ c = e') ⟨_, _, _, h, rfl, rfl, rfl⟩ fun _ _ _ ⟨ha, hb, hc⟩ => by subst ha hb hc; exact k
theorem cl (v : PV) (vs : List PV) {f : FuncId} {o : Operand} {args : Array Operand} {ts : Array TypeId} {cap : List PV} {d : Option Nat} {rest : List POp} (hd : dstOk fr.ntmps d = true) (hf : opd σ o = .fn (.func f) [] cap) (ha : args.toList.map (opd σ) ++ cap = vs)
  (hz : frzT (frzArgs env.ctx σ (.call ⟨.value o, args, ts⟩)) σ S = (σ, S)) (hs : ∀ S, evw env f vs S = some (v, S, false)) (h : WO env fr rest (upd σ d v) S (e || false) K) : WO env fr (⟨d, .call ⟨.value o, args, ts⟩, none, false⟩ :: rest) σ S e K :=
 w v hd (nz hz (stp_call hf ha (hs S))) h
theorem kf {l : List (Nat × PV)} (H : Hp S0 R S C A W) (hk : Known l σ := by repeat' (first | exact known_nil | refine known_cons rfl ?_)) : SJ l S0 R C A W false σ S false := ⟨hk, H, rfl⟩
theorem kr (v : PV) {n t : Nat} {c : PC} {K : KV} (h : σ t = v) (hf : frzQ v S = none) (hk : K (tupled [v]) S e) : KB env ⟨n, [.tmp t], c, false⟩ K .ret σ S e := KB.ret (vs := [v]) (res_tmp h res_nil) (fl_cons' hf rfl) hk
end
end Go.Pam
namespace Go.Pam
def Qe (env : Env) (f : FuncId) (bs : List PV) (v : PV) : Prop := ∀ {vs : List PV}, vs.map PV.strip = bs → ∀ S : List SObj, evw env f vs S = some (v, S, false)
theorem Qe.go {env : Env} {f : FuncId} {pf : PFn} {n : Nat} {rs : List ResultVar} {c : PC} {rw : Bool} {bs : List PV} {v : PV} (hi : env.intr f = none) (hf : env.fn f = some pf) (hl : bs.length ≤ pf.ntmps) (hc : cleanL bs = true) (hv : v.clean = true) (hpf : pf = ⟨n, rs, c, rw⟩)
  (k : Hp [] [] [] [] [] [] → WC env ⟨n, ([] : List SObj).length⟩ c (fun i => bs.getD i (.tup [])) [] false (KB env ⟨n, rs, c, rw⟩ fun v' _ _ => v'.strip = v)) : Qe env f bs v := by
 intro vs ha S
 exact evw_pureW hi hf ha hl hc hv (WB.of hpf (k (Hp.start [])))
def SH {S0 : List SObj} {R : List Nat} {S : List SObj} {C : List (Nat × SObj)} {A : List (PV × Nat)} {W : List (PV × SObj)} (_ : Hp S0 R S C A W) (l : List (Nat × PV)) : KS := SJ l S0 R C A W false
end Go.Pam
namespace Go.Pam
section
variable {env : Env} {fr : Fr} {σ : Nat → PV} {S S0 : List SObj} {e : Bool} {K : KS} {R : List Nat} {C : List (Nat × SObj)} {A : List (PV × Nat)} {W : List (PV × SObj)} {hist : List (List SObj)} {pend : List (TypeId × PV × PV)}
theorem wk (v : PV) {op : Op} {d : Option Nat} {rest : List POp} (hd : dstOk fr.ntmps d = true) (hs : stF env fr σ S ⟨d, op, none, false⟩ = some (v, S, false)) (hc : chained ⟨d, op, none, false⟩ = false) (hi : indep env.ctx σ ⟨d, op, none, false⟩ = true)
  (h : WK env fr rest hist pend (upd σ d v) S e K) : WK env fr (⟨d, op, none, false⟩ :: rest) hist pend σ S e K := WK.step hd hs rfl rfl hc hi h
theorem wkl (H : Hp S0 R S C A W) (j : Nat) {t : TypeId} {a : Operand} {d : Option Nat} {rest : List POp} {id off : Nat} {cs : List PV} {v : PV} (hd : dstOk fr.ntmps d = true) (ha : opd σ a = .ptr id off) (hj : C[j]? = some (id, .cells cs)) (hp : partOf env.ctx t cs off = some v)
  (h : WK env fr rest [] ((t, .ptr id off, v) :: pend) (upd σ d v) S e K) : WK env fr (⟨d, .load t a, none, false⟩ :: rest) [] pend σ S e K := WK.load hd ha (ld (H.get j hj) hp) hist_nil h
theorem wh (v : PV) {op : Op} {d : Option Nat} {wr : Bool} {rest : List POp} {K : (Nat → PV) → Prop} (hd : dstOk fr.ntmps d = true) (hs : stF env fr σ S ⟨d, op, none, wr⟩ = some (v, S, false)) (h : WH env fr rest (upd σ d v) S K) : WH env fr (⟨d, op, none, wr⟩ :: rest) σ S K := WH.step hd hs rfl rfl h
end
end Go.Pam
namespace Go.Pam
end Go.Pam
namespace Go.Pam
section
variable {env : Env} {fr : Fr} {σ : Nat → PV} {S S0 : List SObj} {e : Bool} {K : KS} {K1 : (Nat → PV) → Prop} {R : List Nat} {C : List (Nat × SObj)} {A : List (PV × Nat)} {W : List (PV × SObj)} {d : Option Nat} {rest : List POp}
theorem whl (H : Hp S0 R S C A W) (j : Nat) {t : TypeId} {a : Operand} {id off : Nat} {cs : List PV} {v : PV} (hd : dstOk fr.ntmps d = true) (ho : opd σ a = .ptr id off) (hj : C[j]? = some (id, .cells cs)) (hp : partOf env.ctx t cs off = some v)
  (h : WH env fr rest (upd σ d v) S K1) : WH env fr (⟨d, .load t a, none, false⟩ :: rest) σ S K1 := wh v hd (nz rfl (stp_load ho (H.get j hj) hp)) h
end
end Go.Pam
namespace Go.Pam
section
variable {env : Env} {fr : Fr} {σ : Nat → PV} {S S0 : List SObj} {e : Bool} {K : KS} {K1 : (Nat → PV) → Prop} {R : List Nat} {C : List (Nat × SObj)} {A : List (PV × Nat)} {W : List (PV × SObj)} {hist : List (List SObj)} {pend : List (TypeId × PV × PV)} {d : Option Nat} {rest : List POp}
theorem p2 {α β : Type} {a a' : α} {b b' : β} (h : (a, b) = (a', b')) : a = a' ∧ b = b' := Prod.mk.inj h
/-! The same with what is seen by looking said once. -/
theorem Wg (H : Hp S0 R S C A W) (j : Nat) {t : TypeId} {a : Operand} {id off : Nat} {cs : List PV} {v : PV} (q : (dstOk fr.ntmps d, opd σ a, C[j]?, partOf env.ctx t cs off) = (true, .ptr id off, some (id, .cells cs), some v))
  (h : WO env fr rest (upd σ d v) S (e || false) K) : WO env fr (⟨d, .load t a, none, false⟩ :: rest) σ S e K := wg H j (p2 q).1 (p2 (p2 q).2).1 (p2 (p2 (p2 q).2).2).1 (p2 (p2 (p2 q).2).2).2 h
theorem Wgh (H : Hp S0 R S C A W) (j : Nat) {t : TypeId} {a : Operand} {id off : Nat} {cs : List PV} {v : PV} (q : (dstOk fr.ntmps d, opd σ a, C[j]?, partOf env.ctx t cs off) = (true, .ptr id off, some (id, .cells cs), some v))
  (h : WH env fr rest (upd σ d v) S K1) : WH env fr (⟨d, .load t a, none, false⟩ :: rest) σ S K1 := whl H j (p2 q).1 (p2 (p2 q).2).1 (p2 (p2 (p2 q).2).2).1 (p2 (p2 (p2 q).2).2).2 h
theorem Wa {t : TypeId} {ti : TyI} {cs : List PV} (H : Hp S0 R S C A W) (q : (dstOk fr.ntmps d, env.ctx.ty t, ti.zero.storable, ti.zero.cells) = (true, some ti, true, cs))
  (h : ∀ i S', S0.length ≤ i → Hp S0 R S' ((i, .cells cs) :: C) A W → WO env fr rest (upd σ d (.ptr i 0)) S' (e || false) K) : WO env fr (⟨d, .alloc t, none, false⟩ :: rest) σ S e K := WO.alloc' (p2 q).1 (p2 (p2 q).2).1 (p2 (p2 (p2 q).2).2).1 (p2 (p2 (p2 q).2).2).2 H h
theorem Wb {t : TypeId} {x : Operand} {v : PV} {cs : List PV} (H : Hp S0 R S C A W) (q : (dstOk fr.ntmps d, frzT (frzArgs env.ctx σ (.box t x)) σ S, opd σ x, v.storable, v.cells) = (true, (σ, S), v, true, cs))
  (h : ∀ i S', S0.length ≤ i → Hp S0 R S' ((i, .cells cs) :: C) A W → WO env fr rest (upd σ d (.ptr i 0)) S' (e || false) K) : WO env fr (⟨d, .box t x, none, false⟩ :: rest) σ S e K := WO.box' (p2 q).1 (p2 (p2 q).2).1 (p2 (p2 (p2 q).2).2).1 (p2 (p2 (p2 (p2 q).2).2).2).1 (p2 (p2 (p2 (p2 q).2).2).2).2 H h
theorem Kr (v : PV) {n t : Nat} {c : PC} {K : KV} (q : (σ t, frzQ v S) = (v, none)) (hk : K (tupled [v]) S e) : KB env ⟨n, [.tmp t], c, false⟩ K .ret σ S e := kr v (p2 q).1 (p2 q).2 hk
end
end Go.Pam
namespace Go.Pam
open Go.RowKit
def isFltH (TE TP : TypeId) : List PV → List SObj → Option (PV × List SObj × Bool)
 | [.nili, .ifc t2 (.int .i64 _)], S => if t2 = TE then some (.bool false, S, false) else none
 | [.ifc t1 (.int .i64 a), .ifc t2 (.int .i64 b)], S => if t1 = TE ∧ t2 = TE then some (.bool (a == b), S, false) else none
 | [.ifc t1 (.ptr i 0), .ifc t2 (.int .i64 b)], S =>
  if t1 = TP ∧ t2 = TE then
   match S[i]? with
   | some (.cells [.ifc te (.int .i64 a), _]) => if te = TE then some (.bool (a == b), S, false) else none
   | _ => none
  else none
 | _, _ => none
def asPtrH (TP TT : TypeId) : List PV → List SObj → Option (PV × List SObj × Bool)
 | [.nili, _], S => some (.bool false, S, false)
 | [.ifc tp (.ptr i 0), .ifc tt (.ptr j 0)], S =>
  if tp = TP ∧ tt = TT then
   match S[j]? with
   | some (.cells [_]) => some (.bool true, S.set j (.cells [.ptr i 0]), true)
   | _ => none
  else none
 | _, _ => none
theorem cell_of {S : List SObj} {w : World} {g : G} {base : Nat} {bd : Nat → Nat} (hR : R S w g base bd) {i : Nat} {cs : List PV} (hi : S[i]? = some (.cells cs)) {k : Nat} {c : PV} (hk : cs[k]? = some c) :
  ∃ v, w.cell? ⟨g.loc i, k, none⟩ = some v ∧ V g w S.length c v := by
 obtain ⟨l1, l2, l3, cur, t, l4, l5, l6, l7⟩ := hR.live i _ hi
 have hlt : k < cur.size := by rw [l5]; exact (List.getElem?_eq_some_iff.1 hk).1
 refine ⟨cur.getD k undef, ?_, (l7 k c hk).mono (lim_le hR i)⟩
 simp [World.cell?, l4, Array.getD_eq_getD_getElem?, hlt]
theorem isFlt_ok {P : Program} {ctx : Ctx} {f : FuncId} {TE TP : TypeId} (hfn : ∃ fn, P.funcs[f]? = some fn ∧ fn.body.isNone = false ∧ fn.name ≠ "runtime.NumGoroutine")
  (hnil : ∀ (b : Int) (w : World), Calls P f #[.nilIface, .iface TE (.int .i64 b)] w fun e w' => e = .returned (.bool false) ∧ w' = w)
  (hnum : ∀ (a b : Int) (w : World), Calls P f #[.iface TE (.int .i64 a), .iface TE (.int .i64 b)] w fun e w' => e = .returned (.bool (a == b)) ∧ w' = w)
  (hflt : ∀ (bF : Addr) (a b : Int) (w : World), w.cell? bF = some (.iface TE (.int .i64 a)) → bF.spot = none → bF.off = 0 →
   Calls P f #[.iface TP (.pointer (some bF)), .iface TE (.int .i64 b)] w fun e w' => e = .returned (.bool (a == b)) ∧ w' = w)
  (args : List PV) (S : List SObj) (v : PV) (S' : List SObj) (e : Bool) (h : isFltH TE TP args S = some (v, S', e))
  (w : World) (g : G) (base : Nat) (bd : Nat → Nat) (cargs : Array Value) (hR : Go.Pam.R S w g base bd) (_hgl : Gl ctx w g) (hl : args.length = cargs.size) (hV : ∀ (i : Nat) (c : PV), args[i]? = some c → V g w S.length c (cargs.getD i undef)) :
  (∃ fn, P.funcs[f]? = some fn ∧ fn.body.isNone = false ∧ fn.name ≠ "runtime.NumGoroutine") ∧ Calls P f cargs w (fun en w' => ∃ rv, en = .returned rv ∧ Good base bd S g w v S' e rv w') := by
 refine ⟨hfn, ?_⟩
 unfold isFltH at h
 split at h
 ·split at h
  case isFalse => cases h
  rename_i ht
  injection h with h; injection h with h1 h2; injection h2 with h2 h3
  subst h1 h2 h3 ht
  obtain ⟨a, b, rfl, va, vb⟩ := args2 hl hV
  obtain ⟨b', rfl, vb1⟩ := vb.inv_ifc
  rw [va.inv_nili, vb1.inv_int]
  refine (hnil _ w).mono ?_
  rintro en w' ⟨rfl, rfl⟩
  exact ⟨_, rfl, Good.same hR (.bool _)⟩
 ·split at h
  case isFalse => cases h
  rename_i ht
  injection h with h; injection h with h1 h2; injection h2 with h2 h3
  obtain ⟨rfl, rfl⟩ := ht
  subst h1 h2 h3
  obtain ⟨a, b, rfl, va, vb⟩ := args2 hl hV
  obtain ⟨a', rfl, va1⟩ := va.inv_ifc
  obtain ⟨b', rfl, vb1⟩ := vb.inv_ifc
  rw [va1.inv_int, vb1.inv_int]
  refine (hnum _ _ w).mono ?_
  rintro en w' ⟨rfl, rfl⟩
  exact ⟨_, rfl, Good.same hR (.bool _)⟩
 ·rename_i t1 i t2 b
  split at h
  case isFalse => cases h
  rename_i ht
  obtain ⟨rfl, rfl⟩ := ht
  split at h
  case h_2 => cases h
  rename_i te n at' hi
  split at h
  case isFalse => cases h
  rename_i hte
  subst hte
  injection h with h; injection h with h1 h2; injection h2 with h2 h3
  subst h1 h2 h3
  obtain ⟨a, b, rfl, va, vb⟩ := args2 hl hV
  obtain ⟨a', rfl, va1⟩ := va.inv_ifc
  obtain ⟨b', rfl, vb1⟩ := vb.inv_ifc
  obtain ⟨rfl, _, _⟩ := va1.inv_ptr
  rw [vb1.inv_int]
  obtain ⟨v, c1, c2⟩ := cell_of hR hi (k := 0) rfl
  obtain ⟨z, rfl, hz⟩ := c2.inv_ifc
  rw [hz.inv_int] at c1
  refine (hflt ⟨g.loc i, 0, none⟩ n _ w c1 rfl rfl).mono ?_
  rintro en w' ⟨rfl, rfl⟩
  exact ⟨_, rfl, Good.same hR (.bool _)⟩
 ·cases h
theorem asPtr_ok {P : Program} {ctx : Ctx} {f : FuncId} {TP TT : TypeId} {gv : Value} (hg : (0, [gv]) ∈ ctx.gls) (hfn : ∃ fn, P.funcs[f]? = some fn ∧ fn.body.isNone = false ∧ fn.name ≠ "runtime.NumGoroutine")
  (hnil : ∀ (t : Value) (w : World), Calls P f #[.nilIface, t] w fun e w' => e = .returned (.bool false) ∧ w' = w)
  (hhit : ∀ (bF t : Addr) (old : Value) (w : World), w.cell? ⟨0, 0, none⟩ = some gv → w.cell? t = some old → w.frozen? t = false →
   Calls P f #[.iface TP (.pointer (some bF)), .iface TT (.pointer (some t))] w fun ev w' => ev = .returned (.bool true) ∧ ∃ os : List Obj, w' = (os.foldl World.alloc w).setCell t (.pointer (some bF)))
  (args : List PV) (S : List SObj) (v : PV) (S' : List SObj) (e : Bool) (h : asPtrH TP TT args S = some (v, S', e))
  (w : World) (g : G) (base : Nat) (bd : Nat → Nat) (cargs : Array Value) (hR : Go.Pam.R S w g base bd) (hgl : Gl ctx w g) (hl : args.length = cargs.size) (hV : ∀ (i : Nat) (c : PV), args[i]? = some c → V g w S.length c (cargs.getD i undef)) :
  (∃ fn, P.funcs[f]? = some fn ∧ fn.body.isNone = false ∧ fn.name ≠ "runtime.NumGoroutine") ∧ Calls P f cargs w (fun en w' => ∃ rv, en = .returned rv ∧ Good base bd S g w v S' e rv w') := by
 refine ⟨hfn, ?_⟩
 unfold asPtrH at h
 split at h
 ·injection h with h; injection h with h1 h2; injection h2 with h2 h3
  subst h1 h2 h3
  obtain ⟨a, b, rfl, va, _⟩ := args2 hl hV
  rw [va.inv_nili]
  refine (hnil b w).mono ?_
  rintro en w' ⟨rfl, rfl⟩
  exact ⟨_, rfl, Good.same hR (.bool _)⟩
 ·rename_i tp i tt j
  split at h
  case isFalse => cases h
  rename_i ht
  obtain ⟨rfl, rfl⟩ := ht
  split at h
  case h_2 => cases h
  rename_i old hj
  injection h with h; injection h with h1 h2; injection h2 with h2 h3
  subst h1 h2 h3
  obtain ⟨a, b, rfl, va, vb⟩ := args2 hl hV
  obtain ⟨a', rfl, va1⟩ := va.inv_ifc
  obtain ⟨b', rfl, vb1⟩ := vb.inv_ifc
  have vi := va1
  obtain ⟨rfl, hin, hio⟩ := va1.inv_ptr
  obtain ⟨rfl, hjn, hjo⟩ := vb1.inv_ptr
  obtain ⟨m1, m2, m3, cur', t', m4, m5, m6, m7⟩ := hR.live j _ hj
  obtain ⟨v, c2, _⟩ := cell_of hR hj (k := 0) rfl
  have c3 : w.frozen? ⟨g.loc j, 0, none⟩ = false := by simp [World.frozen?, m4]
  refine (hhit ⟨g.loc i, 0, none⟩ ⟨g.loc j, 0, none⟩ _ w ((blk_cell (hgl _ hg).2 0).trans rfl) c2 c3).mono ?_
  rintro en w' ⟨rfl, os, rfl⟩
  refine ⟨_, rfl, ?_⟩
  obtain ⟨g', r1, e1⟩ := hR.weaken.garbage os
  have hloc : g'.loc j = g.loc j := e1.loc j hjn (.inl hjo)
  obtain ⟨r2, e2⟩ := R.setCell r1 hj (j := 0) (by simp) (c := .ptr i 0) (v := .pointer (some ⟨g.loc i, 0, none⟩)) (by simpa [lim] using vi.evo e1) rfl S.length
  rw [hloc] at r2 e2
  refine ⟨g', .bool _, ?_, e1.trans e2, by simp⟩
  simpa using r2
 ·cases h
theorem evw_isFltN {env : Env} {f : FuncId} {TE TP : TypeId} (hi : env.intr f = some (isFltH TE TP)) (b : Int) (S : List SObj) : evw env f [.nili, .ifc TE (.int .i64 b)] S = some (.bool false, S, false) :=
 evw_intr hi (by simp [isFltH])
theorem evw_isFltI {env : Env} {f : FuncId} {TE TP : TypeId} (hi : env.intr f = some (isFltH TE TP)) (a b : Int) (S : List SObj) : evw env f [.ifc TE (.int .i64 a), .ifc TE (.int .i64 b)] S = some (.bool (a == b), S, false) :=
 evw_intr hi (by simp [isFltH])
theorem evw_isFlt {env : Env} {f : FuncId} {TE TP : TypeId} (hi : env.intr f = some (isFltH TE TP)) (b : Int) {S : List SObj} {i : Nat} {a : Int} {x : PV} (h1 : S[i]? = some (.cells [.ifc TE (.int .i64 a), x])) :
  evw env f [.ifc TP (.ptr i 0), .ifc TE (.int .i64 b)] S = some (.bool (a == b), S, false) :=
 evw_intr hi (by simp [isFltH, h1])
theorem evw_asPtr {env : Env} {f : FuncId} {TP TT : TypeId} (hi : env.intr f = some (asPtrH TP TT)) {i j : Nat} {S : List SObj} {x : PV} (h2 : S[j]? = some (.cells [x])) :
  evw env f [.ifc TP (.ptr i 0), .ifc TT (.ptr j 0)] S = some (.bool true, S.set j (.cells [.ptr i 0]), true) :=
 evw_intr hi (by simp [asPtrH, h2])
section
variable {env : Env} {fr : Fr} {σ : Nat → PV} {S S0 : List SObj} {R : List Nat} {C : List (Nat × SObj)} {A : List (PV × Nat)} {W : List (PV × SObj)} {TP TT : TypeId}
theorem WO.callAsP (cj : Nat) {f : FuncId} {op : Operand} {args : Array Operand} {ts : Array TypeId} {d : Option Nat} {rest : List POp} {cap : List PV} {e : Bool} {K : KS} {i j : Nat} {x : PV} (hd : dstOk fr.ntmps d = true)
  (hf : opd σ op = .fn (.func f) [] cap) (ha : args.toList.map (opd σ) ++ cap = [.ifc TP (.ptr i 0), .ifc TT (.ptr j 0)]) (hz : frzT (frzArgs env.ctx σ (.call ⟨.value op, args, ts⟩)) σ S = (σ, S)) (H : Hp S0 R S C A W)
  (hi : env.intr f = some (asPtrH TP TT)) (h2 : C[cj]? = some (j, .cells [x]))
  (h : ∀ S', Hp S0 R S' (C.set cj (j, .cells [.ptr i 0])) A W → WO env fr rest (upd σ d (.bool true)) S' (e || true) K) :
  WO env fr (⟨d, .call ⟨.value op, args, ts⟩, none, false⟩ :: rest) σ S e K :=
 WO.step hd (nz hz (stp_call hf ha (evw_asPtr hi (H.get cj h2)))) (h _ (H.set cj h2 _))
end
end Go.Pam
namespace Go.Pam
abbrev Mp (α : Type) := List (Str × α)
def Mp.get? {α : Type} : Mp α → Str → Option α
 | [], _ => none
 | p :: m, k => if k == p.1 then some p.2 else Mp.get? m k
def Mp.put {α : Type} : Mp α → Str → α → Mp α
 | [], k, v => [(k, v)]
 | p :: m, k, v => if k == p.1 then (k, v) :: m else p :: Mp.put m k v
def encL {α : Type} (f : α → PV) (m : Mp α) : List (PV × PV) := m.map fun p => (.str p.1, f p.2)
def encM {α : Type} (f : α → PV) (m : Mp α) : SObj := .map (encL f m)
theorem findK_enc {α : Type} {f : α → PV} (k : Str) (x : α) : ∀ (m : Mp α) (i : Nat),
  (findK .string (.str k) (encL f m) i = some none ∧ Mp.get? m k = none ∧ encL f (Mp.put m k x) = encL f m ++ [(.str k, f x)]) ∨
  ∃ n v, findK .string (.str k) (encL f m) i = some (some (i + n, f v)) ∧ Mp.get? m k = some v ∧ encL f (Mp.put m k x) = (encL f m).set n (.str k, f x)
 | [], i => .inl ⟨rfl, rfl, rfl⟩
 | p :: m, i => by
  by_cases h : (k == p.1) = true
  ·refine .inr ⟨0, p.2, ?_, ?_, ?_⟩
   ·simp [encL, findK, keyEq, h]
   ·simp [Mp.get?, h]
   ·simp [Mp.put, h, encL]
  ·have h' : (k == p.1) = false := by simpa using h
   rcases findK_enc (f := f) k x m (i + 1) with ⟨h1, h2, h3⟩ | ⟨n, v, h1, h2, h3⟩
   ·refine .inl ⟨?_, ?_, ?_⟩
    ·rw [← h1]; simp [encL, findK, keyEq, h']
    ·simp [Mp.get?, h', h2]
    ·simp only [Mp.put, h', Bool.false_eq_true, if_false]
     show _ :: encL f (Mp.put m k x) = _
     rw [h3]; rfl
   ·refine .inr ⟨n + 1, v, ?_, ?_, ?_⟩
    ·rw [show i + (n + 1) = i + 1 + n by omega, ← h1]; simp [encL, findK, keyEq, h']
    ·simp [Mp.get?, h', h2]
    ·simp only [Mp.put, h', Bool.false_eq_true, if_false]
     show _ :: encL f (Mp.put m k x) = _
     rw [h3]; rfl
section
variable {env : Env} {fr : Fr} {σ : Nat → PV} {S S0 : List SObj} {R : List Nat} {C : List (Nat × SObj)} {A : List (PV × Nat)} {W : List (PV × SObj)} {e : Bool} {K : KS}
theorem stp_look {α : Type} {f : α → PV} {z : α} {mm : Mp α} {j : Nat} {t kt et : TypeId} {m k : Operand} {s : Str} (ok : Bool) (hm : opd σ m = .map j) (hk : opd σ k = .str s) (hS : S[j]? = some (encM f mm))
  (q : ((env.ctx.ty t).map (·.und), (env.ctx.ty kt).map (·.und), (env.ctx.ty et).map (·.zero)) = (some (.map kt et), some .string, some (f z))) :
  stp env fr σ S (.lookup t m k ok) = some (if ok then .tup [f ((Mp.get? mm s).getD z), .bool (Mp.get? mm s).isSome] else f ((Mp.get? mm s).getD z), S, false) := by
 obtain ⟨q1, q2⟩ := p2 q
 obtain ⟨q2, q3⟩ := p2 q2
 obtain ⟨ti, h1, h2⟩ := Option.map_eq_some_iff.1 q1
 obtain ⟨ki, h3, h4⟩ := Option.map_eq_some_iff.1 q2
 obtain ⟨ei, h5, h6⟩ := Option.map_eq_some_iff.1 q3
 simp only [stp, evStep, lookupPV, hm, hk, h1, h2, h3, h5, mapOf, hS, encM, h4, plainKind, if_true]
 rcases findK_enc (f := f) s z mm 0 with ⟨e1, e2, _⟩ | ⟨n, v, e1, e2, _⟩
 ·rw [e1, e2]; cases ok <;> simp [h6]
 ·rw [e1, e2]; cases ok <;> simp
theorem stp_mupd {α : Type} {f : α → PV} {y : α} {mm : Mp α} {j : Nat} {t kt et : TypeId} {m k x : Operand} {s : Str} (hm : opd σ m = .map j) (hk : opd σ k = .str s) (hx : opd σ x = f y) (hS : S[j]? = some (encM f mm)) (hc : (f y).clean = true)
  (q : ((env.ctx.ty t).map (·.und), (env.ctx.ty kt).map (·.und)) = (some (.map kt et), some .string)) :
  stp env fr σ S (.mapUpdate t m k x) = some (.tup [], S.set j (encM f (Mp.put mm s y)), false) := by
 obtain ⟨q1, q2⟩ := p2 q
 obtain ⟨ti, h1, h2⟩ := Option.map_eq_some_iff.1 q1
 obtain ⟨ki, h3, h4⟩ := Option.map_eq_some_iff.1 q2
 have hat : atMap env.ctx t (.map j) (.str s) S = (findK .string (.str s) (encL f mm) 0).map fun r => (j, et, encL f mm, r) := by
  simp [atMap, h1, h2, h3, h4, hS, encM, plainKind, keyEq]
 simp only [stp, evStep, mapUpdPV, hm, hk, hx, hat]
 rcases findK_enc (f := f) s y mm 0 with ⟨e1, e2, e3⟩ | ⟨n, v, e1, e2, e3⟩
 ·rw [e1]; simp [encM, e3, hc]
 ·rw [e1]; simp [encM, e3, hc]
theorem WO.look {α : Type} {f : α → PV} {z : α} {mm : Mp α} (c : Nat) {j : Nat} {t kt et : TypeId} {m k : Operand} {s : Str} {ok : Bool} {d : Option Nat} {rest : List POp} (H : Hp S0 R S C A W)
  (q : (dstOk fr.ntmps d, opd σ m, opd σ k, C[c]?) = (true, .map j, .str s, some (j, encM f mm))) (q' : ((env.ctx.ty t).map (·.und), (env.ctx.ty kt).map (·.und), (env.ctx.ty et).map (·.zero)) = (some (.map kt et), some .string, some (f z)))
  (h : WO env fr rest (upd σ d (if ok then .tup [f ((Mp.get? mm s).getD z), .bool (Mp.get? mm s).isSome] else f ((Mp.get? mm s).getD z))) S (e || false) K) : WO env fr (⟨d, .lookup t m k ok, none, false⟩ :: rest) σ S e K := by
 obtain ⟨q1, q⟩ := p2 q; obtain ⟨q2, q⟩ := p2 q; obtain ⟨q3, q⟩ := p2 q
 exact WO.step q1 (nz rfl (stp_look ok q2 q3 (H.get c q) q')) h
theorem WH.look {α : Type} {f : α → PV} {z : α} {mm : Mp α} (c : Nat) {j : Nat} {t kt et : TypeId} {m k : Operand} {s : Str} {ok : Bool} {d : Option Nat} {rest : List POp} {K1 : (Nat → PV) → Prop} (H : Hp S0 R S C A W)
  (q : (dstOk fr.ntmps d, opd σ m, opd σ k, C[c]?) = (true, .map j, .str s, some (j, encM f mm))) (q' : ((env.ctx.ty t).map (·.und), (env.ctx.ty kt).map (·.und), (env.ctx.ty et).map (·.zero)) = (some (.map kt et), some .string, some (f z)))
  (h : WH env fr rest (upd σ d (if ok then .tup [f ((Mp.get? mm s).getD z), .bool (Mp.get? mm s).isSome] else f ((Mp.get? mm s).getD z))) S K1) : WH env fr (⟨d, .lookup t m k ok, none, false⟩ :: rest) σ S K1 := by
 obtain ⟨q1, q⟩ := p2 q; obtain ⟨q2, q⟩ := p2 q; obtain ⟨q3, q⟩ := p2 q
 exact wh _ q1 (nz rfl (stp_look ok q2 q3 (H.get c q) q')) h
theorem WO.mupd {α : Type} {f : α → PV} {y : α} {mm : Mp α} (c : Nat) {j : Nat} {t kt et : TypeId} {m k x : Operand} {s : Str} {d : Option Nat} {rest : List POp} (H : Hp S0 R S C A W)
  (q : (dstOk fr.ntmps d, opd σ m, opd σ k, opd σ x, C[c]?, frzT (frzArgs env.ctx σ (.mapUpdate t m k x)) σ S, (f y).clean) = (true, .map j, .str s, f y, some (j, encM f mm), (σ, S), true)) (q' : ((env.ctx.ty t).map (·.und), (env.ctx.ty kt).map (·.und)) = (some (.map kt et), some .string))
  (h : ∀ S', Hp S0 R S' (C.set c (j, encM f (Mp.put mm s y))) A W → WO env fr rest (upd σ d (.tup [])) S' (e || false) K) : WO env fr (⟨d, .mapUpdate t m k x, none, false⟩ :: rest) σ S e K := by
 obtain ⟨q1, q⟩ := p2 q; obtain ⟨q2, q⟩ := p2 q; obtain ⟨q3, q⟩ := p2 q; obtain ⟨q4, q⟩ := p2 q; obtain ⟨q5, q⟩ := p2 q; obtain ⟨q6, q7⟩ := p2 q
 exact WO.step q1 (nz q6 (stp_mupd q2 q3 q4 (H.get c q5) q7 q')) (h _ (H.setO c q5 _ rfl))
/-! A range over a map of one entry at most. -/
theorem WO.rng {α : Type} {f : α → PV} {mm : Mp α} (c : Nat) {j : Nat} {t kt et : TypeId} {m : Operand} {d : Option Nat} {rest : List POp} (H : Hp S0 R S C A W)
  (q : (dstOk fr.ntmps d, opd σ m, C[c]?, (env.ctx.ty t).map (·.und)) = (true, .map j, some (j, encM f mm), some (.map kt et)))
  (h : ∀ i S', S0.length ≤ i → Hp S0 R S' ((i, .iter (some j) mm.length []) :: C) A W → WO env fr rest (upd σ d (.ptr i 0)) S' (e || false) K) : WO env fr (⟨d, .range t m, none, false⟩ :: rest) σ S e K := by
 obtain ⟨q1, q⟩ := p2 q; obtain ⟨q2, q⟩ := p2 q; obtain ⟨q3, q4⟩ := p2 q
 obtain ⟨ti, h1, h2⟩ := Option.map_eq_some_iff.1 q4
 refine WO.step (v := .ptr S.length 0) (S' := S ++ [.iter (some j) mm.length []]) (e' := false) q1 (nz rfl ?_) (h _ _ H.len (H.pushO _ rfl))
 have hS := H.get c q3
 simp [stp, evStep, rangePV, q2, h1, h2, hS, encM, encL]
theorem WO.nxt0 {α : Type} {f : α → PV} {mm : Mp α} (hm : mm = []) (ci c : Nat) {i j a : Nat} {b : List Nat} {it : Operand} {d : Option Nat} {rest : List POp} (H : Hp S0 R S C A W)
  (q : (dstOk fr.ntmps d, opd σ it, C[ci]?, C[c]?) = (true, .ptr i 0, some (i, .iter (some j) a b), some (j, encM f mm)))
  (h : WO env fr rest (upd σ d (.tup [.bool false])) S (e || false) K) : WO env fr (⟨d, .next it false, none, false⟩ :: rest) σ S e K := by
 obtain ⟨q1, q⟩ := p2 q; obtain ⟨q2, q⟩ := p2 q; obtain ⟨q3, q4⟩ := p2 q
 have h1 := H.get ci q3
 have h2 := H.get c q4
 refine WO.step (v := .tup [.bool false]) (S' := S) (e' := false) q1 (nz rfl ?_) h
 simp [stp, evStep, nextPV, q2, h1, h2, encM, encL, hm]
theorem WO.nxt1 {α : Type} {f : α → PV} {p : Str × α} {mm : Mp α} (hm : mm = [p]) (ci c : Nat) {i j : Nat} {it : Operand} {d : Option Nat} {rest : List POp} (H : Hp S0 R S C A W)
  (q : (dstOk fr.ntmps d, opd σ it, C[ci]?, C[c]?) = (true, .ptr i 0, some (i, .iter (some j) mm.length []), some (j, encM f mm)))
  (h : ∀ S', Hp S0 R S' (C.set ci (i, .iter (some j) 1 [0])) A W → WO env fr rest (upd σ d (.tup [.bool true, .str p.1, f p.2])) S' (e || false) K) : WO env fr (⟨d, .next it false, none, false⟩ :: rest) σ S e K := by
 obtain ⟨q1, q⟩ := p2 q; obtain ⟨q2, q⟩ := p2 q; obtain ⟨q3, q4⟩ := p2 q
 have h1 := H.get ci q3
 have h2 := H.get c q4
 refine WO.step (v := .tup [.bool true, .str p.1, f p.2]) (S' := S.set i (.iter (some j) 1 [0])) (e' := false) q1 (nz rfl ?_) (h _ (H.setO ci q3 _ rfl))
 simp [stp, evStep, nextPV, q2, h1, h2, encM, encL, hm]
theorem WO.nxt2 {α : Type} {f : α → PV} {p : Str × α} {mm : Mp α} (hm : mm = [p]) (ci c : Nat) {i j : Nat} {it : Operand} {d : Option Nat} {rest : List POp} (H : Hp S0 R S C A W)
  (q : (dstOk fr.ntmps d, opd σ it, C[ci]?, C[c]?) = (true, .ptr i 0, some (i, .iter (some j) 1 [0]), some (j, encM f mm)))
  (h : WO env fr rest (upd σ d (.tup [.bool false])) S (e || false) K) : WO env fr (⟨d, .next it false, none, false⟩ :: rest) σ S e K := by
 obtain ⟨q1, q⟩ := p2 q; obtain ⟨q2, q⟩ := p2 q; obtain ⟨q3, q4⟩ := p2 q
 have h1 := H.get ci q3
 have h2 := H.get c q4
 refine WO.step (v := .tup [.bool false]) (S' := S) (e' := false) q1 (nz rfl ?_) h
 simp [stp, evStep, nextPV, q2, h1, h2, encM, encL, hm]
theorem WO.ent {α : Type} {f : α → PV} {p : Str × α} {mm : Mp α} (hm : mm = [p]) (ci c : Nat) {i j : Nat} {it : Operand} {d : Option Nat} {rest : List POp} (H : Hp S0 R S C A W)
  (q : (dstOk fr.ntmps d, opd σ it, C[ci]?, C[c]?) = (true, .ptr i 0, some (i, .iter (some j) 1 [0]), some (j, encM f mm)))
  (h : WO env fr rest (upd σ d (.tup [.str p.1, f p.2])) S (e || false) K) : WO env fr (⟨d, .entry it, none, false⟩ :: rest) σ S e K := by
 obtain ⟨q1, q⟩ := p2 q; obtain ⟨q2, q⟩ := p2 q; obtain ⟨q3, q4⟩ := p2 q
 have h1 := H.get ci q3
 have h2 := H.get c q4
 refine WO.step (v := .tup [.str p.1, f p.2]) (S' := S) (e' := false) q1 (nz rfl ?_) h
 simp [stp, evStep, entryPV, q2, h1, h2, encM, encL, hm]
theorem Hp.take {S' : List SObj} (H : Hp S0 R S' C A W) (n : Nat) (h0 : S0.length ≤ n) (hC : ∀ p ∈ C, p.1 < n) (hA : ∀ q ∈ A, ∀ id, tipOf q.1 = some id → id < n) (hW : ∀ q ∈ W, ∀ id, rowAt q.1 = some id → id < n) :
  Hp S0 R (S'.take n) C A W := by
 have hl := H.len
 have g : ∀ i, i < n → (S'.take n)[i]? = S'[i]? := fun i hi => by rw [List.getElem?_take, if_pos hi]
 refine ⟨by rw [List.length_take]; omega, fun i hi hr => ?_, fun p hp => ?_, H.nod, fun q hq => ⟨(H.app q hq).1.keep fun id hid => g _ (hA q hq id hid), (H.app q hq).2⟩, H.dis, fun q hq id hid => ?_, H.rdis⟩
 ·rw [g i (by omega)]; exact H.old i hi hr
 ·obtain ⟨a, b, c⟩ := H.cel p hp
  exact ⟨a, by rw [g _ (hC p hp)]; exact b, c⟩
 ·obtain ⟨a, b, c⟩ := H.row q hq id hid
  exact ⟨a, by rw [g _ (hW q hq id hid)]; exact b, c⟩
theorem Hp.ltC (H : Hp S0 R S C A W) : ∀ p ∈ C, p.1 < S.length := fun p hp => (List.getElem?_eq_some_iff.1 (H.cel p hp).2.1).1
theorem Hp.ltW (H : Hp S0 R S C A W) : ∀ q ∈ W, ∀ id, rowAt q.1 = some id → id < S.length := fun q hq id hid => (List.getElem?_eq_some_iff.1 (H.row q hq id hid).2.1).1
theorem Hp.ltA (H : Hp S0 R S C A W) : ∀ q ∈ A, ∀ id, tipOf q.1 = some id → id < S.length := fun q hq _ hid => ((H.app q hq).1.lt hid).1
theorem Hp.perm {C' : List (Nat × SObj)} (H : Hp S0 R S C A W) (h : C.Perm C') : Hp S0 R S C' A W :=
 ⟨H.len, H.old, fun p hp => H.cel p (h.mem_iff.2 hp), (List.Perm.pairwise_iff (fun hxy => hxy.symm) h).1 H.nod, H.app, H.dis, H.row, H.rdis⟩
theorem Hp.rot {b x y z : Nat × SObj} (H : Hp S0 R S (b :: x :: y :: z :: C) A W) : Hp S0 R S (x :: y :: z :: b :: C) A W :=
 H.perm (List.perm_middle (l₁ := [x, y, z]) (a := b) (l₂ := C)).symm
theorem Hp.unrot {b x y z : Nat × SObj} (H : Hp S0 R S (x :: y :: z :: b :: C) A W) : Hp S0 R S (b :: x :: y :: z :: C) A W :=
 H.perm (List.perm_middle (l₁ := [x, y, z]) (a := b) (l₂ := C))
theorem Hp.reSl {r n : Nat} {o : SObj} (m : Nat) (H : Hp S0 R S C A ((.rsl r n, o) :: W)) : Hp S0 R S C A ((.rsl r m, o) :: W) :=
 ⟨H.len, H.old, H.cel, H.nod, H.app, H.dis, fun q hq id hid => by
  rcases List.mem_cons.1 hq with rfl | hq
  ·exact H.row (.rsl r n, o) List.mem_cons_self id hid
  ·exact H.row q (List.mem_cons_of_mem _ hq) id hid, by
  have h := List.pairwise_cons.1 H.rdis
  exact List.pairwise_cons.2 ⟨fun q hq => h.1 q hq, h.2⟩⟩
theorem Hp.dropC {b : Nat × SObj} (H : Hp S0 R S (b :: C) A W) : Hp S0 R S C A W := H.sub (List.sublist_cons_self _ _) (List.Sublist.refl _) (List.Sublist.refl _)
theorem evw_roW {f : FuncId} {pf : PFn} (hi : env.intr f = none) (hf : env.fn f = some pf) {args : List PV} {r : PV} (hl : Nat.ble args.length pf.ntmps = true) (hc : cleanL (args.map PV.strip) = false) (hr : (r.strip, r.clean) = (r, true))
  (h : WB env pf args S fun v S' e => v = r ∧ S' = S ∧ e = false) : evw env f args S = some (r, S, false) := by
 refine evw_recvW hi hf (Nat.le_of_ble_eq_true hl) hc (WB.mono' h fun v S' e hv => ?_)
 obtain ⟨rfl, rfl, rfl⟩ := hv
 unfold leave
 rw [if_pos ⟨rfl, by rw [(p2 hr).1]; exact (p2 hr).2⟩, (p2 hr).1, List.take_length]
theorem WO.stc (j : Nat) (H : Hp S0 R S C A W) {t : TypeId} {a x : Operand} {id off sz : Nat} {cs cs' xc : List PV} {v : PV} {d : Option Nat} {rest : List POp}
  (q : (dstOk fr.ntmps d, frzT (frzArgs env.ctx σ (.store t a x)) σ S, C[j]?, opd σ a, opd σ x, (env.ctx.ty t).map (·.size), v.storable, v.cells, (xc.length == sz && Nat.ble (off + sz) cs.length), cs.take off ++ xc ++ cs.drop (off + sz), v.clean) = (true, (σ, S), some (id, .cells cs), .ptr id off, v, some sz, true, xc, true, cs', true))
  (h : ∀ S', Hp S0 R S' (C.set j (id, .cells cs')) A W → WO env fr rest (upd σ d (.tup [])) S' (e || false) K) : WO env fr (⟨d, .store t a x, none, false⟩ :: rest) σ S e K := by
 obtain ⟨h1, q⟩ := p2 q; obtain ⟨h2, q⟩ := p2 q; obtain ⟨h3, q⟩ := p2 q; obtain ⟨h4, q⟩ := p2 q; obtain ⟨h5, q⟩ := p2 q; obtain ⟨h6, q⟩ := p2 q; obtain ⟨h7, q⟩ := p2 q; obtain ⟨h8, q⟩ := p2 q; obtain ⟨h9, q⟩ := p2 q; obtain ⟨h10, h11⟩ := p2 q
 obtain ⟨g1, g2⟩ := Bool.and_eq_true_iff.1 h9
 exact WO.store j h1 h2 H h3 h4 h5 h6 h7 h8 (by simpa using g1) (Nat.le_of_ble_eq_true g2) h10 (clean_e h11) h
theorem WO.ste (j : Nat) (H : Hp S0 R S C A W) {t : TypeId} {a x : Operand} {id off sz : Nat} {cs cs' xc : List PV} {v : PV} {d : Option Nat} {rest : List POp} (hlt : id < fr.base)
  (q : (dstOk fr.ntmps d, frzT (frzArgs env.ctx σ (.store t a x)) σ S, C[j]?, opd σ a, opd σ x, (env.ctx.ty t).map (·.size), v.storable, v.cells, (xc.length == sz && Nat.ble (off + sz) cs.length), cs.take off ++ xc ++ cs.drop (off + sz), v.clean) = (true, (σ, S), some (id, .cells cs), .ptr id off, v, some sz, true, xc, true, cs', false))
  (h : ∀ S', Hp S0 R S' (C.set j (id, .cells cs')) A W → WO env fr rest (upd σ d (.tup [])) S' true K) : WO env fr (⟨d, .store t a x, none, false⟩ :: rest) σ S e K := by
 obtain ⟨h1, q⟩ := p2 q; obtain ⟨h2, q⟩ := p2 q; obtain ⟨h3, q⟩ := p2 q; obtain ⟨h4, q⟩ := p2 q; obtain ⟨h5, q⟩ := p2 q; obtain ⟨h6, q⟩ := p2 q; obtain ⟨h7, q⟩ := p2 q; obtain ⟨h8, q⟩ := p2 q; obtain ⟨h9, q⟩ := p2 q; obtain ⟨h10, h11⟩ := p2 q
 obtain ⟨g1, g2⟩ := Bool.and_eq_true_iff.1 h9
 refine WO.store j h1 h2 H h3 h4 h5 h6 h7 h8 (by simpa using g1) (Nat.le_of_ble_eq_true g2) h10 (e' := true) (by rw [decide_eq_true hlt, h11]; rfl) fun S' H' => ?_
 rw [Bool.or_true]
 exact h S' H'
end
end Go.Pam
namespace Go.Pam
open Go.RowKit
def cloneH : List PV → List SObj → Option (PV × List SObj × Bool)
 | [.map j], S => match S[j]? with
  | some (.map es) => some (.map S.length, S ++ [.map es], false)
  | _ => none
 | _, _ => none
section
variable {env : Env} {fr : Fr} {σ : Nat → PV} {S S0 : List SObj} {R : List Nat} {C : List (Nat × SObj)} {A : List (PV × Nat)} {W : List (PV × SObj)} {e : Bool} {K : KS}
theorem WC.reset {l : List (Nat × PV)} {c : PC} {K : KX} (hk : Known l σ) (h : ∀ σ0, WC env fr c (put l σ0) S e K) : WC env fr c σ S e K := WC.of_known hk (h σ)
theorem WO.reset {l : List (Nat × PV)} {c : List POp} (hk : Known l σ) (h : ∀ σ0, WO env fr c (put l σ0) S e K) : WO env fr c σ S e K := WO.of_known hk (h σ)
theorem evw_clone {f : FuncId} (hi : env.intr f = some cloneH) {j : Nat} {es : List (PV × PV)} (h : S[j]? = some (.map es)) : evw env f [.map j] S = some (.map S.length, S ++ [.map es], false) :=
 evw_intr hi (by simp [cloneH, h])
theorem WO.clone {α : Type} {g : α → PV} {mm : Mp α} (c : Nat) {f : FuncId} {op : Operand} {args : Array Operand} {ts : Array TypeId} {d : Option Nat} {rest : List POp} {cap : List PV} {j : Nat} (H : Hp S0 R S C A W)
  (q : (dstOk fr.ntmps d, opd σ op, args.toList.map (opd σ) ++ cap, frzT (frzArgs env.ctx σ (.call ⟨.value op, args, ts⟩)) σ S, C[c]?) = (true, .fn (.func f) [] cap, [.map j], (σ, S), some (j, encM g mm))) (hi : env.intr f = some cloneH)
  (h : ∀ j' S', S0.length ≤ j' → Hp S0 R S' ((j', encM g mm) :: C) A W → WO env fr rest (upd σ d (.map j')) S' (e || false) K) : WO env fr (⟨d, .call ⟨.value op, args, ts⟩, none, false⟩ :: rest) σ S e K := by
 obtain ⟨q1, q⟩ := p2 q; obtain ⟨q2, q⟩ := p2 q; obtain ⟨q3, q⟩ := p2 q; obtain ⟨q4, q5⟩ := p2 q
 exact WO.step q1 (nz q4 (stp_call q2 q3 (evw_clone hi (H.get c q5)))) (h _ _ H.len (H.pushO _ rfl))
end
end Go.Pam
namespace Go.Pam
open Go.RowKit
end Go.Pam
namespace Go.Pam
/-! Temporaries -/
inductive Tr where
 | nil
 | node (l : Tr) (v : PV) (r : Tr)
def Tr.get : Tr → Nat → PV
 | .nil, _ => .tup []
 | .node l v r, i => match Nat.beq i 0 with
  | true => v
  | false => match Nat.beq (i % 2) 1 with
   | true => l.get (i / 2)
   | false => r.get (i / 2 - 1)
def Tr.set : Nat → Tr → Nat → PV → Tr
 | 0, t, _, _ => t
 | f + 1, .nil, i, x => match Nat.beq i 0 with
  | true => .node .nil x .nil
  | false => match Nat.beq (i % 2) 1 with
   | true => .node (Tr.set f .nil (i / 2) x) (.tup []) .nil
   | false => .node .nil (.tup []) (Tr.set f .nil (i / 2 - 1) x)
 | f + 1, .node l v r, i, x => match Nat.beq i 0 with
  | true => .node l x r
  | false => match Nat.beq (i % 2) 1 with
   | true => .node (Tr.set f l (i / 2) x) v r
   | false => .node l v (Tr.set f r (i / 2 - 1) x)
theorem beqD (a b : Nat) : Nat.beq a b = decide (a = b) := by
 by_cases h : a = b
 ·subst h; simp
 ·rw [decide_eq_false h]
  cases hb : Nat.beq a b with
  | false => rfl
  | true => exact absurd (Nat.eq_of_beq_eq_true hb) h
theorem Tr.get_nil (i : Nat) : Tr.get .nil i = .tup [] := rfl
theorem Tr.get_node (l : Tr) (v : PV) (r : Tr) (i : Nat) : (Tr.node l v r).get i = if i = 0 then v else if i % 2 = 1 then l.get (i / 2) else r.get (i / 2 - 1) := by
 rw [Tr.get]
 simp only [beqD]
 by_cases h0 : i = 0 <;> by_cases h1 : i % 2 = 1 <;> simp [h0, h1]
theorem Tr.set_eq (f : Nat) (t : Tr) (i : Nat) (x : PV) : Tr.set (f + 1) t i x = (match t with
  | .nil => if i = 0 then .node .nil x .nil else if i % 2 = 1 then .node (Tr.set f .nil (i / 2) x) (.tup []) .nil else .node .nil (.tup []) (Tr.set f .nil (i / 2 - 1) x)
  | .node l v r => if i = 0 then .node l x r else if i % 2 = 1 then .node (Tr.set f l (i / 2) x) v r else .node l v (Tr.set f r (i / 2 - 1) x)) := by
 cases t <;> (rw [Tr.set]; simp only [beqD]; by_cases h0 : i = 0 <;> by_cases h1 : i % 2 = 1 <;> simp [h0, h1])
theorem Tr.get_set : ∀ (f : Nat) (t : Tr) (i : Nat) (x : PV) (j : Nat), i + 1 < 2 ^ f → (Tr.set f t i x).get j = if j = i then x else t.get j
 | 0, t, i, x, j, h => by simp at h
 | f + 1, t, i, x, j, h => by
  have h2 : 2 ^ (f + 1) = 2 * 2 ^ f := by rw [Nat.pow_succ]; omega
  rw [Tr.set_eq]
  have go : ∀ (l : Tr) (v : PV) (r : Tr), (∀ j, (Tr.node l v r).get j = t.get j) →
    (if i = 0 then Tr.node l x r else if i % 2 = 1 then .node (Tr.set f l (i / 2) x) v r else .node l v (Tr.set f r (i / 2 - 1) x)).get j = if j = i then x else t.get j := by
   intro l v r ht
   rw [← ht j, Tr.get_node]
   by_cases h0 : i = 0
   ·rw [if_pos h0, Tr.get_node]
    by_cases hj : j = 0
    ·simp [hj, h0]
    ·rw [if_neg hj, if_neg (show ¬ j = i by omega), if_neg hj]
   ·rw [if_neg h0]
    by_cases h1 : i % 2 = 1
    ·rw [if_pos h1, Tr.get_node]
     by_cases hj : j = 0
     ·rw [if_pos hj, if_pos hj, if_neg (by omega)]
     ·rw [if_neg hj, if_neg hj]
      by_cases hj1 : j % 2 = 1
      ·rw [if_pos hj1, if_pos hj1, Tr.get_set f l (i / 2) x (j / 2) (by omega)]
       by_cases he : j = i
       ·rw [if_pos he, if_pos (by omega)]
       ·rw [if_neg he, if_neg (by omega)]
      ·rw [if_neg hj1, if_neg hj1, if_neg (by omega)]
    ·rw [if_neg h1, Tr.get_node]
     by_cases hj : j = 0
     ·rw [if_pos hj, if_pos hj, if_neg (by omega)]
     ·rw [if_neg hj, if_neg hj]
      by_cases hj1 : j % 2 = 1
      ·rw [if_pos hj1, if_pos hj1, if_neg (by omega)]
      ·rw [if_neg hj1, if_neg hj1, Tr.get_set f r (i / 2 - 1) x (j / 2 - 1) (by omega)]
       by_cases he : j = i
       ·rw [if_pos he, if_pos (by omega)]
       ·rw [if_neg he, if_neg (by omega)]
  cases t with
  | node l v r => exact go l v r fun _ => rfl
  | nil => exact go .nil (.tup []) .nil fun j => by rw [Tr.get_node, Tr.get_nil, Tr.get_nil, Tr.get_nil]; split <;> (try split) <;> rfl
def Tr.upd (t : Tr) (d : Option Nat) (x : PV) : Tr := match d with
 | some d => Tr.set 12 t d x
 | none => t
theorem Tr.get_upd {n : Nat} (hn : n ≤ 4000) (t : Tr) (d : Option Nat) (x : PV) (hd : dstOk n d = true) : (t.upd d x).get = Go.Pam.upd t.get d x := by
 cases d with
 | none => rfl
 | some d =>
  have hd : d < n := by simpa [dstOk] using hd
  funext j
  show (Tr.set 12 t d x).get j = if j = d then x else t.get j
  exact Tr.get_set 12 t d x j (by have : (2 : Nat) ^ 12 = 4096 := rfl; omega)
def Tr.ofL : Nat → List PV → Tr → Tr
 | _, [], t => t
 | i, x :: xs, t => Tr.ofL (i + 1) xs (Tr.set 12 t i x)
theorem Tr.get_ofL : ∀ (xs : List PV) (i : Nat) (t : Tr) (j : Nat), i + xs.length ≤ 4000 → (Tr.ofL i xs t).get j = if i ≤ j ∧ j < i + xs.length then xs.getD (j - i) (.tup []) else t.get j
 | [], i, t, j, h => by
  show t.get j = _
  rw [if_neg]; simp
 | x :: xs, i, t, j, h => by
  have hl : (x :: xs).length = xs.length + 1 := rfl
  show (Tr.ofL (i + 1) xs (Tr.set 12 t i x)).get j = _
  rw [Tr.get_ofL xs (i + 1) _ j (by omega), Tr.get_set 12 t i x j (by have : (2 : Nat) ^ 12 = 4096 := rfl; omega)]
  by_cases h1 : i + 1 ≤ j ∧ j < i + 1 + xs.length
  ·rw [if_pos h1, if_pos (by omega)]
   have : j - i = (j - (i + 1)) + 1 := by omega
   rw [this]; simp
  ·rw [if_neg h1]
   by_cases h2 : j = i
   ·rw [if_pos h2, if_pos (by omega), h2]; simp
   ·rw [if_neg h2, if_neg (by omega)]
theorem Tr.get_args (xs : List PV) (h : xs.length ≤ 4000) : (Tr.ofL 0 xs .nil).get = fun i => xs.getD i (.tup []) := by
 funext j
 rw [Tr.get_ofL xs 0 .nil j (by omega)]
 by_cases hj : j < xs.length
 ·rw [if_pos (by omega)]; rfl
 ·rw [if_neg (by omega), Tr.get_nil, List.getD_eq_getElem?_getD, List.getElem?_eq_none (by omega)]; rfl
/-! Calls that know more -/
def Sub (c2 c1 : Call') : Prop := ∀ f args S r, c2 f args S = some r → c1 f args S = some r
theorem evStep_sub {ctx : Ctx} {c2 c1 : Call'} (hc : Sub c2 c1) {base : Nat} {σ : Nat → PV} {S : List SObj} {op : Op} {r : PV × List SObj × Bool} (h : evStep ctx c2 base σ S op = some r) : evStep ctx c1 base σ S op = some r := by
 cases op
 case call c =>
  simp only [evStep] at h ⊢
  unfold callPV at h ⊢
  split at h
  split at h
  all_goals try exact h
  ·split at h
   ·exact hc _ _ _ _ h
   ·cases h
  ·split at h
   ·rename_i hm; exact hc _ _ _ _ h
   ·cases h
 case makeMap t r => cases r <;> exact h
 case next it b => cases b <;> exact h
 all_goals exact h
theorem evStepF_sub {ctx : Ctx} {c2 c1 : Call'} (hc : Sub c2 c1) {base : Nat} {σ : Nat → PV} {S : List SObj} {p : POp} {r : PV × List SObj × Bool} (h : evStepF ctx c2 base σ S p = some r) : evStepF ctx c1 base σ S p = some r := by
 unfold evStepF at h ⊢
 simp only at h ⊢
 split at h
 ·rename_i hw
  rw [if_pos hw]
  unfold birthF at h ⊢
  split at h
  ·rename_i c hcv
   cases hq : purePV c2 (frzT (frzArgs ctx σ p.op) σ S).1 c with
   | none => rw [hq] at h; cases h
   | some u =>
    rw [hq] at h
    have : purePV c1 (frzT (frzArgs ctx σ p.op) σ S).1 c = some u := by
     unfold purePV at hq ⊢
     split at hq
     ·split at hq
      ·split at hq
       ·rename_i hcl
        split at hq
        ·rename_i hcall
         simp only [hcl, if_true, hc _ _ _ _ hcall]
         exact hq
        ·cases hq
       ·cases hq
      ·cases hq
     ·cases hq
    rw [this]; exact h
  ·exact h
 ·rename_i hw
  rw [if_neg hw]
  exact evStep_sub hc h
/-! What leaves the store as it is, by its kind alone -/
def quietOp : Op → Bool
 | .move _ => true
 | .assign _ => true
 | .pick _ _ _ => true
 | .load _ _ => true
 | .nilCheck _ => true
 | .binOp _ _ _ _ _ => true
 | .unOp _ _ _ => true
 | .fieldAddr _ _ _ => true
 | .field _ _ _ => true
 | .indexAddr _ _ _ => true
 | .index _ _ _ => true
 | .lookup _ _ _ _ => true
 | .extract _ _ => true
 | .typeAssert _ _ _ _ => true
 | .slice _ _ _ _ _ => true
 | _ => false
def quietP (p : POp) : Bool := !p.wr && quietOp p.op
theorem quiet_same {ctx : Ctx} {call : Call'} {base : Nat} {σ : Nat → PV} {S S' : List SObj} {p : POp} {v : PV} {e : Bool} (hq : quietP p = true) (h : evStepF ctx call base σ S p = some (v, S', e)) : S' = S ∧ e = false := by
 obtain ⟨d, op, g, wr⟩ := p
 simp only [quietP, Bool.and_eq_true, Bool.not_eq_true'] at hq
 obtain ⟨rfl, hq⟩ := hq
 unfold evStepF at h
 cases op <;> simp only [quietOp, Bool.false_eq_true] at hq <;> simp only [frzArgs, frzT, Bool.false_eq_true, if_false, evStep] at h
 all_goals first
  | (cases h <;> exact ⟨rfl, rfl⟩)
  | (obtain ⟨_, _, hh⟩ := Option.map_eq_some_iff.1 h; injection hh with _ hh; injection hh with h1 h2; exact ⟨h1.symm, h2.symm⟩)
  | (split at h <;> first
    | (cases h <;> exact ⟨rfl, rfl⟩)
    | (obtain ⟨_, _, hh⟩ := Option.map_eq_some_iff.1 h; injection hh with _ hh; injection hh with h1 h2; exact ⟨h1.symm, h2.symm⟩)
    | (split at h <;> first
      | (cases h <;> exact ⟨rfl, rfl⟩)
      | (obtain ⟨_, _, hh⟩ := Option.map_eq_some_iff.1 h; injection hh with _ hh; injection hh with h1 h2; exact ⟨h1.symm, h2.symm⟩)))
/-! The machine -/
abbrev St2 := Tr × List SObj × Bool
def St2.st (s : St2) : St := (s.1.get, s.2.1, s.2.2)
def ops2 (ctx : Ctx) (call : Call') (fr : Fr) : List POp → Tr → List SObj → Bool → Option St2
 | [], T, S, e => some (T, S, e)
 | o :: rest, T, S, e =>
  match dstOk fr.ntmps o.dst with
  | false => none
  | true =>
   match wantedPV T.get o.guard with
   | none => none
   | some false => ops2 ctx call fr rest (T.upd o.dst (.tup [])) S e
   | some true =>
    match evStepF ctx call fr.base T.get S o with
    | none => none
    | some (v, S', e') => ops2 ctx call fr rest (T.upd o.dst v) S' (e || e')
def head2 (ctx : Ctx) (call : Call') (fr : Fr) (S : List SObj) : List POp → Tr → Option Tr
 | [], T => some T
 | o :: rest, T =>
  match dstOk fr.ntmps o.dst with
  | false => none
  | true =>
   match wantedPV T.get o.guard with
   | none => none
   | some false => head2 ctx call fr S rest (T.upd o.dst (.tup []))
   | some true =>
    match evStepF ctx call fr.base T.get S o with
    | none => none
    | some (v, S', e') => match quietP o || (sameS S' S && !e') with
     | true => head2 ctx call fr S rest (T.upd o.dst v)
     | false => none
def chain2 (ctx : Ctx) (call : Call') (fr : Fr) : List POp → List (List SObj) → List (TypeId × PV × PV) → Tr → List SObj → Bool → Option St2
 | [], _, _, T, S, e => some (T, S, e)
 | o :: rest, hist, pend, T, S, e =>
  match dstOk fr.ntmps o.dst with
  | false => none
  | true =>
   match wantedPV T.get o.guard with
   | none => none
   | some false => chain2 ctx call fr rest hist pend (T.upd o.dst (.tup [])) S e
   | some true =>
    match evStepF ctx call fr.base T.get S o with
    | none => none
    | some (v, S', e') =>
     match chained o with
     | true => if PendOk ctx pend S' then chain2 ctx call fr rest (S :: hist) pend (T.upd o.dst v) S' (e || e') else none
     | false => match quietP o || (sameS S' S && !e') with
      | false => none
      | true => match indep ctx T.get o with
       | true => chain2 ctx call fr rest hist pend (T.upd o.dst v) S e
       | false => match loadOf T.get o.op with
        | some (t, a) => if ∀ U ∈ hist, loadPV ctx t a U = some v then chain2 ctx call fr rest hist ((t, a, v) :: pend) (T.upd o.dst v) S e else none
        | none => none
section
variable {ctx : Ctx} {c2 c1 : Call'} {fr : Fr}
theorem ops2_sound (hc : Sub c2 c1) (hn : fr.ntmps ≤ 4000) : ∀ (l : List POp) (T : Tr) (S : List SObj) (e : Bool) (r : St2), ops2 ctx c2 fr l T S e = some r → evOps ctx c1 fr l T.get S e = some r.st
 | [], T, S, e, r, h => by simp only [ops2, Option.some.injEq] at h; subst h; rfl
 | o :: rest, T, S, e, r, h => by
  simp only [ops2] at h
  split at h
  ·cases h
  rename_i hd
  simp only [evOps]
  rw [if_pos hd]
  split at h
  ·cases h
  ·rename_i hw
   simp only [hw]
   rw [← Tr.get_upd hn T o.dst _ hd]
   exact ops2_sound hc hn rest _ _ _ _ h
  ·rename_i hw
   simp only [hw]
   split at h
   ·cases h
   rename_i v S' e' hs
   simp only [evStepF_sub hc hs]
   rw [← Tr.get_upd hn T o.dst _ hd]
   exact ops2_sound hc hn rest _ _ _ _ h
theorem head2_sound (hc : Sub c2 c1) (hn : fr.ntmps ≤ 4000) {S : List SObj} : ∀ (l : List POp) (T r : Tr), head2 ctx c2 fr S l T = some r → evHead ctx c1 fr S l T.get = some r.get
 | [], T, r, h => by simp only [head2, Option.some.injEq] at h; subst h; rfl
 | o :: rest, T, r, h => by
  simp only [head2] at h
  split at h
  ·cases h
  rename_i hd
  simp only [evHead]
  rw [if_pos hd]
  split at h
  ·cases h
  ·rename_i hw
   simp only [hw]
   rw [← Tr.get_upd hn T o.dst _ hd]
   exact head2_sound hc hn rest _ _ h
  ·rename_i hw
   simp only [hw]
   split at h
   ·cases h
   rename_i v S' e' hs
   split at h
   case h_2 => cases h
   rename_i hq
   simp only [evStepF_sub hc hs]
   have hsame : (sameS S' S && !e') = true := by
    rcases Bool.or_eq_true_iff.1 hq with hq | hq
    ·obtain ⟨rfl, rfl⟩ := quiet_same hq hs
     simp [sameS_refl]
    ·exact hq
   rw [if_pos hsame, ← Tr.get_upd hn T o.dst _ hd]
   exact head2_sound hc hn rest _ _ h
theorem chain2_sound (hc : Sub c2 c1) (hn : fr.ntmps ≤ 4000) : ∀ (l : List POp) (hist : List (List SObj)) (pend : List (TypeId × PV × PV)) (T : Tr) (S : List SObj) (e : Bool) (r : St2), chain2 ctx c2 fr l hist pend T S e = some r → evChain ctx c1 fr l hist pend T.get S e = some r.st
 | [], _, _, T, S, e, r, h => by simp only [chain2, Option.some.injEq] at h; subst h; rfl
 | o :: rest, hist, pend, T, S, e, r, h => by
  simp only [chain2] at h
  split at h
  ·cases h
  rename_i hd
  simp only [evChain]
  rw [if_pos hd]
  split at h
  ·cases h
  ·rename_i hw
   simp only [hw]
   rw [← Tr.get_upd hn T o.dst _ hd]
   exact chain2_sound hc hn rest _ _ _ _ _ _ h
  ·rename_i hw
   simp only [hw]
   split at h
   ·cases h
   rename_i v S' e' hs
   simp only [evStepF_sub hc hs]
   split at h
   ·rename_i hch
    rw [if_pos hch]
    split at h
    case isFalse => cases h
    rename_i hp
    rw [if_pos hp, ← Tr.get_upd hn T o.dst _ hd]
    exact chain2_sound hc hn rest _ _ _ _ _ _ h
   ·rename_i hch
    rw [if_neg (by simp [hch])]
    split at h
    ·cases h
    rename_i hq
    have hsame : (sameS S' S && !e') = true := by
     rcases Bool.or_eq_true_iff.1 hq with hq | hq
     ·obtain ⟨rfl, rfl⟩ := quiet_same hq hs
      simp [sameS_refl]
     ·exact hq
    rw [if_pos hsame]
    split at h
    ·rename_i hi
     rw [if_pos hi, ← Tr.get_upd hn T o.dst _ hd]
     exact chain2_sound hc hn rest _ _ _ _ _ _ h
    ·rename_i hi
     rw [if_neg (by simp [hi])]
     split at h
     case h_2 => cases h
     rename_i t a hl
     split at h
     case isFalse => cases h
     rename_i hh
     simp only [hl]
     rw [if_pos hh, ← Tr.get_upd hn T o.dst _ hd]
     exact chain2_sound hc hn rest _ _ _ _ _ _ h
end
def rounds2 (body : St2 → Option (Ex × St2)) : Nat → St2 → Option (Ex × St2)
 | 0, _ => none
 | k + 1, s =>
  match body s with
  | none => none
  | some (.normal, s') => rounds2 body k s'
  | some (x, s') => some (x, s')
def code2 (ctx : Ctx) (call : Call') (fr : Fr) (k : Nat) : PC → St2 → Option (Ex × St2)
 | .skip, s => some (.normal, s)
 | .region ops, s =>
  match ops2 ctx call fr ops s.1 s.2.1 s.2.2 with
  | some s' => some (.normal, s')
  | none => none
 | .draw hd tl, s =>
  match head2 ctx call fr s.2.1 hd s.1 with
  | some σ =>
   match ops2 ctx call fr tl σ s.2.1 s.2.2 with
   | some s' => some (.normal, s')
   | none => none
  | none => none
 | .drawC hd tl, s =>
  match chain2 ctx call fr hd [] [] s.1 s.2.1 s.2.2 with
  | some s1 =>
   match ops2 ctx call fr tl s1.1 s1.2.1 s1.2.2 with
   | some s' => some (.normal, s')
   | none => none
  | none => none
 | .seq a b, s =>
  match code2 ctx call fr k a s with
  | some (.normal, s') => code2 ctx call fr k b s'
  | r => r
 | .cond c a b, s =>
  match opd s.1.get c with
  | .bool true => code2 ctx call fr k a s
  | .bool false => code2 ctx call fr k b s
  | _ => none
 | .block id c, s =>
  match code2 ctx call fr k c s with
  | some (.exit i, s') => some (if i = id then .normal else .exit i, s')
  | r => r
 | .loop c, s => rounds2 (code2 ctx call fr k c) k s
 | .exit id, s => some (.exit id, s)
 | .ret, s => some (.ret, s)
 | .mloop .., _ => none
section
variable {ctx : Ctx} {c2 c1 : Call'} {fr : Fr}
theorem rounds2_sound {b2 : St2 → Option (Ex × St2)} {b1 : St → Option (Ex × St)} (hb : ∀ s x r, b2 s = some (x, r) → b1 s.st = some (x, r.st)) : ∀ (k : Nat) (s : St2) (x : Ex) (r : St2), rounds2 b2 k s = some (x, r) → rounds b1 k s.st = some (x, r.st)
 | 0, _, _, _, h => by cases h
 | k + 1, s, x, r, h => by
  simp only [rounds2] at h
  simp only [rounds]
  split at h
  ·cases h
  ·rename_i s' hs
   rw [hb _ _ _ hs]
   exact rounds2_sound hb k s' x r h
  ·rename_i y s' hne hs
   injection h with h; injection h with h1 h2; subst h1; subst h2
   rw [hb _ _ _ hs]
   cases y with
   | normal => exact absurd rfl hne
   | exit i => rfl
   | ret => rfl
theorem code2_sound (hc : Sub c2 c1) (hn : fr.ntmps ≤ 4000) {k : Nat} : ∀ (c : PC) (s : St2) (x : Ex) (r : St2), code2 ctx c2 fr k c s = some (x, r) → evCode ctx c1 fr k c s.st = some (x, r.st) := by
 intro c
 induction c with
 | skip => intro s x r h; simp only [code2, Option.some.injEq, Prod.mk.injEq] at h; obtain ⟨rfl, rfl⟩ := h; rfl
 | region ops =>
  intro s x r h
  simp only [code2] at h
  split at h
  case h_2 => cases h
  rename_i s' hs
  injection h with h; injection h with h1 h2; subst h1; subst h2
  simp only [evCode]
  have := ops2_sound hc hn _ _ _ _ _ hs
  show (match evOps ctx c1 fr ops s.1.get s.2.1 s.2.2 with | some s' => some (Ex.normal, s') | none => none) = _
  rw [this]
 | draw hd tl =>
  intro s x r h
  simp only [code2] at h
  split at h
  case h_2 => cases h
  rename_i σ hσ
  split at h
  case h_2 => cases h
  rename_i s' hs
  injection h with h; injection h with h1 h2; subst h1; subst h2
  simp only [evCode]
  have a1 := head2_sound hc hn _ _ _ hσ
  have a2 := ops2_sound hc hn _ _ _ _ _ hs
  simp only [St2.st] at a1 a2 ⊢
  simp only [a1, a2]
 | drawC hd tl =>
  intro s x r h
  simp only [code2] at h
  split at h
  case h_2 => cases h
  rename_i s1 hσ
  split at h
  case h_2 => cases h
  rename_i s' hs
  injection h with h; injection h with h1 h2; subst h1; subst h2
  simp only [evCode]
  have a1 := chain2_sound hc hn _ _ _ _ _ _ _ hσ
  have a2 := ops2_sound hc hn _ _ _ _ _ hs
  simp only [St2.st] at a1 a2 ⊢
  simp only [a1, a2]
 | seq a b iha ihb =>
  intro s x r h
  simp only [code2] at h
  simp only [evCode]
  split at h
  ·rename_i s' hs
   rw [iha _ _ _ hs]
   exact ihb _ _ _ h
  ·rename_i hne
   have := iha _ _ _ h
   rw [this]
   cases x with
   | normal => exact absurd h (hne _)
   | exit i => rfl
   | ret => rfl
 | cond c a b iha ihb =>
  intro s x r h
  simp only [code2] at h
  simp only [evCode]
  split at h
  ·rename_i hb
   have hb' : opd s.st.1 c = .bool true := hb
   simp only [hb']; exact iha _ _ _ h
  ·rename_i hb
   have hb' : opd s.st.1 c = .bool false := hb
   simp only [hb']; exact ihb _ _ _ h
  ·cases h
 | block id c ih =>
  intro s x r h
  simp only [code2] at h
  simp only [evCode]
  split at h
  ·rename_i i s' hs
   injection h with h; injection h with h1 h2; subst h1; subst h2
   rw [ih _ _ _ hs]
  ·rename_i hne
   rw [ih _ _ _ h]
   cases x with
   | normal => rfl
   | exit i => exact absurd h (hne _ _)
   | ret => rfl
 | loop c ih =>
  intro s x r h
  simp only [code2] at h
  simp only [evCode]
  exact rounds2_sound ih k s x r h
 | exit id => intro s x r h; simp only [code2, Option.some.injEq, Prod.mk.injEq] at h; obtain ⟨rfl, rfl⟩ := h; rfl
 | ret => intro s x r h; simp only [code2, Option.some.injEq, Prod.mk.injEq] at h; obtain ⟨rfl, rfl⟩ := h; rfl
 | mloop it t1 p2 c keep p6 p7 => intro s x r h; simp [code2] at h
end
def body2 (ctx : Ctx) (call : Call') (k : Nat) (pf : PFn) (args : List PV) (S : List SObj) : Option (PV × List SObj × Bool) :=
 match Nat.ble pf.ntmps 4000 && Nat.ble args.length 4000 with
 | false => none
 | true =>
  match code2 ctx call ⟨pf.ntmps, S.length⟩ k pf.body (Tr.ofL 0 args .nil, S, false) with
  | some (.exit _, _) => none
  | some (_, (T, S', e)) =>
   match resultsOf ctx S' T.get pf.results with
   | some vs => if pf.raw then some (tupled vs, S', e) else some (tupled (frzL vs S').1, (frzL vs S').2, e)
   | none => none
  | none => none
theorem body2_sound {ctx : Ctx} {c2 c1 : Call'} (hc : Sub c2 c1) {k : Nat} {pf : PFn} {args : List PV} {S : List SObj} {r : PV × List SObj × Bool} (h : body2 ctx c2 k pf args S = some r) : runBody ctx c1 k pf args S = some r := by
 unfold body2 at h
 split at h
 ·cases h
 rename_i hn
 obtain ⟨h1, h2⟩ := Bool.and_eq_true_iff.1 hn
 have h1 := Nat.le_of_ble_eq_true h1
 have h2 := Nat.le_of_ble_eq_true h2
 unfold runBody
 split at h
 ·cases h
 ·rename_i x T S' e hne hcd
  have := code2_sound (fr := ⟨pf.ntmps, S.length⟩) hc h1 _ _ _ _ hcd
  simp only [St2.st, Tr.get_args args h2] at this
  rw [this]
  split at h
  case h_2 => cases h
  rename_i vs hvs
  cases x with
  | exit i => exact absurd rfl (hne i)
  | normal => simp only [hvs]; exact h
  | ret => simp only [hvs]; exact h
 ·cases h
/-! Tables as trees -/
inductive Tb (α : Type) where
 | nil
 | node (l : Tb α) (k : Nat) (v : α) (r : Tb α)
def Tb.find {α : Type} : Tb α → Nat → Option α
 | .nil, _ => none
 | .node l k v r, i => match Nat.beq i k with
  | true => some v
  | false => match Nat.ble i k with
   | true => l.find i
   | false => r.find i
def Tb.All {α : Type} (p : Nat → α → Prop) : Tb α → Prop
 | .nil => True
 | .node l k v r => l.All p ∧ p k v ∧ r.All p
theorem Tb.find_all {α : Type} {p : Nat → α → Prop} : ∀ (t : Tb α) (i : Nat) (v : α), t.All p → t.find i = some v → p i v
 | .nil, _, _, _, h => by cases h
 | .node l k v r, i, x, ⟨h1, h2, h3⟩, h => by
  rw [Tb.find] at h
  split at h
  ·rename_i he
   injection h with h; subst h
   rw [Nat.eq_of_beq_eq_true he]; exact h2
  ·split at h
   ·exact Tb.find_all l i x h1 h
   ·exact Tb.find_all r i x h3 h
end Go.Pam
namespace Go.Pam
theorem rounds_sub {b1 b2 : St → Option (Ex × St)} (hb : ∀ s r, b1 s = some r → b2 s = some r) : ∀ (k : Nat) (s : St) (r : Ex × St), rounds b1 k s = some r → rounds b2 k s = some r
 | 0, _, _, h => by cases h
 | k + 1, s, r, h => by
  simp only [rounds] at h ⊢
  cases h1 : b1 s with
  | none => rw [h1] at h; cases h
  | some q =>
   rw [h1] at h
   rw [hb _ _ h1]
   obtain ⟨x, s'⟩ := q
   cases x with
   | normal => exact rounds_sub hb k s' r h
   | exit i => exact h
   | ret => exact h
theorem evCode_W {ctx : Ctx} {call : Call'} {fr : Fr} {k : Nat} : ∀ (c : PC) (s : St) (r : Ex × St), evCode ctx call fr k c s = some r → codeW ctx call fr c s = some r := by
 intro c
 induction c with
 | skip => intro s r h; exact h
 | region ops => intro s r h; exact h
 | draw a b => intro s r h; exact h
 | drawC a b => intro s r h; exact h
 | seq a b iha ihb =>
  intro s r h
  simp only [evCode] at h
  simp only [codeW]
  cases ha : evCode ctx call fr k a s with
  | none => rw [ha] at h; cases h
  | some q =>
   rw [ha] at h
   rw [iha _ _ ha]
   obtain ⟨x, s'⟩ := q
   cases x with
   | normal => exact ihb _ _ h
   | exit i => exact h
   | ret => exact h
 | cond c a b iha ihb =>
  intro s r h
  simp only [evCode] at h
  simp only [codeW]
  split at h
  ·rename_i hc; rw [hc]; exact iha _ _ h
  ·rename_i hc; rw [hc]; exact ihb _ _ h
  ·cases h
 | block id c ih =>
  intro s r h
  simp only [evCode] at h
  simp only [codeW]
  cases hc : evCode ctx call fr k c s with
  | none => rw [hc] at h; cases h
  | some q =>
   rw [hc] at h
   rw [ih _ _ hc]
   obtain ⟨x, s'⟩ := q
   cases x <;> exact h
 | loop c ih =>
  intro s r h
  simp only [evCode] at h
  simp only [codeW]
  exact loopw_of (rounds_sub ih k s r h)
 | exit i => intro s r h; exact h
 | ret => intro s r h; exact h
 | mloop => intro s r h; exact h
theorem runBody_W {ctx : Ctx} {call : Call'} {k : Nat} {pf : PFn} {args : List PV} {S : List SObj} {r : PV × List SObj × Bool} (h : runBody ctx call k pf args S = some r) : bodyW ctx call pf args S = some r := by
 unfold runBody at h
 unfold bodyW
 cases hc : evCode ctx call ⟨pf.ntmps, S.length⟩ k pf.body (fun i => args.getD i (.tup []), S, false) with
 | none => rw [hc] at h; cases h
 | some q =>
  rw [hc] at h
  rw [evCode_W _ _ _ hc]
  exact h
/-! The machine with a table -/
def ev3 (env : Env) (tab : Call') : Nat → FuncId → List PV → List SObj → Option (PV × List SObj × Bool)
 | 0, _, _, _ => none
 | k + 1, f, args, S =>
  match tab f args S with
  | some r => some r
  | none =>
  match env.intr f with
  | some h => h args S
  | none =>
   match env.fn f with
   | none => none
   | some pf =>
    match Nat.ble args.length pf.ntmps with
    | false => none
    | true =>
     match cleanL (args.map PV.strip) with
     | true =>
      match body2 env.ctx (ev3 env tab k) k pf (args.map PV.strip) [] with
      | some (v, _, _) =>
       match v.strip.clean with
       | true => some (v.strip, S, false)
       | false =>
        match body2 env.ctx (ev3 env tab k) k pf args S with
        | some (v, S', e) => some (leave S.length v S' e)
        | none => none
      | none => none
     | false =>
      match body2 env.ctx (ev3 env tab k) k pf args S with
      | some (v, S', e) => some (leave S.length v S' e)
      | none => none
theorem ev3_sound {env : Env} {tab : Call'} (ht : Sub tab (evw env)) : ∀ k, Sub (ev3 env tab k) (evw env)
 | 0 => fun f args S r h => by cases h
 | k + 1 => fun f args S r h => by
  have ih := ev3_sound ht k
  have lm : ∀ {pf : PFn} {args : List PV} {S : List SObj} {r : PV × List SObj × Bool}, body2 env.ctx (ev3 env tab k) k pf args S = some r → ∃ K, ∀ k', K ≤ k' → runBody env.ctx (ev env k') k' pf args S = some r :=
   fun hb => body_lim (runBody_W (body2_sound ih hb))
  simp only [ev3] at h
  split at h
  ·rename_i hr; injection h with h; subst h; exact ht _ _ _ _ hr
  split at h
  ·rename_i g hf
   exact lim_of 1 fun k' hk' => by
    obtain ⟨j, rfl⟩ : ∃ j, k' = j + 1 := ⟨k' - 1, by omega⟩
    simp only [ev, hf]; exact h
  rename_i hf
  split at h
  ·cases h
  rename_i pf hpf
  split at h
  ·cases h
  rename_i hle
  have hle := Nat.le_of_ble_eq_true hle
  split at h
  ·rename_i hcl
   split at h
   case h_2 => cases h
   rename_i v S1 e1 hb
   obtain ⟨K1, h1⟩ := lm hb
   split at h
   ·rename_i hv
    refine lim_of (K1 + 1) fun k' hk' => ?_
    obtain ⟨j, rfl⟩ : ∃ j, k' = j + 1 := ⟨k' - 1, by omega⟩
    simp only [ev, hf, hpf, hle, if_true, hcl, h1 j (by omega), hv]
    exact h
   ·rename_i hv
    split at h
    case h_2 => cases h
    rename_i v2 S2 e2 hb2
    obtain ⟨K2, h2⟩ := lm hb2
    refine lim_of (K1 + K2 + 1) fun k' hk' => ?_
    obtain ⟨j, rfl⟩ : ∃ j, k' = j + 1 := ⟨k' - 1, by omega⟩
    simp only [ev, hf, hpf, hle, if_true, hcl, h1 j (by omega), hv, Bool.false_eq_true, if_false, h2 j (by omega)]
    exact h
  ·rename_i hcl
   split at h
   case h_2 => cases h
   rename_i v2 S2 e2 hb2
   obtain ⟨K2, h2⟩ := lm hb2
   refine lim_of (K2 + 1) fun k' hk' => ?_
   obtain ⟨j, rfl⟩ : ∃ j, k' = j + 1 := ⟨k' - 1, by omega⟩
   simp only [ev, hf, hpf, hle, if_true, hcl, Bool.false_eq_true, if_false, h2 j (by omega)]
   exact h
def pureRun (env : Env) (tab : Call') (k : Nat) (f : FuncId) (args : List PV) : Option PV :=
 match env.intr f with
 | some _ => none
 | none => match env.fn f with
  | none => none
  | some pf => match Nat.ble args.length pf.ntmps && cleanL (args.map PV.strip) with
   | false => none
   | true => match body2 env.ctx (ev3 env tab k) k pf (args.map PV.strip) [] with
    | some (v, _, _) => match v.strip.clean with
     | true => some v.strip
     | false => none
    | none => none
theorem pureOf {env : Env} {tab : Call'} (ht : Sub tab (evw env)) {k : Nat} {f : FuncId} {args : List PV} {v : PV} (h : pureRun env tab k f args = some v) : ∀ S, evw env f args S = some (v, S, false) := by
 intro S
 unfold pureRun at h
 split at h
 ·cases h
 rename_i hi
 split at h
 ·cases h
 rename_i pf hf
 split at h
 ·cases h
 rename_i hlc
 obtain ⟨hl, hc⟩ := Bool.and_eq_true_iff.1 hlc
 have hl := Nat.le_of_ble_eq_true hl
 split at h
 case h_2 => cases h
 rename_i v1 S1 e1 hb
 split at h
 case h_2 => cases h
 rename_i hv
 injection h with h
 subst h
 obtain ⟨K, hK⟩ := body_lim (runBody_W (body2_sound (ev3_sound ht k) hb))
 refine lim_of (K + 1) fun k' hk' => ?_
 obtain ⟨j, rfl⟩ : ∃ j, k' = j + 1 := ⟨k' - 1, by omega⟩
 simp only [ev, hi, hf, hl, if_true, hc, hK j (by omega), hv]
/-! Tables -/
def findP : List (List PV × PV) → List PV → Option PV
 | [], _ => none
 | (a, v) :: l, args => match sameL a args with
  | true => some v
  | false => findP l args
def findI : List (List PV × List SObj × PV × List SObj × Bool) → List PV → List SObj → Option (PV × List SObj × Bool)
 | [], _, _ => none
 | (a, s, r) :: l, args, S => match sameL a args && sameS s S with
  | true => some r
  | false => findI l args S
structure Tab where
 p : Tb (List (List PV × PV))
 i : Tb (List (List PV × List SObj × PV × List SObj × Bool))
def Tab.imp (t : Tab) : Call' := fun f args S => match t.i.find f with
 | some l => findI l args S
 | none => none
def Tab.call (t : Tab) : Call' := fun f args S => match t.p.find f with
 | some l => match findP l args with
  | some v => some (v, S, false)
  | none => t.imp f args S
 | none => t.imp f args S
def AllP (env : Env) (f : FuncId) : List (List PV × PV) → Prop
 | [] => True
 | x :: l => (∀ S, evw env f x.1 S = some (x.2, S, false)) ∧ AllP env f l
def AllI (env : Env) (f : FuncId) : List (List PV × List SObj × PV × List SObj × Bool) → Prop
 | [] => True
 | x :: l => evw env f x.1 x.2.1 = some x.2.2 ∧ AllI env f l
structure Tab.Ok (t : Tab) (env : Env) : Prop where
 p : t.p.All (AllP env)
 i : t.i.All (AllI env)
theorem findP_ok {env : Env} {f : FuncId} : ∀ {l : List (List PV × PV)} {args : List PV} {v : PV}, AllP env f l → findP l args = some v → ∀ S, evw env f args S = some (v, S, false)
 | [], _, _, _, h => by cases h
 | (a, v) :: l, args, x, ⟨h1, h2⟩, h => by
  simp only [findP] at h
  split at h
  ·rename_i hs
   injection h with h; subst h
   rw [← sameL_eq _ _ hs]; exact h1
  ·exact findP_ok h2 h
theorem findI_ok {env : Env} {f : FuncId} : ∀ {l : List (List PV × List SObj × PV × List SObj × Bool)} {args : List PV} {S : List SObj} {r : PV × List SObj × Bool}, AllI env f l → findI l args S = some r → evw env f args S = some r
 | [], _, _, _, _, h => by cases h
 | (a, s, q) :: l, args, S, r, ⟨h1, h2⟩, h => by
  simp only [findI] at h
  split at h
  ·rename_i hs
   obtain ⟨hs1, hs2⟩ := Bool.and_eq_true_iff.1 hs
   injection h with h; subst h
   rw [← sameL_eq _ _ hs1, ← sameS_eq _ _ hs2]; exact h1
  ·exact findI_ok h2 h
theorem Tab.Ok.sub {t : Tab} {env : Env} (h : t.Ok env) : Sub t.call (evw env) := by
 have him : Sub t.imp (evw env) := by
  intro f args S r hr
  unfold Tab.imp at hr
  split at hr
  ·rename_i l hl
   exact findI_ok (Tb.find_all _ _ _ h.i hl) hr
  ·cases hr
 intro f args S r hr
 unfold Tab.call at hr
 split at hr
 ·rename_i l hl
  split at hr
  ·rename_i v hv
   injection hr with hr; subst hr
   exact findP_ok (Tb.find_all _ _ _ h.p hl) hv S
  ·exact him _ _ _ _ hr
 ·exact him _ _ _ _ hr
theorem runOf {env : Env} {t : Tab} (ht : t.Ok env) {k : Nat} {f : FuncId} {args : List PV} {S : List SObj} {r : PV × List SObj × Bool} (h : ev3 env t.call k f args S = some r) : evw env f args S = some r :=
 ev3_sound ht.sub k _ _ _ _ h
end Go.Pam
namespace Go.Pam
section
variable {env : Env} {fr : Fr} {c2 : Call'} {k : Nat} {K : KX}
theorem WC.eval (hc : Sub c2 (evw env)) (hn : fr.ntmps ≤ 4000) {pc : PC} {s r : St2} {x : Ex} (h : code2 env.ctx c2 fr k pc s = some (x, r)) (hk : K x r.1.get r.2.1 r.2.2) : WC env fr pc s.1.get s.2.1 s.2.2 K :=
 ⟨_, _, _, _, evCode_W _ _ _ (code2_sound hc hn _ _ _ _ h), hk⟩
def pre2 (ctx : Ctx) (call : Call') (fr : Fr) (k : Nat) : Nat → PC → St2 → Option St2
 | 0, _, s => some s
 | m + 1, .seq a b, s => match code2 ctx call fr k a s with
  | some (.normal, s') => pre2 ctx call fr k m b s'
  | _ => none
 | _, _, _ => none
def dropSeq : Nat → PC → PC
 | 0, pc => pc
 | m + 1, .seq _ b => dropSeq m b
 | _, pc => pc
theorem WC.pre (hc : Sub c2 (evw env)) (hn : fr.ntmps ≤ 4000) : ∀ (m : Nat) {pc : PC} {s s' : St2}, pre2 env.ctx c2 fr k m pc s = some s' → WC env fr (dropSeq m pc) s'.1.get s'.2.1 s'.2.2 K → WC env fr pc s.1.get s.2.1 s.2.2 K
 | 0, pc, s, s', h, hk => by injection h with h; subst h; exact hk
 | m + 1, pc, s, s', h, hk => by
  cases pc <;> simp only [pre2, reduceCtorEq] at h
  rename_i a b
  split at h
  case h_2 => cases h
  rename_i s1 h1
  exact WC.seq (WC.eval hc hn h1 (WC.pre hc hn m h hk))
end
end Go.Pam
namespace Go.Pam
open Go.RowKit
def Tag.up (n : Nat) : Tag → Tag
 | .tip id => .tip (n + id)
 | .none => .none
 | .full => .full
mutual
def PV.up (n : Nat) : PV → PV
 | .ptr id off => .ptr (n + id) off
 | .iptr cs o => .iptr (upL n cs) o
 | .lst xs t => .lst (upL n xs) (t.up n)
 | .hsl id a b => .hsl (n + id) a b
 | .rsl id l => .rsl (n + id) l
 | .map id => .map (n + id)
 | .fn f xs ys => .fn f (upL n xs) (upL n ys)
 | .ifc t v => .ifc t (v.up n)
 | .agg cs => .agg (upL n cs)
 | .tup cs => .tup (upL n cs)
 | .poison => .poison
 | .bool b => .bool b
 | .int k i => .int k i
 | .str s => .str s
 | .nilp => .nilp
 | .nils => .nils
 | .emp => .emp
 | .nilm => .nilm
 | .nilf => .nilf
 | .nili => .nili
 termination_by structural x => x
def upL (n : Nat) : List PV → List PV
 | [] => []
 | x :: xs => x.up n :: upL n xs
 termination_by structural xs => xs
end
theorem upL_map (n : Nat) : ∀ xs : List PV, upL n xs = xs.map (PV.up n)
 | [] => rfl
 | x :: xs => by simp [upL, upL_map n xs]
theorem upL_len (n : Nat) (xs : List PV) : (upL n xs).length = xs.length := by simp [upL_map]
theorem upL_get {n : Nat} {xs : List PV} {j : Nat} {c : PV} (h : (upL n xs)[j]? = some c) : ∃ c', xs[j]? = some c' ∧ c = c'.up n := by
 rw [upL_map, List.getElem?_map] at h
 cases hx : xs[j]? with
 | none => rw [hx] at h; cases h
 | some d => rw [hx] at h; exact ⟨d, rfl, (Option.some.inj h).symm⟩
theorem up_cells (n : Nat) (x : PV) : (x.up n).cells = upL n x.cells := by
 cases x <;> simp [PV.up, PV.cells, upL]
def SObj.up (n : Nat) : SObj → SObj
 | .cells cs => .cells (upL n cs)
 | .map es => .map (es.map fun kv => (kv.1.up n, kv.2.up n))
 | .tip a b => .tip a b
 | .dead => .dead
 | .row xs sz fz => .row (upL n xs) sz fz
 | .bld t u b => .bld t u (b.map fun p => (n + p.1, p.2))
 | .buf bs t => .buf bs t
 | .iter mp a b => .iter (mp.map (n + ·)) a b
def G.join (n : Nat) (g g' : G) : G where
 pp := g'.pp
 loc id := if id < n then g.loc id else g'.loc (id - n)
 hw id := if id < n then g.hw id else g'.hw (id - n)
 tsz id := if id < n then g.tsz id else g'.tsz (id - n)
 obj id := if id < n then g.obj id else g'.obj (id - n)
 fix := g.fix
section
variable {n : Nat} {g g' : G} {w : World}
theorem join_loc (id : Nat) : (G.join n g g').loc (n + id) = g'.loc id := by
 show (if n + id < n then g.loc (n + id) else g'.loc (n + id - n)) = _
 rw [if_neg (by omega), Nat.add_sub_cancel_left]
theorem join_hw (id : Nat) : (G.join n g g').hw (n + id) = g'.hw id := by
 show (if n + id < n then g.hw (n + id) else g'.hw (n + id - n)) = _
 rw [if_neg (by omega), Nat.add_sub_cancel_left]
theorem join_tsz (id : Nat) : (G.join n g g').tsz (n + id) = g'.tsz id := by
 show (if n + id < n then g.tsz (n + id) else g'.tsz (n + id - n)) = _
 rw [if_neg (by omega), Nat.add_sub_cancel_left]
theorem join_obj (id : Nat) : (G.join n g g').obj (n + id) = g'.obj id := by
 show (if n + id < n then g.obj (n + id) else g'.obj (n + id - n)) = _
 rw [if_neg (by omega), Nat.add_sub_cancel_left]
theorem TipC.up {id cap : Nat} (h : TipC g' w id cap) : TipC (G.join n g g') w (n + id) cap := by
 obtain ⟨cur, e, fr, h1, h2, h3, h4⟩ := h
 refine ⟨cur, e, fr, by rw [join_loc]; exact h1, by rw [join_tsz]; exact h2, fun i hi hj => ?_, ?_⟩
 ·rw [join_loc]; exact h3 i (by rw [join_hw, join_tsz] at hi; exact hi) hj
 ·rw [join_loc, join_hw, join_tsz]; exact h4
theorem TagOk.up {m : Nat} {tag : Tag} {b o len cap sz : Nat} (h : TagOk g' w m tag b o len cap sz) : TagOk (G.join n g g') w (n + m) (tag.up n) b o len cap sz := by
 cases tag with
 | none => trivial
 | full => exact h
 | tip id =>
  obtain ⟨h1, h2, h3, h4⟩ := h
  refine ⟨by omega, by rw [join_obj]; exact h2, by rw [join_hw]; exact h3, fun he => ?_⟩
  rw [join_hw] at he
  obtain ⟨k1, k2, k3, k4⟩ := h4 he
  exact ⟨k1, by rw [join_loc]; exact k2, by rw [join_tsz]; exact k3, k4.up⟩
theorem V.up {m : Nat} {x : PV} {v : Value} (h : V g' w m x v) : V (G.join n g g') w (n + m) (x.up n) v := by
 induction h with
 | poison v => exact .poison v
 | bool b => exact .bool b
 | int k i => exact .int k i
 | str s => exact .str s
 | nilp => exact .nilp
 | ptr id off h ho => rw [← join_loc (n := n) (g := g)]; exact .ptr _ off (by omega) (by rw [join_obj]; exact ho)
 | iptr cs off b o u h1 h2 h3 h4 ih =>
  refine .iptr _ off b o u (fun j c hj => ?_) (fun j c hj => ?_) (fun j c hj => ?_) (fun j hj => h4 j (by rw [upL_len] at hj; exact hj))
  ·obtain ⟨c', e1, rfl⟩ := upL_get hj; exact h1 j c' e1
  ·obtain ⟨c', e1, rfl⟩ := upL_get hj; exact h2 j c' e1
  ·obtain ⟨c', e1, rfl⟩ := upL_get hj; exact ih j c' e1
 | nils => exact .nils
 | lst xs tag b o cap sz u hc h1 h2 h3 h4 h5 ht ih =>
  have cell : ∀ {i j : Nat} {x c : PV}, (upL n xs)[i]? = some x → x.cells[j]? = some c → ∃ x' c', xs[i]? = some x' ∧ x'.cells[j]? = some c' ∧ c = c'.up n := by
   intro i j x c hi hj
   obtain ⟨x', e1, rfl⟩ := upL_get hi
   rw [up_cells] at hj
   obtain ⟨c', e2, rfl⟩ := upL_get hj
   exact ⟨x', c', e1, e2, rfl⟩
  have := V.lst (g := G.join n g g') (w := w) (n := n + _) (upL n xs) (tag.up n) b o cap sz u (by rw [upL_len]; exact hc)
   (fun i x hi => by obtain ⟨x', e1, rfl⟩ := upL_get hi; rw [up_cells, upL_len]; exact h1 i x' e1)
   (fun i x j c hi hj => by obtain ⟨x', c', e1, e2, rfl⟩ := cell hi hj; exact h2 i x' j c' e1 e2)
   (fun i x j c hi hj => by obtain ⟨x', c', e1, e2, rfl⟩ := cell hi hj; exact h3 i x' j c' e1 e2)
   (fun i x j c hi hj => by obtain ⟨x', c', e1, e2, rfl⟩ := cell hi hj; exact ih i x' j c' e1 e2)
   (fun i x j hi hj => by obtain ⟨x', e1, rfl⟩ := upL_get hi; exact h5 i x' j e1 hj)
   (by rw [upL_len]; exact ht.up)
  rw [upL_len] at this
  exact this
 | lst0 a => exact .lst0 a
 | hsl id off len cap h ho hc => rw [← join_loc (n := n) (g := g)]; exact .hsl _ off len cap (by omega) (by rw [join_obj]; exact ho) hc
 | emp a => exact .emp a
 | rsl id len h ho hc => rw [← join_loc (n := n) (g := g), ← join_hw (n := n) (g := g)]; exact .rsl _ len (by omega) (by rw [join_obj]; exact ho) (by rw [join_hw]; exact hc)
 | nilm => exact .nilm
 | map id h ho => rw [← join_loc (n := n) (g := g)]; exact .map _ (by omega) (by rw [join_obj]; exact ho)
 | nilf => exact .nilf
 | fn f xs ys xs' ys' ha hb h1 h2 ih1 ih2 =>
  exact .fn f _ _ xs' ys' (by rw [upL_len]; exact ha) (by rw [upL_len]; exact hb) (fun i c hi => by obtain ⟨c', e, rfl⟩ := upL_get hi; exact ih1 i c' e) (fun i c hi => by obtain ⟨c', e, rfl⟩ := upL_get hi; exact ih2 i c' e)
 | nili => exact .nili
 | ifc t v v' h ih => exact .ifc t _ v' ih
 | agg cs cs' hl h1 h2 ih => exact .agg _ cs' (by rw [upL_len]; exact hl) (fun i c hi => by obtain ⟨c', e, rfl⟩ := upL_get hi; exact ih i c' e) h2
 | tup cs cs' hl h1 ih => exact .tup _ cs' (by rw [upL_len]; exact hl) (fun i c hi => by obtain ⟨c', e, rfl⟩ := upL_get hi; exact ih i c' e)
theorem Live.up {m id : Nat} {o : SObj} (hf : ∀ k, g.fix k → g'.fix k) (h : Live w g' m id o) : Live w (G.join n g g') (n + m) (n + id) (o.up n) := by
 have nf : ∀ {k}, ¬ g'.fix k → ¬ g.fix k := fun h1 h2 => h1 (hf _ h2)
 cases o with
 | cells cs =>
  obtain ⟨h1, h2, h3, cur, t, h4, h5, h7, h6⟩ := h
  simp only [SObj.up, Live, join_obj, join_loc]
  exact ⟨h1, nf h2, h3, cur, t, h4, by rw [upL_len]; exact h5, h7, fun j c hj => by obtain ⟨c', e, rfl⟩ := upL_get hj; exact (h6 j c' e).up⟩
 | map es =>
  obtain ⟨h1, h2, h3, es', h4, h5, h6⟩ := h
  simp only [SObj.up, Live, join_obj, join_loc, List.length_map]
  refine ⟨h1, nf h2, h3, es', h4, h5, fun j kv hj => ?_⟩
  rw [List.getElem?_map] at hj
  cases hx : es[j]? with
  | none => rw [hx] at hj; cases hj
  | some d =>
   rw [hx] at hj
   obtain rfl := (Option.some.inj hj).symm
   obtain ⟨e, q1, q2, q3, q4⟩ := h6 j d hx
   exact ⟨e, q1, q2, q3.up, q4.up⟩
 | tip a b =>
  obtain ⟨h1, h2, h3, h4, h5⟩ := h
  simp only [SObj.up, Live, join_obj, join_loc, join_hw, join_tsz]
  exact ⟨h1, h2, h3, nf h4, h5⟩
 | dead =>
  simp only [SObj.up, Live, join_obj]
  exact h
 | bld t u b =>
  obtain ⟨h1, h2, h3, h4, h5⟩ := h
  simp only [SObj.up, Live, join_obj, join_loc]
  refine ⟨h1, nf h2, h3, fun j k hb => ?_, ?_⟩
  ·cases b with
   | none => cases hb
   | some p =>
    simp only [Option.map_some, Option.some.injEq, Prod.mk.injEq] at hb
    obtain ⟨rfl, rfl⟩ := hb
    obtain ⟨k1, k2⟩ := h4 p.1 p.2 rfl
    exact ⟨by omega, by rw [join_obj]; exact k2⟩
  ·have : bufVal (G.join n g g').loc (G.join n g g').hw (b.map fun p => (n + p.1, p.2)) = bufVal g'.loc g'.hw b := by
    cases b with
    | none => rfl
    | some p => simp only [Option.map_some, bufVal, join_loc, join_hw]
   rw [this]; exact h5
 | buf bs t =>
  obtain ⟨h1, h2, h3, h0, cur, h4, h5, h6, h7, h8⟩ := h
  simp only [SObj.up, Live, join_obj, join_loc, join_hw]
  exact ⟨h1, nf h2, h3, h0, cur, h4, h5, h6, h7, h8⟩
 | iter mp a b =>
  obtain ⟨h1, h2, h3, h4, h5⟩ := h
  simp only [SObj.up, Live, join_obj, join_loc]
  refine ⟨h1, nf h2, h3, fun j hj => ?_, ?_⟩
  ·cases mp with
   | none => cases hj
   | some p =>
    simp only [Option.map_some, Option.some.injEq] at hj
    subst hj
    obtain ⟨k1, k2⟩ := h4 p rfl
    exact ⟨by omega, by rw [join_obj]; exact k2⟩
  ·have : (mp.map (n + ·)).map (G.join n g g').loc = mp.map g'.loc := by
    cases mp with
    | none => rfl
    | some p => simp only [Option.map_some, join_loc]
   rw [this]; exact h5
 | row xs sz fz =>
  obtain ⟨h1, h2, h3, cur, e, fr, h4, h5, h6, h7, h8, h9, h10⟩ := h
  simp only [SObj.up, Live, join_obj, join_loc, join_hw]
  refine ⟨h1, nf h2, by rw [upL_len]; exact h3, cur, e, fr, h4, by rw [upL_len]; exact h5, h6, h7, h8, fun i x hi => ?_, fun i x j c hi hj => ?_⟩
  ·obtain ⟨x', e1, rfl⟩ := upL_get hi
   rw [up_cells, upL_len]; exact h9 i x' e1
  ·obtain ⟨x', e1, rfl⟩ := upL_get hi
   rw [up_cells] at hj
   obtain ⟨c', e2, rfl⟩ := upL_get hj
   exact (h10 i x' j c' e1 e2).up
end
theorem Live.nofix {w : World} {g : G} {m id : Nat} {o : SObj} (h : Live w g m id o) (hd : o ≠ .dead) : ¬ g.fix (g.loc id) := by
 cases o with
 | cells cs => exact h.2.1
 | map es => exact h.2.1
 | tip a b => exact h.2.2.2.1
 | dead => exact absurd rfl hd
 | bld t u b => exact h.2.1
 | buf bs t => exact h.2.1
 | iter mp a b => exact h.2.1
 | row xs sz fz => exact h.2.1
theorem R.join {S S' : List SObj} {w w' : World} {g g' : G} {base : Nat} {bd bd' : Nat → Nat} (h : R S w g base bd) (h' : R S' w' g' 0 bd') (E : Evo 0 { g with fix := fun k => k < w.heap.size } w g' w') :
  R (S ++ S'.map (SObj.up S.length)) w' (G.join S.length g g') base bd ∧ Evo S.length g w (G.join S.length g g') w' := by
 have hfx : g'.fix = fun k => k < w.heap.size := E.fix
 have old : ∀ k, k < w.heap.size → w'.heap[k]? = w.heap[k]? := fun k hk => E.low k hk
 have oldpp : ∀ k, k < w.heap.size → g'.pp k = g.pp k := fun k hk => E.pplow k hk
 have EV : Evo S.length g w (G.join S.length g g') w' :=
  {
   pp := E.pp
   cell := E.cell
   obj := fun id hi => by simp [G.join, hi]
   loc := fun id hi _ => by simp [G.join, hi]
   tsz := fun id hi => by simp [G.join, hi]
   hw := fun id hi => by simp [G.join, hi]
   hwo := fun id hi _ => by simp [G.join, hi]
   tip := fun id cap hi _ _ ht => by
    have hl := ht.lt
    refine TipC.heap (g := g) (g' := G.join S.length g g') (by simp [G.join, hi]) (by simp [G.join, hi]) (by simp [G.join, hi]) ?_ (old _ hl) ht
    exact oldpp _ hl
   size := E.size
   fix := rfl
   low := fun k hk => old k (h.hfix k hk)
   pplow := fun k hk => oldpp k (h.hfix k hk)
   os := E.os
   tape := E.tape
   output := E.output
  }
 have split : ∀ (id : Nat) (z : SObj), (S ++ S'.map (SObj.up S.length))[id]? = some z → (id < S.length ∧ S[id]? = some z) ∨ ∃ k o, id = S.length + k ∧ S'[k]? = some o ∧ z = o.up S.length := by
  intro id z hz
  rcases Nat.lt_or_ge id S.length with hi | hi
  ·rw [List.getElem?_append_left hi] at hz; exact .inl ⟨hi, hz⟩
  ·rw [List.getElem?_append_right hi, List.getElem?_map] at hz
   cases hx : S'[id - S.length]? with
   | none => rw [hx] at hz; cases hz
   | some o => rw [hx] at hz; exact .inr ⟨id - S.length, o, by omega, hx, (Option.some.inj hz).symm⟩
 have hb := h.hbase
 refine ⟨⟨by simp; omega, h.hbd, fun k hk => Nat.lt_of_lt_of_le (h.hfix k hk) E.size, h'.hpp, fun id z hz => ?_, fun i j x y hx hy hxd hyd hloc => ?_⟩, EV⟩
 ·rcases split id z hz with ⟨hi, hs⟩ | ⟨k, o, rfl, hk, rfl⟩
  ·have hle : lim base bd S.length id ≤ lim base bd (S ++ S'.map (SObj.up S.length)).length id := by
    unfold lim; split <;> simp
   refine Live.mono hle ?_
   refine (h.live id z hs).evo (EV.mono (lim_le h id)) (by simp [G.join, hi]) (by simp [G.join, hi]) (by simp [G.join, hi]) (by simp [G.join, hi]) ?_
   intro hd _
   have hlt := (h.live id z hs).loc_lt hd
   exact ⟨old _ hlt, oldpp _ hlt⟩
  ·have hl := h'.live k o hk
   have e0 : lim 0 bd' S'.length k = S'.length := by unfold lim; rw [if_neg (by omega)]
   rw [e0] at hl
   have e1 : lim base bd (S ++ S'.map (SObj.up S.length)).length (S.length + k) = S.length + S'.length := by
    unfold lim; rw [if_neg (by omega)]; simp
   rw [e1]
   exact hl.up fun k hk => by rw [hfx]; exact h.hfix k hk
 ·rcases split i x hx with ⟨hi, hs⟩ | ⟨k, o, rfl, hk, rfl⟩
  ·rcases split j y hy with ⟨hj, hs2⟩ | ⟨k2, o2, rfl, hk2, rfl⟩
   ·simp only [G.join, hi, hj, if_true] at hloc
    exact h.inj i j x y hs hs2 hxd hyd hloc
   ·exfalso
    have h2 : o2 ≠ .dead := by rintro rfl; exact hyd rfl
    have n2 := (h'.live k2 o2 hk2).nofix h2
    rw [hfx] at n2
    have n1 := (h.live i x hs).loc_lt hxd
    rw [join_loc] at hloc
    simp only [G.join, hi, if_true] at hloc
    exact n2 (by rw [← hloc]; exact n1)
  ·have h1 : o ≠ .dead := by rintro rfl; exact hxd rfl
   rcases split j y hy with ⟨hj, hs2⟩ | ⟨k2, o2, rfl, hk2, rfl⟩
   ·exfalso
    have n2 := (h'.live k o hk).nofix h1
    rw [hfx] at n2
    have n1 := (h.live j y hs2).loc_lt hyd
    rw [join_loc] at hloc
    simp only [G.join, hj, if_true] at hloc
    exact n2 (by rw [hloc]; exact n1)
   ·have h2 : o2 ≠ .dead := by rintro rfl; exact hyd rfl
    rw [join_loc, join_loc] at hloc
    have := h'.inj k k2 o o2 hk hk2 h1 h2 hloc
    omega
def upH (a0 : List PV) (v : PV) (S' : List SObj) : List PV → List SObj → Option (PV × List SObj × Bool) :=
 fun args S => match sameL args a0 with
  | true => some (v.up S.length, S ++ S'.map (SObj.up S.length), false)
  | false => none
theorem up_ok {P : Program} {env : Env} (hc : EnvOk P env) {f : FuncId} {a0 : List PV} {v0 : PV} {S0 : List SObj} {e0 : Bool} (h0 : evw env f a0 [] = some (v0, S0, e0)) (hcl : cleanL a0 = true)
  (args : List PV) (S : List SObj) (v : PV) (S' : List SObj) (e : Bool) (h : upH a0 v0 S0 args S = some (v, S', e))
  (w : World) (g : G) (base : Nat) (bd : Nat → Nat) (cargs : Array Value) (hR : R S w g base bd) (hgl : Gl env.ctx w g) (hl : args.length = cargs.size) (hV : ∀ (i : Nat) (c : PV), args[i]? = some c → V g w S.length c (cargs.getD i undef)) :
  (∃ fn, P.funcs[f]? = some fn ∧ fn.body.isNone = false ∧ fn.name ≠ "runtime.NumGoroutine") ∧ Calls P f cargs w (fun en w' => ∃ rv, en = .returned rv ∧ Good base bd S g w v S' e rv w') := by
 unfold upH at h
 split at h
 case h_2 => cases h
 rename_i hs
 obtain rfl := sameL_eq _ _ hs
 injection h with h; injection h with h1 h2; injection h2 with h2 h3
 subst h1 h2 h3
 obtain ⟨k, hk⟩ := evw_of h0
 have hR0 : R [] w { g with fix := fun k => k < w.heap.size } 0 (fun _ => 0) :=
  ⟨Nat.le_refl _, fun _ _ => Nat.le_refl _, fun _ hk => hk, hR.hpp, fun id o ho => by simp at ho, fun i j o p ho => by simp at ho⟩
 obtain ⟨q1, q2⟩ := ev_sound hc k f args [] v0 S0 e0 hk w { g with fix := fun k => k < w.heap.size } 0 (fun _ => 0) cargs hR0 hgl.all hl (fun i c hi => ((hV i c hi).clean (cleanL_mem hcl hi)).ghost rfl)
 refine ⟨q1, q2.mono ?_⟩
 rintro en w' ⟨rv, rfl, g', k1, k2, k3, k4⟩
 have k2' : R S0 w' g' 0 (fun _ => 0) := by cases e0 <;> simpa using k2
 obtain ⟨j1, j2⟩ := hR.join k2' (by simpa using k3)
 refine ⟨rv, rfl, G.join S.length g g', ?_, by simpa using j1, j2, by simp⟩
 have := k1.up (n := S.length) (g := g)
 simpa using this
end Go.Pam
