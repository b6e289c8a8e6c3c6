/- disk.List at a map of one entry: one name. By the kit's contracts on maps.Keys, slices.Sorted, slices.Sort. -/
import Derived.Shelf.SlIter.Nil
import Derived.Shelf.SlIter.Sorted
import Derived.Shelf.SortM.Plain
import Derived.Shelf.SortM.SortNone
import Derived.StringKeys
import Derived.Test.YtfpgfgpbjadoaaaProg
namespace Go.Proofs.Ytfpgfgpbjadoaaa.A
set_option linter.unusedVariables false
set_option linter.unusedSimpArgs false
open Go Go.RowKit Go.Maps Go.Sort Go.Shelf Go.Proofs
set_option maxRecDepth 100000
def keysA_ren : Ren := ⟨fun x => match x with
  | 7 => 24
  | 10 => 29
  | n => n, fun x => match x with
  | 23 => 43
  | 26 => 9
  | 3 => 9
  | 28 => 58
  | 0 => 0
  | 27 => 57
  | 33 => 63
  | 4 => 4
  | n => n, fun n => n⟩
theorem keysA : SlLaysZ.n7 Try.prog keysA_ren where
  mixed := by kernel_rfl
  f7 := ⟨"maps.Keys[map[string]string,string,string]", of_decide_eq_true (by kernel_rfl), Try.func24.trans (congrArg some (by kernel_rfl))⟩
  f10 := ⟨"maps.Keys[map[string]string,string,string]$1", of_decide_eq_true (by kernel_rfl), Try.func29.trans (congrArg some (by kernel_rfl))⟩
  t0 := Try.underlying0
  a0 := Try.isAgg0
  z0 := Try.sizeOf0
  v0 := Try.zeroValue0
  t4 := Try.underlying4
  a4 := Try.isAgg4
  z4 := Try.sizeOf4
  v4 := Try.zeroValue4
  t23 := Try.underlying43
  a23 := Try.isAgg43
  z23 := Try.sizeOf43
  v23 := Try.zeroValue43
  t26 := Try.underlying9
  a26 := Try.isAgg9
  z26 := Try.sizeOf9
  v26 := Try.zeroValue9
  t27 := Try.underlying57
  a27 := Try.isAgg57
  z27 := Try.sizeOf57
  v27 := Try.zeroValue57
  t28 := Try.underlying58
  a28 := Try.isAgg58
  z28 := Try.sizeOf58
  v28 := Try.zeroValue58
  t33 := Try.underlying63
  a33 := Try.isAgg63
  z33 := Try.sizeOf63
  v33 := Try.zeroValue63
def sortedA_ren : Ren := ⟨fun x => match x with
  | 6 => 23
  | 8 => 27
  | 9 => 28
  | 11 => 30
  | 13 => 32
  | 12 => 31
  | 23 => 42
  | 24 => 43
  | 14 => 33
  | 15 => 34
  | 16 => 35
  | 17 => 36
  | 18 => 37
  | 19 => 38
  | 20 => 39
  | 21 => 40
  | 22 => 41
  | 25 => 44
  | 26 => 45
  | 27 => 46
  | 28 => 47
  | 29 => 48
  | 30 => 49
  | 31 => 50
  | n => n, fun x => match x with
  | 26 => 9
  | 28 => 58
  | 24 => 22
  | 0 => 0
  | 3 => 3
  | 37 => 35
  | 48 => 77
  | 50 => 23
  | 4 => 4
  | 40 => 69
  | 39 => 68
  | 45 => 74
  | 5 => 5
  | 9 => 9
  | 51 => 79
  | 55 => 83
  | 57 => 85
  | 58 => 86
  | 33 => 63
  | n => n, fun n => n⟩
theorem sortedA : SlLaysZ.n6 Try.prog sortedA_ren where
  mixed := by kernel_rfl
  f6 := ⟨"slices.Sorted[string]", of_decide_eq_true (by kernel_rfl), Try.func23.trans (congrArg some (by kernel_rfl))⟩
  f8 := ⟨"slices.Collect[string]", of_decide_eq_true (by kernel_rfl), Try.func27.trans (congrArg some (by kernel_rfl))⟩
  f11 := ⟨"slices.AppendSeq[[]string,string]", of_decide_eq_true (by kernel_rfl), Try.func30.trans (congrArg some (by kernel_rfl))⟩
  t0 := Try.underlying0
  a0 := Try.isAgg0
  z0 := Try.sizeOf0
  v0 := Try.zeroValue0
  t24 := Try.underlying22
  a24 := Try.isAgg22
  z24 := Try.sizeOf22
  v24 := Try.zeroValue22
  t26 := Try.underlying9
  a26 := Try.isAgg9
  z26 := Try.sizeOf9
  v26 := Try.zeroValue9
  t28 := Try.underlying58
  a28 := Try.isAgg58
  z28 := Try.sizeOf58
  v28 := Try.zeroValue58
  i26 := by kernel_rfl
def sortA_ren : Ren := ⟨fun x => match x with
  | 6 => 28
  | 8 => 32
  | 9 => 31
  | 19 => 42
  | 20 => 43
  | 21 => 33
  | 22 => 34
  | 23 => 35
  | 24 => 36
  | 25 => 37
  | 26 => 38
  | 27 => 39
  | 28 => 40
  | 29 => 41
  | 36 => 44
  | 31 => 45
  | 32 => 46
  | 37 => 47
  | 38 => 48
  | 39 => 49
  | 41 => 50
  | n => n, fun x => match x with
  | 27 => 22
  | 29 => 9
  | 3 => 3
  | 32 => 35
  | 26 => 22
  | 0 => 0
  | 44 => 77
  | 46 => 23
  | 4 => 4
  | 36 => 69
  | 35 => 68
  | 41 => 74
  | 5 => 5
  | 9 => 9
  | 53 => 79
  | 57 => 83
  | 63 => 85
  | 64 => 86
  | n => n, fun n => n⟩
theorem sortA : SlLaysM.n6 Try.prog sortA_ren where
  mixed := by kernel_rfl
  f6 := ⟨"slices.Sort[[]string,string]", of_decide_eq_true (by kernel_rfl), Try.func28.trans (congrArg some (by kernel_rfl))⟩
  f9 := ⟨"slices.pdqsortOrdered[string]", of_decide_eq_true (by kernel_rfl), Try.func31.trans (congrArg some (by kernel_rfl))⟩
  f21 := ⟨"slices.insertionSortOrdered[string]", of_decide_eq_true (by kernel_rfl), Try.func33.trans (congrArg some (by kernel_rfl))⟩
  f22 := ⟨"slices.heapSortOrdered[string]", of_decide_eq_true (by kernel_rfl), Try.func34.trans (congrArg some (by kernel_rfl))⟩
  f23 := ⟨"slices.breakPatternsOrdered[string]", of_decide_eq_true (by kernel_rfl), Try.func35.trans (congrArg some (by kernel_rfl))⟩
  f24 := ⟨"slices.choosePivotOrdered[string]", of_decide_eq_true (by kernel_rfl), Try.func36.trans (congrArg some (by kernel_rfl))⟩
  f25 := ⟨"slices.reverseRangeOrdered[string]", of_decide_eq_true (by kernel_rfl), Try.func37.trans (congrArg some (by kernel_rfl))⟩
  f26 := ⟨"slices.partialInsertionSortOrdered[string]", of_decide_eq_true (by kernel_rfl), Try.func38.trans (congrArg some (by kernel_rfl))⟩
  f27 := ⟨"cmp.Less[string]", of_decide_eq_true (by kernel_rfl), Try.func39.trans (congrArg some (by kernel_rfl))⟩
  f28 := ⟨"slices.partitionEqualOrdered[string]", of_decide_eq_true (by kernel_rfl), Try.func40.trans (congrArg some (by kernel_rfl))⟩
  f29 := ⟨"slices.partitionOrdered[string]", of_decide_eq_true (by kernel_rfl), Try.func41.trans (congrArg some (by kernel_rfl))⟩
  f36 := ⟨"slices.siftDownOrdered[string]", of_decide_eq_true (by kernel_rfl), Try.func44.trans (congrArg some (by kernel_rfl))⟩
  f37 := ⟨"slices.medianAdjacentOrdered[string]", of_decide_eq_true (by kernel_rfl), Try.func47.trans (congrArg some (by kernel_rfl))⟩
  f38 := ⟨"slices.medianOrdered[string]", of_decide_eq_true (by kernel_rfl), Try.func48.trans (congrArg some (by kernel_rfl))⟩
  f39 := ⟨"cmp.isNaN[string]", of_decide_eq_true (by kernel_rfl), Try.func49.trans (congrArg some (by kernel_rfl))⟩
  f41 := ⟨"slices.order2Ordered[string]", of_decide_eq_true (by kernel_rfl), Try.func50.trans (congrArg some (by kernel_rfl))⟩
  f8 := Try.func32.trans (congrArg some (by kernel_rfl))
  f19 := Try.func42.trans (congrArg some (by kernel_rfl))
  f20 := Try.func43.trans (congrArg some (by kernel_rfl))
  f31 := Try.func45.trans (congrArg some (by kernel_rfl))
  f32 := Try.func46.trans (congrArg some (by kernel_rfl))
  t0 := Try.underlying0
  a0 := Try.isAgg0
  z0 := Try.sizeOf0
  v0 := Try.zeroValue0
  t3 := Try.underlying3
  a3 := Try.isAgg3
  z3 := Try.sizeOf3
  v3 := Try.zeroValue3
  t4 := Try.underlying4
  a4 := Try.isAgg4
  z4 := Try.sizeOf4
  v4 := Try.zeroValue4
  t5 := Try.underlying5
  a5 := Try.isAgg5
  z5 := Try.sizeOf5
  v5 := Try.zeroValue5
  t9 := Try.underlying9
  a9 := Try.isAgg9
  z9 := Try.sizeOf9
  v9 := Try.zeroValue9
  t26 := Try.underlying22
  a26 := Try.isAgg22
  z26 := Try.sizeOf22
  v26 := Try.zeroValue22
  t27 := Try.underlying22
  a27 := Try.isAgg22
  z27 := Try.sizeOf22
  v27 := Try.zeroValue22
  t29 := Try.underlying9
  a29 := Try.isAgg9
  z29 := Try.sizeOf9
  v29 := Try.zeroValue9
  t32 := Try.underlying35
  a32 := Try.isAgg35
  z32 := Try.sizeOf35
  v32 := Try.zeroValue35
  t35 := Try.underlying68
  a35 := Try.isAgg68
  z35 := Try.sizeOf68
  v35 := Try.zeroValue68
  t36 := Try.underlying69
  a36 := Try.isAgg69
  z36 := Try.sizeOf69
  v36 := Try.zeroValue69
  t41 := Try.underlying74
  a41 := Try.isAgg74
  z41 := Try.sizeOf74
  v41 := Try.zeroValue74
  t44 := Try.underlying77
  a44 := Try.isAgg77
  z44 := Try.sizeOf77
  v44 := Try.zeroValue77
  t46 := Try.underlying23
  a46 := Try.isAgg23
  z46 := Try.sizeOf23
  v46 := Try.zeroValue23
  t53 := Try.underlying79
  a53 := Try.isAgg79
  z53 := Try.sizeOf79
  v53 := Try.zeroValue79
  t57 := Try.underlying83
  a57 := Try.isAgg83
  z57 := Try.sizeOf83
  v57 := Try.zeroValue83
  t63 := Try.underlying85
  a63 := Try.isAgg85
  z63 := Try.sizeOf85
  v63 := Try.zeroValue85
  t64 := Try.underlying86
  a64 := Try.isAgg86
  z64 := Try.sizeOf86
  v64 := Try.zeroValue86
theorem sortsA (m : Nat) : AnyZ.SortsIn Try.prog sortedA_ren Fence.wide m :=
  ⟨fun blk off cap ss W hH hblk hsz => callsIn_wide.2 (AnyM.slices_Sort_string sortA blk off cap ss W hH hblk hsz),
   fun p cap W => callsIn_wide.2 (AnyM.slices_Sort_string_none sortA p cap W)⟩
abbrev Rd : Value → Option (DataW Unit × List MemPlace) := fun _ => some (.lit (.bool true), [])
theorem owns_one {w : World} {b : Nat} {e : MapEntry} {s : ByteArray} (hb : w.heap[b]? = some (.map #[e] 1)) (h0 : e.born = 0) (hk : e.key = .string s) (hs : s.size ≤ 1000) :
    w.ownsMap Try.prog 9 Rd b 1 (.map [(.string s.data.toList, .lit (.bool true))]) := by
  obtain ⟨key, val, born⟩ := e
  obtain rfl : born = 0 := h0
  obtain rfl : key = .string s := hk
  have hr : WideElems.rd Try.prog 9 Rd ⟨.string s, val, 0⟩ = some (.string s.data.toList, .lit (.bool true)) := WideElems.rd_mk (yv := (.lit (.bool true), [])) (WideMaps.keyOf_string_mk Try.underlying9 (Nat.le_trans hs (by decide))) rfl
  refine ⟨#[⟨.string s, val, 0⟩], 1, hb, ⟨by simp [maxLen], ?_, ?_⟩, Nat.le_refl _, ?_⟩
  · exact ⟨by simp, by simp, by simp⟩
  · intro x hx
    have : x = ⟨.string s, val, 0⟩ := by simpa using hx
    subst this
    exact ⟨_, hr⟩
  · simp [WideElems.rg_of hr, DataW.insert]
set_option maxHeartbeats 4000000 in
theorem list_hit (a b : Nat) (e : MapEntry) (s : ByteArray) (w : World) (ha : w.cell? ⟨a, 2, none⟩ = some (.map (some b))) (hb : w.heap[b]? = some (.map #[e] 1)) (h0 : e.born = 0) (hk : e.key = .string s) (hs : s.size ≤ 1000) :
    Calls Try.prog 16 #[.pointer (some ⟨a, 0, none⟩)] w fun en w' => ∃ gb cap, en = .returned (.slice (some ⟨gb, 0, none⟩) 1 cap) ∧ 1 ≤ cap ∧ w.heap.size ≤ gb ∧ Below w.heap.size w w' := by
  refine (callsIn_wide (n := 6)).1 ?_
  have hown := owns_one hb h0 hk hs
  have hbl := hown.lt
  have hseq : SeqGives Fence.wide 2 Try.prog 29 #[.pointer (some ⟨w.heap.size, 0, none⟩)] encStr (fun ss => ss.Perm (strKeys (.map [(.string s.data.toList, (.lit (.bool true) : DataW Unit))]))) 1 (w.alloc (.cells #[.map (some b)] 43)) :=
    AnyZ.keys_gives (ρ := keysA_ren) { keysA with } Fence.wide _ trivial rfl (by omega) w.heap.size b 1 _ _ (by simp) (by simp) (by
      obtain ⟨es, clock, hb, Ft, hs, hD⟩ := hown
      exact ⟨es, clock, (Below.heap_alloc _ _ b hbl).trans hb, Ft, hs, hD⟩)
  have cK : ∀ mb W, CallsIn Fence.wide 5 Try.prog 24 #[.map mb] W fun e w' => e = .returned (.func (.func 29) #[] #[.pointer (some ⟨W.heap.size, 0, none⟩)]) ∧ w' = W.alloc (.cells #[.map mb] 43) := fun mb W => AnyZ.keys_in keysA Fence.wide 5 trivial rfl mb W
  have cS := AnyZ.sorted_in sortedA Fence.wide 5 trivial trivial trivial trivial rfl (by omega) (sortsA _) (enters_of Try.func28 (by kernel_rfl) rfl) 29 #[.pointer (some ⟨w.heap.size, 0, none⟩)] trivial (enters_of Try.func29 (by kernel_rfl) rfl) _ 1 (by decide) (by decide) _ hseq
  change CallsIn _ _ Try.prog 23 _ _ _ at cS
  have hfK : Fence.wide.fn 24 := trivial
  have hfS : Fence.wide.fn 23 := trivial
  refine callsIn_of_wp Try.func16 rfl trivial ?_ rfl
  simp only [Try.ntmps16, List.size_toArray, List.length_cons, List.length_nil, Nat.reduceAdd, Nat.reduceSub, Array.replicate_succ, Array.replicate_zero, List.push_toArray, List.append_toArray, List.nil_append, List.cons_append]
  gi_wp2_with (first
    | (gi_at_call 24; refine (cK _ _).mono ?_; rintro e w' ⟨rfl, rfl⟩)
    | (gi_at_call 23; refine cS.mono ?_; rintro e w' ⟨v, ss, rfl, hS, hrow, hnil, hb⟩))
  go_ret
  have hone : ss.length = 1 := by rw [hS.length_eq]; rfl
  rcases hrow.2 with ⟨_, hz⟩ | ⟨gb, cap, cur, rfl, hbase, hgb, r1, r2, r3, r4⟩
  · rw [hone] at hz; cases hz
  · rw [hone] at r1
    refine ⟨gb, cap, by rw [hone]; rfl, r1, ?_, ((Below.refl _ w).alloc (Nat.le_refl _) _).trans (hb.mono (by simp))⟩
    simp at hbase; omega
end Go.Proofs.Ytfpgfgpbjadoaaa.A
