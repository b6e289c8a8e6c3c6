/- store.Make at the four numbers: by evaluation. -/
import Derived.Test.YtecimmaoilignaaGreatDoorSN
import Derived.Test.YtecimmaoilignaaGreatDoorPamM4
namespace Go.Proofs.YtecimmaoilignaaGreatDoor.M.L
set_option linter.unusedVariables false
set_option linter.unusedSimpArgs false
open Go Go.Pam Go.RowKit
set_option maxRecDepth 100000
set_option linter.unusedSimpArgs false
def n0 : PV := .int .i64 0
def TM (r : Nat) : List SObj := [.map [(.str logN, .str (ct r))], .map [(.str logN, .str (ct r))], .cells [.int .i64 1000000, .map 0, .map 1, .rsl 12 0, .int .i64 2, .int .i64 (-1)], .map [(.agg [n0, n0, n0], .ptr 4 0)],
  .cells [n0, n0, n0, n0, n0, n0, .nils, .nils, .int .i64 1, .bool false], .cells [.map 3], .cells (lgc (.ptr 5 0)), .cells [n0, n0, .int .i64 r], .cells (sc r 6 (.lst [kv, kv, kv, kv] (.tip 9)) (0, 0, r) 2 7 (0, 0, r)),
  .tip 4 1, .cells [.str logN, .str (ct r), .bool true], .iter (some 1) 0 [], .row [.agg [.str [], .str [], .bool false]] 3 false, .cells [.str logN]]
def S1 : List SObj := [.map [], .map [], .cells [.int .i64 1000000, .map 0, .map 1, .nils, .int .i64 0, .int .i64 (-1)]]
theorem new1 : evw env 5 [.int .i64 1000000] [] = some (.ptr 2 0, S1, false) := lim_of 2 fun k' hk' => by
  have h2 := run5 (k' - 2) 1000000 []
  rw [Nat.sub_add_cancel hk'] at h2
  rw [h2]
  rfl
def TN : Tab := ⟨.nil, .nil⟩
theorem TNok : TN.Ok env := ⟨trivial, trivial⟩
theorem make0 : evw env 6 [.ptr 2 0, .int .i64 0, .int .i64 4] S1 = some (.tup [.ptr 8 0, .int .i64 0], TM 0, true) := runOf TNok (k := 1000) (by kernel_rfl)
theorem make1 : evw env 6 [.ptr 2 0, .int .i64 1, .int .i64 4] S1 = some (.tup [.ptr 8 0, .int .i64 0], TM 1, true) := runOf TNok (k := 1000) (by kernel_rfl)
theorem make2 : evw env 6 [.ptr 2 0, .int .i64 2, .int .i64 4] S1 = some (.tup [.ptr 8 0, .int .i64 0], TM 2, true) := runOf TNok (k := 1000) (by kernel_rfl)
theorem make3 : evw env 6 [.ptr 2 0, .int .i64 3, .int .i64 4] S1 = some (.tup [.ptr 8 0, .int .i64 0], TM 3, true) := runOf TNok (k := 1000) (by kernel_rfl)
theorem make {r : Nat} (hr : r < 4) : evw env 6 [.ptr 2 0, .int .i64 (r : Int), .int .i64 4] S1 = some (.tup [.ptr 8 0, .int .i64 0], TM r, true) := by
  match r, hr with
  | 0, _ => exact make0
  | 1, _ => exact make1
  | 2, _ => exact make2
  | 3, _ => exact make3
/-- What lies there is a log of one record. -/
theorem ct_log {r : Nat} (hr : r < 4) : ct r = logB r [] := by
  match r, hr with
  | 0, _ => exact (by kernel_rfl : ct 0 = logB 0 [])
  | 1, _ => exact (by kernel_rfl : ct 1 = logB 1 [])
  | 2, _ => exact (by kernel_rfl : ct 2 = logB 2 [])
  | 3, _ => exact (by kernel_rfl : ct 3 = logB 3 [])
theorem Hp.mk0 {S : List SObj} {C : List (Nat × SObj)} {v : PV} {o : SObj} (h1 : ∀ p ∈ C, S[p.1]? = some p.2 ∧ p.2.kind = 0) (h2 : C.Pairwise fun p q => p.1 ≠ q.1) (h3 : ∀ id, Go.Pam.rowAt v = some id → S[id]? = some o ∧ o.kind = 1) : Hp [] [] S C [] [(v, o)] :=
  ⟨Nat.zero_le _, fun i hi => by simp at hi, fun p hp => ⟨.inl (Nat.zero_le _), h1 p hp⟩, h2, by simp, .nil, fun q hq id hid => by
    rw [List.mem_singleton] at hq; subst hq
    exact ⟨.inl (Nat.zero_le _), h3 id hid⟩, by simp⟩
theorem make_hp {r : Nat} (hr : r < 4) : Hp [] [] (TM r) ((7, .cells (i3 (0, 0, r))) :: (8, .cells (sc r 6 (.lst [kv, kv, kv, kv] (.tip 9)) (0, 0, r) 2 7 (0, 0, r))) :: DC 2 0 1 (.rsl 12 0) ⟨1000000, [(logN, logB r [])], [(logN, logB r [])], [], 2, -1⟩ []) [] [(.rsl 12 0, .row [.agg [.str [], .str [], .bool false]] 3 false)] := by
  rw [← ct_log hr]
  refine Hp.mk0 ?_ ?_ ?_
  · intro p hp
    simp only [List.mem_cons, List.not_mem_nil, or_false] at hp
    rcases hp with rfl | rfl | rfl | rfl | rfl <;> exact ⟨rfl, rfl⟩
  · simp
  · intro id hid
    obtain rfl : 12 = id := Option.some.inj hid
    exact ⟨rfl, rfl⟩
end Go.Proofs.YtecimmaoilignaaGreatDoor.M.L
