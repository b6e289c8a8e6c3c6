/- Part of the proof: the runs of functions on the abstract machine. -/
import Derived.Test.YtbinlabnilidiaaDoorPamM4
import Derived.Test.YtbinlabnilidiaaDoorFns
import Derived.Test.YtbinlabnilidiaaDoorMDe
import Derived.Test.YtbinlabnilidiaaDoorMDc
namespace Go.Proofs.YtbinlabnilidiaaDoor.M
open Go Go.Pam Go.RowKit Go.WideShapes
set_option maxRecDepth 8000
set_option linter.unusedVariables false
set_option linter.unusedSimpArgs false

def F48 : Nat → Api_Filter → Option Bool
 | 0, _ => none
 | k + 1, a0 =>
  if a0.Kind == 3 then
  if (Sl.len a0.Kids) != 1 then
  some false
  else
  Option.bind (if ((a0.Attr == []) && (a0.Value == [])) && ((Sl.len a0.Subs) == 0) then
  Option.bind (F67_68 k (F48 k) a0.Kids) fun y2295 =>
  some (!y2295)
  else
  some false) fun y2294 =>
  some y2294
  else
  Option.bind (if a0.Kind == 1 then
  some (a0.Kind == 1)
  else
  some (a0.Kind == 2)) fun y2300 =>
  if y2300 then
  Option.bind (if ((a0.Attr == []) && (a0.Value == [])) && ((Sl.len a0.Subs) == 0) then
  Option.bind (F67_68 k (F48 k) a0.Kids) fun y2310 =>
  some (!y2310)
  else
  some false) fun y2309 =>
  some y2309
  else
  if a0.Kind == 7 then
  Option.bind (F69 k a0.Attr) fun y2313 =>
  some (((y2313 && (a0.Value == [])) && ((Sl.len a0.Subs) == 0)) && ((Sl.len a0.Kids) == 0))
  else
  if a0.Kind == 8 then
  Option.bind (F69 k a0.Attr) fun y2318 =>
  Option.bind (if (y2318 && (a0.Value == [])) && ((Sl.len a0.Kids) == 0) then
  Option.bind (F70 k a0.Subs) fun y2326 =>
  some y2326
  else
  some false) fun y2325 =>
  some y2325
  else
  Option.bind (if a0.Kind == 4 then
  some (a0.Kind == 4)
  else
  Option.bind (if a0.Kind == 5 then
  some (a0.Kind == 5)
  else
  some (a0.Kind == 6)) fun y2341 =>
  some y2341) fun y2338 =>
  if y2338 then
  Option.bind (F69 k a0.Attr) fun y2345 =>
  some (((y2345 && (decide ((Str.len a0.Value) ≤ 60))) && ((Sl.len a0.Subs) == 0)) && ((Sl.len a0.Kids) == 0))
  else
  some false
theorem s48 : ∀ k : Nat, ∀ {a0 : Api_Filter} {r : Bool}, F48 k a0 = some r → Q 48 [(.agg (c_Api_Filter a0))] (.bool r) := by
 intro k
 induction k with
 | zero => intro _ r h; cases h
 | succ k ih =>
  intro a0 r h
  rw [F48] at h
  refine Qe.go (pf := fn48) rfl rfl (Nat.le_of_ble_eq_true rfl) (by simp [PV.clean, cleanL, clean_encSl clean_Api_Filter, clean_encSl clean_eS]) rfl rfl fun H => ?_
  refine WC.seqR <| WO.box' rfl rfl rfl rfl rfl H ?_
  intro i1 S hi1 H
  refine us 1 rfl <| WO.nil <| WC.seq <| WC.seqR <| us 1 rfl <| wg H 0 rfl rfl rfl rfl <| WO.nil <| WC.block <| WC.seq <| WC.block <| WC.seq <| WC.block <| WC.seq <| WC.block <| WC.seq <| WC.block <| WC.seq <| WC.block <| WC.seq <| WC.seq <| WC.seqR <| us 2 rfl <| WO.nil ?_
  rcases iteS h with ⟨hc2353, h⟩ | ⟨hc2353, h⟩
  refine WC.condT rfl hc2353 <| WC.exit <| KX.seq_x <| KX.seq_x <| KX.block_x <| KX.seq_n <| WC.seqR <| us 1 rfl <| wg H 0 rfl rfl rfl rfl <| wl rfl rfl rfl <| us 1 rfl <| WO.nil ?_
  rcases iteS h with ⟨hc2297, h⟩ | ⟨hc2297, h⟩
  refine WC.condT rfl hc2297 <| WC.seqR <| us 1 rfl <| WO.nil <| WC.ret <| KX.block_r <| KX.seq_r <| KX.block_r <| KX.seq_r <| KX.block_r <| KX.seq_r <| KX.block_r <| KX.seq_r <| KX.block_r <| KX.seq_r ?_
  have h := oi h; subst h
  exact kr (.bool false) rfl rfl rfl
  refine WC.condF rfl hc2297 <| WC.skip <| KX.block_n <| KX.seq_n <| WC.seq <| WC.seqR <| us 1 rfl <| wg H 0 rfl rfl rfl rfl <| w (.bool (a0.Attr == [])) rfl rfl <| w (.bool (a0.Attr == [])) rfl rfl ?_
  refine WO.split 4 (SH H [(1, (.ptr i1 0)), (29, (.bool ((a0.Attr == []) && (a0.Value == []))))]) ?_ ?_
  revert H
  cases hc2288 : (a0.Attr == [])
  intro H
  refine us 4 rfl <| WO.nil ?_
  exact kf H
  intro H
  refine us 1 rfl <| WO.go0 rfl rfl <| wg H 0 rfl rfl rfl rfl <| us 2 rfl <| WO.nil ?_
  exact kf H
  rintro σ S e ⟨hk, H, rfl⟩
  refine WO.of_known hk <| w (.bool ((a0.Attr == []) && (a0.Value == []))) rfl rfl ?_
  refine WO.split 5 (SH H [(1, (.ptr i1 0)), (35, (.bool (((a0.Attr == []) && (a0.Value == [])) && ((Sl.len a0.Subs) == 0))))]) ?_ ?_
  revert H
  cases hc2289 : ((a0.Attr == []) && (a0.Value == []))
  intro H
  refine us 5 rfl <| WO.nil ?_
  exact kf H
  intro H
  refine us 1 rfl <| WO.go0 rfl rfl <| wg H 0 rfl rfl rfl rfl <| WO.go0 rfl rfl <| wl rfl rfl rfl <| us 2 rfl <| WO.nil ?_
  exact kf H
  rintro σ S e ⟨hk, H, rfl⟩
  refine WO.of_known hk <| w (.bool (((a0.Attr == []) && (a0.Value == [])) && ((Sl.len a0.Subs) == 0))) rfl rfl ?_
  obtain ⟨y2294, hy2294, hOy2294⟩ := bindS h
  refine WO.split 5 (SJ [(41, (.bool y2294))] [] [] [(i1, .cells (c_Api_Filter a0))] [] [] false) ?_ ?_
  replace h := hy2294
  revert H
  cases hc2296 : (((a0.Attr == []) && (a0.Value == [])) && ((Sl.len a0.Subs) == 0))
  intro H
  replace h := iteF h hc2296
  refine us 5 rfl <| WO.nil ?_
  have h := oi h; subst h
  exact kh H
  intro H
  replace h := iteT h hc2296
  refine us 1 rfl <| WO.go0 rfl rfl <| wg H 0 rfl rfl rfl rfl <| WO.go0 rfl rfl ?_
  obtain ⟨y2295, hy2295, h⟩ := bindS h
  refine cl (.bool y2295) [(encSl e_Api_Filter a0.Kids), (.fn (.func 68) [] [])] rfl rfl rfl (fe rfl (fo rfl rfl)) (sv (s67_68 ih _ hy2295)) <| us 2 rfl <| WO.nil ?_
  have h := oi h; subst h
  exact kh H
  rintro σ S e ⟨hk, H, rfl⟩
  replace h := hOy2294
  refine WO.of_known hk <| us 1 rfl <| WO.nil <| WC.ret <| KX.seq_r <| KX.block_r <| KX.seq_r <| KX.block_r <| KX.seq_r <| KX.block_r <| KX.seq_r <| KX.block_r <| KX.seq_r ?_
  have h := oi h; subst h
  exact kr (.bool y2294) rfl rfl rfl
  refine WC.condF rfl hc2353 <| WC.skip <| KX.seq_n <| WC.seq <| WC.seq <| WC.seqR <| us 2 rfl <| WO.nil ?_
  obtain ⟨y2300, hy2300, hOy2300⟩ := bindS h
  refine WC.join (SJ [(1, (.ptr i1 0)), (4, (.int .i64 a0.Kind)), (7, (.bool y2300))] [] [] [(i1, .cells (c_Api_Filter a0))] [] [] false) ?_ ?_
  replace h := hy2300
  rcases iteS h with ⟨hc2301, h⟩ | ⟨hc2301, h⟩
  refine WC.condT rfl hc2301 <| WC.skip <| KX.seq_n ?_
  have h := oi h; subst h
  exact kh H
  refine WC.condF rfl hc2301 <| WC.region <| us 2 rfl <| WO.nil <| KX.seq_n ?_
  have h := oi h; subst h
  exact kh H
  rintro σ S e ⟨hk, H, rfl⟩
  replace h := hOy2300
  refine KX.of_known hk <| KX.seq_n ?_
  rcases iteS h with ⟨hc2352, h⟩ | ⟨hc2352, h⟩
  refine WC.condT rfl hc2352 <| WC.exit <| KX.seq_x <| KX.seq_x <| KX.block_y rfl <| KX.seq_x <| KX.block_x <| KX.seq_n <| WC.seq <| WC.seqR <| us 1 rfl <| wg H 0 rfl rfl rfl rfl <| w (.bool (a0.Attr == [])) rfl rfl <| w (.bool (a0.Attr == [])) rfl rfl ?_
  refine WO.split 4 (SH H [(1, (.ptr i1 0)), (29, (.bool ((a0.Attr == []) && (a0.Value == []))))]) ?_ ?_
  revert H
  cases hc2303 : (a0.Attr == [])
  intro H
  refine us 4 rfl <| WO.nil ?_
  exact kf H
  intro H
  refine us 1 rfl <| WO.go0 rfl rfl <| wg H 0 rfl rfl rfl rfl <| us 2 rfl <| WO.nil ?_
  exact kf H
  rintro σ S e ⟨hk, H, rfl⟩
  refine WO.of_known hk <| w (.bool ((a0.Attr == []) && (a0.Value == []))) rfl rfl ?_
  refine WO.split 5 (SH H [(1, (.ptr i1 0)), (35, (.bool (((a0.Attr == []) && (a0.Value == [])) && ((Sl.len a0.Subs) == 0))))]) ?_ ?_
  revert H
  cases hc2304 : ((a0.Attr == []) && (a0.Value == []))
  intro H
  refine us 5 rfl <| WO.nil ?_
  exact kf H
  intro H
  refine us 1 rfl <| WO.go0 rfl rfl <| wg H 0 rfl rfl rfl rfl <| WO.go0 rfl rfl <| wl rfl rfl rfl <| us 2 rfl <| WO.nil ?_
  exact kf H
  rintro σ S e ⟨hk, H, rfl⟩
  refine WO.of_known hk <| w (.bool (((a0.Attr == []) && (a0.Value == [])) && ((Sl.len a0.Subs) == 0))) rfl rfl ?_
  obtain ⟨y2309, hy2309, hOy2309⟩ := bindS h
  refine WO.split 5 (SJ [(41, (.bool y2309))] [] [] [(i1, .cells (c_Api_Filter a0))] [] [] false) ?_ ?_
  replace h := hy2309
  revert H
  cases hc2311 : (((a0.Attr == []) && (a0.Value == [])) && ((Sl.len a0.Subs) == 0))
  intro H
  replace h := iteF h hc2311
  refine us 5 rfl <| WO.nil ?_
  have h := oi h; subst h
  exact kh H
  intro H
  replace h := iteT h hc2311
  refine us 1 rfl <| WO.go0 rfl rfl <| wg H 0 rfl rfl rfl rfl <| WO.go0 rfl rfl ?_
  obtain ⟨y2310, hy2310, h⟩ := bindS h
  refine cl (.bool y2310) [(encSl e_Api_Filter a0.Kids), (.fn (.func 68) [] [])] rfl rfl rfl (fe rfl (fo rfl rfl)) (sv (s67_68 ih _ hy2310)) <| us 2 rfl <| WO.nil ?_
  have h := oi h; subst h
  exact kh H
  rintro σ S e ⟨hk, H, rfl⟩
  replace h := hOy2309
  refine WO.of_known hk <| us 1 rfl <| WO.nil <| WC.ret <| KX.seq_r <| KX.block_r <| KX.seq_r <| KX.block_r <| KX.seq_r <| KX.block_r <| KX.seq_r <| KX.block_r <| KX.seq_r ?_
  have h := oi h; subst h
  exact kr (.bool y2309) rfl rfl rfl
  refine WC.condF rfl hc2352 <| WC.skip <| KX.seq_n <| WC.seq <| WC.seqR <| us 2 rfl <| WO.nil ?_
  rcases iteS h with ⟨hc2351, h⟩ | ⟨hc2351, h⟩
  refine WC.condT rfl hc2351 <| WC.exit <| KX.seq_x <| KX.seq_x <| KX.block_y rfl <| KX.seq_x <| KX.block_y rfl <| KX.seq_x <| KX.block_x <| KX.seq_n <| WC.seq <| WC.seqR <| us 1 rfl <| wg H 0 rfl rfl rfl rfl ?_
  obtain ⟨y2313, hy2313, h⟩ := bindS h
  refine cl (.bool y2313) [(.str a0.Attr)] rfl rfl rfl rfl (s69 _ hy2313 rfl) <| us 1 rfl ?_
  refine WO.split 4 (SH H [(1, (.ptr i1 0)), (49, (.bool (y2313 && (a0.Value == []))))]) ?_ ?_
  revert H
  cases hc2314 : y2313
  intro H
  refine us 4 rfl <| WO.nil ?_
  exact kf H
  intro H
  refine us 1 rfl <| WO.go0 rfl rfl <| wg H 0 rfl rfl rfl rfl <| us 2 rfl <| WO.nil ?_
  exact kf H
  rintro σ S e ⟨hk, H, rfl⟩
  refine WO.of_known hk <| w (.bool (y2313 && (a0.Value == []))) rfl rfl ?_
  refine WO.split 5 (SH H [(1, (.ptr i1 0)), (55, (.bool ((y2313 && (a0.Value == [])) && ((Sl.len a0.Subs) == 0))))]) ?_ ?_
  revert H
  cases hc2315 : (y2313 && (a0.Value == []))
  intro H
  refine us 5 rfl <| WO.nil ?_
  exact kf H
  intro H
  refine us 1 rfl <| WO.go0 rfl rfl <| wg H 0 rfl rfl rfl rfl <| WO.go0 rfl rfl <| wl rfl rfl rfl <| us 2 rfl <| WO.nil ?_
  exact kf H
  rintro σ S e ⟨hk, H, rfl⟩
  refine WO.of_known hk <| w (.bool ((y2313 && (a0.Value == [])) && ((Sl.len a0.Subs) == 0))) rfl rfl ?_
  refine WO.split 5 (SH H [(61, (.bool (((y2313 && (a0.Value == [])) && ((Sl.len a0.Subs) == 0)) && ((Sl.len a0.Kids) == 0))))]) ?_ ?_
  revert H
  cases hc2316 : ((y2313 && (a0.Value == [])) && ((Sl.len a0.Subs) == 0))
  intro H
  refine us 5 rfl <| WO.nil ?_
  exact kf H
  intro H
  refine us 1 rfl <| WO.go0 rfl rfl <| wg H 0 rfl rfl rfl rfl <| WO.go0 rfl rfl <| wl rfl rfl rfl <| us 2 rfl <| WO.nil ?_
  exact kf H
  rintro σ S e ⟨hk, H, rfl⟩
  refine WO.of_known hk <| us 1 rfl <| WO.nil <| WC.ret <| KX.seq_r <| KX.block_r <| KX.seq_r <| KX.block_r <| KX.seq_r <| KX.block_r <| KX.seq_r ?_
  have h := oi h; subst h
  exact kr (.bool (((y2313 && (a0.Value == [])) && ((Sl.len a0.Subs) == 0)) && ((Sl.len a0.Kids) == 0))) rfl rfl rfl
  refine WC.condF rfl hc2351 <| WC.skip <| KX.seq_n <| WC.seq <| WC.seqR <| us 2 rfl <| WO.nil ?_
  rcases iteS h with ⟨hc2350, h⟩ | ⟨hc2350, h⟩
  refine WC.condT rfl hc2350 <| WC.exit <| KX.seq_x <| KX.seq_x <| KX.block_y rfl <| KX.seq_x <| KX.block_y rfl <| KX.seq_x <| KX.block_y rfl <| KX.seq_x <| KX.block_x <| KX.seq_n <| WC.seq <| WC.seqR <| us 1 rfl <| wg H 0 rfl rfl rfl rfl ?_
  obtain ⟨y2318, hy2318, h⟩ := bindS h
  refine cl (.bool y2318) [(.str a0.Attr)] rfl rfl rfl rfl (s69 _ hy2318 rfl) <| us 1 rfl ?_
  refine WO.split 4 (SH H [(1, (.ptr i1 0)), (69, (.bool (y2318 && (a0.Value == []))))]) ?_ ?_
  revert H
  cases hc2319 : y2318
  intro H
  refine us 4 rfl <| WO.nil ?_
  exact kf H
  intro H
  refine us 1 rfl <| WO.go0 rfl rfl <| wg H 0 rfl rfl rfl rfl <| us 2 rfl <| WO.nil ?_
  exact kf H
  rintro σ S e ⟨hk, H, rfl⟩
  refine WO.of_known hk <| w (.bool (y2318 && (a0.Value == []))) rfl rfl ?_
  refine WO.split 5 (SH H [(1, (.ptr i1 0)), (75, (.bool ((y2318 && (a0.Value == [])) && ((Sl.len a0.Kids) == 0))))]) ?_ ?_
  revert H
  cases hc2320 : (y2318 && (a0.Value == []))
  intro H
  refine us 5 rfl <| WO.nil ?_
  exact kf H
  intro H
  refine us 1 rfl <| WO.go0 rfl rfl <| wg H 0 rfl rfl rfl rfl <| WO.go0 rfl rfl <| wl rfl rfl rfl <| us 2 rfl <| WO.nil ?_
  exact kf H
  rintro σ S e ⟨hk, H, rfl⟩
  refine WO.of_known hk <| w (.bool ((y2318 && (a0.Value == [])) && ((Sl.len a0.Kids) == 0))) rfl rfl ?_
  obtain ⟨y2325, hy2325, hOy2325⟩ := bindS h
  refine WO.split 4 (SJ [(80, (.bool y2325))] [] [] [(i1, .cells (c_Api_Filter a0))] [] [] false) ?_ ?_
  replace h := hy2325
  revert H
  cases hc2327 : ((y2318 && (a0.Value == [])) && ((Sl.len a0.Kids) == 0))
  intro H
  replace h := iteF h hc2327
  refine us 4 rfl <| WO.nil ?_
  have h := oi h; subst h
  exact kh H
  intro H
  replace h := iteT h hc2327
  refine us 1 rfl <| WO.go0 rfl rfl <| wg H 0 rfl rfl rfl rfl <| WO.go0 rfl rfl ?_
  obtain ⟨y2326, hy2326, h⟩ := bindS h
  refine cl (.bool y2326) [(encSl eS a0.Subs)] rfl rfl rfl (fe rfl rfl) (sv (s70 _ hy2326)) <| us 1 rfl <| WO.nil ?_
  have h := oi h; subst h
  exact kh H
  rintro σ S e ⟨hk, H, rfl⟩
  replace h := hOy2325
  refine WO.of_known hk <| us 1 rfl <| WO.nil <| WC.ret <| KX.seq_r <| KX.block_r <| KX.seq_r <| KX.block_r <| KX.seq_r ?_
  have h := oi h; subst h
  exact kr (.bool y2325) rfl rfl rfl
  refine WC.condF rfl hc2350 <| WC.skip <| KX.seq_n <| WC.seq <| WC.seqR <| us 2 rfl <| WO.nil ?_
  obtain ⟨y2338, hy2338, hOy2338⟩ := bindS h
  refine WC.join (SJ [(1, (.ptr i1 0)), (14, (.bool y2338))] [] [] [(i1, .cells (c_Api_Filter a0))] [] [] false) ?_ ?_
  replace h := hy2338
  rcases iteS h with ⟨hc2343, h⟩ | ⟨hc2343, h⟩
  refine WC.condT rfl hc2343 <| WC.skip <| KX.seq_n ?_
  have h := oi h; subst h
  exact kh H
  refine WC.condF rfl hc2343 <| WC.seqR <| us 2 rfl <| WO.nil ?_
  obtain ⟨y2341, hy2341, hOy2341⟩ := bindS h
  refine WC.join (SJ [(1, (.ptr i1 0)), (14, (.bool y2341))] [] [] [(i1, .cells (c_Api_Filter a0))] [] [] false) ?_ ?_
  replace h := hy2341
  rcases iteS h with ⟨hc2342, h⟩ | ⟨hc2342, h⟩
  refine WC.condT rfl hc2342 <| WC.skip <| KX.seq_n ?_
  have h := oi h; subst h
  exact kh H
  refine WC.condF rfl hc2342 <| WC.region <| us 2 rfl <| WO.nil <| KX.seq_n ?_
  have h := oi h; subst h
  exact kh H
  rintro σ S e ⟨hk, H, rfl⟩
  replace h := hOy2341
  refine KX.of_known hk <| KX.seq_n ?_
  have h := oi h; subst h
  exact kh H
  rintro σ S e ⟨hk, H, rfl⟩
  replace h := hOy2338
  refine KX.of_known hk <| KX.seq_n ?_
  rcases iteS h with ⟨hc2349, h⟩ | ⟨hc2349, h⟩
  refine WC.condT rfl hc2349 <| WC.exit <| KX.seq_x <| KX.block_y rfl <| KX.seq_x <| KX.block_y rfl <| KX.seq_x <| KX.block_y rfl <| KX.seq_x <| KX.block_y rfl <| KX.seq_x <| KX.block_x <| KX.seq_n <| WC.seq <| WC.seqR <| us 1 rfl <| wg H 0 rfl rfl rfl rfl ?_
  obtain ⟨y2345, hy2345, h⟩ := bindS h
  refine cl (.bool y2345) [(.str a0.Attr)] rfl rfl rfl rfl (s69 _ hy2345 rfl) <| us 1 rfl ?_
  refine WO.split 5 (SH H [(1, (.ptr i1 0)), (89, (.bool (y2345 && (decide ((Str.len a0.Value) ≤ 60)))))]) ?_ ?_
  revert H
  cases hc2346 : y2345
  intro H
  refine us 5 rfl <| WO.nil ?_
  exact kf H
  intro H
  refine us 1 rfl <| WO.go0 rfl rfl <| wg H 0 rfl rfl rfl rfl <| us 3 rfl <| WO.nil ?_
  exact kf H
  rintro σ S e ⟨hk, H, rfl⟩
  refine WO.of_known hk <| w (.bool (y2345 && (decide ((Str.len a0.Value) ≤ 60)))) rfl rfl ?_
  refine WO.split 5 (SH H [(1, (.ptr i1 0)), (95, (.bool ((y2345 && (decide ((Str.len a0.Value) ≤ 60))) && ((Sl.len a0.Subs) == 0))))]) ?_ ?_
  revert H
  cases hc2347 : (y2345 && (decide ((Str.len a0.Value) ≤ 60)))
  intro H
  refine us 5 rfl <| WO.nil ?_
  exact kf H
  intro H
  refine us 1 rfl <| WO.go0 rfl rfl <| wg H 0 rfl rfl rfl rfl <| WO.go0 rfl rfl <| wl rfl rfl rfl <| us 2 rfl <| WO.nil ?_
  exact kf H
  rintro σ S e ⟨hk, H, rfl⟩
  refine WO.of_known hk <| w (.bool ((y2345 && (decide ((Str.len a0.Value) ≤ 60))) && ((Sl.len a0.Subs) == 0))) rfl rfl ?_
  refine WO.split 5 (SH H [(101, (.bool (((y2345 && (decide ((Str.len a0.Value) ≤ 60))) && ((Sl.len a0.Subs) == 0)) && ((Sl.len a0.Kids) == 0))))]) ?_ ?_
  revert H
  cases hc2348 : ((y2345 && (decide ((Str.len a0.Value) ≤ 60))) && ((Sl.len a0.Subs) == 0))
  intro H
  refine us 5 rfl <| WO.nil ?_
  exact kf H
  intro H
  refine us 1 rfl <| WO.go0 rfl rfl <| wg H 0 rfl rfl rfl rfl <| WO.go0 rfl rfl <| wl rfl rfl rfl <| us 2 rfl <| WO.nil ?_
  exact kf H
  rintro σ S e ⟨hk, H, rfl⟩
  refine WO.of_known hk <| us 1 rfl <| WO.nil <| WC.ret <| KX.seq_r <| KX.block_r <| KX.seq_r ?_
  have h := oi h; subst h
  exact kr (.bool (((y2345 && (decide ((Str.len a0.Value) ≤ 60))) && ((Sl.len a0.Subs) == 0)) && ((Sl.len a0.Kids) == 0))) rfl rfl rfl
  refine WC.condF rfl hc2349 <| WC.skip <| KX.seq_n <| WC.exit <| KX.block_y rfl <| KX.seq_x <| KX.block_y rfl <| KX.seq_x <| KX.block_y rfl <| KX.seq_x <| KX.block_y rfl <| KX.seq_x <| KX.block_y rfl <| KX.seq_x <| KX.block_x <| KX.seq_n <| WC.seqR <| us 1 rfl <| WO.nil <| WC.ret ?_
  have h := oi h; subst h
  exact kr (.bool false) rfl rfl rfl
def F25 (k : Nat) (a0 : Api_Filter) : Option Bool :=
 Option.bind (F47 k a0) fun y2 =>
 Option.bind (if decide (y2 ≤ 20) then
 Option.bind (F48 k a0) fun y8 =>
 some y8
 else
 some false) fun y7 =>
 some y7
theorem s25 : ∀ k : Nat, ∀ {a0 : Api_Filter} {r : Bool}, F25 k a0 = some r → Q 25 [(.agg (c_Api_Filter a0))] (.bool r) := by
 intro k a0 r h
 unfold F25 at h
 refine Qe.go (pf := fn25) rfl rfl (Nat.le_of_ble_eq_true rfl) (by simp [PV.clean, cleanL, clean_encSl clean_Api_Filter, clean_encSl clean_eS]) rfl rfl fun H => ?_
 refine WC.seqR <| WO.box' rfl rfl rfl rfl rfl H ?_
 intro i1 S hi1 H
 refine us 1 rfl <| WO.nil <| WC.seqR <| wg H 0 rfl rfl rfl rfl ?_
 obtain ⟨y2, hy2, h⟩ := bindS h
 refine cl (.int .i64 y2) [(.agg (c_Api_Filter a0))] rfl rfl rfl rfl (sv (s47 _ hy2)) <| w (.bool (decide (y2 ≤ 20))) rfl rfl <| w (.bool (decide (y2 ≤ 20))) rfl rfl ?_
 obtain ⟨y7, hy7, hOy7⟩ := bindS h
 refine WO.split 3 (SJ [(9, (.bool y7))] [] [] [(i1, .cells (c_Api_Filter a0))] [] [] false) ?_ ?_
 replace h := hy7
 revert H
 cases hc9 : (decide (y2 ≤ 20))
 intro H
 replace h := iteF h hc9
 refine us 3 rfl <| WO.nil ?_
 have h := oi h; subst h
 exact kh H
 intro H
 replace h := iteT h hc9
 refine WO.go0 rfl rfl <| wg H 0 rfl rfl rfl rfl <| WO.go0 rfl rfl ?_
 obtain ⟨y8, hy8, h⟩ := bindS h
 refine cl (.bool y8) [(.agg (c_Api_Filter a0))] rfl rfl rfl rfl (sv (s48 _ hy8)) <| us 1 rfl <| WO.nil ?_
 have h := oi h; subst h
 exact kh H
 rintro σ S e ⟨hk, H, rfl⟩
 replace h := hOy7
 refine WO.of_known hk <| us 1 rfl <| WO.nil <| WC.ret ?_
 have h := oi h; subst h
 exact kr (.bool y7) rfl rfl rfl
def F26_L0 (k : Nat) (a108 : Sl Api_Mod) (a109 : Int) (a110 : Int) : Nat → Int → Option (Out Bool Int)
 | 0, _ => none
 | n + 1, x111 =>
  if decide (x111 < a110) then
  Option.bind (Sl.at? a108 x111) fun y137 =>
  Option.bind (if (decide (y137.Kind < 1)) || (decide (y137.Kind > a109)) then
  some true
  else
  Option.bind (F24 k (some [y137.Attr])) fun y149 =>
  some (!y149)) fun y147 =>
  Option.bind (if y147 || (decide ((Sl.len y137.Values) > 12)) then
  some true
  else
  Option.bind (F24 k y137.Values) fun y157 =>
  some (!y157)) fun y156 =>
  if y156 then
  some (Out.ret false)
  else
  F26_L0 k a108 a109 a110 n (ad .i64 x111 1)
  else
  some (Out.brk x111)
def F26 (k : Nat) (a0 : Sl Api_Mod) (a1 : Int) : Option Bool :=
 Option.bind (F26_L0 k a0 a1 (Sl.len a0) k 0) fun y162 =>
 match y162 with
 | .ret y162r => some y162r
 | .brk y162b =>
 some (decide ((Sl.len a0) ≤ 12))
theorem l26_L0 {k : Nat} {a108 : Sl Api_Mod} {a109 : Int} {a110 : Int} {S0 : List SObj} {R : List Nat} {K : KX}  {o : Out Bool Int}
  (hret : ∀ r : Bool, o = .ret r → EK [(4, (.bool r))] S0 R [] [] [] (K .ret))
  (hbrk : ∀ y : Int, o = .brk y → EK [(0, (encSl e_Api_Mod a108))] S0 R [] [] [] (K (.exit 0))) :
  ∀ {n : Nat} {x111 : Int}, F26_L0 k a108 a109 a110 n x111 = some o → ∀ {σ : Nat → PV} {S : List SObj}, Known [(0, (encSl e_Api_Mod a108)), (1, (.int .i64 a109)), (7, (encSl e_Api_Mod a108)), (8, (.int .i64 a110)), (9, (.int .i64 x111))] σ → Hp S0 R S [] [] [] → WC env ⟨45, S0.length⟩ (.loop pc26L0) σ S false K := by
 intro n
 induction n with
 | zero => intro _ h; cases h
 | succ n ih =>
  intro x111 h σ S  hk H
  rw [F26_L0] at h
  refine WC.loop <| WC.of_known hk <| WC.seqR <| us 1 rfl <| WO.nil <| WC.seq ?_
  rcases iteS h with ⟨hc161, h⟩ | ⟨hc161, h⟩
  refine WC.condT rfl hc161 <| WC.skip <| KX.seq_n <| WC.seq <| WC.block <| WC.seqR ?_
  obtain ⟨y137, hy137, h⟩ := bindS h
  refine w (.iptr (c_Api_Mod y137) 0) rfl (nz rfl (stp_idxAddr rfl (isSl_enc _ _) rfl rfl rfl hy137 (e_Api_Mod_cells _) rfl)) <| us 1 rfl <| WO.alloc' (ti := ty66) rfl rfl rfl rfl H ?_
  intro i138 S hi138 H
  refine wos 0 H hi138 rfl rfl rfl rfl rfl rfl rfl rfl rfl rfl ?_
  intro S H
  replace H : Hp S0 R _ [(i138, .cells (c_Api_Mod y137))] [] [] := H
  refine WO.nil <| WC.seqR <| us 1 rfl <| wg H 0 rfl rfl rfl rfl <| w (.bool (decide (y137.Kind < 1))) rfl rfl <| w (.bool (decide (y137.Kind < 1))) rfl rfl ?_
  refine WO.split 5 (SH H [(0, (encSl e_Api_Mod a108)), (1, (.int .i64 a109)), (6, (.ptr i138 0)), (7, (encSl e_Api_Mod a108)), (8, (.int .i64 a110)), (9, (.int .i64 x111)), (21, (.bool ((decide (y137.Kind < 1)) || (decide (y137.Kind > a109)))))]) ?_ ?_
  revert H
  cases hc139 : (decide (y137.Kind < 1))
  intro H
  refine us 1 rfl <| WO.go0 rfl rfl <| wg H 0 rfl rfl rfl rfl <| us 3 rfl <| WO.nil ?_
  exact kf H
  intro H
  refine us 5 rfl <| WO.nil ?_
  exact kf H
  rintro σ S e ⟨hk, H, rfl⟩
  refine WO.of_known hk <| w (.bool ((decide (y137.Kind < 1)) || (decide (y137.Kind > a109)))) rfl rfl ?_
  obtain ⟨y147, hy147, hOy147⟩ := bindS h
  refine WO.split 6 (SJ [(0, (encSl e_Api_Mod a108)), (1, (.int .i64 a109)), (6, (.ptr i138 0)), (7, (encSl e_Api_Mod a108)), (8, (.int .i64 a110)), (9, (.int .i64 x111)), (28, (.bool y147))] S0 R [(i138, .cells (c_Api_Mod y137))] [] [] false) ?_ ?_
  replace h := hy147
  revert H
  cases hc150 : ((decide (y137.Kind < 1)) || (decide (y137.Kind > a109)))
  intro H
  replace h := iteF h hc150
  refine us 1 rfl <| WO.go0 rfl rfl <| wg H 0 rfl rfl rfl rfl <| WO.go0 rfl rfl <| WS rfl (nz rfl (stp_buildSlice (ys := [y137.Attr]) (f := eS) (parts := [(0, (.str y137.Attr))]) rfl rfl rfl rfl rfl rfl (fc ⟨rfl, rfl⟩ (fun p hp => nomatch hp)) rfl)) ?_
  have hv148 : IsSl eS (some [y137.Attr]) _ := ⟨.full, rfl⟩
  refine WO.go0 rfl rfl ?_
  obtain ⟨y149, hy149, h⟩ := bindS h
  refine cl (.bool y149) [(.lst (List.map eS [y137.Attr]) .full)] rfl rfl rfl (fz_tmp' hv148.frz rfl) (s24 _ hy149 (by simp only [hv148.strip, st_lst, encSl_some, eI, eB, eS, List.map_cons, List.map_nil, tupled] <;> rfl)) <| us 2 rfl <| WO.nil ?_
  have h := oi h; subst h
  exact kh H
  intro H
  replace h := iteT h hc150
  refine us 6 rfl <| WO.nil ?_
  have h := oi h; subst h
  exact kh H
  rintro σ S e ⟨hk, H, rfl⟩
  replace h := hOy147
  refine WO.of_known hk <| us 1 rfl ?_
  refine WO.split 5 (SH H [(0, (encSl e_Api_Mod a108)), (1, (.int .i64 a109)), (6, (.ptr i138 0)), (7, (encSl e_Api_Mod a108)), (8, (.int .i64 a110)), (9, (.int .i64 x111)), (34, (.bool (y147 || (decide ((Sl.len y137.Values) > 12)))))]) ?_ ?_
  revert H
  cases hc151 : y147
  intro H
  refine us 1 rfl <| WO.go0 rfl rfl <| wg H 0 rfl rfl rfl rfl <| WO.go0 rfl rfl <| wl rfl rfl rfl <| us 2 rfl <| WO.nil ?_
  exact kf H
  intro H
  refine us 5 rfl <| WO.nil ?_
  exact kf H
  rintro σ S e ⟨hk, H, rfl⟩
  refine WO.of_known hk <| w (.bool (y147 || (decide ((Sl.len y137.Values) > 12)))) rfl rfl ?_
  obtain ⟨y156, hy156, hOy156⟩ := bindS h
  refine WO.split 5 (SJ [(0, (encSl e_Api_Mod a108)), (1, (.int .i64 a109)), (7, (encSl e_Api_Mod a108)), (8, (.int .i64 a110)), (9, (.int .i64 x111)), (40, (.bool y156))] S0 R [(i138, .cells (c_Api_Mod y137))] [] [] false) ?_ ?_
  replace h := hy156
  revert H
  cases hc158 : (y147 || (decide ((Sl.len y137.Values) > 12)))
  intro H
  replace h := iteF h hc158
  refine us 1 rfl <| WO.go0 rfl rfl <| wg H 0 rfl rfl rfl rfl <| WO.go0 rfl rfl ?_
  obtain ⟨y157, hy157, h⟩ := bindS h
  refine cl (.bool y157) [(encSl eS y137.Values)] rfl rfl rfl (fe rfl rfl) (sv (s24 _ hy157)) <| us 2 rfl <| WO.nil ?_
  have h := oi h; subst h
  exact kh H
  intro H
  replace h := iteT h hc158
  refine us 5 rfl <| WO.nil ?_
  have h := oi h; subst h
  exact kh H
  rintro σ S e ⟨hk, H, rfl⟩
  replace h := hOy156
  refine WO.of_known hk <| WO.nil ?_
  rcases iteS h with ⟨hc160, h⟩ | ⟨hc160, h⟩
  refine WC.condT rfl hc160 <| WC.seqR <| us 1 rfl <| WO.nil <| WC.ret <| KX.block_r <| KX.seq_r <| KX.seq_r ?_
  have h := oi h; subst h
  exact hret _ rfl kn (H.sub (.cons _ .slnil) .slnil .slnil)
  refine WC.condF rfl hc160 <| WC.skip <| KX.block_n <| KX.seq_n <| WC.region <| us 2 rfl <| WO.nil <| KX.seq_n ?_
  exact ih h  kn (H.sub (.cons _ .slnil) .slnil .slnil)
  refine WC.condF rfl hc161 <| WC.exit <| KX.seq_x <| KX.seq_x ?_
  have h := oi h; subst h
  exact hbrk _ rfl  kn (hs H)
theorem s26 : ∀ k : Nat, ∀ {a0 : Sl Api_Mod} {a1 : Int} {r : Bool}, F26 k a0 a1 = some r → Q 26 [(encSl e_Api_Mod a0), (.int .i64 a1)] (.bool r) := by
 intro k a0 a1 r h
 unfold F26 at h
 refine Qe.go (pf := fn26) rfl rfl (Nat.le_of_ble_eq_true rfl) (by simp [PV.clean, cleanL, clean_encSl clean_Api_Mod]) rfl rfl fun H => ?_
 refine WC.seqR <| us 1 rfl <| WO.nil <| WC.seq <| WC.seqR <| us 1 rfl <| wl rfl rfl rfl <| us 1 rfl <| WO.nil ?_
 obtain ⟨y162, hy162, hOy162⟩ := bindS h
 refine WC.block ?_
 refine l26_L0 ?_ ?_ hy162  kn (hs H)
 intro y162r he σ S  hk H; subst he; replace h := hOy162; dsimp only at h
 refine KX.of_known hk <| KX.block_r <| KX.seq_r ?_
 have h := oi h; subst h
 exact kr (.bool y162r) rfl rfl rfl
 intro y162b he σ S  hk H; subst he; replace h := hOy162; dsimp only at h
 refine KX.of_known hk <| KX.block_x <| KX.seq_n <| WC.seqR <| us 1 rfl <| wl rfl rfl rfl <| us 2 rfl <| WO.nil <| WC.ret ?_
 have h := oi h; subst h
 exact kr (.bool (decide ((Sl.len a0) ≤ 12))) rfl rfl rfl
def F11 (k : Nat) (a0 : Int) (a1 : Int) : Option Int :=
 if a0 == 9 then
 if (decide (a1 < 0)) || (decide (a1 > 8)) then
 some 0
 else
 Option.bind (Sl.at? (some [0, 97, 0, 101, 103, 105, 107, 109, 111]) a1) fun y8 =>
 some y8
 else
 Option.bind (Sl.at? (some [0, 96, 66, 99, 102, 104, 74, 108, 110, 0, 100]) a0) fun y10 =>
 some y10
theorem s11 : ∀ k : Nat, ∀ {a0 : Int} {a1 : Int} {r : Int}, F11 k a0 a1 = some r → Q 11 [(.int .i64 a0), (.int .i64 a1)] (.int .u8 r) := by
 intro k a0 a1 r h
 unfold F11 at h
 refine Qe.go (pf := fn11) rfl rfl (Nat.le_of_ble_eq_true rfl) rfl rfl rfl fun H => ?_
 refine WC.seqR <| us 1 rfl <| WO.nil <| WC.seq <| WC.seqR <| us 2 rfl <| WO.nil ?_
 rcases iteS h with ⟨hc11, h⟩ | ⟨hc11, h⟩
 refine WC.condT rfl hc11 <| WC.seq <| WC.seqR <| us 1 rfl <| w (.bool (decide (a1 < 0))) rfl rfl <| w (.bool (decide (a1 < 0))) rfl rfl ?_
 refine WO.split 3 (SH H [(1, (.int .i64 a1)), (12, (.bool ((decide (a1 < 0)) || (decide (a1 > 8)))))]) ?_ ?_
 revert H
 cases hc6 : (decide (a1 < 0))
 intro H
 refine us 3 rfl <| WO.nil ?_
 exact kf H
 intro H
 refine us 3 rfl <| WO.nil ?_
 exact kf H
 rintro σ S e ⟨hk, H, rfl⟩
 refine WO.of_known hk <| WO.nil ?_
 rcases iteS h with ⟨hc9, h⟩ | ⟨hc9, h⟩
 refine WC.condT rfl hc9 <| WC.seqR <| us 1 rfl <| WO.nil <| WC.ret <| KX.seq_r <| KX.seq_r ?_
 have h := oi h; subst h
 exact kr (.int .u8 0) rfl rfl rfl
 refine WC.condF rfl hc9 <| WC.skip <| KX.seq_n <| WC.seqR <| w (.agg z12_) rfl (nz rfl (stp_buildArr (ti := ty68) (ei := ty5) rfl rfl rfl rfl rfl (fill_cons (cells' := [(.int .u8 0), (.int .u8 97), (.int .u8 0), (.int .u8 0), (.int .u8 0), (.int .u8 0), (.int .u8 0), (.int .u8 0), (.int .u8 0)]) rfl rfl rfl rfl (Nat.le_of_ble_eq_true rfl) rfl (fill_cons (cells' := [(.int .u8 0), (.int .u8 97), (.int .u8 0), (.int .u8 101), (.int .u8 0), (.int .u8 0), (.int .u8 0), (.int .u8 0), (.int .u8 0)]) rfl rfl rfl rfl (Nat.le_of_ble_eq_true rfl) rfl (fill_cons (cells' := [(.int .u8 0), (.int .u8 97), (.int .u8 0), (.int .u8 101), (.int .u8 103), (.int .u8 0), (.int .u8 0), (.int .u8 0), (.int .u8 0)]) rfl rfl rfl rfl (Nat.le_of_ble_eq_true rfl) rfl (fill_cons (cells' := [(.int .u8 0), (.int .u8 97), (.int .u8 0), (.int .u8 101), (.int .u8 103), (.int .u8 105), (.int .u8 0), (.int .u8 0), (.int .u8 0)]) rfl rfl rfl rfl (Nat.le_of_ble_eq_true rfl) rfl (fill_cons (cells' := [(.int .u8 0), (.int .u8 97), (.int .u8 0), (.int .u8 101), (.int .u8 103), (.int .u8 105), (.int .u8 107), (.int .u8 0), (.int .u8 0)]) rfl rfl rfl rfl (Nat.le_of_ble_eq_true rfl) rfl (fill_cons (cells' := [(.int .u8 0), (.int .u8 97), (.int .u8 0), (.int .u8 101), (.int .u8 103), (.int .u8 105), (.int .u8 107), (.int .u8 109), (.int .u8 0)]) rfl rfl rfl rfl (Nat.le_of_ble_eq_true rfl) rfl (fill_cons (cells' := z12_) rfl rfl rfl rfl (Nat.le_of_ble_eq_true rfl) rfl rfl))))))))) <| us 1 rfl ?_
 obtain ⟨y8, hy8, h⟩ := bindS h
 refine w (.int .u8 y8) rfl (nz rfl (stp_idxAgg (f := (eI .u8)) (xs := [0, 97, 0, 101, 103, 105, 107, 109, 111]) rfl rfl rfl rfl rfl hy8)) <| us 1 rfl <| WO.nil <| WC.ret <| KX.seq_r ?_
 have h := oi h; subst h
 exact kr (.int .u8 y8) rfl rfl rfl
 refine WC.condF rfl hc11 <| WC.skip <| KX.seq_n <| WC.seqR <| w (.agg z1_) rfl (nz rfl (stp_buildArr (ti := ty69) (ei := ty5) rfl rfl rfl rfl rfl (fill_cons (cells' := [(.int .u8 0), (.int .u8 96), (.int .u8 0), (.int .u8 0), (.int .u8 0), (.int .u8 0), (.int .u8 0), (.int .u8 0), (.int .u8 0), (.int .u8 0), (.int .u8 0)]) rfl rfl rfl rfl (Nat.le_of_ble_eq_true rfl) rfl (fill_cons (cells' := [(.int .u8 0), (.int .u8 96), (.int .u8 66), (.int .u8 0), (.int .u8 0), (.int .u8 0), (.int .u8 0), (.int .u8 0), (.int .u8 0), (.int .u8 0), (.int .u8 0)]) rfl rfl rfl rfl (Nat.le_of_ble_eq_true rfl) rfl (fill_cons (cells' := [(.int .u8 0), (.int .u8 96), (.int .u8 66), (.int .u8 99), (.int .u8 0), (.int .u8 0), (.int .u8 0), (.int .u8 0), (.int .u8 0), (.int .u8 0), (.int .u8 0)]) rfl rfl rfl rfl (Nat.le_of_ble_eq_true rfl) rfl (fill_cons (cells' := [(.int .u8 0), (.int .u8 96), (.int .u8 66), (.int .u8 99), (.int .u8 102), (.int .u8 0), (.int .u8 0), (.int .u8 0), (.int .u8 0), (.int .u8 0), (.int .u8 0)]) rfl rfl rfl rfl (Nat.le_of_ble_eq_true rfl) rfl (fill_cons (cells' := [(.int .u8 0), (.int .u8 96), (.int .u8 66), (.int .u8 99), (.int .u8 102), (.int .u8 104), (.int .u8 0), (.int .u8 0), (.int .u8 0), (.int .u8 0), (.int .u8 0)]) rfl rfl rfl rfl (Nat.le_of_ble_eq_true rfl) rfl (fill_cons (cells' := [(.int .u8 0), (.int .u8 96), (.int .u8 66), (.int .u8 99), (.int .u8 102), (.int .u8 104), (.int .u8 74), (.int .u8 0), (.int .u8 0), (.int .u8 0), (.int .u8 0)]) rfl rfl rfl rfl (Nat.le_of_ble_eq_true rfl) rfl (fill_cons (cells' := [(.int .u8 0), (.int .u8 96), (.int .u8 66), (.int .u8 99), (.int .u8 102), (.int .u8 104), (.int .u8 74), (.int .u8 108), (.int .u8 0), (.int .u8 0), (.int .u8 0)]) rfl rfl rfl rfl (Nat.le_of_ble_eq_true rfl) rfl (fill_cons (cells' := [(.int .u8 0), (.int .u8 96), (.int .u8 66), (.int .u8 99), (.int .u8 102), (.int .u8 104), (.int .u8 74), (.int .u8 108), (.int .u8 110), (.int .u8 0), (.int .u8 0)]) rfl rfl rfl rfl (Nat.le_of_ble_eq_true rfl) rfl (fill_cons (cells' := z1_) rfl rfl rfl rfl (Nat.le_of_ble_eq_true rfl) rfl rfl))))))))))) <| us 1 rfl ?_
 obtain ⟨y10, hy10, h⟩ := bindS h
 refine w (.int .u8 y10) rfl (nz rfl (stp_idxAgg (f := (eI .u8)) (xs := [0, 96, 66, 99, 102, 104, 74, 108, 110, 0, 100]) rfl rfl rfl rfl rfl hy10)) <| us 1 rfl <| WO.nil <| WC.ret ?_
 have h := oi h; subst h
 exact kr (.int .u8 y10) rfl rfl rfl
def F9 (k : Nat) (a0 : Api_Msg) : Option Bool :=
 Option.bind (if (decide (a0.ID < 0)) || (decide (a0.ID > 2147483647)) then
 some true
 else
 Option.bind (F23 k a0) fun y11 =>
 Option.bind (F10 k a0 y11) fun y12 =>
 some (!y12)) fun y10 =>
 Option.bind (if y10 then
 some true
 else
 Option.bind (F24 k (some [a0.DN, a0.Pass, a0.RDN, a0.Sup, a0.Attr, a0.Value, a0.Matched])) fun y19 =>
 some (!y19)) fun y17 =>
 if y17 then
 some false
 else
 if a0.Op == 1 then
 some ((decide (a0.Version ≥ 1)) && (decide (a0.Version ≤ 127)))
 else
 if a0.Op == 3 then
 Option.bind (if (((decide (a0.Scope ≥ 0)) && (decide (a0.Scope ≤ 2))) && (decide (a0.Size ≥ 0))) && (decide (a0.Size ≤ 2147483647)) then
 Option.bind (F25 k a0.Filter) fun y534 =>
 some y534
 else
 some false) fun y533 =>
 Option.bind (if y533 && (decide ((Sl.len a0.Wants) ≤ 12)) then
 Option.bind (F24 k a0.Wants) fun y542 =>
 some y542
 else
 some false) fun y541 =>
 some y541
 else
 if a0.Op == 4 then
 Option.bind (F26 k a0.Mods 3) fun y570 =>
 some y570
 else
 Option.bind (if a0.Op == 5 then
 some (a0.Op == 5)
 else
 some (a0.Op == 10)) fun y573 =>
 if y573 then
 Option.bind (F26 k a0.Mods 1) fun y585 =>
 some y585
 else
 if a0.Op == 9 then
 Option.bind (F11 k 9 a0.Of) fun y590 =>
 some (((y590 != 0) && (decide (a0.Code ≥ 0))) && (decide (a0.Code ≤ 127)))
 else
 some ((decide (a0.Op ≥ 1)) && (decide (a0.Op ≤ 10)))
theorem s9 : ∀ k : Nat, ∀ {a0 : Api_Msg} {r : Bool}, F9 k a0 = some r → Q 9 [(.agg (c_Api_Msg a0))] (.bool r) := by
 intro k a0 r h
 unfold F9 at h
 refine Qe.go (pf := fn9) rfl rfl (Nat.le_of_ble_eq_true rfl) (by simp [PV.clean, cleanL, clean_encSl clean_Api_Filter, clean_encSl clean_Api_Mod, clean_encSl clean_eS]) rfl rfl fun H => ?_
 refine WC.seqR <| WO.box' rfl rfl rfl rfl rfl H ?_
 intro i1 S hi1 H
 refine us 1 rfl <| WO.nil <| WC.seq <| WC.seq <| WC.draw <| wh (.ptr i1 0) rfl rfl <| WH.step (v := .int .i64 a0.ID) rfl (nz rfl (stp_load rfl (H.get 0 rfl) rfl)) rfl rfl <| WH.step (v := (.bool (decide (a0.ID < 0)))) rfl (nz rfl rfl) rfl rfl <| WH.step (v := (.bool (decide (a0.ID < 0)))) rfl (nz rfl rfl) rfl rfl ?_
 refine WH.split 4 (fun σ' => Known ([(1, (.ptr i1 0)), (10, (.bool ((decide (a0.ID < 0)) || (decide (a0.ID > 2147483647)))))]) σ') ?_ ?_
 revert H
 cases hc2 : (decide (a0.ID < 0))
 intro H
 refine WH.go0 rfl rfl <| wh (.ptr i1 0) rfl rfl <| WH.go0 rfl rfl <| WH.step (v := .int .i64 a0.ID) rfl (nz rfl (stp_load rfl (H.get 0 rfl) rfl)) rfl rfl <| WH.go0 rfl rfl <| WH.step (v := (.bool (decide (a0.ID > 2147483647)))) rfl (nz rfl rfl) rfl rfl <| WH.step (v := (.bool (decide (a0.ID > 2147483647)))) rfl (nz rfl rfl) rfl rfl <| WH.nil ?_
 exact kn
 intro H
 refine WH.by rfl rfl rfl <| WH.by rfl rfl rfl <| WH.by rfl rfl rfl <| wh (.bool true) rfl rfl <| WH.nil ?_
 exact kn
 intro σ hk
 refine WH.of_known hk <| WH.step (v := (.bool ((decide (a0.ID < 0)) || (decide (a0.ID > 2147483647))))) rfl (nz rfl rfl) rfl rfl ?_
 obtain ⟨y10, hy10, hOy10⟩ := bindS h
 refine WH.split 6 (fun σ' => Known ([(1, (.ptr i1 0)), (17, (.bool y10))]) σ') ?_ ?_
 replace h := hy10
 revert H
 cases hc13 : ((decide (a0.ID < 0)) || (decide (a0.ID > 2147483647)))
 intro H
 replace h := iteF h hc13
 refine WH.go0 rfl rfl <| WH.step (v := (.agg (c_Api_Msg a0))) rfl (nz rfl (stp_load rfl (H.get 0 rfl) rfl)) rfl rfl <| WH.go0 rfl rfl <| WH.step (v := (.agg (c_Api_Msg a0))) rfl (nz rfl (stp_load rfl (H.get 0 rfl) rfl)) rfl rfl <| WH.go0 rfl rfl ?_
 obtain ⟨y11, hy11, h⟩ := bindS h
 refine WH.step (v := (.agg (c_Api_Msg y11))) rfl (nz rfl (stp_call (vs := [(.agg (c_Api_Msg a0))]) rfl rfl (s23 _ hy11 (by simp only [st_agg, List.map_cons, List.map_nil, st1_int, st1_str, strip1_enc, st1_bool, tupled, e_Api_Msg]) _))) rfl rfl <| WH.go0 rfl rfl ?_
 obtain ⟨y12, hy12, h⟩ := bindS h
 refine WH.step (v := .bool y12) rfl (nz rfl (stp_call (vs := [(.agg (c_Api_Msg a0)), (.agg (c_Api_Msg y11))]) rfl rfl (s10 _ hy12 (by simp only [st_agg, List.map_cons, List.map_nil, st1_int, st1_str, strip1_enc, st1_bool, tupled, e_Api_Msg]) _))) rfl rfl <| WH.go0 rfl rfl <| wh (.bool (!y12)) rfl rfl <| wh (.bool (!y12)) rfl rfl <| WH.nil ?_
 have h := oi h; subst h
 exact kn
 intro H
 replace h := iteT h hc13
 refine WH.by rfl rfl rfl <| WH.by rfl rfl rfl <| WH.by rfl rfl rfl <| WH.by rfl rfl rfl <| WH.by rfl rfl rfl <| wh (.bool true) rfl rfl <| WH.nil ?_
 have h := oi h; subst h
 exact kn
 rintro σ hk
 replace h := hOy10
 refine WH.of_known hk <| wh (.bool y10) rfl rfl ?_
 obtain ⟨y17, hy17, hOy17⟩ := bindS h
 refine WD.split 4 (SJ [(1, (.ptr i1 0)), (36, (.bool y17))] [] [] [(i1, .cells (c_Api_Msg a0))] [] [] false) ?_ ?_
 replace h := hy17
 revert H
 cases hc20 : y10
 intro H
 replace h := iteF h hc20
 refine WH.go0 rfl rfl <| wh (.ptr i1 3) rfl rfl <| WH.go0 rfl rfl <| WH.step (v := .str a0.DN) rfl (nz rfl (stp_load rfl (H.get 0 rfl) rfl)) rfl rfl <| WH.go0 rfl rfl <| wh (.ptr i1 5) rfl rfl <| WH.go0 rfl rfl <| WH.step (v := .str a0.Pass) rfl (nz rfl (stp_load rfl (H.get 0 rfl) rfl)) rfl rfl <| WH.go0 rfl rfl <| wh (.ptr i1 15) rfl rfl <| WH.go0 rfl rfl <| WH.step (v := .str a0.RDN) rfl (nz rfl (stp_load rfl (H.get 0 rfl) rfl)) rfl rfl <| WH.go0 rfl rfl <| wh (.ptr i1 18) rfl rfl <| WH.go0 rfl rfl <| WH.step (v := .str a0.Sup) rfl (nz rfl (stp_load rfl (H.get 0 rfl) rfl)) rfl rfl <| WH.go0 rfl rfl <| wh (.ptr i1 19) rfl rfl <| WH.go0 rfl rfl <| WH.step (v := .str a0.Attr) rfl (nz rfl (stp_load rfl (H.get 0 rfl) rfl)) rfl rfl <| WH.go0 rfl rfl <| wh (.ptr i1 20) rfl rfl <| WH.go0 rfl rfl <| WH.step (v := .str a0.Value) rfl (nz rfl (stp_load rfl (H.get 0 rfl) rfl)) rfl rfl <| WH.go0 rfl rfl <| wh (.ptr i1 22) rfl rfl <| WH.go0 rfl rfl <| WH.step (v := .str a0.Matched) rfl (nz rfl (stp_load rfl (H.get 0 rfl) rfl)) rfl rfl <| WH.nil <| WO.go0 rfl rfl <| WS rfl (nz rfl (stp_buildSlice (ys := [a0.DN, a0.Pass, a0.RDN, a0.Sup, a0.Attr, a0.Value, a0.Matched]) (f := eS) (parts := [(0, (.str a0.DN)), (1, (.str a0.Pass)), (2, (.str a0.RDN)), (3, (.str a0.Sup)), (4, (.str a0.Attr)), (5, (.str a0.Value)), (6, (.str a0.Matched))]) rfl rfl rfl rfl rfl rfl (fc ⟨rfl, rfl⟩ (fc ⟨rfl, rfl⟩ (fc ⟨rfl, rfl⟩ (fc ⟨rfl, rfl⟩ (fc ⟨rfl, rfl⟩ (fc ⟨rfl, rfl⟩ (fc ⟨rfl, rfl⟩ (fun p hp => nomatch hp)))))))) rfl)) ?_
 have hv18 : IsSl eS (some [a0.DN, a0.Pass, a0.RDN, a0.Sup, a0.Attr, a0.Value, a0.Matched]) _ := ⟨.full, rfl⟩
 refine WO.go0 rfl rfl ?_
 obtain ⟨y19, hy19, h⟩ := bindS h
 refine cl (.bool y19) [(.lst (List.map eS [a0.DN, a0.Pass, a0.RDN, a0.Sup, a0.Attr, a0.Value, a0.Matched]) .full)] rfl rfl rfl (fz_tmp' hv18.frz rfl) (s24 _ hy19 (by simp only [hv18.strip, st_lst, encSl_some, eI, eB, eS, List.map_cons, List.map_nil, tupled] <;> rfl)) <| us 2 rfl <| WO.nil ?_
 have h := oi h; subst h
 exact kh H
 intro H
 replace h := iteT h hc20
 refine WH.by rfl rfl rfl <| WH.by rfl rfl rfl <| WH.by rfl rfl rfl <| WH.by rfl rfl rfl <| WH.by rfl rfl rfl <| WH.by rfl rfl rfl <| WH.by rfl rfl rfl <| WH.by rfl rfl rfl <| WH.by rfl rfl rfl <| WH.by rfl rfl rfl <| WH.by rfl rfl rfl <| WH.by rfl rfl rfl <| WH.by rfl rfl rfl <| WH.by rfl rfl rfl <| WH.nil <| us 4 rfl <| WO.nil ?_
 have h := oi h; subst h
 exact kh H
 rintro σ S e ⟨hk, H, rfl⟩
 replace h := hOy17
 refine WO.of_known hk <| WO.nil <| KX.seq_n ?_
 rcases iteS h with ⟨hc599, h⟩ | ⟨hc599, h⟩
 refine WC.condT rfl hc599 <| WC.seqR <| us 1 rfl <| WO.nil <| WC.ret <| KX.seq_r ?_
 have h := oi h; subst h
 exact kr (.bool false) rfl rfl rfl
 refine WC.condF rfl hc599 <| WC.skip <| KX.seq_n <| WC.seq <| WC.seqR <| us 1 rfl <| wg H 0 rfl rfl rfl rfl <| WO.nil <| WC.block <| WC.seqR <| us 2 rfl <| WO.nil ?_
 rcases iteS h with ⟨hc598, h⟩ | ⟨hc598, h⟩
 refine WC.condT rfl hc598 <| WC.seqR <| us 1 rfl <| wg H 0 rfl rfl rfl rfl <| w (.bool (decide (a0.Version ≥ 1))) rfl rfl <| w (.bool (decide (a0.Version ≥ 1))) rfl rfl ?_
 refine WO.split 4 (SH H [(48, (.bool ((decide (a0.Version ≥ 1)) && (decide (a0.Version ≤ 127)))))]) ?_ ?_
 revert H
 cases hc454 : (decide (a0.Version ≥ 1))
 intro H
 refine us 4 rfl <| WO.nil ?_
 exact kf H
 intro H
 refine us 1 rfl <| WO.go0 rfl rfl <| wg H 0 rfl rfl rfl rfl <| us 2 rfl <| WO.nil ?_
 exact kf H
 rintro σ S e ⟨hk, H, rfl⟩
 refine WO.of_known hk <| us 1 rfl <| WO.nil <| WC.ret <| KX.block_r <| KX.seq_r ?_
 have h := oi h; subst h
 exact kr (.bool ((decide (a0.Version ≥ 1)) && (decide (a0.Version ≤ 127)))) rfl rfl rfl
 refine WC.condF rfl hc598 <| WC.seqR <| us 2 rfl <| WO.nil ?_
 rcases iteS h with ⟨hc597, h⟩ | ⟨hc597, h⟩
 refine WC.condT rfl hc597 <| WC.seqR <| us 1 rfl <| wg H 0 rfl rfl rfl rfl <| w (.bool (decide (a0.Scope ≥ 0))) rfl rfl <| w (.bool (decide (a0.Scope ≥ 0))) rfl rfl ?_
 refine WO.split 4 (SH H [(1, (.ptr i1 0)), (58, (.bool ((decide (a0.Scope ≥ 0)) && (decide (a0.Scope ≤ 2)))))]) ?_ ?_
 revert H
 cases hc526 : (decide (a0.Scope ≥ 0))
 intro H
 refine us 4 rfl <| WO.nil ?_
 exact kf H
 intro H
 refine us 1 rfl <| WO.go0 rfl rfl <| wg H 0 rfl rfl rfl rfl <| us 2 rfl <| WO.nil ?_
 exact kf H
 rintro σ S e ⟨hk, H, rfl⟩
 refine WO.of_known hk <| w (.bool ((decide (a0.Scope ≥ 0)) && (decide (a0.Scope ≤ 2)))) rfl rfl ?_
 refine WO.split 4 (SH H [(1, (.ptr i1 0)), (63, (.bool (((decide (a0.Scope ≥ 0)) && (decide (a0.Scope ≤ 2))) && (decide (a0.Size ≥ 0)))))]) ?_ ?_
 revert H
 cases hc527 : ((decide (a0.Scope ≥ 0)) && (decide (a0.Scope ≤ 2)))
 intro H
 refine us 4 rfl <| WO.nil ?_
 exact kf H
 intro H
 refine us 1 rfl <| WO.go0 rfl rfl <| wg H 0 rfl rfl rfl rfl <| us 2 rfl <| WO.nil ?_
 exact kf H
 rintro σ S e ⟨hk, H, rfl⟩
 refine WO.of_known hk <| w (.bool (((decide (a0.Scope ≥ 0)) && (decide (a0.Scope ≤ 2))) && (decide (a0.Size ≥ 0)))) rfl rfl ?_
 refine WO.split 4 (SH H [(1, (.ptr i1 0)), (68, (.bool ((((decide (a0.Scope ≥ 0)) && (decide (a0.Scope ≤ 2))) && (decide (a0.Size ≥ 0))) && (decide (a0.Size ≤ 2147483647)))))]) ?_ ?_
 revert H
 cases hc528 : (((decide (a0.Scope ≥ 0)) && (decide (a0.Scope ≤ 2))) && (decide (a0.Size ≥ 0)))
 intro H
 refine us 4 rfl <| WO.nil ?_
 exact kf H
 intro H
 refine us 1 rfl <| WO.go0 rfl rfl <| wg H 0 rfl rfl rfl rfl <| us 2 rfl <| WO.nil ?_
 exact kf H
 rintro σ S e ⟨hk, H, rfl⟩
 refine WO.of_known hk <| w (.bool ((((decide (a0.Scope ≥ 0)) && (decide (a0.Scope ≤ 2))) && (decide (a0.Size ≥ 0))) && (decide (a0.Size ≤ 2147483647)))) rfl rfl ?_
 obtain ⟨y533, hy533, hOy533⟩ := bindS h
 refine WO.split 4 (SJ [(1, (.ptr i1 0)), (73, (.bool y533))] [] [] [(i1, .cells (c_Api_Msg a0))] [] [] false) ?_ ?_
 replace h := hy533
 revert H
 cases hc535 : ((((decide (a0.Scope ≥ 0)) && (decide (a0.Scope ≤ 2))) && (decide (a0.Size ≥ 0))) && (decide (a0.Size ≤ 2147483647)))
 intro H
 replace h := iteF h hc535
 refine us 4 rfl <| WO.nil ?_
 have h := oi h; subst h
 exact kh H
 intro H
 replace h := iteT h hc535
 refine us 1 rfl <| WO.go0 rfl rfl <| wg H 0 rfl rfl rfl rfl <| WO.go0 rfl rfl ?_
 obtain ⟨y534, hy534, h⟩ := bindS h
 refine cl (.bool y534) [(.agg (c_Api_Filter a0.Filter))] rfl rfl rfl rfl (sv (s25 _ hy534)) <| us 1 rfl <| WO.nil ?_
 have h := oi h; subst h
 exact kh H
 rintro σ S e ⟨hk, H, rfl⟩
 replace h := hOy533
 refine WO.of_known hk <| us 1 rfl ?_
 refine WO.split 5 (SH H [(1, (.ptr i1 0)), (79, (.bool (y533 && (decide ((Sl.len a0.Wants) ≤ 12)))))]) ?_ ?_
 revert H
 cases hc536 : y533
 intro H
 refine us 5 rfl <| WO.nil ?_
 exact kf H
 intro H
 refine us 1 rfl <| WO.go0 rfl rfl <| wg H 0 rfl rfl rfl rfl <| WO.go0 rfl rfl <| wl rfl rfl rfl <| us 2 rfl <| WO.nil ?_
 exact kf H
 rintro σ S e ⟨hk, H, rfl⟩
 refine WO.of_known hk <| w (.bool (y533 && (decide ((Sl.len a0.Wants) ≤ 12)))) rfl rfl ?_
 obtain ⟨y541, hy541, hOy541⟩ := bindS h
 refine WO.split 4 (SJ [(84, (.bool y541))] [] [] [(i1, .cells (c_Api_Msg a0))] [] [] false) ?_ ?_
 replace h := hy541
 revert H
 cases hc543 : (y533 && (decide ((Sl.len a0.Wants) ≤ 12)))
 intro H
 replace h := iteF h hc543
 refine us 4 rfl <| WO.nil ?_
 have h := oi h; subst h
 exact kh H
 intro H
 replace h := iteT h hc543
 refine us 1 rfl <| WO.go0 rfl rfl <| wg H 0 rfl rfl rfl rfl <| WO.go0 rfl rfl ?_
 obtain ⟨y542, hy542, h⟩ := bindS h
 refine cl (.bool y542) [(encSl eS a0.Wants)] rfl rfl rfl (fe rfl rfl) (sv (s24 _ hy542)) <| us 1 rfl <| WO.nil ?_
 have h := oi h; subst h
 exact kh H
 rintro σ S e ⟨hk, H, rfl⟩
 replace h := hOy541
 refine WO.of_known hk <| us 1 rfl <| WO.nil <| WC.ret <| KX.block_r <| KX.seq_r ?_
 have h := oi h; subst h
 exact kr (.bool y541) rfl rfl rfl
 refine WC.condF rfl hc597 <| WC.seqR <| us 2 rfl <| WO.nil ?_
 rcases iteS h with ⟨hc596, h⟩ | ⟨hc596, h⟩
 refine WC.condT rfl hc596 <| WC.seqR <| us 1 rfl <| wg H 0 rfl rfl rfl rfl ?_
 obtain ⟨y570, hy570, h⟩ := bindS h
 refine cl (.bool y570) [(encSl e_Api_Mod a0.Mods), (.int .i64 3)] rfl rfl rfl (fe rfl (fo rfl rfl)) (sv (s26 _ hy570)) <| us 1 rfl <| WO.nil <| WC.ret <| KX.block_r <| KX.seq_r ?_
 have h := oi h; subst h
 exact kr (.bool y570) rfl rfl rfl
 refine WC.condF rfl hc596 <| WC.seq <| WC.seqR <| us 2 rfl <| WO.nil ?_
 obtain ⟨y573, hy573, hOy573⟩ := bindS h
 refine WC.join (SJ [(1, (.ptr i1 0)), (38, (.int .i64 a0.Op)), (90, (.bool y573))] [] [] [(i1, .cells (c_Api_Msg a0))] [] [] false) ?_ ?_
 replace h := hy573
 rcases iteS h with ⟨hc574, h⟩ | ⟨hc574, h⟩
 refine WC.condT rfl hc574 <| WC.skip <| KX.seq_n ?_
 have h := oi h; subst h
 exact kh H
 refine WC.condF rfl hc574 <| WC.region <| us 2 rfl <| WO.nil <| KX.seq_n ?_
 have h := oi h; subst h
 exact kh H
 rintro σ S e ⟨hk, H, rfl⟩
 replace h := hOy573
 refine KX.of_known hk <| KX.seq_n ?_
 rcases iteS h with ⟨hc595, h⟩ | ⟨hc595, h⟩
 refine WC.condT rfl hc595 <| WC.seqR <| us 1 rfl <| wg H 0 rfl rfl rfl rfl ?_
 obtain ⟨y585, hy585, h⟩ := bindS h
 refine cl (.bool y585) [(encSl e_Api_Mod a0.Mods), (.int .i64 1)] rfl rfl rfl (fe rfl (fo rfl rfl)) (sv (s26 _ hy585)) <| us 1 rfl <| WO.nil <| WC.ret <| KX.block_r <| KX.seq_r ?_
 have h := oi h; subst h
 exact kr (.bool y585) rfl rfl rfl
 refine WC.condF rfl hc595 <| WC.seqR <| us 2 rfl <| WO.nil ?_
 rcases iteS h with ⟨hc594, h⟩ | ⟨hc594, h⟩
 refine WC.condT rfl hc594 <| WC.seqR <| us 1 rfl <| wg H 0 rfl rfl rfl rfl ?_
 obtain ⟨y590, hy590, h⟩ := bindS h
 refine cl (.int .u8 y590) [(.int .i64 9), (.int .i64 a0.Of)] rfl rfl rfl rfl (s11 _ hy590 rfl) <| w (.bool (y590 != 0)) rfl rfl <| w (.bool (y590 != 0)) rfl rfl ?_
 refine WO.split 4 (SH H [(1, (.ptr i1 0)), (106, (.bool ((y590 != 0) && (decide (a0.Code ≥ 0)))))]) ?_ ?_
 revert H
 cases hc591 : (y590 != 0)
 intro H
 refine us 4 rfl <| WO.nil ?_
 exact kf H
 intro H
 refine us 1 rfl <| WO.go0 rfl rfl <| wg H 0 rfl rfl rfl rfl <| us 2 rfl <| WO.nil ?_
 exact kf H
 rintro σ S e ⟨hk, H, rfl⟩
 refine WO.of_known hk <| w (.bool ((y590 != 0) && (decide (a0.Code ≥ 0)))) rfl rfl ?_
 refine WO.split 4 (SH H [(111, (.bool (((y590 != 0) && (decide (a0.Code ≥ 0))) && (decide (a0.Code ≤ 127)))))]) ?_ ?_
 revert H
 cases hc592 : ((y590 != 0) && (decide (a0.Code ≥ 0)))
 intro H
 refine us 4 rfl <| WO.nil ?_
 exact kf H
 intro H
 refine us 1 rfl <| WO.go0 rfl rfl <| wg H 0 rfl rfl rfl rfl <| us 2 rfl <| WO.nil ?_
 exact kf H
 rintro σ S e ⟨hk, H, rfl⟩
 refine WO.of_known hk <| us 1 rfl <| WO.nil <| WC.ret <| KX.block_r <| KX.seq_r ?_
 have h := oi h; subst h
 exact kr (.bool (((y590 != 0) && (decide (a0.Code ≥ 0))) && (decide (a0.Code ≤ 127)))) rfl rfl rfl
 refine WC.condF rfl hc594 <| WC.skip <| KX.block_n <| KX.seq_n <| WC.seqR <| us 1 rfl <| wg H 0 rfl rfl rfl rfl <| w (.bool (decide (a0.Op ≥ 1))) rfl rfl <| w (.bool (decide (a0.Op ≥ 1))) rfl rfl ?_
 refine WO.split 4 (SH H [(119, (.bool ((decide (a0.Op ≥ 1)) && (decide (a0.Op ≤ 10)))))]) ?_ ?_
 revert H
 cases hc593 : (decide (a0.Op ≥ 1))
 intro H
 refine us 4 rfl <| WO.nil ?_
 exact kf H
 intro H
 refine us 1 rfl <| WO.go0 rfl rfl <| wg H 0 rfl rfl rfl rfl <| us 2 rfl <| WO.nil ?_
 exact kf H
 rintro σ S e ⟨hk, H, rfl⟩
 refine WO.of_known hk <| us 1 rfl <| WO.nil <| WC.ret ?_
 have h := oi h; subst h
 exact kr (.bool ((decide (a0.Op ≥ 1)) && (decide (a0.Op ≤ 10)))) rfl rfl rfl
end Go.Proofs.YtbinlabnilidiaaDoor.M
