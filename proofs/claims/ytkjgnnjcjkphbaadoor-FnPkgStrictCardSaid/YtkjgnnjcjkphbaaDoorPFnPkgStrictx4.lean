-- printed for this claim by a program out of the translation, its tactics shortened by another
import Derived.Test.YtkjgnnjcjkphbaaDoorPFnPkgStrictx3
namespace Go.Proofs.YtkjgnnjcjkphbaaDoor.PFnPkgStrict
open Go.RowKit Go.Proofs.YtkjgnnjcjkphbaaDoorW.PrintWords Go.Proofs.YtkjgnnjcjkphbaaDoorW.PrintLast Go.Proofs.YtkjgnnjcjkphbaaDoorW.PrintMore
attribute [local go_sem] max2_int min2_int max_two min_two max_three min_three max_four min_four   -- for this text's walks alone
set_option linter.unusedVariables false
set_option linter.unusedSimpArgs false

/-! ### spec_PkgRead: function 25 -/
mutual
def spec_PkgRead.l0 : Nat → ByteArray → List ByteArray → Int → Int → Int → List (S67) → List (S69) → Option (Int × Int × (List (S67)) × (List (S69)) × Bool)
 | 0, _, _, _, _, _, _, _ => none
 | k + 1, x0, x4, x6, x277000, x277001, x277002, x277003 => if x6 < (x4.length : Int) then (if 0 ≤ x6 then (if x6 = 0 then (spec_PkgRead.j1 k x0 x4 x6 (rdOf ByteArray.empty x4 x6) (((rdOf ByteArray.empty x4 x6).size : Int) == 2) x277000 x277001 x277002 x277003) else (spec_PkgRead.j1 k x0 x4 x6 (rdOf ByteArray.empty x4 x6) false x277000 x277001 x277002 x277003)) else (none)) else ((spec_PkgText.f k x277000 x277001 x277002 x277003).bind fun t277 => (if t277.toList = x0.toList then (if x0.toList = ([] : List UInt8) then (some (0, 0, ([] : List (S67)), ([] : List (S69)), false)) else (some (x277000, x277001, x277002, x277003, true))) else (some (0, 0, ([] : List (S67)), ([] : List (S69)), false))))
def spec_PkgRead.j1 : Nat → ByteArray → List ByteArray → Int → ByteArray → Bool → Int → Int → List (S67) → List (S69) → Option (Int × Int × (List (S67)) × (List (S69)) × Bool)
 | 0, _, _, _, _, _, _, _, _, _ => none
 | k + 1, x0, x4, x6, x7, x27, x277000, x277001, x277002, x277003 => if x27 = true then (if 0 < (x7.size : Int) then (if 1 < (x7.size : Int) then (spec_PkgRead.l0 k x0 x4 (wrap64 (x6 + 1)) (wrap64 ((wrap64 ((wrap64 (bt x7 0)) - 97)) + 1)) (wrap64 ((wrap64 (bt x7 1)) - 48)) x277002 x277003) else (none)) else (none)) else (if x6 > 0 then (spec_PkgRead.j2 k x0 x4 x6 x7 ((x7.size : Int) == 3) x277000 x277001 x277002 x277003) else (spec_PkgRead.j2 k x0 x4 x6 x7 false x277000 x277001 x277002 x277003))
def spec_PkgRead.j2 : Nat → ByteArray → List ByteArray → Int → ByteArray → Bool → Int → Int → List (S67) → List (S69) → Option (Int × Int × (List (S67)) × (List (S69)) × Bool)
 | 0, _, _, _, _, _, _, _, _, _ => none
 | k + 1, x0, x4, x6, x7, x46, x277000, x277001, x277002, x277003 => if x46 = true then (if 0 < (x7.size : Int) then (if 2 < (x7.size : Int) then (if x277002.length < 8796093022208 then (spec_PkgRead.l0 k x0 x4 (wrap64 (x6 + 1)) x277000 x277001 (x277002 ++ [(⟨wrap64 ((wrap64 (bt x7 0)) - 48), wrap64 ((wrap64 (bt x7 2)) - 48)⟩ : S67)]) x277003) else (none)) else (none)) else (none)) else (if x6 > 0 then (if (x7.size : Int) = 2 then (if 0 < (x7.size : Int) then (if 1 < (x7.size : Int) then (if x277003.length < 8796093022208 then (spec_PkgRead.l0 k x0 x4 (wrap64 (x6 + 1)) x277000 x277001 x277002 (x277003 ++ [(⟨wrap64 ((wrap64 ((wrap64 (bt x7 0)) - 97)) + 1), wrap64 ((wrap64 (bt x7 1)) - 48)⟩ : S69)])) else (none)) else (none)) else (none)) else (spec_PkgRead.l0 k x0 x4 (wrap64 (x6 + 1)) x277000 x277001 x277002 x277003)) else (spec_PkgRead.l0 k x0 x4 (wrap64 (x6 + 1)) x277000 x277001 x277002 x277003))
end
def spec_PkgRead.f (k : Nat) (a0 : ByteArray) : Option (Int × Int × (List (S67)) × (List (S69)) × Bool) := if (a0.size : Int) > 30 then (some (0, 0, ([] : List (S67)), ([] : List (S69)), false)) else ((spec_l1Cut.f a0 32).bind fun t267 => (spec_PkgRead.l0 k a0 t267 0 0 0 (([] : List (S67))) (([] : List (S69)))))
theorem spec_PkgRead.mono_l : ∀ k, (∀ y0 y1 y2 y3 y4 y5 y6, LeO (spec_PkgRead.l0 k y0 y1 y2 y3 y4 y5 y6) (spec_PkgRead.l0 (k + 1) y0 y1 y2 y3 y4 y5 y6)) ∧ (∀ y0 y1 y2 y3 y4 y5 y6 y7 y8, LeO (spec_PkgRead.j1 k y0 y1 y2 y3 y4 y5 y6 y7 y8) (spec_PkgRead.j1 (k + 1) y0 y1 y2 y3 y4 y5 y6 y7 y8)) ∧ (∀ y0 y1 y2 y3 y4 y5 y6 y7 y8, LeO (spec_PkgRead.j2 k y0 y1 y2 y3 y4 y5 y6 y7 y8) (spec_PkgRead.j2 (k + 1) y0 y1 y2 y3 y4 y5 y6 y7 y8))
 | 0 => ⟨fun _ _ _ _ _ _ _ r h => by simp [spec_PkgRead.l0] at h, fun _ _ _ _ _ _ _ _ _ r h => by simp [spec_PkgRead.j1] at h, fun _ _ _ _ _ _ _ _ _ r h => by simp [spec_PkgRead.j2] at h⟩
 | k + 1 => by
  obtain ⟨ih0, ih1, ih2⟩ := spec_PkgRead.mono_l k
  refine ⟨?_, ?_, ?_⟩
  ·intro y0 y1 y2 y3 y4 y5 y6
   unfold spec_PkgRead.l0
   repeat' first
   | (with_reducible exact ih0 _ _ _ _ _ _ _)
   | (with_reducible exact ih1 _ _ _ _ _ _ _ _ _)
   | (with_reducible exact ih2 _ _ _ _ _ _ _ _ _)
   | (with_reducible exact spec_PkgText.mono _ _ _ _ _)
   | (with_reducible exact LeO.refl _)
   | (with_reducible exact LeO.none _)
   | (with_reducible refine LeO.ite ?_ ?_)
   | (with_reducible refine LeO.bind ?_ (fun _ => ?_))
   | exact ih0 _ _ _ _ _ _ _
   | exact ih1 _ _ _ _ _ _ _ _ _
   | exact ih2 _ _ _ _ _ _ _ _ _
   | exact spec_PkgText.mono _ _ _ _ _
   | exact LeO.none _
   | refine LeO.ite ?_ ?_
   | refine LeO.bind ?_ (fun _ => ?_)
  ·intro y0 y1 y2 y3 y4 y5 y6 y7 y8
   unfold spec_PkgRead.j1
   repeat' first
   | (with_reducible exact ih0 _ _ _ _ _ _ _)
   | (with_reducible exact ih1 _ _ _ _ _ _ _ _ _)
   | (with_reducible exact ih2 _ _ _ _ _ _ _ _ _)
   | (with_reducible exact spec_PkgText.mono _ _ _ _ _)
   | (with_reducible exact LeO.refl _)
   | (with_reducible exact LeO.none _)
   | (with_reducible refine LeO.ite ?_ ?_)
   | (with_reducible refine LeO.bind ?_ (fun _ => ?_))
   | exact ih0 _ _ _ _ _ _ _
   | exact ih1 _ _ _ _ _ _ _ _ _
   | exact ih2 _ _ _ _ _ _ _ _ _
   | exact spec_PkgText.mono _ _ _ _ _
   | exact LeO.none _
   | refine LeO.ite ?_ ?_
   | refine LeO.bind ?_ (fun _ => ?_)
  ·intro y0 y1 y2 y3 y4 y5 y6 y7 y8
   unfold spec_PkgRead.j2
   repeat' first
   | (with_reducible exact ih0 _ _ _ _ _ _ _)
   | (with_reducible exact ih1 _ _ _ _ _ _ _ _ _)
   | (with_reducible exact ih2 _ _ _ _ _ _ _ _ _)
   | (with_reducible exact spec_PkgText.mono _ _ _ _ _)
   | (with_reducible exact LeO.refl _)
   | (with_reducible exact LeO.none _)
   | (with_reducible refine LeO.ite ?_ ?_)
   | (with_reducible refine LeO.bind ?_ (fun _ => ?_))
   | exact ih0 _ _ _ _ _ _ _
   | exact ih1 _ _ _ _ _ _ _ _ _
   | exact ih2 _ _ _ _ _ _ _ _ _
   | exact spec_PkgText.mono _ _ _ _ _
   | exact LeO.none _
   | refine LeO.ite ?_ ?_
   | refine LeO.bind ?_ (fun _ => ?_)
theorem spec_PkgRead.mono : ∀ a0 k, LeO (spec_PkgRead.f k a0) (spec_PkgRead.f (k + 1) a0) := by
 intro a0 k
 obtain ⟨ih0, ih1, ih2⟩ := spec_PkgRead.mono_l k
 unfold spec_PkgRead.f
 repeat' first
   | (with_reducible exact ih0 _ _ _ _ _ _ _)
   | (with_reducible exact ih1 _ _ _ _ _ _ _ _ _)
   | (with_reducible exact ih2 _ _ _ _ _ _ _ _ _)
   | (with_reducible exact spec_PkgText.mono _ _ _ _ _)
   | (with_reducible exact LeO.refl _)
   | (with_reducible exact LeO.none _)
   | (with_reducible refine LeO.ite ?_ ?_)
   | (with_reducible refine LeO.bind ?_ (fun _ => ?_))
   | exact ih0 _ _ _ _ _ _ _
   | exact ih1 _ _ _ _ _ _ _ _ _
   | exact ih2 _ _ _ _ _ _ _ _ _
   | exact spec_PkgText.mono _ _ _ _ _
   | exact LeO.none _
   | refine LeO.ite ?_ ?_
   | refine LeO.bind ?_ (fun _ => ?_)
def spec_PkgRead.T13 : Bool × List (List Nat × List Nat) := (true, [([], []), ([0], [0]), ([], []), ([2], [2]), ([3], [3]), ([4], [4]), ([], []), ([6], [6]), ([7], [7]), ([8], [8]), ([5, 9], [5, 9]), ([10], [10]), ([1, 11], [1, 11]), ([0, 1, 2, 3, 4, 5, 6, 7, 8, 9, 10, 11, 12], []), ([13, 12, 12, 0, 1, 2, 3, 4, 5, 6, 7, 8, 9, 10, 11, 12], [12, 13])])
def spec_PkgRead.B13 : List Nat := [0, 1, 0, 4, 12, 28, 0, 64, 192, 448, 1020, 2044, 4095, 8191, 16383]
theorem spec_PkgRead.tab13 : rtab .any (opsOf Tryd.f25 13) = spec_PkgRead.T13 := by kernel_rfl
theorem spec_PkgRead.bits13 : waitsOk spec_PkgRead.T13.2 spec_PkgRead.B13 = true := by kernel_rfl
def spec_PkgRead.T15 : Bool × List (List Nat × List Nat) := (true, [([], []), ([0], [0]), ([], []), ([2], [2]), ([3], [3]), ([4], [4]), ([5], [5]), ([], []), ([7], [7]), ([8], [8]), ([9], [9]), ([6, 10], [6, 10]), ([11], [11]), ([1, 12], [1, 12]), ([0, 1, 2, 3, 4, 5, 6, 7, 8, 9, 10, 11, 12, 13], []), ([14, 13, 13, 0, 1, 2, 3, 4, 5, 6, 7, 8, 9, 10, 11, 12, 13], [13, 14])])
def spec_PkgRead.B15 : List Nat := [0, 1, 0, 4, 12, 28, 60, 0, 128, 384, 896, 2044, 4092, 8191, 16383, 32767]
theorem spec_PkgRead.tab15 : rtab .any (opsOf Tryd.f25 15) = spec_PkgRead.T15 := by kernel_rfl
theorem spec_PkgRead.bits15 : waitsOk spec_PkgRead.T15.2 spec_PkgRead.B15 = true := by kernel_rfl
set_option maxHeartbeats 8000000 in
set_option maxRecDepth 100000 in
theorem spec_PkgRead.calls (k : Nat) (a0 : ByteArray) (r1 : Int) (r2 : Int) (r3 : List (S67)) (r4 : List (S69)) (r5 : Bool) (w : World) (h : spec_PkgRead.f k a0 = some (r1, r2, r3, r4, r5)) :
  Calls Tryd.prog 25 #[.string a0] w fun e w' => ∃ v2_ v3_ : Value, e = .returned (.tuple #[.agg #[.int .i64 r1, .int .i64 r2, v2_, v3_], .bool r5]) ∧ Kd.R k67 67 w' w.heap.size (fun _ => True) v2_ r3 ∧ Kd.R k69 69 w' w.heap.size (fun _ => True) v3_ r4 ∧ Below w.heap.size w w' := by
 have hu31 := Tryd.underlying31
 have hu67 := Tryd.underlying67
 have hu69 := Tryd.underlying69
 have HB := Aside0.mk (Below.refl w.heap.size w)
 have H : (if (a0.size : Int) > 30 then (some (0, 0, ([] : List (S67)), ([] : List (S69)), false)) else ((spec_l1Cut.f a0 32).bind fun t267 => (spec_PkgRead.l0 k a0 t267 0 0 0 (([] : List (S67))) (([] : List (S69)))))) = some (r1, r2, r3, r4, r5) := h
 clear h
 by_cases c2 : (a0.size : Int) > 30
 ·rw [if_pos c2] at H
  have c2b0 : decide (30 < (a0.size : Int)) = true := decide_eq_true c2
  have c2b1 : decide (30 < a0.size) = true := decide_eq_true (by omega)
  clear c2
  simp only [Option.some.injEq, Prod.mk.injEq] at H
  obtain ⟨rfl, rfl, rfl, rfl, rfl⟩ := H
  go_enter Tryd.func25, Tryd.ntmps25
  go_wp2_with (first | ((with_reducible refine gate_dst (N := 2) rfl ?_); (try (refine gate_guard (by rfl) ?_; dsimp only)); refine box_event ?hg (N := 2) ?hd (cs := #[.int .i64 0, .int .i64 0, .slice none 0 0, .slice none 0 0]) (t := 31) ?hr ?_; (case hd => rfl); (case hg => rfl); (case hr => first | (go_simp; done) | (go_simp; rfl)); intro gb266 hg w3 hbox hb; have n0_ := Aside0.mk (below_step (by exact zB HB.out) hb); have n1_ := Aside0.mk (hbox); have n2_ := Aside0.mk ((by rw [hg]; exact (below_size (by exact zB HB.out)) : w.heap.size ≤ gb266)); have n3_ := Aside0.mk ((by rw [hg]; exact (below_size (by exact zB HB.out)) : w.heap.size ≤ gb266)); clear HB; have HB := n0_; have BK266 := n1_; have GW266 := n2_; have GE266 := n3_; clear n0_ n1_ n2_ n3_; clear hb hbox hg; obtain ⟨hcz4_0, hcz4_1, hcz4_2, hcz4_3, hfz4_0, hfz4_1, hfz4_2, hfz4_3⟩ := zc4f BK266.out))
  refine bodyPost_ret (results_ct rfl _ _ gb266 31 #[.int .i64 0, .int .i64 0, .slice none 0 0, .slice none 0 0] (0, 0) _ rfl (by (with_reducible repeat (first | refine blk_drewN ?_ _ | refine blk_drew ?_ | refine blk_alloc ?_ _)); refine blk_put (cs := #[.int .i64 0, .int .i64 0, .slice none 0 0, .slice none 0 0]) ?_ 3 _ rfl; (with_reducible repeat (first | refine blk_drewN ?_ _ | refine blk_drew ?_ | refine blk_alloc ?_ _)); refine blk_put (cs := #[.int .i64 0, .int .i64 0, .slice none 0 0, .slice none 0 0]) ?_ 2 _ rfl; (with_reducible repeat (first | refine blk_drewN ?_ _ | refine blk_drew ?_ | refine blk_alloc ?_ _)); refine blk_put (cs := #[.int .i64 0, .int .i64 0, .slice none 0 0, .slice none 0 0]) ?_ 1 _ rfl; (with_reducible repeat (first | refine blk_drewN ?_ _ | refine blk_drew ?_ | refine blk_alloc ?_ _)); refine blk_put (cs := #[.int .i64 0, .int .i64 0, .slice none 0 0, .slice none 0 0]) ?_ 0 _ rfl; exact zK BK266.out) Tryd.underlying31 rfl (by kernel_rfl)) rfl ?_
  exact ⟨_, _, by first | rfl | (simp [errW_none, errW_some] <;> rfl) | (simp [*, errW_none, errW_some] <;> rfl), by first | exact Kd.R_nil _ _ _ _ _ | exact Kd.N_nil _ _ _ _ _ | exact Kd.V_nil _ _ _ _ _ | exact Kd.Q_nil _ _ _ _ _ | exact Kd.S_nil _ _ _ _ _, by first | exact Kd.R_nil _ _ _ _ _ | exact Kd.N_nil _ _ _ _ _ | exact Kd.V_nil _ _ _ _ _ | exact Kd.Q_nil _ _ _ _ _ | exact Kd.S_nil _ _ _ _ _, by exact zB1 HB.out GE266.out⟩
 ·rw [if_neg c2] at H
  have c2b0 : decide (30 < (a0.size : Int)) = false := decide_eq_false c2
  have c2b1 : decide (30 < a0.size) = false := decide_eq_false (by omega)
  clear c2
  replace H := Option.bind_eq_some_iff.mp H
  obtain ⟨t267, A50, H⟩ := H
  replace H : (spec_PkgRead.l0 k a0 t267 0 0 0 (([] : List (S67))) (([] : List (S69)))) = some (r1, r2, r3, r4, r5) := H
  have A5 := Aside0.mk A50
  clear A50
  obtain ⟨y270, hy270⟩ : ∃ y_ : List (S67), y_ = (([] : List (S67))) := ⟨_, rfl⟩
  replace H : (spec_PkgRead.l0 k a0 t267 0 0 0 y270 (([] : List (S69)))) = some (r1, r2, r3, r4, r5) := by first | (rw [hy270]; with_reducible exact H) | (have H2_ := (Option.bind_some _ _).symm.trans H; rw [hy270]; with_reducible exact H2_) | (have H2_ := (Option.bind_some _ _).symm.trans H; with_reducible exact H2_) | with_reducible exact H | (rw [hy270]; exact H) | exact H
  have Ny270 := Aside0.mk hy270
  clear hy270
  obtain ⟨y273, hy273⟩ : ∃ y_ : List (S69), y_ = (([] : List (S69))) := ⟨_, rfl⟩
  replace H : (spec_PkgRead.l0 k a0 t267 0 0 0 y270 y273) = some (r1, r2, r3, r4, r5) := by first | (rw [hy273]; with_reducible exact H) | (have H2_ := (Option.bind_some _ _).symm.trans H; rw [hy273]; with_reducible exact H2_) | (have H2_ := (Option.bind_some _ _).symm.trans H; with_reducible exact H2_) | with_reducible exact H | (rw [hy273]; exact H) | exact H
  have Ny273 := Aside0.mk hy273
  clear hy273
  have H' := Aside0.mk H
  clear H
  go_enter Tryd.func25, Tryd.ntmps25
  go_wp2_with (first | ((with_reducible refine gate_dst (N := 2) rfl ?_); (try (refine gate_guard (by rfl) ?_; dsimp only)); refine box_event ?hg (N := 2) ?hd (cs := #[.int .i64 0, .int .i64 0, .slice none 0 0, .slice none 0 0]) (t := 31) ?hr ?_; (case hd => rfl); (case hg => rfl); (case hr => first | (go_simp; done) | (go_simp; rfl)); intro gb266 hg w6 hbox hb; have n0_ := Aside0.mk (below_step (by exact zB HB.out) hb); have n1_ := Aside0.mk (hbox); have n2_ := Aside0.mk ((by rw [hg]; exact (below_size (by exact zB HB.out)) : w.heap.size ≤ gb266)); have n3_ := Aside0.mk ((by rw [hg]; exact (below_size (by exact zB HB.out)) : w.heap.size ≤ gb266)); clear HB; have HB := n0_; have BK266 := n1_; have GW266 := n2_; have GE266 := n3_; clear n0_ n1_ n2_ n3_; clear hb hbox hg) | ((with_reducible refine gate_callee (f := 66) rfl ?_); refine goesL_ (some 13) rfl rfl Tryd.func66 (by kernel_rfl) rfl #[.string a0, .int .u8 32] rfl (by (try simp only [zm1, zm2, zm3]); first | done | rfl | (simp only [List.length_drop, List.length_take]; rfl)) ?_; (with_reducible refine (spec_l1Cut.calls a0 32 t267 _ A5.out).mono ?_); rintro e w7 ⟨v268, rfl, ho0, hb⟩; refine ⟨_, rfl, ?_⟩; have n0_ := Aside0.mk (Kd.R_lower ho0 (below_size (by exact zB1 HB.out GE266.out))); have n1_ := Aside0.mk (blk_below (g := gb266) (o := .cells #[.int .i64 0, .int .i64 0, .slice none 0 0, .slice none 0 0] 31 (0, 0)) (by exact zK BK266.out) hb); have n2_ := Aside0.mk (below_step (by exact zB1 HB.out GE266.out) hb); clear BK266; clear HB; have HO269 := n0_; have BK266 := n1_; have HB := n2_; clear n0_ n1_ n2_; (try clear hb); (try clear hb2); (try clear hk); (try clear hi); (try clear ho0)) | ((with_reducible refine gate_dst (N := 14) rfl ?_); (try (refine gate_guard (by rfl) ?_; dsimp only)); refine Kd.R_lit k67 _ 67 ?hg (N := 14) ?hd (xs := ([] : List (S67))) (inner := []) (ok := fun _ => True) (okp := fun _ => True) ?hr ?hp (fun _ hk => hk) trivial (Below.refl _ _) (Nat.le_refl _) (by simp) ?_; (case hd => rfl); (case hg => rfl); (case hr => first | (go_simp; done) | (go_simp; rfl)); (case hp => exact (Reps.none _ _)); intro v271 w8 ho9 hb hg_ hnew_; clear hg_ hnew_; (first | rw [← Ny270.out] at ho9 | (simp only [Int.reduceToNat] at ho9; rw [← Ny270.out] at ho9)); have n0_ := Aside0.mk (Kd.R_below (by exact zR HO269.out) hb); have n1_ := Aside0.mk (Kd.R_lower ho9 (below_size (by exact zB1 HB.out GE266.out))); have n2_ := Aside0.mk (blk_below (g := gb266) (o := .cells #[.int .i64 0, .int .i64 0, .slice none 0 0, .slice none 0 0] 31 (0, 0)) (by exact zK BK266.out) hb); have n3_ := Aside0.mk (below_step (by exact zB1 HB.out GE266.out) hb); clear HO269; clear BK266; clear HB; have HO269 := n0_; have HO272 := n1_; have BK266 := n2_; have HB := n3_; clear n0_ n1_ n2_ n3_; clear hb ho9) | ((with_reducible refine gate_dst (N := 15) rfl ?_); (try (refine gate_guard (by rfl) ?_; dsimp only)); refine Kd.R_lit k69 _ 69 ?hg (N := 15) ?hd (xs := ([] : List (S69))) (inner := []) (ok := fun _ => True) (okp := fun _ => True) ?hr ?hp (fun _ hk => hk) trivial (Below.refl _ _) (Nat.le_refl _) (by simp) ?_; (case hd => rfl); (case hg => rfl); (case hr => first | (go_simp; done) | (go_simp; rfl)); (case hp => exact (Reps.none _ _)); intro v274 w10 ho11 hb hg_ hnew_; clear hg_ hnew_; (first | rw [← Ny273.out] at ho11 | (simp only [Int.reduceToNat] at ho11; rw [← Ny273.out] at ho11)); have n0_ := Aside0.mk (Kd.R_below (by exact zR HO269.out) hb); have n1_ := Aside0.mk (Kd.R_below (by exact zR HO272.out) hb); have n2_ := Aside0.mk (Kd.R_lower ho11 (below_size (by exact zB1 HB.out GE266.out))); have n3_ := Aside0.mk (blk_below (g := gb266) (o := .cells #[.int .i64 0, .int .i64 0, .slice none 0 0, .slice none 0 0] 31 (0, 0)) (by exact zK BK266.out) hb); have n4_ := Aside0.mk (below_step (by exact zB1 HB.out GE266.out) hb); clear HO269; clear HO272; clear BK266; clear HB; have HO269 := n0_; have HO272 := n1_; have HO275 := n2_; have BK266 := n3_; have HB := n4_; clear n0_ n1_ n2_ n3_ n4_; clear hb ho11; obtain ⟨Ao12, co12, eo12⟩ := Kd.R_slice HO275.out; subst eo12; obtain ⟨Ao13, co13, eo13⟩ := Kd.R_slice HO272.out; subst eo13) | ((with_reducible refine gate_dst (N := 5) rfl ?_); (try (refine gate_guard (by rfl) ?_; dsimp only)); refine box_event ?hg (N := 5) ?hd (cs := #[.int .i64 0, .int .i64 0, .slice none 0 0, .slice none 0 0]) (t := 31) ?hr ?_; (case hd => rfl); (case hg => rfl); (case hr => first | (go_simp; done) | (go_simp; rfl)); intro gb276 hg w14 hbox hb; have n0_ := Aside0.mk (Kd.R_below (by exact zR HO269.out) hb); have n1_ := Aside0.mk (Kd.R_below (by exact zR HO272.out) hb); have n2_ := Aside0.mk (Kd.R_below (by exact zR HO275.out) hb); have n3_ := Aside0.mk (blk_below (g := gb266) (o := .cells #[.int .i64 0, .int .i64 0, .slice none 0 0, .slice none 0 0] 31 (0, 0)) (by exact zK BK266.out) hb); have n4_ := Aside0.mk (below_step (by exact zB1 HB.out GE266.out) hb); have n5_ := Aside0.mk (hbox); have n6_ := Aside0.mk ((by rw [hg]; exact (below_size (by exact zB1 HB.out GE266.out)) : w.heap.size ≤ gb276)); have n7_ := Aside0.mk ((by rw [hg]; exact (below_size (by exact zB1 HB.out GE266.out)) : w.heap.size ≤ gb276)); have n8_ := Aside0.mk ((by rw [hg]; exact Nat.ne_of_lt (blk_lt (g := gb266) (o := .cells #[.int .i64 0, .int .i64 0, .slice none 0 0, .slice none 0 0] 31 (0, 0)) (by exact zK BK266.out)) : gb266 ≠ gb276)); have n9_ := Aside0.mk ((by rw [hg]; exact Nat.ne_of_gt (blk_lt (g := gb266) (o := .cells #[.int .i64 0, .int .i64 0, .slice none 0 0, .slice none 0 0] 31 (0, 0)) (by exact zK BK266.out)) : gb276 ≠ gb266)); clear HO269; clear HO272; clear HO275; clear BK266; clear HB; have HO269 := n0_; have HO272 := n1_; have HO275 := n2_; have BK266 := n3_; have HB := n4_; have BK276 := n5_; have GW276 := n6_; have GE276 := n7_; have NB266_276 := n8_; have NB276_266 := n9_; clear n0_ n1_ n2_ n3_ n4_ n5_ n6_ n7_ n8_ n9_; clear hb hbox hg; have hnb15 := NB276_266.out; have hnc15 := NB266_276.out; obtain ⟨hcz16_0, hcz16_1, hcz16_2, hcz16_3, hfz16_0, hfz16_1, hfz16_2, hfz16_3⟩ := zc4f BK276.out))
  go_loopg [6] k (fun kq v6 w' => ∃ (x6_1 : Int) (x277000_1 : Int) (x277001_1 : Int) (x277002_1 : List (S67)) (x277003_1 : List (S69)) (u277002 : Value) (u277003 : Value), v6 = .int .i64 x6_1 ∧ Aside0 (spec_PkgRead.l0 kq a0 t267 x6_1 x277000_1 x277001_1 x277002_1 x277003_1 = some (r1, r2, r3, r4, r5)) ∧ Aside0 (kq ≤ k) ∧ Aside0 (Kd.R Kd.string 9 w' w.heap.size (fun _ => True) v268 t267) ∧ Aside0 (Kd.R k67 67 w' w.heap.size (fun _ => True) u277002 x277002_1) ∧ Aside0 (Kd.R k69 69 w' w.heap.size (fun _ => True) u277003 x277003_1) ∧ Aside0 (w'.heap[gb266]? = some (.cells #[.int .i64 0, .int .i64 0, (.slice none 0 0), (.slice none 0 0)] 31 (0, 0))) ∧ Aside0 (w'.heap[gb276]? = some (.cells #[.int .i64 x277000_1, .int .i64 x277001_1, u277002, u277003] 31 (0, 0))) ∧ Aside0 (Below w.heap.size w w'))
  case atStart => exact ⟨(0), (0), (0), (y270), (y273), (.slice Ao13 y270.length co13), (.slice Ao12 y273.length co12), (by first | rfl | (simp; done) | (simp [*]; done)), H', ⟨Nat.le_refl _⟩, ⟨by exact zR (Kd.R_mono (Kd.R_far (p := ⟨gb276, 3, none⟩) (Kd.R_far (p := ⟨gb276, 2, none⟩) (Kd.R_far (p := ⟨gb276, 1, none⟩) (Kd.R_far (p := ⟨gb276, 0, none⟩) (Kd.R_types HO269.out BK276.out (by decide)) (fun _ hk => hk.2) (.int .i64 0)) (fun _ hk => hk.2) (.int .i64 0)) (fun _ hk => hk.2) (.slice Ao13 y270.length co13)) (fun _ hk => hk.2) (.slice Ao12 y273.length co12)) (fun _ hk => trivial))⟩, ⟨by exact zR (Kd.R_mono (Kd.R_far (p := ⟨gb276, 3, none⟩) (Kd.R_far (p := ⟨gb276, 2, none⟩) (Kd.R_far (p := ⟨gb276, 1, none⟩) (Kd.R_far (p := ⟨gb276, 0, none⟩) (Kd.R_types HO272.out BK276.out (by decide)) (fun _ hk => hk.2) (.int .i64 0)) (fun _ hk => hk.2) (.int .i64 0)) (fun _ hk => hk.2) (.slice Ao13 y270.length co13)) (fun _ hk => hk.2) (.slice Ao12 y273.length co12)) (fun _ hk => trivial))⟩, ⟨by exact zR (Kd.R_mono (Kd.R_far (p := ⟨gb276, 3, none⟩) (Kd.R_far (p := ⟨gb276, 2, none⟩) (Kd.R_far (p := ⟨gb276, 1, none⟩) (Kd.R_far (p := ⟨gb276, 0, none⟩) (Kd.R_types HO275.out BK276.out (by decide)) (fun _ hk => hk.2) (.int .i64 0)) (fun _ hk => hk.2) (.int .i64 0)) (fun _ hk => hk.2) (.slice Ao13 y270.length co13)) (fun _ hk => hk.2) (.slice Ao12 y273.length co12)) (fun _ hk => trivial))⟩, ⟨by (with_reducible repeat (first | refine blk_drewN ?_ _ | refine blk_drew ?_ | refine blk_alloc ?_ _)); refine blk_far ?_ NB266_276.out _; (with_reducible repeat (first | refine blk_drewN ?_ _ | refine blk_drew ?_ | refine blk_alloc ?_ _)); refine blk_far ?_ NB266_276.out _; (with_reducible repeat (first | refine blk_drewN ?_ _ | refine blk_drew ?_ | refine blk_alloc ?_ _)); refine blk_far ?_ NB266_276.out _; (with_reducible repeat (first | refine blk_drewN ?_ _ | refine blk_drew ?_ | refine blk_alloc ?_ _)); refine blk_far ?_ NB266_276.out _; exact zK BK266.out⟩, ⟨by (with_reducible repeat (first | refine blk_drewN ?_ _ | refine blk_drew ?_ | refine blk_alloc ?_ _)); refine blk_put (cs := #[.int .i64 0, .int .i64 0, .slice Ao13 y270.length co13, .slice none 0 0]) ?_ 3 _ rfl; (with_reducible repeat (first | refine blk_drewN ?_ _ | refine blk_drew ?_ | refine blk_alloc ?_ _)); refine blk_put (cs := #[.int .i64 0, .int .i64 0, .slice none 0 0, .slice none 0 0]) ?_ 2 _ rfl; (with_reducible repeat (first | refine blk_drewN ?_ _ | refine blk_drew ?_ | refine blk_alloc ?_ _)); refine blk_put (cs := #[.int .i64 0, .int .i64 0, .slice none 0 0, .slice none 0 0]) ?_ 1 _ rfl; (with_reducible repeat (first | refine blk_drewN ?_ _ | refine blk_drew ?_ | refine blk_alloc ?_ _)); refine blk_put (cs := #[.int .i64 0, .int .i64 0, .slice none 0 0, .slice none 0 0]) ?_ 0 _ rfl; exact zK BK276.out⟩, ⟨by exact zB2 HB.out GE266.out GE276.out⟩⟩
  case round =>
   clear H'
   try clear c1
   try clear c2
   try clear c2b0
   try clear c2b1
   try clear p2
   try clear c6
   try clear c15
   try clear hcz16_0
   try clear hcz16_1
   try clear hcz16_2
   try clear hcz16_3
   try clear hcz4_0
   try clear hcz4_1
   try clear hcz4_2
   try clear hcz4_3
   try clear hfz16_0
   try clear hfz16_1
   try clear hfz16_2
   try clear hfz16_3
   try clear hfz4_0
   try clear hfz4_1
   try clear hfz4_2
   try clear hfz4_3
   obtain ⟨x6_1, x277000_1, x277001_1, x277002_1, x277003_1, u277002, u277003, rfl, HA, HK1, HO_4, HO_277002, HO_277003, BK266, BK276, HB⟩ := hrel
   cases gk with
   | zero => exact absurd HA.out (by simp [spec_PkgRead.l0])
   | succ k1 =>
    have H := HA.out
    clear HA
    simp only [spec_PkgRead.l0] at H
    by_cases c17 : x6_1 < (t267.length : Int)
    ·rw [if_pos c17] at H
     have c17b0 : decide (x6_1 < (t267.length : Int)) = true := decide_eq_true c17
     clear c17
     by_cases c18 : 0 ≤ x6_1
     ·rw [if_pos c18] at H
      have c18b0 : decide (0 ≤ x6_1) = true := decide_eq_true c18
      clear c18
      have HC19 := Aside0.mk H
      clear H
      obtain ⟨Ao20, co20, eo20⟩ := Kd.R_slice HO_4.out
      subst eo20
      have p278 : 0 ≤ (x6_1 : Int) := of_decide_eq_true (by first | (with_reducible assumption) | assumption)
      have q278 : x6_1 < (t267.length : Int) := of_decide_eq_true (by first | (with_reducible assumption) | assumption)
      obtain ⟨ad278, e278, hx278_0⟩ := Kd.at_string (Kd.R_reads' HO_4.out).2.2 x6_1 p278 q278
      cases e278
      replace p278 := eq_true p278
      replace q278 := eq_true q278
      go_upto_region 9 with (fail)
      go_cut [27] (fun v27 wc => ∃ (kq : Nat) (x27_18 : Bool), v27 = .bool x27_18 ∧ Aside0 (spec_PkgRead.j1 kq a0 t267 x6_1 (rdOf ByteArray.empty t267 x6_1) x27_18 x277000_1 x277001_1 x277002_1 x277003_1 = some (r1, r2, r3, r4, r5)) ∧ Aside0 (kq ≤ k1) ∧ Aside0 (Kd.R Kd.string 9 wc w.heap.size (fun _ => True) (.slice (some ad278) t267.length co20) t267) ∧ Aside0 (Kd.R k67 67 wc w.heap.size (fun _ => True) u277002 x277002_1) ∧ Aside0 (Kd.R k69 69 wc w.heap.size (fun _ => True) u277003 x277003_1) ∧ Aside0 (wc.heap[gb266]? = some (.cells #[.int .i64 0, .int .i64 0, (.slice none 0 0), (.slice none 0 0)] 31 (0, 0))) ∧ Aside0 (wc.heap[gb276]? = some (.cells #[.int .i64 x277000_1, .int .i64 x277001_1, u277002, u277003] 31 (0, 0))) ∧ Aside0 (Below w.heap.size w wc))
      case first =>
       have H := HC19.out
       clear HC19
       by_cases c21 : x6_1 = 0
       ·rw [if_pos c21] at H
        have c21b0 : (x6_1 == 0) = true := beq_iff_eq.mpr c21
        have c21b1 : (x6_1 != 0) = false := bne_eq_false_iff_eq.mpr c21
        clear c21
        (first | rw [c21b0] | (simp only [i64_w, i32_w]; rw [c21b0]) | skip)
        have H' := Aside0.mk H
        clear H
        go_wp2
        go_meet
        case rel => exact ⟨_, ((((rdOf ByteArray.empty t267 x6_1).size : Int) == 2)), (by first | rfl | (simp; done) | (simp [*]; done)), H', ⟨by have := HK1.out; first | omega | exact Nat.le_refl _⟩, ⟨by exact zR HO_4.out⟩, ⟨by exact zR HO_277002.out⟩, ⟨by exact zR HO_277003.out⟩, ⟨by exact zK BK266.out⟩, ⟨by exact zK BK276.out⟩, ⟨by exact zB2 HB.out GE266.out GE276.out⟩⟩
       ·rw [if_neg c21] at H
        have c21b0 : (x6_1 == 0) = false := beq_eq_false_iff_ne.mpr c21
        have c21b1 : (x6_1 != 0) = true := bne_iff_ne.mpr c21
        (first | rw [c21b0] | (simp only [i64_w, i32_w]; rw [c21b0]) | skip)
        have H' := Aside0.mk H
        clear H
        go_wp2
        go_meet
        case rel => exact ⟨_, (false), (by first | rfl | (simp; done) | (simp [*]; done)), H', ⟨by have := HK1.out; first | omega | exact Nat.le_refl _⟩, ⟨by exact zR HO_4.out⟩, ⟨by exact zR HO_277002.out⟩, ⟨by exact zR HO_277003.out⟩, ⟨by exact zK BK266.out⟩, ⟨by exact zK BK276.out⟩, ⟨by exact zB2 HB.out GE266.out GE276.out⟩⟩
      case rest =>
       clear HC19
       try clear c1
       try clear c2
       try clear c2b0
       try clear c2b1
       try clear p2
       try clear q2
       try clear hx2
       try clear c6
       try clear c15
       try clear c17
       try clear c17b0
       try clear c18
       try clear c18b0
       try clear c21
       try clear c21b0
       try clear c21b1
       try clear hcz16_0
       try clear hcz16_1
       try clear hcz16_2
       try clear hcz16_3
       try clear hcz4_0
       try clear hcz4_1
       try clear hcz4_2
       try clear hcz4_3
       try clear hfz16_0
       try clear hfz16_1
       try clear hfz16_2
       try clear hfz16_3
       try clear hfz4_0
       try clear hfz4_1
       try clear hfz4_2
       try clear hfz4_3
       try clear hx278_0
       try clear p2
       try clear p278
       try clear q278
       obtain ⟨kq, x27_18, rfl, HA, HJ18, HO_4, HO_277002, HO_277003, BK266, BK276, HB⟩ := hcut
       cases kq with
       | zero => exact absurd HA.out (by simp [spec_PkgRead.j1])
       | succ kj18 =>
        have H := HA.out
        clear HA
        simp only [spec_PkgRead.j1] at H
        by_cases c22 : x27_18 = true
        ·subst c22
         have H1 : (if 0 < ((rdOf ByteArray.empty t267 x6_1).size : Int) then (if 1 < ((rdOf ByteArray.empty t267 x6_1).size : Int) then (spec_PkgRead.l0 kj18 a0 t267 (wrap64 (x6_1 + 1)) (wrap64 ((wrap64 ((wrap64 (bt (rdOf ByteArray.empty t267 x6_1) 0)) - 97)) + 1)) (wrap64 ((wrap64 (bt (rdOf ByteArray.empty t267 x6_1) 1)) - 48)) x277002_1 x277003_1) else (none)) else (none)) = some (r1, r2, r3, r4, r5) := by rw [if_pos rfl] at H; exact H
         clear H
         have H := H1
         clear H1
         by_cases c23 : 0 < ((rdOf ByteArray.empty t267 x6_1).size : Int)
         ·rw [if_pos c23] at H
          have c23b0 : decide (0 < ((rdOf ByteArray.empty t267 x6_1).size : Int)) = true := decide_eq_true c23
          have c23b1 : decide (0 < (rdOf ByteArray.empty t267 x6_1).size) = true := decide_eq_true (by omega)
          clear c23
          by_cases c25 : 1 < ((rdOf ByteArray.empty t267 x6_1).size : Int)
          ·rw [if_pos c25] at H
           have c25b0 : decide (1 < ((rdOf ByteArray.empty t267 x6_1).size : Int)) = true := decide_eq_true c25
           have c25b1 : decide (1 < (rdOf ByteArray.empty t267 x6_1).size) = true := decide_eq_true (by omega)
           clear c25
           have H' := Aside0.mk H
           clear H
           have p24 : 0 ≤ (0 : Int) := (by omega)
           have q24 : 0 < (rdOf ByteArray.empty t267 x6_1).size := (by have : (0 : Int) < ((rdOf ByteArray.empty t267 x6_1).size : Int) := of_decide_eq_true (by first | (with_reducible assumption) | assumption); omega)
           have hx24 : ∀ h : 0 < (rdOf ByteArray.empty t267 x6_1).size, (((rdOf ByteArray.empty t267 x6_1)[0]'h).toNat : Int) = bt (rdOf ByteArray.empty t267 x6_1) 0 := bt_at (rdOf ByteArray.empty t267 x6_1) 0
           clear p24
           have qi24 : (0 < ((rdOf ByteArray.empty t267 x6_1).size : Int)) = True := eq_true (of_decide_eq_true (by first | (with_reducible assumption) | assumption))
           replace q24 := eq_true q24
           have hnb27 := NB276_266.out
           have hnc27 := NB266_276.out
           obtain ⟨hcz28_0, hcz28_1, hcz28_2, hcz28_3, hfz28_0, hfz28_1, hfz28_2, hfz28_3⟩ := zc4f BK276.out
           have p26 : 0 ≤ (1 : Int) := (by omega)
           have q26 : 1 < (rdOf ByteArray.empty t267 x6_1).size := (by have : (1 : Int) < ((rdOf ByteArray.empty t267 x6_1).size : Int) := of_decide_eq_true (by first | (with_reducible assumption) | assumption); omega)
           have hx26 : ∀ h : 1 < (rdOf ByteArray.empty t267 x6_1).size, (((rdOf ByteArray.empty t267 x6_1)[1]'h).toNat : Int) = bt (rdOf ByteArray.empty t267 x6_1) 1 := bt_at (rdOf ByteArray.empty t267 x6_1) 1
           clear p26
           have qi26 : (1 < ((rdOf ByteArray.empty t267 x6_1).size : Int)) = True := eq_true (of_decide_eq_true (by first | (with_reducible assumption) | assumption))
           replace q26 := eq_true q26
           go_wp2
           go_roundg kj18
           case measure => have := HK1.out; have := HJ18.out; omega
           case rel => exact ⟨(wrap64 (x6_1 + 1)), (wrap64 ((wrap64 ((wrap64 (bt (rdOf ByteArray.empty t267 x6_1) 0)) - 97)) + 1)), (wrap64 ((wrap64 (bt (rdOf ByteArray.empty t267 x6_1) 1)) - 48)), (x277002_1), (x277003_1), (u277002), (u277003), (by first | rfl | (simp; done) | (simp [*]; done)), H', ⟨by have := HK1.out; have := HJ18.out; omega⟩, ⟨by exact zR (Kd.R_mono (Kd.R_far (p := ⟨gb276, 1, none⟩) (Kd.R_far (p := ⟨gb276, 0, none⟩) (Kd.R_types HO_4.out BK276.out (by decide)) (fun _ hk => hk.2) (.int .i64 (wrap64 ((wrap64 ((wrap64 (bt (rdOf ByteArray.empty t267 x6_1) 0)) - 97)) + 1)))) (fun _ hk => hk.2) (.int .i64 (wrap64 ((wrap64 (bt (rdOf ByteArray.empty t267 x6_1) 1)) - 48)))) (fun _ hk => trivial))⟩, ⟨by exact zR (Kd.R_mono (Kd.R_far (p := ⟨gb276, 1, none⟩) (Kd.R_far (p := ⟨gb276, 0, none⟩) (Kd.R_types HO_277002.out BK276.out (by decide)) (fun _ hk => hk.2) (.int .i64 (wrap64 ((wrap64 ((wrap64 (bt (rdOf ByteArray.empty t267 x6_1) 0)) - 97)) + 1)))) (fun _ hk => hk.2) (.int .i64 (wrap64 ((wrap64 (bt (rdOf ByteArray.empty t267 x6_1) 1)) - 48)))) (fun _ hk => trivial))⟩, ⟨by exact zR (Kd.R_mono (Kd.R_far (p := ⟨gb276, 1, none⟩) (Kd.R_far (p := ⟨gb276, 0, none⟩) (Kd.R_types HO_277003.out BK276.out (by decide)) (fun _ hk => hk.2) (.int .i64 (wrap64 ((wrap64 ((wrap64 (bt (rdOf ByteArray.empty t267 x6_1) 0)) - 97)) + 1)))) (fun _ hk => hk.2) (.int .i64 (wrap64 ((wrap64 (bt (rdOf ByteArray.empty t267 x6_1) 1)) - 48)))) (fun _ hk => trivial))⟩, ⟨by (with_reducible repeat (first | refine blk_drewN ?_ _ | refine blk_drew ?_ | refine blk_alloc ?_ _)); refine blk_far ?_ NB266_276.out _; (with_reducible repeat (first | refine blk_drewN ?_ _ | refine blk_drew ?_ | refine blk_alloc ?_ _)); refine blk_far ?_ NB266_276.out _; exact zK BK266.out⟩, ⟨by (with_reducible repeat (first | refine blk_drewN ?_ _ | refine blk_drew ?_ | refine blk_alloc ?_ _)); refine blk_put (cs := #[.int .i64 (wrap64 ((wrap64 ((wrap64 (bt (rdOf ByteArray.empty t267 x6_1) 0)) - 97)) + 1)), .int .i64 x277001_1, u277002, u277003]) ?_ 1 _ rfl; (with_reducible repeat (first | refine blk_drewN ?_ _ | refine blk_drew ?_ | refine blk_alloc ?_ _)); refine blk_put (cs := #[.int .i64 x277000_1, .int .i64 x277001_1, u277002, u277003]) ?_ 0 _ rfl; exact zK BK276.out⟩, ⟨by exact zB2 HB.out GE266.out GE276.out⟩⟩
          ·rw [if_neg c25] at H
           exact absurd H (by simp)
         ·rw [if_neg c23] at H
          exact absurd H (by simp)
        ·replace c22 := Bool.eq_false_iff.mpr c22
         subst c22
         have H1 : (if x6_1 > 0 then (spec_PkgRead.j2 kj18 a0 t267 x6_1 (rdOf ByteArray.empty t267 x6_1) (((rdOf ByteArray.empty t267 x6_1).size : Int) == 3) x277000_1 x277001_1 x277002_1 x277003_1) else (spec_PkgRead.j2 kj18 a0 t267 x6_1 (rdOf ByteArray.empty t267 x6_1) false x277000_1 x277001_1 x277002_1 x277003_1)) = some (r1, r2, r3, r4, r5) := by rw [if_neg (show ¬ (false = true) by decide)] at H; exact H
         clear H
         have H := H1
         clear H1
         have HC29 := Aside0.mk H
         clear H
         go_upto_region 12 with (fail)
         go_cut [46] (fun v46 wc => ∃ (kq : Nat) (x46_28 : Bool), v46 = .bool x46_28 ∧ Aside0 (spec_PkgRead.j2 kq a0 t267 x6_1 (rdOf ByteArray.empty t267 x6_1) x46_28 x277000_1 x277001_1 x277002_1 x277003_1 = some (r1, r2, r3, r4, r5)) ∧ Aside0 (kq ≤ kj18) ∧ Aside0 (Kd.R Kd.string 9 wc w.heap.size (fun _ => True) (.slice (some ad278) t267.length co20) t267) ∧ Aside0 (Kd.R k67 67 wc w.heap.size (fun _ => True) u277002 x277002_1) ∧ Aside0 (Kd.R k69 69 wc w.heap.size (fun _ => True) u277003 x277003_1) ∧ Aside0 (wc.heap[gb266]? = some (.cells #[.int .i64 0, .int .i64 0, (.slice none 0 0), (.slice none 0 0)] 31 (0, 0))) ∧ Aside0 (wc.heap[gb276]? = some (.cells #[.int .i64 x277000_1, .int .i64 x277001_1, u277002, u277003] 31 (0, 0))) ∧ Aside0 (Below w.heap.size w wc))
         case first =>
          have H := HC29.out
          clear HC29
          by_cases c30 : x6_1 > 0
          ·rw [if_pos c30] at H
           have c30b0 : decide (0 < x6_1) = true := decide_eq_true c30
           clear c30
           (first | rw [c30b0] | (simp only [i64_w, i32_w]; rw [c30b0]) | skip)
           have H' := Aside0.mk H
           clear H
           go_wp2
           go_meet
           case rel => exact ⟨_, ((((rdOf ByteArray.empty t267 x6_1).size : Int) == 3)), (by first | rfl | (simp; done) | (simp [*]; done)), H', ⟨by have := HK1.out; have := HJ18.out; first | omega | exact Nat.le_refl _⟩, ⟨by exact zR HO_4.out⟩, ⟨by exact zR HO_277002.out⟩, ⟨by exact zR HO_277003.out⟩, ⟨by exact zK BK266.out⟩, ⟨by exact zK BK276.out⟩, ⟨by exact zB2 HB.out GE266.out GE276.out⟩⟩
          ·rw [if_neg c30] at H
           have c30b0 : decide (0 < x6_1) = false := decide_eq_false c30
           clear c30
           (first | rw [c30b0] | (simp only [i64_w, i32_w]; rw [c30b0]) | skip)
           have H' := Aside0.mk H
           clear H
           go_wp2
           go_meet
           case rel => exact ⟨_, (false), (by first | rfl | (simp; done) | (simp [*]; done)), H', ⟨by have := HK1.out; have := HJ18.out; first | omega | exact Nat.le_refl _⟩, ⟨by exact zR HO_4.out⟩, ⟨by exact zR HO_277002.out⟩, ⟨by exact zR HO_277003.out⟩, ⟨by exact zK BK266.out⟩, ⟨by exact zK BK276.out⟩, ⟨by exact zB2 HB.out GE266.out GE276.out⟩⟩
         case rest =>
          clear HC29
          try clear c1
          try clear c2
          try clear c2b0
          try clear c2b1
          try clear p2
          try clear q2
          try clear hx2
          try clear qi2
          try clear c3
          try clear c6
          try clear p6
          try clear c15
          try clear c17
          try clear c17b0
          try clear c18
          try clear c18b0
          try clear c21
          try clear c21b0
          try clear c21b1
          try clear c22
          try clear c23
          try clear c23b0
          try clear c23b1
          try clear p24
          try clear q24
          try clear hx24
          try clear qi24
          try clear c25
          try clear c25b0
          try clear c25b1
          try clear p26
          try clear q26
          try clear hx26
          try clear qi26
          try clear c27
          try clear p27
          try clear q27
          try clear hx27
          try clear c30
          try clear c30b0
          try clear hcz16_0
          try clear hcz16_1
          try clear hcz16_2
          try clear hcz16_3
          try clear hcz28_0
          try clear hcz28_1
          try clear hcz28_2
          try clear hcz28_3
          try clear hcz4_0
          try clear hcz4_1
          try clear hcz4_2
          try clear hcz4_3
          try clear hfz16_0
          try clear hfz16_1
          try clear hfz16_2
          try clear hfz16_3
          try clear hfz28_0
          try clear hfz28_1
          try clear hfz28_2
          try clear hfz28_3
          try clear hfz4_0
          try clear hfz4_1
          try clear hfz4_2
          try clear hfz4_3
          try clear hx278_0
          try clear p2
          try clear p24
          try clear p26
          try clear p278
          try clear q2
          try clear q24
          try clear q26
          try clear q278
          obtain ⟨kq, x46_28, rfl, HA, HJ28, HO_4, HO_277002, HO_277003, BK266, BK276, HB⟩ := hcut
          cases kq with
          | zero => exact absurd HA.out (by simp [spec_PkgRead.j2])
          | succ kj28 =>
           have H := HA.out
           clear HA
           simp only [spec_PkgRead.j2] at H
           by_cases c31 : x46_28 = true
           ·subst c31
            have H1 : (if 0 < ((rdOf ByteArray.empty t267 x6_1).size : Int) then (if 2 < ((rdOf ByteArray.empty t267 x6_1).size : Int) then (if x277002_1.length < 8796093022208 then (spec_PkgRead.l0 kj28 a0 t267 (wrap64 (x6_1 + 1)) x277000_1 x277001_1 (x277002_1 ++ [(⟨wrap64 ((wrap64 (bt (rdOf ByteArray.empty t267 x6_1) 0)) - 48), wrap64 ((wrap64 (bt (rdOf ByteArray.empty t267 x6_1) 2)) - 48)⟩ : S67)]) x277003_1) else (none)) else (none)) else (none)) = some (r1, r2, r3, r4, r5) := by rw [if_pos rfl] at H; exact H
            clear H
            have H := H1
            clear H1
            by_cases c32 : 0 < ((rdOf ByteArray.empty t267 x6_1).size : Int)
            ·rw [if_pos c32] at H
             have c32b0 : decide (0 < ((rdOf ByteArray.empty t267 x6_1).size : Int)) = true := decide_eq_true c32
             have c32b1 : decide (0 < (rdOf ByteArray.empty t267 x6_1).size) = true := decide_eq_true (by omega)
             clear c32
             by_cases c34 : 2 < ((rdOf ByteArray.empty t267 x6_1).size : Int)
             ·rw [if_pos c34] at H
              have c34b0 : decide (2 < ((rdOf ByteArray.empty t267 x6_1).size : Int)) = true := decide_eq_true c34
              have c34b1 : decide (2 < (rdOf ByteArray.empty t267 x6_1).size) = true := decide_eq_true (by omega)
              clear c34
              by_cases c36 : x277002_1.length < 8796093022208
              ·rw [if_pos c36] at H
               have LMc36 := Aside0.mk c36
               clear c36
               obtain ⟨y279, hy279⟩ : ∃ y_ : List (S67), y_ = (x277002_1 ++ [(⟨wrap64 ((wrap64 (bt (rdOf ByteArray.empty t267 x6_1) 0)) - 48), wrap64 ((wrap64 (bt (rdOf ByteArray.empty t267 x6_1) 2)) - 48)⟩ : S67)]) := ⟨_, rfl⟩
               replace H : (spec_PkgRead.l0 kj28 a0 t267 (wrap64 (x6_1 + 1)) x277000_1 x277001_1 y279 x277003_1) = some (r1, r2, r3, r4, r5) := by first | (rw [hy279]; with_reducible exact H) | (have H2_ := (Option.bind_some _ _).symm.trans H; rw [hy279]; with_reducible exact H2_) | (have H2_ := (Option.bind_some _ _).symm.trans H; with_reducible exact H2_) | with_reducible exact H | (rw [hy279]; exact H) | exact H
               have Ny279 := Aside0.mk hy279
               clear hy279
               have H' := Aside0.mk H
               clear H
               try go_wp2
               have n0_ := Aside0.mk (Kd.R_drew HO_4.out)
               have n1_ := Aside0.mk (Kd.R_drew HO_277002.out)
               have n2_ := Aside0.mk (Kd.R_drew HO_277003.out)
               have n3_ := Aside0.mk (blk_drew BK266.out)
               have n4_ := Aside0.mk (blk_drew BK276.out)
               have n5_ := Aside0.mk (below_drew1 HB.out)
               clear HO_4
               clear HO_277002
               clear HO_277003
               clear BK266
               clear BK276
               clear HB
               have HO_4 := n0_
               have HO_277002 := n1_
               have HO_277003 := n2_
               have BK266 := n3_
               have BK276 := n4_
               have HB := n5_
               clear n0_ n1_ n2_ n3_ n4_ n5_
               have p33 : 0 ≤ (0 : Int) := (by omega)
               have q33 : 0 < (rdOf ByteArray.empty t267 x6_1).size := (by have : (0 : Int) < ((rdOf ByteArray.empty t267 x6_1).size : Int) := of_decide_eq_true (by first | (with_reducible assumption) | assumption); omega)
               have hx33 : ∀ h : 0 < (rdOf ByteArray.empty t267 x6_1).size, (((rdOf ByteArray.empty t267 x6_1)[0]'h).toNat : Int) = bt (rdOf ByteArray.empty t267 x6_1) 0 := bt_at (rdOf ByteArray.empty t267 x6_1) 0
               clear p33
               have qi33 : (0 < ((rdOf ByteArray.empty t267 x6_1).size : Int)) = True := eq_true (of_decide_eq_true (by first | (with_reducible assumption) | assumption))
               replace q33 := eq_true q33
               have p35 : 0 ≤ (2 : Int) := (by omega)
               have q35 : 2 < (rdOf ByteArray.empty t267 x6_1).size := (by have : (2 : Int) < ((rdOf ByteArray.empty t267 x6_1).size : Int) := of_decide_eq_true (by first | (with_reducible assumption) | assumption); omega)
               have hx35 : ∀ h : 2 < (rdOf ByteArray.empty t267 x6_1).size, (((rdOf ByteArray.empty t267 x6_1)[2]'h).toNat : Int) = bt (rdOf ByteArray.empty t267 x6_1) 2 := bt_at (rdOf ByteArray.empty t267 x6_1) 2
               clear p35
               have qi35 : (2 < ((rdOf ByteArray.empty t267 x6_1).size : Int)) = True := eq_true (of_decide_eq_true (by first | (with_reducible assumption) | assumption))
               replace q35 := eq_true q35
               refine start_ (n := 15) (S := fun w' => w'.cell? ⟨gb276, 0, none⟩ = some (.int .i64 x277000_1) ∧ w'.cell? ⟨gb276, 1, none⟩ = some (.int .i64 x277001_1) ∧ w'.cell? ⟨gb276, 2, none⟩ = some (u277002) ∧ w'.cell? ⟨gb276, 3, none⟩ = some (u277003)) (ds := [14]) #[false, false, false, false, false, false, false, false, false, false, false, false, false, false, false] (by kernel_rfl) rfl rfl ⟨(blk_cell BK276.out 0).trans rfl, (blk_cell BK276.out 1).trans rfl, (blk_cell BK276.out 2).trans rfl, (blk_cell BK276.out 3).trans rfl⟩ (fun hHeld => ?_); refine with_tabW spec_PkgRead.tab13 spec_PkgRead.bits13 (fun HT_ HW_ => ?_)
               generalize wc.drew = w37 at HO_4 HO_277002 HO_277003 BK266 BK276 HB hHeld ⊢
               refine pure_ (i := 0) (N := some 54) (v := ?_) (a' := ?_) #[true, false, false, false, false, false, false, false, false, false, false, false, false, false, false] rfl rfl (any_of HT_.out (by kernel_rfl)) (fun _ _ _ h => h) (Or.inl ⟨by rfl, ?_⟩) ?_ ?_
               rotate_left
               ·intro w'
                go_simp
                with_reducible rfl
               rotate_left
               ·simp only [zp0, zp1, zp2, zp3, zp4, i64_w, i32_w]
                rfl
               refine pure_ (i := 2) (N := some 56) (v := ?_) (a' := ?_) #[true, false, true, false, false, false, false, false, false, false, false, false, false, false, false] rfl rfl (any_of HT_.out (by kernel_rfl)) (fun _ _ _ h => h) (Or.inl ⟨by rfl, ?_⟩) ?_ ?_
               rotate_left
               ·intro w'
                go_simp
                with_reducible rfl
               rotate_left
               ·simp only [zp0, zp1, zp2, zp3, zp4, i64_w, i32_w]
                rfl
               refine pure_ (i := 6) (N := some 60) (v := ?_) (a' := ?_) #[true, false, true, false, false, false, true, false, false, false, false, false, false, false, false] rfl rfl (any_of HT_.out (by kernel_rfl)) (fun _ _ _ h => h) (Or.inl ⟨by rfl, ?_⟩) ?_ ?_
               rotate_left
               ·intro w'
                go_simp
                with_reducible rfl
               rotate_left
               ·simp only [zp0, zp1, zp2, zp3, zp4, i64_w, i32_w]
                rfl
               refine take_ (i := 1) (N := some 55) (v := ?_) (a' := ?_) #[true, true, true, false, false, false, true, false, false, false, false, false, false, false, false] rfl rfl (take_ofW HT_.out HW_.out (by kernel_rfl)) (fun _ _ _ h => h) (Or.inl ⟨by rfl, ?_⟩) hHeld ?_ ?_
               rotate_left
               ·rintro w' ⟨s0, s1, s2, s3⟩
                go_simp
                with_reducible rfl
               rotate_left
               ·simp only [zp0, zp1, zp2, zp3, zp4, i64_w, i32_w]
                rfl
               refine take_ (i := 3) (N := some 57) (v := ?_) (a' := ?_) #[true, true, true, true, false, false, true, false, false, false, false, false, false, false, false] rfl rfl (take_ofW HT_.out HW_.out (by kernel_rfl)) (fun _ _ _ h => h) (Or.inl ⟨by rfl, ?_⟩) hHeld ?_ ?_
               rotate_left
               ·rintro w' ⟨s0, s1, s2, s3⟩
                go_simp
                with_reducible rfl
               rotate_left
               ·simp only [zp0, zp1, zp2, zp3, zp4, i64_w, i32_w]
                rfl
               refine pure_ (i := 4) (N := some 58) (v := ?_) (a' := ?_) #[true, true, true, true, true, false, true, false, false, false, false, false, false, false, false] rfl rfl (any_of HT_.out (by kernel_rfl)) (fun _ _ _ h => h) (Or.inl ⟨by rfl, ?_⟩) ?_ ?_
               rotate_left
               ·intro w'
                go_simp
                with_reducible rfl
               rotate_left
               ·simp only [zp0, zp1, zp2, zp3, zp4, i64_w, i32_w]
                rfl
               refine pure_ (i := 5) (N := some 59) (v := ?_) (a' := ?_) #[true, true, true, true, true, true, true, false, false, false, false, false, false, false, false] rfl rfl (any_of HT_.out (by kernel_rfl)) (fun _ _ _ h => h) (Or.inl ⟨by rfl, ?_⟩) ?_ ?_
               rotate_left
               ·intro w'
                go_simp
                with_reducible rfl
               rotate_left
               ·simp only [zp0, zp1, zp2, zp3, zp4, i64_w, i32_w]
                rfl
               refine take_ (i := 7) (N := some 61) (v := ?_) (a' := ?_) #[true, true, true, true, true, true, true, true, false, false, false, false, false, false, false] rfl rfl (take_ofW HT_.out HW_.out (by kernel_rfl)) (fun _ _ _ h => h) (Or.inl ⟨by rfl, ?_⟩) hHeld ?_ ?_
               rotate_left
               ·rintro w' ⟨s0, s1, s2, s3⟩
                go_simp
                with_reducible rfl
               rotate_left
               ·simp only [zp0, zp1, zp2, zp3, zp4, i64_w, i32_w]
                rfl
               refine pure_ (i := 8) (N := some 62) (v := ?_) (a' := ?_) #[true, true, true, true, true, true, true, true, true, false, false, false, false, false, false] rfl rfl (any_of HT_.out (by kernel_rfl)) (fun _ _ _ h => h) (Or.inl ⟨by rfl, ?_⟩) ?_ ?_
               rotate_left
               ·intro w'
                go_simp
                with_reducible rfl
               rotate_left
               ·simp only [zp0, zp1, zp2, zp3, zp4, i64_w, i32_w]
                rfl
               refine pure_ (i := 9) (N := some 63) (v := ?_) (a' := ?_) #[true, true, true, true, true, true, true, true, true, true, false, false, false, false, false] rfl rfl (any_of HT_.out (by kernel_rfl)) (fun _ _ _ h => h) (Or.inl ⟨by rfl, ?_⟩) ?_ ?_
               rotate_left
               ·intro w'
                go_simp
                with_reducible rfl
               rotate_left
               ·simp only [zp0, zp1, zp2, zp3, zp4, i64_w, i32_w]
                rfl
               refine pure_ (i := 10) (N := some 64) (v := ?_) (a' := ?_) #[true, true, true, true, true, true, true, true, true, true, true, false, false, false, false] rfl rfl (any_of HT_.out (by kernel_rfl)) (fun _ _ _ h => h) (Or.inl ⟨by rfl, ?_⟩) ?_ ?_
               rotate_left
               ·intro w'
                go_simp
                with_reducible rfl
               rotate_left
               ·simp only [zp0, zp1, zp2, zp3, zp4, i64_w, i32_w]
                rfl
               refine one_ (i := 11) (N := some 65) #[true, true, true, true, true, true, true, true, true, true, true, true, false, false, false] rfl rfl (one_of HT_.out (by kernel_rfl)) (by decide) (fun K hK => ?_)
               refine value_ (w1 := ?_) (v := ?_) (by rfl) rfl ?_ ?_
               rotate_left 2
               ·go_simp
                constructor
                ·rfl
                ·rfl
               refine hK.out _ _ ⟨(blk_cell (blk_alloc BK276.out _) 0).trans rfl, (blk_cell (blk_alloc BK276.out _) 1).trans rfl, (blk_cell (blk_alloc BK276.out _) 2).trans rfl, (blk_cell (blk_alloc BK276.out _) 3).trans rfl⟩ (fun hHeld => ?_)
               clear hK K
               refine norm_ (a' := ?_) ?_ ?_
               rotate_left
               ·show Act.put _ (some 65) _ = _
                simp only [zp0, zp1, zp2, zp3, zp4, i64_w, i32_w]
                rfl
               refine one_ (i := 12) (N := some 66) #[true, true, true, true, true, true, true, true, true, true, true, true, true, false, false] rfl rfl (one_of HT_.out (by kernel_rfl)) (by decide) (fun K hK => ?_)
               refine Kd.R_append_step k67 (w0 := w) w.heap.size (by rfl) (.tmp 55) (.tmp 65) 28 67 (.agg #[(.int .i64 0), (.int .i64 0)]) 16 rfl Tryd.underlying28 info67 rfl (by decide) (by omega) u277002 x277002_1 (⟨wrap64 ((wrap64 (bt (rdOf ByteArray.empty t267 x6_1) 0)) - 48), wrap64 ((wrap64 (bt (rdOf ByteArray.empty t267 x6_1) 2)) - 48)⟩ : S67) [.int .i64 (wrap64 ((wrap64 (bt (rdOf ByteArray.empty t267 x6_1) 0)) - 48)), .int .i64 (wrap64 ((wrap64 (bt (rdOf ByteArray.empty t267 x6_1) 2)) - 48))] (fun _ => True) (fun _ => False) rfl rfl ?aP (fun _ hk => hk.elim) ?aF ?aO ?aB ?aS ?aL ?_
               (case aP => exact k67_mkM _ _ _ (⟨wrap64 ((wrap64 (bt (rdOf ByteArray.empty t267 x6_1) 0)) - 48), wrap64 ((wrap64 (bt (rdOf ByteArray.empty t267 x6_1) 2)) - 48)⟩ : S67))
               (case aB => exact (by exact zB2 HB.out GE266.out GE276.out))
               (case aF => exact (fun _ _ => trivial))
               (case aO => exact (by exact zR HO_277002.out))
               (case aS => exact (below_size (by exact zB2 HB.out GE266.out GE276.out)))
               (case aL => have := LMc36.out; omega)
               intro v280 w38 ho hb hg hat
               rw [← Ny279.out] at ho
               have n0_ := Aside0.mk (Kd.R_over' (by exact zR HO_4.out) (Kd.R_typed (by exact zR HO_277002.out)) (by decide) hg)
               have n1_ := Aside0.mk (Kd.R_over' (by exact zR HO_277003.out) (Kd.R_typed (by exact zR HO_277002.out)) (by decide) hg)
               have n2_ := Aside0.mk (blk_grown (g := gb266) (o := .cells #[.int .i64 0, .int .i64 0, .slice none 0 0, .slice none 0 0] 31 (0, 0)) (by exact zK BK266.out) hg (Kd.R_ne HO_277002.out BK266.out (by decide)))
               have n3_ := Aside0.mk (blk_grown (g := gb276) (o := .cells #[.int .i64 x277000_1, .int .i64 x277001_1, u277002, u277003] 31 (0, 0)) (by exact zK BK276.out) hg (Kd.R_ne HO_277002.out BK276.out (by decide)))
               have n4_ := Aside0.mk (hb)
               have n5_ := Aside0.mk (ho)
               clear HO_4
               clear HO_277003
               clear BK266
               clear BK276
               clear HB
               clear HO_277002
               have HO_4 := n0_
               have HO_277003 := n1_
               have BK266 := n2_
               have BK276 := n3_
               have HB := n4_
               have HO281 := n5_
               clear n0_ n1_ n2_ n3_ n4_ n5_
               clear ho hb hg hat
               obtain ⟨Ao39, co39, eo39⟩ := Kd.R_slice HO281.out
               (first | subst eo39 | (injection eo39 with f1_ f2_ f3_; have f4_ := f1_.symm; have f5_ := f3_.symm; clear f1_ f2_ f3_; subst f4_; subst f5_))
               refine hK.out _ _ ⟨(blk_cell BK276.out 0).trans rfl, (blk_cell BK276.out 1).trans rfl, (blk_cell BK276.out 2).trans rfl, (blk_cell BK276.out 3).trans rfl⟩ (fun hHeld => ?_)
               clear hK K
               refine norm_ (a' := ?_) ?_ ?_
               rotate_left
               ·show Act.put _ (some 66) _ = _
                simp only [zp0, zp1, zp2, zp3, zp4, i64_w, i32_w]
                rfl
               refine pure_ (i := 13) (N := some 67) (v := ?_) (a' := ?_) #[true, true, true, true, true, true, true, true, true, true, true, true, true, true, false] rfl rfl (any_of HT_.out (by kernel_rfl)) (fun _ _ _ h => h) (Or.inl ⟨by rfl, ?_⟩) ?_ ?_
               rotate_left
               ·intro w'
                go_simp
                with_reducible rfl
               rotate_left
               ·simp only [zp0, zp1, zp2, zp3, zp4, i64_w, i32_w]
                rfl
               refine last_ (i := 14) (N := none) #[true, true, true, true, true, true, true, true, true, true, true, true, true, true, true] rfl rfl (one_of HT_.out (by kernel_rfl)) (by decide) (fun K hK => ?_)
               have hs40 : w38.cell? ⟨gb276, 2, none⟩ = some (u277002) := (blk_cell BK276.out 2).trans rfl
               have hfs40 := blk_frozen BK276.out 2
               have hns40_0 := NB266_276.out
               have hms40_0 := NB276_266.out
               refine skip_ (w1 := ?_) (by rfl) rfl ?_ ?_
               rotate_left
               ·go_simp
                rfl
               refine hK.out _ _ ?_
               clear hK K
               refine done_ (done_of HT_.out (by kernel_rfl)) ?_
               try go_wp2
               go_roundg kj28
               case measure => have := HK1.out; have := HJ18.out; have := HJ28.out; omega
               case rel => exact ⟨(wrap64 (x6_1 + 1)), (x277000_1), (x277001_1), (y279), (x277003_1), (.slice Ao39 y279.length co39), (u277003), (by first | rfl | (simp; done) | (simp [*]; done)), H', ⟨by have := HK1.out; have := HJ18.out; have := HJ28.out; omega⟩, ⟨by exact zR (Kd.R_mono (Kd.R_far (p := ⟨gb276, 2, none⟩) (Kd.R_types HO_4.out BK276.out (by decide)) (fun _ hk => hk.2) (.slice Ao39 y279.length co39)) (fun _ hk => trivial))⟩, ⟨by exact zR (Kd.R_mono (Kd.R_far (p := ⟨gb276, 2, none⟩) (Kd.R_types HO281.out BK276.out (by decide)) (fun _ hk => hk.2) (.slice Ao39 y279.length co39)) (fun _ hk => trivial))⟩, ⟨by exact zR (Kd.R_mono (Kd.R_far (p := ⟨gb276, 2, none⟩) (Kd.R_types HO_277003.out BK276.out (by decide)) (fun _ hk => hk.2) (.slice Ao39 y279.length co39)) (fun _ hk => trivial))⟩, ⟨by (with_reducible repeat (first | refine blk_drewN ?_ _ | refine blk_drew ?_ | refine blk_alloc ?_ _)); refine blk_far ?_ NB266_276.out _; exact zK BK266.out⟩, ⟨by (with_reducible repeat (first | refine blk_drewN ?_ _ | refine blk_drew ?_ | refine blk_alloc ?_ _)); refine blk_put (cs := #[.int .i64 x277000_1, .int .i64 x277001_1, u277002, u277003]) ?_ 2 _ rfl; exact zK BK276.out⟩, ⟨by exact zB2 HB.out GE266.out GE276.out⟩⟩
              ·rw [if_neg c36] at H
               exact absurd H (by simp)
             ·rw [if_neg c34] at H
              exact absurd H (by simp)
            ·rw [if_neg c32] at H
             exact absurd H (by simp)
           ·replace c31 := Bool.eq_false_iff.mpr c31
            subst c31
            have H1 : (if x6_1 > 0 then (if ((rdOf ByteArray.empty t267 x6_1).size : Int) = 2 then (if 0 < ((rdOf ByteArray.empty t267 x6_1).size : Int) then (if 1 < ((rdOf ByteArray.empty t267 x6_1).size : Int) then (if x277003_1.length < 8796093022208 then (spec_PkgRead.l0 kj28 a0 t267 (wrap64 (x6_1 + 1)) x277000_1 x277001_1 x277002_1 (x277003_1 ++ [(⟨wrap64 ((wrap64 ((wrap64 (bt (rdOf ByteArray.empty t267 x6_1) 0)) - 97)) + 1), wrap64 ((wrap64 (bt (rdOf ByteArray.empty t267 x6_1) 1)) - 48)⟩ : S69)])) else (none)) else (none)) else (none)) else (spec_PkgRead.l0 kj28 a0 t267 (wrap64 (x6_1 + 1)) x277000_1 x277001_1 x277002_1 x277003_1)) else (spec_PkgRead.l0 kj28 a0 t267 (wrap64 (x6_1 + 1)) x277000_1 x277001_1 x277002_1 x277003_1)) = some (r1, r2, r3, r4, r5) := by rw [if_neg (show ¬ (false = true) by decide)] at H; exact H
            clear H
            have H := H1
            clear H1
            by_cases c41 : x6_1 > 0
            ·rw [if_pos c41] at H
             have c41b0 : decide (0 < x6_1) = true := decide_eq_true c41
             clear c41
             by_cases c42 : ((rdOf ByteArray.empty t267 x6_1).size : Int) = 2
             ·rw [if_pos c42] at H
              have c42b0 : (((rdOf ByteArray.empty t267 x6_1).size : Int) == 2) = true := beq_iff_eq.mpr c42
              have c42b1 : (((rdOf ByteArray.empty t267 x6_1).size : Int) != 2) = false := bne_eq_false_iff_eq.mpr c42
              clear c42
              by_cases c43 : 0 < ((rdOf ByteArray.empty t267 x6_1).size : Int)
              ·rw [if_pos c43] at H
               have c43b0 : decide (0 < ((rdOf ByteArray.empty t267 x6_1).size : Int)) = true := decide_eq_true c43
               have c43b1 : decide (0 < (rdOf ByteArray.empty t267 x6_1).size) = true := decide_eq_true (by omega)
               clear c43
               by_cases c45 : 1 < ((rdOf ByteArray.empty t267 x6_1).size : Int)
               ·rw [if_pos c45] at H
                have c45b0 : decide (1 < ((rdOf ByteArray.empty t267 x6_1).size : Int)) = true := decide_eq_true c45
                have c45b1 : decide (1 < (rdOf ByteArray.empty t267 x6_1).size) = true := decide_eq_true (by omega)
                clear c45
                by_cases c47 : x277003_1.length < 8796093022208
                ·rw [if_pos c47] at H
                 have LMc47 := Aside0.mk c47
                 clear c47
                 obtain ⟨y282, hy282⟩ : ∃ y_ : List (S69), y_ = (x277003_1 ++ [(⟨wrap64 ((wrap64 ((wrap64 (bt (rdOf ByteArray.empty t267 x6_1) 0)) - 97)) + 1), wrap64 ((wrap64 (bt (rdOf ByteArray.empty t267 x6_1) 1)) - 48)⟩ : S69)]) := ⟨_, rfl⟩
                 replace H : (spec_PkgRead.l0 kj28 a0 t267 (wrap64 (x6_1 + 1)) x277000_1 x277001_1 x277002_1 y282) = some (r1, r2, r3, r4, r5) := by first | (rw [hy282]; with_reducible exact H) | (have H2_ := (Option.bind_some _ _).symm.trans H; rw [hy282]; with_reducible exact H2_) | (have H2_ := (Option.bind_some _ _).symm.trans H; with_reducible exact H2_) | with_reducible exact H | (rw [hy282]; exact H) | exact H
                 have Ny282 := Aside0.mk hy282
                 clear hy282
                 have H' := Aside0.mk H
                 clear H
                 try go_wp2
                 have n0_ := Aside0.mk (Kd.R_drew HO_4.out)
                 have n1_ := Aside0.mk (Kd.R_drew HO_277002.out)
                 have n2_ := Aside0.mk (Kd.R_drew HO_277003.out)
                 have n3_ := Aside0.mk (blk_drew BK266.out)
                 have n4_ := Aside0.mk (blk_drew BK276.out)
                 have n5_ := Aside0.mk (below_drew1 HB.out)
                 clear HO_4
                 clear HO_277002
                 clear HO_277003
                 clear BK266
                 clear BK276
                 clear HB
                 have HO_4 := n0_
                 have HO_277002 := n1_
                 have HO_277003 := n2_
                 have BK266 := n3_
                 have BK276 := n4_
                 have HB := n5_
                 clear n0_ n1_ n2_ n3_ n4_ n5_
                 have p44 : 0 ≤ (0 : Int) := (by omega)
                 have q44 : 0 < (rdOf ByteArray.empty t267 x6_1).size := (by have : (0 : Int) < ((rdOf ByteArray.empty t267 x6_1).size : Int) := of_decide_eq_true (by first | (with_reducible assumption) | assumption); omega)
                 have hx44 : ∀ h : 0 < (rdOf ByteArray.empty t267 x6_1).size, (((rdOf ByteArray.empty t267 x6_1)[0]'h).toNat : Int) = bt (rdOf ByteArray.empty t267 x6_1) 0 := bt_at (rdOf ByteArray.empty t267 x6_1) 0
                 clear p44
                 have qi44 : (0 < ((rdOf ByteArray.empty t267 x6_1).size : Int)) = True := eq_true (of_decide_eq_true (by first | (with_reducible assumption) | assumption))
                 replace q44 := eq_true q44
                 have p46 : 0 ≤ (1 : Int) := (by omega)
                 have q46 : 1 < (rdOf ByteArray.empty t267 x6_1).size := (by have : (1 : Int) < ((rdOf ByteArray.empty t267 x6_1).size : Int) := of_decide_eq_true (by first | (with_reducible assumption) | assumption); omega)
                 have hx46 : ∀ h : 1 < (rdOf ByteArray.empty t267 x6_1).size, (((rdOf ByteArray.empty t267 x6_1)[1]'h).toNat : Int) = bt (rdOf ByteArray.empty t267 x6_1) 1 := bt_at (rdOf ByteArray.empty t267 x6_1) 1
                 clear p46
                 have qi46 : (1 < ((rdOf ByteArray.empty t267 x6_1).size : Int)) = True := eq_true (of_decide_eq_true (by first | (with_reducible assumption) | assumption))
                 replace q46 := eq_true q46
                 refine start_ (n := 16) (S := fun w' => w'.cell? ⟨gb276, 0, none⟩ = some (.int .i64 x277000_1) ∧ w'.cell? ⟨gb276, 1, none⟩ = some (.int .i64 x277001_1) ∧ w'.cell? ⟨gb276, 2, none⟩ = some (u277002) ∧ w'.cell? ⟨gb276, 3, none⟩ = some (u277003)) (ds := [15]) #[false, false, false, false, false, false, false, false, false, false, false, false, false, false, false, false] (by kernel_rfl) rfl rfl ⟨(blk_cell BK276.out 0).trans rfl, (blk_cell BK276.out 1).trans rfl, (blk_cell BK276.out 2).trans rfl, (blk_cell BK276.out 3).trans rfl⟩ (fun hHeld => ?_); refine with_tabW spec_PkgRead.tab15 spec_PkgRead.bits15 (fun HT_ HW_ => ?_)
                 generalize wc.drew = w48 at HO_4 HO_277002 HO_277003 BK266 BK276 HB hHeld ⊢
                 refine pure_ (i := 0) (N := some 76) (v := ?_) (a' := ?_) #[true, false, false, false, false, false, false, false, false, false, false, false, false, false, false, false] rfl rfl (any_of HT_.out (by kernel_rfl)) (fun _ _ _ h => h) (Or.inl ⟨by rfl, ?_⟩) ?_ ?_
                 rotate_left
                 ·intro w'
                  go_simp
                  with_reducible rfl
                 rotate_left
                 ·simp only [zp0, zp1, zp2, zp3, zp4, i64_w, i32_w]
                  rfl
                 refine pure_ (i := 2) (N := some 78) (v := ?_) (a' := ?_) #[true, false, true, false, false, false, false, false, false, false, false, false, false, false, false, false] rfl rfl (any_of HT_.out (by kernel_rfl)) (fun _ _ _ h => h) (Or.inl ⟨by rfl, ?_⟩) ?_ ?_
                 rotate_left
                 ·intro w'
                  go_simp
                  with_reducible rfl
                 rotate_left
                 ·simp only [zp0, zp1, zp2, zp3, zp4, i64_w, i32_w]
                  rfl
                 refine pure_ (i := 7) (N := some 83) (v := ?_) (a' := ?_) #[true, false, true, false, false, false, false, true, false, false, false, false, false, false, false, false] rfl rfl (any_of HT_.out (by kernel_rfl)) (fun _ _ _ h => h) (Or.inl ⟨by rfl, ?_⟩) ?_ ?_
                 rotate_left
                 ·intro w'
                  go_simp
                  with_reducible rfl
                 rotate_left
                 ·simp only [zp0, zp1, zp2, zp3, zp4, i64_w, i32_w]
                  rfl
                 refine take_ (i := 1) (N := some 77) (v := ?_) (a' := ?_) #[true, true, true, false, false, false, false, true, false, false, false, false, false, false, false, false] rfl rfl (take_ofW HT_.out HW_.out (by kernel_rfl)) (fun _ _ _ h => h) (Or.inl ⟨by rfl, ?_⟩) hHeld ?_ ?_
                 rotate_left
                 ·rintro w' ⟨s0, s1, s2, s3⟩
                  go_simp
                  with_reducible rfl
                 rotate_left
                 ·simp only [zp0, zp1, zp2, zp3, zp4, i64_w, i32_w]
                  rfl
                 refine take_ (i := 3) (N := some 79) (v := ?_) (a' := ?_) #[true, true, true, true, false, false, false, true, false, false, false, false, false, false, false, false] rfl rfl (take_ofW HT_.out HW_.out (by kernel_rfl)) (fun _ _ _ h => h) (Or.inl ⟨by rfl, ?_⟩) hHeld ?_ ?_
                 rotate_left
                 ·rintro w' ⟨s0, s1, s2, s3⟩
                  go_simp
                  with_reducible rfl
                 rotate_left
                 ·simp only [zp0, zp1, zp2, zp3, zp4, i64_w, i32_w]
                  rfl
                 refine pure_ (i := 4) (N := some 80) (v := ?_) (a' := ?_) #[true, true, true, true, true, false, false, true, false, false, false, false, false, false, false, false] rfl rfl (any_of HT_.out (by kernel_rfl)) (fun _ _ _ h => h) (Or.inl ⟨by rfl, ?_⟩) ?_ ?_
                 rotate_left
                 ·intro w'
                  go_simp
                  with_reducible rfl
                 rotate_left
                 ·simp only [zp0, zp1, zp2, zp3, zp4, i64_w, i32_w]
                  rfl
                 refine pure_ (i := 5) (N := some 81) (v := ?_) (a' := ?_) #[true, true, true, true, true, true, false, true, false, false, false, false, false, false, false, false] rfl rfl (any_of HT_.out (by kernel_rfl)) (fun _ _ _ h => h) (Or.inl ⟨by rfl, ?_⟩) ?_ ?_
                 rotate_left
                 ·intro w'
                  go_simp
                  with_reducible rfl
                 rotate_left
                 ·simp only [zp0, zp1, zp2, zp3, zp4, i64_w, i32_w]
                  rfl
                 refine pure_ (i := 6) (N := some 82) (v := ?_) (a' := ?_) #[true, true, true, true, true, true, true, true, false, false, false, false, false, false, false, false] rfl rfl (any_of HT_.out (by kernel_rfl)) (fun _ _ _ h => h) (Or.inl ⟨by rfl, ?_⟩) ?_ ?_
                 rotate_left
                 ·intro w'
                  go_simp
                  with_reducible rfl
                 rotate_left
                 ·simp only [zp0, zp1, zp2, zp3, zp4, i64_w, i32_w]
                  rfl
                 refine take_ (i := 8) (N := some 84) (v := ?_) (a' := ?_) #[true, true, true, true, true, true, true, true, true, false, false, false, false, false, false, false] rfl rfl (take_ofW HT_.out HW_.out (by kernel_rfl)) (fun _ _ _ h => h) (Or.inl ⟨by rfl, ?_⟩) hHeld ?_ ?_
                 rotate_left
                 ·rintro w' ⟨s0, s1, s2, s3⟩
                  go_simp
                  with_reducible rfl
                 rotate_left
                 ·simp only [zp0, zp1, zp2, zp3, zp4, i64_w, i32_w]
                  rfl
                 refine pure_ (i := 9) (N := some 85) (v := ?_) (a' := ?_) #[true, true, true, true, true, true, true, true, true, true, false, false, false, false, false, false] rfl rfl (any_of HT_.out (by kernel_rfl)) (fun _ _ _ h => h) (Or.inl ⟨by rfl, ?_⟩) ?_ ?_
                 rotate_left
                 ·intro w'
                  go_simp
                  with_reducible rfl
                 rotate_left
                 ·simp only [zp0, zp1, zp2, zp3, zp4, i64_w, i32_w]
                  rfl
                 refine pure_ (i := 10) (N := some 86) (v := ?_) (a' := ?_) #[true, true, true, true, true, true, true, true, true, true, true, false, false, false, false, false] rfl rfl (any_of HT_.out (by kernel_rfl)) (fun _ _ _ h => h) (Or.inl ⟨by rfl, ?_⟩) ?_ ?_
                 rotate_left
                 ·intro w'
                  go_simp
                  with_reducible rfl
                 rotate_left
                 ·simp only [zp0, zp1, zp2, zp3, zp4, i64_w, i32_w]
                  rfl
                 refine pure_ (i := 11) (N := some 87) (v := ?_) (a' := ?_) #[true, true, true, true, true, true, true, true, true, true, true, true, false, false, false, false] rfl rfl (any_of HT_.out (by kernel_rfl)) (fun _ _ _ h => h) (Or.inl ⟨by rfl, ?_⟩) ?_ ?_
                 rotate_left
                 ·intro w'
                  go_simp
                  with_reducible rfl
                 rotate_left
                 ·simp only [zp0, zp1, zp2, zp3, zp4, i64_w, i32_w]
                  rfl
                 refine one_ (i := 12) (N := some 88) #[true, true, true, true, true, true, true, true, true, true, true, true, true, false, false, false] rfl rfl (one_of HT_.out (by kernel_rfl)) (by decide) (fun K hK => ?_)
                 refine value_ (w1 := ?_) (v := ?_) (by rfl) rfl ?_ ?_
                 rotate_left 2
                 ·go_simp
                  constructor
                  ·rfl
                  ·rfl
                 refine hK.out _ _ ⟨(blk_cell (blk_alloc BK276.out _) 0).trans rfl, (blk_cell (blk_alloc BK276.out _) 1).trans rfl, (blk_cell (blk_alloc BK276.out _) 2).trans rfl, (blk_cell (blk_alloc BK276.out _) 3).trans rfl⟩ (fun hHeld => ?_)
                 clear hK K
                 refine norm_ (a' := ?_) ?_ ?_
                 rotate_left
                 ·show Act.put _ (some 88) _ = _
                  simp only [zp0, zp1, zp2, zp3, zp4, i64_w, i32_w]
                  rfl
                 refine one_ (i := 13) (N := some 89) #[true, true, true, true, true, true, true, true, true, true, true, true, true, true, false, false] rfl rfl (one_of HT_.out (by kernel_rfl)) (by decide) (fun K hK => ?_)
                 refine Kd.R_append_step k69 (w0 := w) w.heap.size (by rfl) (.tmp 77) (.tmp 88) 29 69 (.agg #[(.int .i64 0), (.int .i64 0)]) 16 rfl Tryd.underlying29 info69 rfl (by decide) (by omega) u277003 x277003_1 (⟨wrap64 ((wrap64 ((wrap64 (bt (rdOf ByteArray.empty t267 x6_1) 0)) - 97)) + 1), wrap64 ((wrap64 (bt (rdOf ByteArray.empty t267 x6_1) 1)) - 48)⟩ : S69) [.int .i64 (wrap64 ((wrap64 ((wrap64 (bt (rdOf ByteArray.empty t267 x6_1) 0)) - 97)) + 1)), .int .i64 (wrap64 ((wrap64 (bt (rdOf ByteArray.empty t267 x6_1) 1)) - 48))] (fun _ => True) (fun _ => False) rfl rfl ?aP (fun _ hk => hk.elim) ?aF ?aO ?aB ?aS ?aL ?_
                 (case aP => exact k69_mkM _ _ _ (⟨wrap64 ((wrap64 ((wrap64 (bt (rdOf ByteArray.empty t267 x6_1) 0)) - 97)) + 1), wrap64 ((wrap64 (bt (rdOf ByteArray.empty t267 x6_1) 1)) - 48)⟩ : S69))
                 (case aB => exact (by exact zB2 HB.out GE266.out GE276.out))
                 (case aF => exact (fun _ _ => trivial))
                 (case aO => exact (by exact zR HO_277003.out))
                 (case aS => exact (below_size (by exact zB2 HB.out GE266.out GE276.out)))
                 (case aL => have := LMc47.out; omega)
                 intro v283 w49 ho hb hg hat
                 rw [← Ny282.out] at ho
                 have n0_ := Aside0.mk (Kd.R_over' (by exact zR HO_4.out) (Kd.R_typed (by exact zR HO_277003.out)) (by decide) hg)
                 have n1_ := Aside0.mk (Kd.R_over' (by exact zR HO_277002.out) (Kd.R_typed (by exact zR HO_277003.out)) (by decide) hg)
                 have n2_ := Aside0.mk (blk_grown (g := gb266) (o := .cells #[.int .i64 0, .int .i64 0, .slice none 0 0, .slice none 0 0] 31 (0, 0)) (by exact zK BK266.out) hg (Kd.R_ne HO_277003.out BK266.out (by decide)))
                 have n3_ := Aside0.mk (blk_grown (g := gb276) (o := .cells #[.int .i64 x277000_1, .int .i64 x277001_1, u277002, u277003] 31 (0, 0)) (by exact zK BK276.out) hg (Kd.R_ne HO_277003.out BK276.out (by decide)))
                 have n4_ := Aside0.mk (hb)
                 have n5_ := Aside0.mk (ho)
                 clear HO_4
                 clear HO_277002
                 clear BK266
                 clear BK276
                 clear HB
                 clear HO_277003
                 have HO_4 := n0_
                 have HO_277002 := n1_
                 have BK266 := n2_
                 have BK276 := n3_
                 have HB := n4_
                 have HO284 := n5_
                 clear n0_ n1_ n2_ n3_ n4_ n5_
                 clear ho hb hg hat
                 obtain ⟨Ao50, co50, eo50⟩ := Kd.R_slice HO284.out
                 (first | subst eo50 | (injection eo50 with f1_ f2_ f3_; have f4_ := f1_.symm; have f5_ := f3_.symm; clear f1_ f2_ f3_; subst f4_; subst f5_))
                 refine hK.out _ _ ⟨(blk_cell BK276.out 0).trans rfl, (blk_cell BK276.out 1).trans rfl, (blk_cell BK276.out 2).trans rfl, (blk_cell BK276.out 3).trans rfl⟩ (fun hHeld => ?_)
                 clear hK K
                 refine norm_ (a' := ?_) ?_ ?_
                 rotate_left
                 ·show Act.put _ (some 89) _ = _
                  simp only [zp0, zp1, zp2, zp3, zp4, i64_w, i32_w]
                  rfl
                 refine pure_ (i := 14) (N := some 90) (v := ?_) (a' := ?_) #[true, true, true, true, true, true, true, true, true, true, true, true, true, true, true, false] rfl rfl (any_of HT_.out (by kernel_rfl)) (fun _ _ _ h => h) (Or.inl ⟨by rfl, ?_⟩) ?_ ?_
                 rotate_left
                 ·intro w'
                  go_simp
                  with_reducible rfl
                 rotate_left
                 ·simp only [zp0, zp1, zp2, zp3, zp4, i64_w, i32_w]
                  rfl
                 refine last_ (i := 15) (N := none) #[true, true, true, true, true, true, true, true, true, true, true, true, true, true, true, true] rfl rfl (one_of HT_.out (by kernel_rfl)) (by decide) (fun K hK => ?_)
                 have hs51 : w49.cell? ⟨gb276, 3, none⟩ = some (u277003) := (blk_cell BK276.out 3).trans rfl
                 have hfs51 := blk_frozen BK276.out 3
                 have hns51_0 := NB266_276.out
                 have hms51_0 := NB276_266.out
                 refine skip_ (w1 := ?_) (by rfl) rfl ?_ ?_
                 rotate_left
                 ·go_simp
                  rfl
                 refine hK.out _ _ ?_
                 clear hK K
                 refine done_ (done_of HT_.out (by kernel_rfl)) ?_
                 try go_wp2
                 go_roundg kj28
                 case measure => have := HK1.out; have := HJ18.out; have := HJ28.out; omega
                 case rel => exact ⟨(wrap64 (x6_1 + 1)), (x277000_1), (x277001_1), (x277002_1), (y282), (u277002), (.slice Ao50 y282.length co50), (by first | rfl | (simp; done) | (simp [*]; done)), H', ⟨by have := HK1.out; have := HJ18.out; have := HJ28.out; omega⟩, ⟨by exact zR (Kd.R_mono (Kd.R_far (p := ⟨gb276, 3, none⟩) (Kd.R_types HO_4.out BK276.out (by decide)) (fun _ hk => hk.2) (.slice Ao50 y282.length co50)) (fun _ hk => trivial))⟩, ⟨by exact zR (Kd.R_mono (Kd.R_far (p := ⟨gb276, 3, none⟩) (Kd.R_types HO_277002.out BK276.out (by decide)) (fun _ hk => hk.2) (.slice Ao50 y282.length co50)) (fun _ hk => trivial))⟩, ⟨by exact zR (Kd.R_mono (Kd.R_far (p := ⟨gb276, 3, none⟩) (Kd.R_types HO284.out BK276.out (by decide)) (fun _ hk => hk.2) (.slice Ao50 y282.length co50)) (fun _ hk => trivial))⟩, ⟨by (with_reducible repeat (first | refine blk_drewN ?_ _ | refine blk_drew ?_ | refine blk_alloc ?_ _)); refine blk_far ?_ NB266_276.out _; exact zK BK266.out⟩, ⟨by (with_reducible repeat (first | refine blk_drewN ?_ _ | refine blk_drew ?_ | refine blk_alloc ?_ _)); refine blk_put (cs := #[.int .i64 x277000_1, .int .i64 x277001_1, u277002, u277003]) ?_ 3 _ rfl; exact zK BK276.out⟩, ⟨by exact zB2 HB.out GE266.out GE276.out⟩⟩
                ·rw [if_neg c47] at H
                 exact absurd H (by simp)
               ·rw [if_neg c45] at H
                exact absurd H (by simp)
              ·rw [if_neg c43] at H
               exact absurd H (by simp)
             ·rw [if_neg c42] at H
              have c42b0 : (((rdOf ByteArray.empty t267 x6_1).size : Int) == 2) = false := beq_eq_false_iff_ne.mpr c42
              have c42b1 : (((rdOf ByteArray.empty t267 x6_1).size : Int) != 2) = true := bne_iff_ne.mpr c42
              have H' := Aside0.mk H
              clear H
              go_wp2
              go_roundg kj28
              case measure => have := HK1.out; have := HJ18.out; have := HJ28.out; omega
              case rel => exact ⟨(wrap64 (x6_1 + 1)), (x277000_1), (x277001_1), (x277002_1), (x277003_1), (u277002), (u277003), (by first | rfl | (simp; done) | (simp [*]; done)), H', ⟨by have := HK1.out; have := HJ18.out; have := HJ28.out; omega⟩, ⟨by exact zR HO_4.out⟩, ⟨by exact zR HO_277002.out⟩, ⟨by exact zR HO_277003.out⟩, ⟨by exact zK BK266.out⟩, ⟨by exact zK BK276.out⟩, ⟨by exact zB2 HB.out GE266.out GE276.out⟩⟩
            ·rw [if_neg c41] at H
             have c41b0 : decide (0 < x6_1) = false := decide_eq_false c41
             clear c41
             have H' := Aside0.mk H
             clear H
             go_wp2
             go_roundg kj28
             case measure => have := HK1.out; have := HJ18.out; have := HJ28.out; omega
             case rel => exact ⟨(wrap64 (x6_1 + 1)), (x277000_1), (x277001_1), (x277002_1), (x277003_1), (u277002), (u277003), (by first | rfl | (simp; done) | (simp [*]; done)), H', ⟨by have := HK1.out; have := HJ18.out; have := HJ28.out; omega⟩, ⟨by exact zR HO_4.out⟩, ⟨by exact zR HO_277002.out⟩, ⟨by exact zR HO_277003.out⟩, ⟨by exact zK BK266.out⟩, ⟨by exact zK BK276.out⟩, ⟨by exact zB2 HB.out GE266.out GE276.out⟩⟩
     ·rw [if_neg c18] at H
      exact absurd H (by simp)
    ·rw [if_neg c17] at H
     have c17b0 : decide (x6_1 < (t267.length : Int)) = false := decide_eq_false c17
     clear c17
     replace H := Option.bind_eq_some_iff.mp H
     obtain ⟨t277, A520, H⟩ := H
     replace H : (if t277.toList = a0.toList then (if a0.toList = ([] : List UInt8) then (some (0, 0, ([] : List (S67)), ([] : List (S69)), false)) else (some (x277000_1, x277001_1, x277002_1, x277003_1, true))) else (some (0, 0, ([] : List (S67)), ([] : List (S69)), false))) = some (r1, r2, r3, r4, r5) := H
     have A52 := Aside0.mk A520
     clear A520
     by_cases c53 : t277.toList = a0.toList
     ·rw [if_pos c53] at H
      have c53b0 : (t277.toList == a0.toList) = true := beq_iff_eq.mpr c53
      have c53b1 : (t277.toList != a0.toList) = false := bne_eq_false_iff_eq.mpr c53
      clear c53
      by_cases c54 : a0.toList = ([] : List UInt8)
      ·rw [if_pos c54] at H
       have c54b0 : (a0.toList == ([] : List UInt8)) = true := beq_iff_eq.mpr c54
       have c54b1 : (a0.toList != ([] : List UInt8)) = false := bne_eq_false_iff_eq.mpr c54
       clear c54
       simp only [Option.some.injEq, Prod.mk.injEq] at H
       obtain ⟨rfl, rfl, rfl, rfl, rfl⟩ := H
       obtain ⟨Ao55, co55, eo55⟩ := Kd.R_slice HO_4.out
       subst eo55
       have hnb56 := NB276_266.out
       have hnc56 := NB266_276.out
       obtain ⟨hcz57_0, hcz57_1, hcz57_2, hcz57_3, hfz57_0, hfz57_1, hfz57_2, hfz57_3⟩ := zc4f BK276.out
       obtain ⟨Ao58, co58, eo58⟩ := Kd.R_slice HO_277002.out
       subst eo58
       obtain ⟨Ao59, co59, eo59⟩ := Kd.R_slice HO_277003.out
       subst eo59
       go_wp2_with (first | ((with_reducible refine gate_callee (f := 22) rfl ?_); refine goesL_ (some 92) rfl rfl Tryd.func22 (by kernel_rfl) rfl #[.agg #[.int .i64 x277000_1, .int .i64 x277001_1, .slice Ao58 x277002_1.length co58, .slice Ao59 x277003_1.length co59]] rfl (by (try simp only [zm1, zm2, zm3]); first | done | rfl | (simp only [List.length_drop, List.length_take]; rfl)) ?_; (with_reducible refine (spec_PkgText.calls k1 x277000_1 x277001_1 _ _ x277002_1 _ _ x277003_1 t277 _ ?side1 ?side2 ?side3 ?side4 A52.out).mono ?_); (case side1 => exact zC (Kd.R_reads' HO_277002.out).2.2); (case side2 => exact (Kd.R_reads' HO_277002.out).2.1); (case side3 => exact zC (Kd.R_reads' HO_277003.out).2.2); (case side4 => exact (Kd.R_reads' HO_277003.out).2.1); rintro e w60 ⟨rfl, hb⟩; refine ⟨_, rfl, ?_⟩; have n0_ := Aside0.mk (Kd.R_below (by exact zR HO_4.out) hb); have n1_ := Aside0.mk (Kd.R_below (by exact zR HO_277002.out) hb); have n2_ := Aside0.mk (Kd.R_below (by exact zR HO_277003.out) hb); have n3_ := Aside0.mk (blk_below (g := gb266) (o := .cells #[.int .i64 0, .int .i64 0, .slice none 0 0, .slice none 0 0] 31 (0, 0)) (by exact zK BK266.out) hb); have n4_ := Aside0.mk (blk_below (g := gb276) (o := .cells #[.int .i64 x277000_1, .int .i64 x277001_1, .slice Ao58 x277002_1.length co58, .slice Ao59 x277003_1.length co59] 31 (0, 0)) (by exact zK BK276.out) hb); have n5_ := Aside0.mk (below_step (by exact zB2 HB.out GE266.out GE276.out) hb); clear HO_4; clear HO_277002; clear HO_277003; clear BK266; clear BK276; clear HB; have HO_4 := n0_; have HO_277002 := n1_; have HO_277003 := n2_; have BK266 := n3_; have BK276 := n4_; have HB := n5_; clear n0_ n1_ n2_ n3_ n4_ n5_; (try clear hb); (try clear hb2); (try clear hk); (try clear hi); obtain ⟨hcz61_0, hcz61_1, hcz61_2, hcz61_3, hfz61_0, hfz61_1, hfz61_2, hfz61_3⟩ := zc4f BK266.out))
       refine bodyPost_ret (results_ct rfl _ _ gb266 31 #[.int .i64 0, .int .i64 0, .slice none 0 0, .slice none 0 0] (0, 0) _ rfl (by (with_reducible repeat (first | refine blk_drewN ?_ _ | refine blk_drew ?_ | refine blk_alloc ?_ _)); refine blk_put (cs := #[.int .i64 0, .int .i64 0, .slice none 0 0, .slice none 0 0]) ?_ 3 _ rfl; (with_reducible repeat (first | refine blk_drewN ?_ _ | refine blk_drew ?_ | refine blk_alloc ?_ _)); refine blk_put (cs := #[.int .i64 0, .int .i64 0, .slice none 0 0, .slice none 0 0]) ?_ 2 _ rfl; (with_reducible repeat (first | refine blk_drewN ?_ _ | refine blk_drew ?_ | refine blk_alloc ?_ _)); refine blk_put (cs := #[.int .i64 0, .int .i64 0, .slice none 0 0, .slice none 0 0]) ?_ 1 _ rfl; (with_reducible repeat (first | refine blk_drewN ?_ _ | refine blk_drew ?_ | refine blk_alloc ?_ _)); refine blk_put (cs := #[.int .i64 0, .int .i64 0, .slice none 0 0, .slice none 0 0]) ?_ 0 _ rfl; exact zK BK266.out) Tryd.underlying31 rfl (by kernel_rfl)) rfl ?_
       exact ⟨_, _, by first | rfl | (simp [errW_none, errW_some] <;> rfl) | (simp [*, errW_none, errW_some] <;> rfl), by first | exact Kd.R_nil _ _ _ _ _ | exact Kd.N_nil _ _ _ _ _ | exact Kd.V_nil _ _ _ _ _ | exact Kd.Q_nil _ _ _ _ _ | exact Kd.S_nil _ _ _ _ _, by first | exact Kd.R_nil _ _ _ _ _ | exact Kd.N_nil _ _ _ _ _ | exact Kd.V_nil _ _ _ _ _ | exact Kd.Q_nil _ _ _ _ _ | exact Kd.S_nil _ _ _ _ _, by exact zB2 HB.out GE266.out GE276.out⟩
      ·rw [if_neg c54] at H
       have c54b0 : (a0.toList == ([] : List UInt8)) = false := beq_eq_false_iff_ne.mpr c54
       have c54b1 : (a0.toList != ([] : List UInt8)) = true := bne_iff_ne.mpr c54
       simp only [Option.some.injEq, Prod.mk.injEq] at H
       obtain ⟨rfl, rfl, rfl, rfl, rfl⟩ := H
       obtain ⟨Ao62, co62, eo62⟩ := Kd.R_slice HO_4.out
       subst eo62
       have hnb63 := NB276_266.out
       have hnc63 := NB266_276.out
       obtain ⟨hcz64_0, hcz64_1, hcz64_2, hcz64_3, hfz64_0, hfz64_1, hfz64_2, hfz64_3⟩ := zc4f BK276.out
       obtain ⟨Ao65, co65, eo65⟩ := Kd.R_slice HO_277002.out
       subst eo65
       obtain ⟨Ao66, co66, eo66⟩ := Kd.R_slice HO_277003.out
       subst eo66
       go_wp2_with (first | ((with_reducible refine gate_callee (f := 22) rfl ?_); refine goesL_ (some 92) rfl rfl Tryd.func22 (by kernel_rfl) rfl #[.agg #[.int .i64 x277000_1, .int .i64 x277001_1, .slice Ao65 x277002_1.length co65, .slice Ao66 x277003_1.length co66]] rfl (by (try simp only [zm1, zm2, zm3]); first | done | rfl | (simp only [List.length_drop, List.length_take]; rfl)) ?_; (with_reducible refine (spec_PkgText.calls k1 x277000_1 x277001_1 _ _ x277002_1 _ _ x277003_1 t277 _ ?side1 ?side2 ?side3 ?side4 A52.out).mono ?_); (case side1 => exact zC (Kd.R_reads' HO_277002.out).2.2); (case side2 => exact (Kd.R_reads' HO_277002.out).2.1); (case side3 => exact zC (Kd.R_reads' HO_277003.out).2.2); (case side4 => exact (Kd.R_reads' HO_277003.out).2.1); rintro e w67 ⟨rfl, hb⟩; refine ⟨_, rfl, ?_⟩; have n0_ := Aside0.mk (Kd.R_below (by exact zR HO_4.out) hb); have n1_ := Aside0.mk (Kd.R_below (by exact zR HO_277002.out) hb); have n2_ := Aside0.mk (Kd.R_below (by exact zR HO_277003.out) hb); have n3_ := Aside0.mk (blk_below (g := gb266) (o := .cells #[.int .i64 0, .int .i64 0, .slice none 0 0, .slice none 0 0] 31 (0, 0)) (by exact zK BK266.out) hb); have n4_ := Aside0.mk (blk_below (g := gb276) (o := .cells #[.int .i64 x277000_1, .int .i64 x277001_1, .slice Ao65 x277002_1.length co65, .slice Ao66 x277003_1.length co66] 31 (0, 0)) (by exact zK BK276.out) hb); have n5_ := Aside0.mk (below_step (by exact zB2 HB.out GE266.out GE276.out) hb); clear HO_4; clear HO_277002; clear HO_277003; clear BK266; clear BK276; clear HB; have HO_4 := n0_; have HO_277002 := n1_; have HO_277003 := n2_; have BK266 := n3_; have BK276 := n4_; have HB := n5_; clear n0_ n1_ n2_ n3_ n4_ n5_; (try clear hb); (try clear hb2); (try clear hk); (try clear hi); obtain ⟨hcz68_0, hcz68_1, hcz68_2, hcz68_3, hfz68_0, hfz68_1, hfz68_2, hfz68_3⟩ := zc4f BK276.out; obtain ⟨hcz69_0, hcz69_1, hcz69_2, hcz69_3, hfz69_0, hfz69_1, hfz69_2, hfz69_3⟩ := zc4f BK266.out))
       refine bodyPost_ret (results_ct rfl _ _ gb266 31 #[.int .i64 x277000_1, .int .i64 x277001_1, .slice Ao65 x277002_1.length co65, .slice Ao66 x277003_1.length co66] (0, 0) _ rfl (by (with_reducible repeat (first | refine blk_drewN ?_ _ | refine blk_drew ?_ | refine blk_alloc ?_ _)); refine blk_put (cs := #[.int .i64 x277000_1, .int .i64 x277001_1, .slice Ao65 x277002_1.length co65, .slice none 0 0]) ?_ 3 _ rfl; (with_reducible repeat (first | refine blk_drewN ?_ _ | refine blk_drew ?_ | refine blk_alloc ?_ _)); refine blk_put (cs := #[.int .i64 x277000_1, .int .i64 x277001_1, .slice none 0 0, .slice none 0 0]) ?_ 2 _ rfl; (with_reducible repeat (first | refine blk_drewN ?_ _ | refine blk_drew ?_ | refine blk_alloc ?_ _)); refine blk_put (cs := #[.int .i64 x277000_1, .int .i64 0, .slice none 0 0, .slice none 0 0]) ?_ 1 _ rfl; (with_reducible repeat (first | refine blk_drewN ?_ _ | refine blk_drew ?_ | refine blk_alloc ?_ _)); refine blk_put (cs := #[.int .i64 0, .int .i64 0, .slice none 0 0, .slice none 0 0]) ?_ 0 _ rfl; exact zK BK266.out) Tryd.underlying31 rfl (by kernel_rfl)) rfl ?_
       exact ⟨_, _, by first | rfl | (simp [errW_none, errW_some] <;> rfl) | (simp [*, errW_none, errW_some] <;> rfl), by exact zR (Kd.R_mono (Kd.R_far (p := ⟨gb266, 3, none⟩) (Kd.R_far (p := ⟨gb266, 2, none⟩) (Kd.R_far (p := ⟨gb266, 1, none⟩) (Kd.R_far (p := ⟨gb266, 0, none⟩) (Kd.R_types HO_277002.out BK266.out (by decide)) (fun _ hk => hk.2) (.int .i64 x277000_1)) (fun _ hk => hk.2) (.int .i64 x277001_1)) (fun _ hk => hk.2) (.slice Ao65 x277002_1.length co65)) (fun _ hk => hk.2) (.slice Ao66 x277003_1.length co66)) (fun _ hk => trivial)), by exact zR (Kd.R_mono (Kd.R_far (p := ⟨gb266, 3, none⟩) (Kd.R_far (p := ⟨gb266, 2, none⟩) (Kd.R_far (p := ⟨gb266, 1, none⟩) (Kd.R_far (p := ⟨gb266, 0, none⟩) (Kd.R_types HO_277003.out BK266.out (by decide)) (fun _ hk => hk.2) (.int .i64 x277000_1)) (fun _ hk => hk.2) (.int .i64 x277001_1)) (fun _ hk => hk.2) (.slice Ao65 x277002_1.length co65)) (fun _ hk => hk.2) (.slice Ao66 x277003_1.length co66)) (fun _ hk => trivial)), by exact zB2 HB.out GE266.out GE276.out⟩
     ·rw [if_neg c53] at H
      have c53b0 : (t277.toList == a0.toList) = false := beq_eq_false_iff_ne.mpr c53
      have c53b1 : (t277.toList != a0.toList) = true := bne_iff_ne.mpr c53
      simp only [Option.some.injEq, Prod.mk.injEq] at H
      obtain ⟨rfl, rfl, rfl, rfl, rfl⟩ := H
      obtain ⟨Ao70, co70, eo70⟩ := Kd.R_slice HO_4.out
      subst eo70
      have hnb71 := NB276_266.out
      have hnc71 := NB266_276.out
      obtain ⟨hcz72_0, hcz72_1, hcz72_2, hcz72_3, hfz72_0, hfz72_1, hfz72_2, hfz72_3⟩ := zc4f BK276.out
      obtain ⟨Ao73, co73, eo73⟩ := Kd.R_slice HO_277002.out
      subst eo73
      obtain ⟨Ao74, co74, eo74⟩ := Kd.R_slice HO_277003.out
      subst eo74
      go_wp2_with (first | ((with_reducible refine gate_callee (f := 22) rfl ?_); refine goesL_ (some 92) rfl rfl Tryd.func22 (by kernel_rfl) rfl #[.agg #[.int .i64 x277000_1, .int .i64 x277001_1, .slice Ao73 x277002_1.length co73, .slice Ao74 x277003_1.length co74]] rfl (by (try simp only [zm1, zm2, zm3]); first | done | rfl | (simp only [List.length_drop, List.length_take]; rfl)) ?_; (with_reducible refine (spec_PkgText.calls k1 x277000_1 x277001_1 _ _ x277002_1 _ _ x277003_1 t277 _ ?side1 ?side2 ?side3 ?side4 A52.out).mono ?_); (case side1 => exact zC (Kd.R_reads' HO_277002.out).2.2); (case side2 => exact (Kd.R_reads' HO_277002.out).2.1); (case side3 => exact zC (Kd.R_reads' HO_277003.out).2.2); (case side4 => exact (Kd.R_reads' HO_277003.out).2.1); rintro e w75 ⟨rfl, hb⟩; refine ⟨_, rfl, ?_⟩; have n0_ := Aside0.mk (Kd.R_below (by exact zR HO_4.out) hb); have n1_ := Aside0.mk (Kd.R_below (by exact zR HO_277002.out) hb); have n2_ := Aside0.mk (Kd.R_below (by exact zR HO_277003.out) hb); have n3_ := Aside0.mk (blk_below (g := gb266) (o := .cells #[.int .i64 0, .int .i64 0, .slice none 0 0, .slice none 0 0] 31 (0, 0)) (by exact zK BK266.out) hb); have n4_ := Aside0.mk (blk_below (g := gb276) (o := .cells #[.int .i64 x277000_1, .int .i64 x277001_1, .slice Ao73 x277002_1.length co73, .slice Ao74 x277003_1.length co74] 31 (0, 0)) (by exact zK BK276.out) hb); have n5_ := Aside0.mk (below_step (by exact zB2 HB.out GE266.out GE276.out) hb); clear HO_4; clear HO_277002; clear HO_277003; clear BK266; clear BK276; clear HB; have HO_4 := n0_; have HO_277002 := n1_; have HO_277003 := n2_; have BK266 := n3_; have BK276 := n4_; have HB := n5_; clear n0_ n1_ n2_ n3_ n4_ n5_; (try clear hb); (try clear hb2); (try clear hk); (try clear hi); obtain ⟨hcz76_0, hcz76_1, hcz76_2, hcz76_3, hfz76_0, hfz76_1, hfz76_2, hfz76_3⟩ := zc4f BK266.out))
      refine bodyPost_ret (results_ct rfl _ _ gb266 31 #[.int .i64 0, .int .i64 0, .slice none 0 0, .slice none 0 0] (0, 0) _ rfl (by (with_reducible repeat (first | refine blk_drewN ?_ _ | refine blk_drew ?_ | refine blk_alloc ?_ _)); refine blk_put (cs := #[.int .i64 0, .int .i64 0, .slice none 0 0, .slice none 0 0]) ?_ 3 _ rfl; (with_reducible repeat (first | refine blk_drewN ?_ _ | refine blk_drew ?_ | refine blk_alloc ?_ _)); refine blk_put (cs := #[.int .i64 0, .int .i64 0, .slice none 0 0, .slice none 0 0]) ?_ 2 _ rfl; (with_reducible repeat (first | refine blk_drewN ?_ _ | refine blk_drew ?_ | refine blk_alloc ?_ _)); refine blk_put (cs := #[.int .i64 0, .int .i64 0, .slice none 0 0, .slice none 0 0]) ?_ 1 _ rfl; (with_reducible repeat (first | refine blk_drewN ?_ _ | refine blk_drew ?_ | refine blk_alloc ?_ _)); refine blk_put (cs := #[.int .i64 0, .int .i64 0, .slice none 0 0, .slice none 0 0]) ?_ 0 _ rfl; exact zK BK266.out) Tryd.underlying31 rfl (by kernel_rfl)) rfl ?_
      exact ⟨_, _, by first | rfl | (simp [errW_none, errW_some] <;> rfl) | (simp [*, errW_none, errW_some] <;> rfl), by first | exact Kd.R_nil _ _ _ _ _ | exact Kd.N_nil _ _ _ _ _ | exact Kd.V_nil _ _ _ _ _ | exact Kd.Q_nil _ _ _ _ _ | exact Kd.S_nil _ _ _ _ _, by first | exact Kd.R_nil _ _ _ _ _ | exact Kd.N_nil _ _ _ _ _ | exact Kd.V_nil _ _ _ _ _ | exact Kd.Q_nil _ _ _ _ _ | exact Kd.S_nil _ _ _ _ _, by exact zB2 HB.out GE266.out GE276.out⟩

/-! ### laws_FnPkgStrict: function 7 -/
def laws_FnPkgStrict.j0 : Nat → ByteArray → Bool → Bool → Bool → Int → Int → List (S67) → List (S69) → Int → Int → List (S67) → List (S69) → Option (Bool)
 | 0, _, _, _, _, _, _, _, _, _, _, _, _ => none
 | k + 1, x3, x5, x7, x35, x296000, x296001, x296002, x296003, x306000, x306001, x306002, x306003 => if x35 = true then (if (x7 == x5) = true then ((laws_luPkg.f k x306000 x306001 x306002 x306003 x296000 x296001 x296002 x296003).bind fun t307 => (some t307)) else (none)) else ((impl_PkgOk.f k x306000 x306001 x306002 x306003).bind fun t308 => (if t308 = true then ((impl_PkgText.f k x306000 x306001 x306002 x306003).bind fun t309 => (some (t309.toList == x3.toList))) else (none)))
def laws_FnPkgStrict.f (k : Nat) (l0 : List Int) : Option (Bool) := if (l0.length : Int) > 1048576 then (some true) else ((spec_DrawPkgRead.f k l0).bind fun t285 => ((spec_PkgRead.f k t285).bind fun bt286 => ((impl_PkgRead.f k t285).bind fun bt296 => (if (bt296.2.2.2.2 != bt286.2.2.2.2) = true then (laws_FnPkgStrict.j0 k t285 bt286.2.2.2.2 bt296.2.2.2.2 true bt286.1 bt286.2.1 bt286.2.2.1 bt286.2.2.2.1 bt296.1 bt296.2.1 bt296.2.2.1 bt296.2.2.2.1) else ((laws_luPkg.f k bt296.1 bt296.2.1 bt296.2.2.1 bt296.2.2.2.1 bt286.1 bt286.2.1 bt286.2.2.1 bt286.2.2.2.1).bind fun t306 => (if t306 = true then (laws_FnPkgStrict.j0 k t285 bt286.2.2.2.2 bt296.2.2.2.2 (!bt296.2.2.2.2) bt286.1 bt286.2.1 bt286.2.2.1 bt286.2.2.2.1 bt296.1 bt296.2.1 bt296.2.2.1 bt296.2.2.2.1) else (laws_FnPkgStrict.j0 k t285 bt286.2.2.2.2 bt296.2.2.2.2 true bt286.1 bt286.2.1 bt286.2.2.1 bt286.2.2.2.1 bt296.1 bt296.2.1 bt296.2.2.1 bt296.2.2.2.1)))))))
theorem laws_FnPkgStrict.mono_l : ∀ k, (∀ y0 y1 y2 y3 y4 y5 y6 y7 y8 y9 y10 y11, LeO (laws_FnPkgStrict.j0 k y0 y1 y2 y3 y4 y5 y6 y7 y8 y9 y10 y11) (laws_FnPkgStrict.j0 (k + 1) y0 y1 y2 y3 y4 y5 y6 y7 y8 y9 y10 y11))
 | 0 => fun _ _ _ _ _ _ _ _ _ _ _ _ r h => by simp [laws_FnPkgStrict.j0] at h
 | k + 1 => by
  have ih0 := laws_FnPkgStrict.mono_l k
  ·intro y0 y1 y2 y3 y4 y5 y6 y7 y8 y9 y10 y11
   unfold laws_FnPkgStrict.j0
   repeat' first
   | (with_reducible exact ih0 _ _ _ _ _ _ _ _ _ _ _ _)
   | (with_reducible exact impl_PkgOk.mono _ _ _ _ _)
   | (with_reducible exact impl_PkgRead.mono _ _)
   | (with_reducible exact impl_PkgText.mono _ _ _ _ _)
   | (with_reducible exact laws_luPkg.mono _ _ _ _ _ _ _ _ _)
   | (with_reducible exact spec_DrawPkgRead.mono _ _)
   | (with_reducible exact spec_PkgRead.mono _ _)
   | (with_reducible exact LeO.refl _)
   | (with_reducible exact LeO.none _)
   | (with_reducible refine LeO.ite ?_ ?_)
   | (with_reducible refine LeO.bind ?_ (fun _ => ?_))
   | exact ih0 _ _ _ _ _ _ _ _ _ _ _ _
   | exact impl_PkgOk.mono _ _ _ _ _
   | exact impl_PkgRead.mono _ _
   | exact impl_PkgText.mono _ _ _ _ _
   | exact laws_luPkg.mono _ _ _ _ _ _ _ _ _
   | exact spec_DrawPkgRead.mono _ _
   | exact spec_PkgRead.mono _ _
   | exact LeO.none _
   | refine LeO.ite ?_ ?_
   | refine LeO.bind ?_ (fun _ => ?_)
theorem laws_FnPkgStrict.mono : ∀ a0 k, LeO (laws_FnPkgStrict.f k a0) (laws_FnPkgStrict.f (k + 1) a0) := by
 intro a0 k
 have ih0 := laws_FnPkgStrict.mono_l k
 unfold laws_FnPkgStrict.f
 repeat' first
   | (with_reducible exact ih0 _ _ _ _ _ _ _ _ _ _ _ _)
   | (with_reducible exact impl_PkgOk.mono _ _ _ _ _)
   | (with_reducible exact impl_PkgRead.mono _ _)
   | (with_reducible exact impl_PkgText.mono _ _ _ _ _)
   | (with_reducible exact laws_luPkg.mono _ _ _ _ _ _ _ _ _)
   | (with_reducible exact spec_DrawPkgRead.mono _ _)
   | (with_reducible exact spec_PkgRead.mono _ _)
   | (with_reducible exact LeO.refl _)
   | (with_reducible exact LeO.none _)
   | (with_reducible refine LeO.ite ?_ ?_)
   | (with_reducible refine LeO.bind ?_ (fun _ => ?_))
   | exact ih0 _ _ _ _ _ _ _ _ _ _ _ _
   | exact impl_PkgOk.mono _ _ _ _ _
   | exact impl_PkgRead.mono _ _
   | exact impl_PkgText.mono _ _ _ _ _
   | exact laws_luPkg.mono _ _ _ _ _ _ _ _ _
   | exact spec_DrawPkgRead.mono _ _
   | exact spec_PkgRead.mono _ _
   | exact LeO.none _
   | refine LeO.ite ?_ ?_
   | refine LeO.bind ?_ (fun _ => ?_)
set_option maxHeartbeats 8000000 in
set_option maxRecDepth 100000 in
theorem laws_FnPkgStrict.calls (k : Nat) (A0 : Option Addr) (c0 : Nat) (l0 : List Int) (r : Bool) (w : World) (hr0 : Kd.C (Kd.int .u8) w A0 l0.length l0) (hc0 : l0.length ≤ c0) (hLD : LaidW w) (h : laws_FnPkgStrict.f k l0 = some r) :
  Calls Tryd.prog 7 #[.slice A0 l0.length c0] w fun e w' => e = .returned (.bool r) ∧ Below w.heap.size w w' := by
 have hu31 := Tryd.underlying31
 have HR0 := Aside0.mk hr0
 have HC0 := Aside0.mk hc0
 clear hr0 hc0
 have HB := Aside0.mk (Below.refl w.heap.size w)
 have HLD := Aside0.mk hLD
 clear hLD
 have H : (if (l0.length : Int) > 1048576 then (some true) else ((spec_DrawPkgRead.f k l0).bind fun t285 => ((spec_PkgRead.f k t285).bind fun bt286 => ((impl_PkgRead.f k t285).bind fun bt296 => (if (bt296.2.2.2.2 != bt286.2.2.2.2) = true then (laws_FnPkgStrict.j0 k t285 bt286.2.2.2.2 bt296.2.2.2.2 true bt286.1 bt286.2.1 bt286.2.2.1 bt286.2.2.2.1 bt296.1 bt296.2.1 bt296.2.2.1 bt296.2.2.2.1) else ((laws_luPkg.f k bt296.1 bt296.2.1 bt296.2.2.1 bt296.2.2.2.1 bt286.1 bt286.2.1 bt286.2.2.1 bt286.2.2.2.1).bind fun t306 => (if t306 = true then (laws_FnPkgStrict.j0 k t285 bt286.2.2.2.2 bt296.2.2.2.2 (!bt296.2.2.2.2) bt286.1 bt286.2.1 bt286.2.2.1 bt286.2.2.2.1 bt296.1 bt296.2.1 bt296.2.2.1 bt296.2.2.2.1) else (laws_FnPkgStrict.j0 k t285 bt286.2.2.2.2 bt296.2.2.2.2 true bt286.1 bt286.2.1 bt286.2.2.1 bt286.2.2.2.1 bt296.1 bt296.2.1 bt296.2.2.1 bt296.2.2.2.1)))))))) = some r := h
 clear h
 by_cases c2 : (l0.length : Int) > 1048576
 ·rw [if_pos c2] at H
  have c2b0 : decide (1048576 < (l0.length : Int)) = true := decide_eq_true c2
  have c2b1 : decide (1048576 < l0.length) = true := decide_eq_true (by omega)
  clear c2
  obtain rfl := Option.some.inj H
  go_enter Tryd.func7, Tryd.ntmps7
  go_wp2
  go_ret
  exact ⟨by first | rfl | (simp [errW_none, errW_some] <;> rfl) | (simp [*, errW_none, errW_some] <;> rfl), by exact zB HB.out⟩
 ·rw [if_neg c2] at H
  have c2b0 : decide (1048576 < (l0.length : Int)) = false := decide_eq_false c2
  have c2b1 : decide (1048576 < l0.length) = false := decide_eq_false (by omega)
  clear c2
  replace H := Option.bind_eq_some_iff.mp H
  obtain ⟨t285, A30, H⟩ := H
  replace H : ((spec_PkgRead.f k t285).bind fun bt286 => ((impl_PkgRead.f k t285).bind fun bt296 => (if (bt296.2.2.2.2 != bt286.2.2.2.2) = true then (laws_FnPkgStrict.j0 k t285 bt286.2.2.2.2 bt296.2.2.2.2 true bt286.1 bt286.2.1 bt286.2.2.1 bt286.2.2.2.1 bt296.1 bt296.2.1 bt296.2.2.1 bt296.2.2.2.1) else ((laws_luPkg.f k bt296.1 bt296.2.1 bt296.2.2.1 bt296.2.2.2.1 bt286.1 bt286.2.1 bt286.2.2.1 bt286.2.2.2.1).bind fun t306 => (if t306 = true then (laws_FnPkgStrict.j0 k t285 bt286.2.2.2.2 bt296.2.2.2.2 (!bt296.2.2.2.2) bt286.1 bt286.2.1 bt286.2.2.1 bt286.2.2.2.1 bt296.1 bt296.2.1 bt296.2.2.1 bt296.2.2.2.1) else (laws_FnPkgStrict.j0 k t285 bt286.2.2.2.2 bt296.2.2.2.2 true bt286.1 bt286.2.1 bt286.2.2.1 bt286.2.2.2.1 bt296.1 bt296.2.1 bt296.2.2.1 bt296.2.2.2.1)))))) = some r := H
  have A3 := Aside0.mk A30
  clear A30
  replace H := Option.bind_eq_some_iff.mp H
  obtain ⟨⟨t286, t287, t288, t291, t294⟩, A40, H⟩ := H
  replace H : ((impl_PkgRead.f k t285).bind fun bt296 => (if (bt296.2.2.2.2 != t294) = true then (laws_FnPkgStrict.j0 k t285 t294 bt296.2.2.2.2 true t286 t287 t288 t291 bt296.1 bt296.2.1 bt296.2.2.1 bt296.2.2.2.1) else ((laws_luPkg.f k bt296.1 bt296.2.1 bt296.2.2.1 bt296.2.2.2.1 t286 t287 t288 t291).bind fun t306 => (if t306 = true then (laws_FnPkgStrict.j0 k t285 t294 bt296.2.2.2.2 (!bt296.2.2.2.2) t286 t287 t288 t291 bt296.1 bt296.2.1 bt296.2.2.1 bt296.2.2.2.1) else (laws_FnPkgStrict.j0 k t285 t294 bt296.2.2.2.2 true t286 t287 t288 t291 bt296.1 bt296.2.1 bt296.2.2.1 bt296.2.2.2.1))))) = some r := H
  have A4 := Aside0.mk A40
  clear A40
  replace H := Option.bind_eq_some_iff.mp H
  obtain ⟨⟨t296, t297, t298, t301, t304⟩, A50, H⟩ := H
  replace H : (if (t304 != t294) = true then (laws_FnPkgStrict.j0 k t285 t294 t304 true t286 t287 t288 t291 t296 t297 t298 t301) else ((laws_luPkg.f k t296 t297 t298 t301 t286 t287 t288 t291).bind fun t306 => (if t306 = true then (laws_FnPkgStrict.j0 k t285 t294 t304 (!t304) t286 t287 t288 t291 t296 t297 t298 t301) else (laws_FnPkgStrict.j0 k t285 t294 t304 true t286 t287 t288 t291 t296 t297 t298 t301)))) = some r := H
  have A5 := Aside0.mk A50
  clear A50
  have HC6 := Aside0.mk H
  clear H
  go_enter Tryd.func7, Tryd.ntmps7
  go_upto_region 6 with (first | ((with_reducible refine gate_callee (f := 24) rfl ?_); refine goesL_ (some 12) rfl rfl Tryd.func24 (by kernel_rfl) rfl #[.slice A0 l0.length c0] rfl (by (try simp only [zm1, zm2, zm3]); first | done | rfl | (simp only [List.length_drop, List.length_take]; rfl)) ?_; (with_reducible refine (spec_DrawPkgRead.calls k _ _ l0 t285 _ ?side1 ?side2 A3.out).mono ?_); (case side1 => repeat (first | exact HR0.out | (with_reducible refine Kd.C_alloc ?_ _) | (with_reducible refine Kd.C_drewN ?_ _) | (with_reducible refine Kd.C_drew ?_))); (case side2 => exact HC0.out); rintro e w7 ⟨rfl, hb⟩; refine ⟨_, rfl, ?_⟩; have n0_ := Aside0.mk (below_step (by exact zB HB.out) hb); clear HB; have HB := n0_; clear n0_; (try clear hb); (try clear hb2); (try clear hk); (try clear hi)) | ((with_reducible refine gate_callee (f := 25) rfl ?_); refine goesL_ (some 15) rfl rfl Tryd.func25 (by kernel_rfl) rfl #[.string t285] rfl (by (try simp only [zm1, zm2, zm3]); first | done | rfl | (simp only [List.length_drop, List.length_take]; rfl)) ?_; (with_reducible refine (spec_PkgRead.calls k t285 t286 t287 t288 t291 t294 _ A4.out).mono ?_); rintro e w8 ⟨v289, v292, rfl, ho0, ho1, hb⟩; refine ⟨_, rfl, ?_⟩; have n0_ := Aside0.mk (Kd.R_lower ho0 (below_size (by exact zB HB.out))); have n1_ := Aside0.mk (Kd.R_lower ho1 (below_size (by exact zB HB.out))); have n2_ := Aside0.mk (below_step (by exact zB HB.out) hb); clear HB; have HO290 := n0_; have HO293 := n1_; have HB := n2_; clear n0_ n1_ n2_; (try clear hb); (try clear hb2); (try clear hk); (try clear hi); (try clear ho0); (try clear ho1)) | ((with_reducible refine gate_dst (N := 4) rfl ?_); refine box_event ?hg (N := 4) ?hd (cs := #[.int .i64 0, .int .i64 0, .slice none 0 0, .slice none 0 0]) (t := 31) ?hr ?_; (case hd => rfl); (case hg => rfl); (case hr => first | (go_simp; done) | (go_simp; rfl)); intro gb295 hg w9 hbox hb; have n0_ := Aside0.mk (Kd.R_below (by exact zR HO290.out) hb); have n1_ := Aside0.mk (Kd.R_below (by exact zR HO293.out) hb); have n2_ := Aside0.mk (below_step (by exact zB HB.out) hb); have n3_ := Aside0.mk (hbox); have n4_ := Aside0.mk ((by rw [hg]; exact (below_size (by exact zB HB.out)) : w.heap.size ≤ gb295)); have n5_ := Aside0.mk ((by rw [hg]; exact (below_size (by exact zB HB.out)) : w.heap.size ≤ gb295)); clear HO290; clear HO293; clear HB; have HO290 := n0_; have HO293 := n1_; have HB := n2_; have BK295 := n3_; have GW295 := n4_; have GE295 := n5_; clear n0_ n1_ n2_ n3_ n4_ n5_; clear hb hbox hg; obtain ⟨hcz10_0, hcz10_1, hcz10_2, hcz10_3, hfz10_0, hfz10_1, hfz10_2, hfz10_3⟩ := zc4f BK295.out; obtain ⟨Ao11, co11, eo11⟩ := Kd.R_slice HO290.out; subst eo11; obtain ⟨Ao12, co12, eo12⟩ := Kd.R_slice HO293.out; subst eo12) | ((with_reducible refine gate_callee (f := 19) rfl ?_); refine goesL_ (some 20) rfl rfl Tryd.func19 (by kernel_rfl) rfl #[.string t285] rfl (by (try simp only [zm1, zm2, zm3]); first | done | rfl | (simp only [List.length_drop, List.length_take]; rfl)) ?_; (with_reducible refine (impl_PkgRead.calls k t285 t296 t297 t298 t301 t304 _ ?sideL A5.out).mono ?_); (case sideL => exact HLD.out.on (by exact zB1 HB.out GE295.out)); rintro e w13 ⟨v299, v302, rfl, ho0, ho1, hb⟩; refine ⟨_, rfl, ?_⟩; have n0_ := Aside0.mk (Kd.R_elder' (by exact zR (Kd.R_mono (Kd.R_far (p := ⟨gb295, 3, none⟩) (Kd.R_far (p := ⟨gb295, 2, none⟩) (Kd.R_far (p := ⟨gb295, 1, none⟩) (Kd.R_far (p := ⟨gb295, 0, none⟩) (Kd.R_types HO290.out BK295.out (by decide)) (fun _ hk => hk.2) (.int .i64 t286)) (fun _ hk => hk.2) (.int .i64 t287)) (fun _ hk => hk.2) (.slice Ao11 t288.length co11)) (fun _ hk => hk.2) (.slice Ao12 t291.length co12)) (fun _ h_ => h_.1))) (Kd.R_base ho0) hb); have n1_ := Aside0.mk (Kd.R_elder' (by exact zR (Kd.R_mono (Kd.R_far (p := ⟨gb295, 3, none⟩) (Kd.R_far (p := ⟨gb295, 2, none⟩) (Kd.R_far (p := ⟨gb295, 1, none⟩) (Kd.R_far (p := ⟨gb295, 0, none⟩) (Kd.R_types HO293.out BK295.out (by decide)) (fun _ hk => hk.2) (.int .i64 t286)) (fun _ hk => hk.2) (.int .i64 t287)) (fun _ hk => hk.2) (.slice Ao11 t288.length co11)) (fun _ hk => hk.2) (.slice Ao12 t291.length co12)) (fun _ h_ => h_.1))) (Kd.R_base ho1) hb); have n2_ := Aside0.mk (Kd.R_lower (Kd.R_new' ho0 (Kd.R_lt (by exact zR (Kd.R_mono (Kd.R_far (p := ⟨gb295, 3, none⟩) (Kd.R_far (p := ⟨gb295, 2, none⟩) (Kd.R_far (p := ⟨gb295, 1, none⟩) (Kd.R_far (p := ⟨gb295, 0, none⟩) (Kd.R_types HO290.out BK295.out (by decide)) (fun _ hk => hk.2) (.int .i64 t286)) (fun _ hk => hk.2) (.int .i64 t287)) (fun _ hk => hk.2) (.slice Ao11 t288.length co11)) (fun _ hk => hk.2) (.slice Ao12 t291.length co12)) (fun _ h_ => h_.1))))) (below_size (by exact zB1 HB.out GE295.out))); have n3_ := Aside0.mk (Kd.R_lower (Kd.R_new' ho1 (Kd.R_lt (by exact zR (Kd.R_mono (Kd.R_far (p := ⟨gb295, 3, none⟩) (Kd.R_far (p := ⟨gb295, 2, none⟩) (Kd.R_far (p := ⟨gb295, 1, none⟩) (Kd.R_far (p := ⟨gb295, 0, none⟩) (Kd.R_types HO293.out BK295.out (by decide)) (fun _ hk => hk.2) (.int .i64 t286)) (fun _ hk => hk.2) (.int .i64 t287)) (fun _ hk => hk.2) (.slice Ao11 t288.length co11)) (fun _ hk => hk.2) (.slice Ao12 t291.length co12)) (fun _ h_ => h_.1))))) (below_size (by exact zB1 HB.out GE295.out))); have n4_ := Aside0.mk (blk_below (g := gb295) (o := .cells #[.int .i64 t286, .int .i64 t287, .slice Ao11 t288.length co11, .slice Ao12 t291.length co12] 31 (0, 0)) (by (with_reducible repeat (first | refine blk_drewN ?_ _ | refine blk_drew ?_ | refine blk_alloc ?_ _)); refine blk_put (cs := #[.int .i64 t286, .int .i64 t287, .slice Ao11 t288.length co11, .slice none 0 0]) ?_ 3 _ rfl; (with_reducible repeat (first | refine blk_drewN ?_ _ | refine blk_drew ?_ | refine blk_alloc ?_ _)); refine blk_put (cs := #[.int .i64 t286, .int .i64 t287, .slice none 0 0, .slice none 0 0]) ?_ 2 _ rfl; (with_reducible repeat (first | refine blk_drewN ?_ _ | refine blk_drew ?_ | refine blk_alloc ?_ _)); refine blk_put (cs := #[.int .i64 t286, .int .i64 0, .slice none 0 0, .slice none 0 0]) ?_ 1 _ rfl; (with_reducible repeat (first | refine blk_drewN ?_ _ | refine blk_drew ?_ | refine blk_alloc ?_ _)); refine blk_put (cs := #[.int .i64 0, .int .i64 0, .slice none 0 0, .slice none 0 0]) ?_ 0 _ rfl; exact zK BK295.out) hb); have n5_ := Aside0.mk (below_step (by exact zB1 HB.out GE295.out) hb); clear HO290; clear HO293; clear BK295; clear HB; have HO290 := n0_; have HO293 := n1_; have HO300 := n2_; have HO303 := n3_; have BK295 := n4_; have HB := n5_; clear n0_ n1_ n2_ n3_ n4_ n5_; (try clear hb); (try clear hb2); (try clear hk); (try clear hi); (try clear ho0); (try clear ho1)) | ((with_reducible refine gate_dst (N := 6) rfl ?_); refine box_event ?hg (N := 6) ?hd (cs := #[.int .i64 0, .int .i64 0, .slice none 0 0, .slice none 0 0]) (t := 31) ?hr ?_; (case hd => rfl); (case hg => rfl); (case hr => first | (go_simp; done) | (go_simp; rfl)); intro gb305 hg w14 hbox hb; have n0_ := Aside0.mk (Kd.R_below (by exact zR HO290.out) hb); have n1_ := Aside0.mk (Kd.R_below (by exact zR HO293.out) hb); have n2_ := Aside0.mk (Kd.R_below (by exact zR HO300.out) hb); have n3_ := Aside0.mk (Kd.R_below (by exact zR HO303.out) hb); have n4_ := Aside0.mk (blk_below (g := gb295) (o := .cells #[.int .i64 t286, .int .i64 t287, .slice Ao11 t288.length co11, .slice Ao12 t291.length co12] 31 (0, 0)) (by exact zK BK295.out) hb); have n5_ := Aside0.mk (below_step (by exact zB1 HB.out GE295.out) hb); have n6_ := Aside0.mk (hbox); have n7_ := Aside0.mk ((by rw [hg]; exact (below_size (by exact zB1 HB.out GE295.out)) : w.heap.size ≤ gb305)); have n8_ := Aside0.mk ((by rw [hg]; exact (below_size (by exact zB1 HB.out GE295.out)) : w.heap.size ≤ gb305)); have n9_ := Aside0.mk ((by rw [hg]; exact Nat.ne_of_lt (blk_lt (g := gb295) (o := .cells #[.int .i64 t286, .int .i64 t287, .slice Ao11 t288.length co11, .slice Ao12 t291.length co12] 31 (0, 0)) (by exact zK BK295.out)) : gb295 ≠ gb305)); have n10_ := Aside0.mk ((by rw [hg]; exact Nat.ne_of_gt (blk_lt (g := gb295) (o := .cells #[.int .i64 t286, .int .i64 t287, .slice Ao11 t288.length co11, .slice Ao12 t291.length co12] 31 (0, 0)) (by exact zK BK295.out)) : gb305 ≠ gb295)); clear HO290; clear HO293; clear HO300; clear HO303; clear BK295; clear HB; have HO290 := n0_; have HO293 := n1_; have HO300 := n2_; have HO303 := n3_; have BK295 := n4_; have HB := n5_; have BK305 := n6_; have GW305 := n7_; have GE305 := n8_; have NB295_305 := n9_; have NB305_295 := n10_; clear n0_ n1_ n2_ n3_ n4_ n5_ n6_ n7_ n8_ n9_ n10_; clear hb hbox hg; have hnb15 := NB305_295.out; have hnc15 := NB295_305.out; obtain ⟨hcz16_0, hcz16_1, hcz16_2, hcz16_3, hfz16_0, hfz16_1, hfz16_2, hfz16_3⟩ := zc4f BK305.out; obtain ⟨Ao17, co17, eo17⟩ := Kd.R_slice HO300.out; subst eo17; obtain ⟨Ao18, co18, eo18⟩ := Kd.R_slice HO303.out; subst eo18))
  (try simp only [zp0, zp1, zp2, zp3, zp4])
  go_cut [35] (fun v35 wc => ∃ (kq : Nat) (x35_5 : Bool), v35 = .bool x35_5 ∧ Aside0 (laws_FnPkgStrict.j0 kq t285 t294 t304 x35_5 t286 t287 t288 t291 t296 t297 t298 t301 = some r) ∧ Aside0 (kq ≤ k) ∧ Aside0 (Kd.R k67 67 wc w.heap.size (fun k_ => some k_ ≠ ((.slice Ao17 t298.length co17) : Value).ownBlock) (.slice Ao11 t288.length co11) t288) ∧ Aside0 (Kd.R k69 69 wc w.heap.size (fun k_ => some k_ ≠ ((.slice Ao18 t301.length co18) : Value).ownBlock) (.slice Ao12 t291.length co12) t291) ∧ Aside0 (Kd.R k67 67 wc w.heap.size (fun k_ => some k_ ≠ ((.slice Ao11 t288.length co11) : Value).ownBlock) (.slice Ao17 t298.length co17) t298) ∧ Aside0 (Kd.R k69 69 wc w.heap.size (fun k_ => some k_ ≠ ((.slice Ao12 t291.length co12) : Value).ownBlock) (.slice Ao18 t301.length co18) t301) ∧ Aside0 (wc.heap[gb295]? = some (.cells #[.int .i64 t286, .int .i64 t287, (.slice Ao11 t288.length co11), (.slice Ao12 t291.length co12)] 31 (0, 0))) ∧ Aside0 (wc.heap[gb305]? = some (.cells #[.int .i64 t296, .int .i64 t297, (.slice Ao17 t298.length co17), (.slice Ao18 t301.length co18)] 31 (0, 0))) ∧ Aside0 (Below w.heap.size w wc))
  case first =>
   have H := HC6.out
   clear HC6
   by_cases c19 : (t304 != t294) = true
   ·rw [if_pos c19] at H
    have c19b0 : (t304 != t294) = true := c19
    (try (have c19b1 : decide (t304 = t294) = false := by simpa using c19))
    (try (have c19b2 : (t304 == t294) = false := by simpa using c19))
    (try (have c19b3 : ¬ (t304 = t294) := by simpa using c19))
    clear c19
    (first | rw [c19b0] | (simp only [i64_w, i32_w]; rw [c19b0]) | skip)
    have H' := Aside0.mk H
    clear H
    go_wp2
    go_meet
    case rel => exact ⟨_, (true), (by first | rfl | (simp; done) | (simp [*]; done)), H', ⟨by first | omega | exact Nat.le_refl _⟩, ⟨by exact zR (Kd.R_mono (Kd.R_far (p := ⟨gb305, 3, none⟩) (Kd.R_far (p := ⟨gb305, 2, none⟩) (Kd.R_far (p := ⟨gb305, 1, none⟩) (Kd.R_far (p := ⟨gb305, 0, none⟩) (Kd.R_types HO290.out BK305.out (by decide)) (fun _ hk => hk.2) (.int .i64 t296)) (fun _ hk => hk.2) (.int .i64 t297)) (fun _ hk => hk.2) (.slice Ao17 t298.length co17)) (fun _ hk => hk.2) (.slice Ao18 t301.length co18)) (fun _ hk => hk.1.2))⟩, ⟨by exact zR (Kd.R_mono (Kd.R_far (p := ⟨gb305, 3, none⟩) (Kd.R_far (p := ⟨gb305, 2, none⟩) (Kd.R_far (p := ⟨gb305, 1, none⟩) (Kd.R_far (p := ⟨gb305, 0, none⟩) (Kd.R_types HO293.out BK305.out (by decide)) (fun _ hk => hk.2) (.int .i64 t296)) (fun _ hk => hk.2) (.int .i64 t297)) (fun _ hk => hk.2) (.slice Ao17 t298.length co17)) (fun _ hk => hk.2) (.slice Ao18 t301.length co18)) (fun _ hk => hk.1.2))⟩, ⟨by exact zR (Kd.R_mono (Kd.R_far (p := ⟨gb305, 3, none⟩) (Kd.R_far (p := ⟨gb305, 2, none⟩) (Kd.R_far (p := ⟨gb305, 1, none⟩) (Kd.R_far (p := ⟨gb305, 0, none⟩) (Kd.R_types HO300.out BK305.out (by decide)) (fun _ hk => hk.2) (.int .i64 t296)) (fun _ hk => hk.2) (.int .i64 t297)) (fun _ hk => hk.2) (.slice Ao17 t298.length co17)) (fun _ hk => hk.2) (.slice Ao18 t301.length co18)) (fun _ hk => hk.1.2))⟩, ⟨by exact zR (Kd.R_mono (Kd.R_far (p := ⟨gb305, 3, none⟩) (Kd.R_far (p := ⟨gb305, 2, none⟩) (Kd.R_far (p := ⟨gb305, 1, none⟩) (Kd.R_far (p := ⟨gb305, 0, none⟩) (Kd.R_types HO303.out BK305.out (by decide)) (fun _ hk => hk.2) (.int .i64 t296)) (fun _ hk => hk.2) (.int .i64 t297)) (fun _ hk => hk.2) (.slice Ao17 t298.length co17)) (fun _ hk => hk.2) (.slice Ao18 t301.length co18)) (fun _ hk => hk.1.2))⟩, ⟨by (with_reducible repeat (first | refine blk_drewN ?_ _ | refine blk_drew ?_ | refine blk_alloc ?_ _)); refine blk_far ?_ NB295_305.out _; (with_reducible repeat (first | refine blk_drewN ?_ _ | refine blk_drew ?_ | refine blk_alloc ?_ _)); refine blk_far ?_ NB295_305.out _; (with_reducible repeat (first | refine blk_drewN ?_ _ | refine blk_drew ?_ | refine blk_alloc ?_ _)); refine blk_far ?_ NB295_305.out _; (with_reducible repeat (first | refine blk_drewN ?_ _ | refine blk_drew ?_ | refine blk_alloc ?_ _)); refine blk_far ?_ NB295_305.out _; exact zK BK295.out⟩, ⟨by (with_reducible repeat (first | refine blk_drewN ?_ _ | refine blk_drew ?_ | refine blk_alloc ?_ _)); refine blk_put (cs := #[.int .i64 t296, .int .i64 t297, .slice Ao17 t298.length co17, .slice none 0 0]) ?_ 3 _ rfl; (with_reducible repeat (first | refine blk_drewN ?_ _ | refine blk_drew ?_ | refine blk_alloc ?_ _)); refine blk_put (cs := #[.int .i64 t296, .int .i64 t297, .slice none 0 0, .slice none 0 0]) ?_ 2 _ rfl; (with_reducible repeat (first | refine blk_drewN ?_ _ | refine blk_drew ?_ | refine blk_alloc ?_ _)); refine blk_put (cs := #[.int .i64 t296, .int .i64 0, .slice none 0 0, .slice none 0 0]) ?_ 1 _ rfl; (with_reducible repeat (first | refine blk_drewN ?_ _ | refine blk_drew ?_ | refine blk_alloc ?_ _)); refine blk_put (cs := #[.int .i64 0, .int .i64 0, .slice none 0 0, .slice none 0 0]) ?_ 0 _ rfl; exact zK BK305.out⟩, ⟨by exact zB2 HB.out GE295.out GE305.out⟩⟩
   ·rw [if_neg c19] at H
    have c19b0 : (t304 != t294) = false := by simpa using c19
    (try (have c19b1 : decide (t304 = t294) = true := by simpa using c19))
    (try (have c19b2 : (t304 == t294) = true := by simpa using c19))
    clear c19
    (first | rw [c19b0] | (simp only [i64_w, i32_w]; rw [c19b0]) | skip)
    replace H := Option.bind_eq_some_iff.mp H
    obtain ⟨t306, A200, H⟩ := H
    replace H : (if t306 = true then (laws_FnPkgStrict.j0 k t285 t294 t304 (!t304) t286 t287 t288 t291 t296 t297 t298 t301) else (laws_FnPkgStrict.j0 k t285 t294 t304 true t286 t287 t288 t291 t296 t297 t298 t301)) = some r := H
    have A20 := Aside0.mk A200
    clear A200
    by_cases c21 : t306 = true
    ·subst c21
     have H1 : (laws_FnPkgStrict.j0 k t285 t294 t304 (!t304) t286 t287 t288 t291 t296 t297 t298 t301) = some r := by rw [if_pos rfl] at H; exact H
     clear H
     have H := H1
     clear H1
     have H' := Aside0.mk H
     clear H
     have hnb22 := NB305_295.out
     have hnc22 := NB295_305.out
     obtain ⟨hcz23_0, hcz23_1, hcz23_2, hcz23_3, hfz23_0, hfz23_1, hfz23_2, hfz23_3⟩ := zc4f BK305.out
     obtain ⟨hcz24_0, hcz24_1, hcz24_2, hcz24_3, hfz24_0, hfz24_1, hfz24_2, hfz24_3⟩ := zc4f BK295.out
     go_wp2_with (first | (go_at_call 16; (with_reducible refine (laws_luPkg.calls k t296 t297 _ _ t298 _ _ t301 t286 t287 _ _ t288 _ _ t291 true _ ?side1 ?side2 ?side3 ?side4 ?side5 ?side6 ?side7 ?side8 A20.out).mono ?_); (case side1 => refine (Kd.R_reads' (e := 67) (base := w.heap.size) (ok := fun k_ => (True ∧ some k_ ≠ (.slice Ao11 t288.length co11 : Value).ownBlock)) (n := t298.length) (c := co17) ?_).2.2; exact (by exact zR (Kd.R_mono (Kd.R_far (p := ⟨gb305, 3, none⟩) (Kd.R_far (p := ⟨gb305, 2, none⟩) (Kd.R_far (p := ⟨gb305, 1, none⟩) (Kd.R_far (p := ⟨gb305, 0, none⟩) (Kd.R_types HO300.out BK305.out (by decide)) (fun _ hk => hk.2) (.int .i64 t296)) (fun _ hk => hk.2) (.int .i64 t297)) (fun _ hk => hk.2) (.slice Ao17 t298.length co17)) (fun _ hk => hk.2) (.slice Ao18 t301.length co18)) (fun _ h_ => h_.1)))); (case side2 => exact (Kd.R_reads' HO300.out).2.1); (case side3 => refine (Kd.R_reads' (e := 69) (base := w.heap.size) (ok := fun k_ => (True ∧ some k_ ≠ (.slice Ao12 t291.length co12 : Value).ownBlock)) (n := t301.length) (c := co18) ?_).2.2; exact (by exact zR (Kd.R_mono (Kd.R_far (p := ⟨gb305, 3, none⟩) (Kd.R_far (p := ⟨gb305, 2, none⟩) (Kd.R_far (p := ⟨gb305, 1, none⟩) (Kd.R_far (p := ⟨gb305, 0, none⟩) (Kd.R_types HO303.out BK305.out (by decide)) (fun _ hk => hk.2) (.int .i64 t296)) (fun _ hk => hk.2) (.int .i64 t297)) (fun _ hk => hk.2) (.slice Ao17 t298.length co17)) (fun _ hk => hk.2) (.slice Ao18 t301.length co18)) (fun _ h_ => h_.1)))); (case side4 => exact (Kd.R_reads' HO303.out).2.1); (case side5 => refine (Kd.R_reads' (e := 67) (base := w.heap.size) (ok := fun k_ => (True ∧ some k_ ≠ (.slice Ao17 t298.length co17 : Value).ownBlock)) (n := t288.length) (c := co11) ?_).2.2; exact (by exact zR (Kd.R_mono (Kd.R_far (p := ⟨gb305, 3, none⟩) (Kd.R_far (p := ⟨gb305, 2, none⟩) (Kd.R_far (p := ⟨gb305, 1, none⟩) (Kd.R_far (p := ⟨gb305, 0, none⟩) (Kd.R_types HO290.out BK305.out (by decide)) (fun _ hk => hk.2) (.int .i64 t296)) (fun _ hk => hk.2) (.int .i64 t297)) (fun _ hk => hk.2) (.slice Ao17 t298.length co17)) (fun _ hk => hk.2) (.slice Ao18 t301.length co18)) (fun _ h_ => h_.1)))); (case side6 => exact (Kd.R_reads' HO290.out).2.1); (case side7 => refine (Kd.R_reads' (e := 69) (base := w.heap.size) (ok := fun k_ => (True ∧ some k_ ≠ (.slice Ao18 t301.length co18 : Value).ownBlock)) (n := t291.length) (c := co12) ?_).2.2; exact (by exact zR (Kd.R_mono (Kd.R_far (p := ⟨gb305, 3, none⟩) (Kd.R_far (p := ⟨gb305, 2, none⟩) (Kd.R_far (p := ⟨gb305, 1, none⟩) (Kd.R_far (p := ⟨gb305, 0, none⟩) (Kd.R_types HO293.out BK305.out (by decide)) (fun _ hk => hk.2) (.int .i64 t296)) (fun _ hk => hk.2) (.int .i64 t297)) (fun _ hk => hk.2) (.slice Ao17 t298.length co17)) (fun _ hk => hk.2) (.slice Ao18 t301.length co18)) (fun _ h_ => h_.1)))); (case side8 => exact (Kd.R_reads' HO293.out).2.1); rintro e w25 ⟨rfl, hb⟩; have n0_ := Aside0.mk (Kd.R_below (by exact zR (Kd.R_mono (Kd.R_far (p := ⟨gb305, 3, none⟩) (Kd.R_far (p := ⟨gb305, 2, none⟩) (Kd.R_far (p := ⟨gb305, 1, none⟩) (Kd.R_far (p := ⟨gb305, 0, none⟩) (Kd.R_types HO290.out BK305.out (by decide)) (fun _ hk => hk.2) (.int .i64 t296)) (fun _ hk => hk.2) (.int .i64 t297)) (fun _ hk => hk.2) (.slice Ao17 t298.length co17)) (fun _ hk => hk.2) (.slice Ao18 t301.length co18)) (fun _ h_ => h_.1))) hb); have n1_ := Aside0.mk (Kd.R_below (by exact zR (Kd.R_mono (Kd.R_far (p := ⟨gb305, 3, none⟩) (Kd.R_far (p := ⟨gb305, 2, none⟩) (Kd.R_far (p := ⟨gb305, 1, none⟩) (Kd.R_far (p := ⟨gb305, 0, none⟩) (Kd.R_types HO293.out BK305.out (by decide)) (fun _ hk => hk.2) (.int .i64 t296)) (fun _ hk => hk.2) (.int .i64 t297)) (fun _ hk => hk.2) (.slice Ao17 t298.length co17)) (fun _ hk => hk.2) (.slice Ao18 t301.length co18)) (fun _ h_ => h_.1))) hb); have n2_ := Aside0.mk (Kd.R_below (by exact zR (Kd.R_mono (Kd.R_far (p := ⟨gb305, 3, none⟩) (Kd.R_far (p := ⟨gb305, 2, none⟩) (Kd.R_far (p := ⟨gb305, 1, none⟩) (Kd.R_far (p := ⟨gb305, 0, none⟩) (Kd.R_types HO300.out BK305.out (by decide)) (fun _ hk => hk.2) (.int .i64 t296)) (fun _ hk => hk.2) (.int .i64 t297)) (fun _ hk => hk.2) (.slice Ao17 t298.length co17)) (fun _ hk => hk.2) (.slice Ao18 t301.length co18)) (fun _ h_ => h_.1))) hb); have n3_ := Aside0.mk (Kd.R_below (by exact zR (Kd.R_mono (Kd.R_far (p := ⟨gb305, 3, none⟩) (Kd.R_far (p := ⟨gb305, 2, none⟩) (Kd.R_far (p := ⟨gb305, 1, none⟩) (Kd.R_far (p := ⟨gb305, 0, none⟩) (Kd.R_types HO303.out BK305.out (by decide)) (fun _ hk => hk.2) (.int .i64 t296)) (fun _ hk => hk.2) (.int .i64 t297)) (fun _ hk => hk.2) (.slice Ao17 t298.length co17)) (fun _ hk => hk.2) (.slice Ao18 t301.length co18)) (fun _ h_ => h_.1))) hb); have n4_ := Aside0.mk (blk_below (g := gb295) (o := .cells #[.int .i64 t286, .int .i64 t287, .slice Ao11 t288.length co11, .slice Ao12 t291.length co12] 31 (0, 0)) (by (with_reducible repeat (first | refine blk_drewN ?_ _ | refine blk_drew ?_ | refine blk_alloc ?_ _)); refine blk_far ?_ NB295_305.out _; (with_reducible repeat (first | refine blk_drewN ?_ _ | refine blk_drew ?_ | refine blk_alloc ?_ _)); refine blk_far ?_ NB295_305.out _; (with_reducible repeat (first | refine blk_drewN ?_ _ | refine blk_drew ?_ | refine blk_alloc ?_ _)); refine blk_far ?_ NB295_305.out _; (with_reducible repeat (first | refine blk_drewN ?_ _ | refine blk_drew ?_ | refine blk_alloc ?_ _)); refine blk_far ?_ NB295_305.out _; exact zK BK295.out) hb); have n5_ := Aside0.mk (blk_below (g := gb305) (o := .cells #[.int .i64 t296, .int .i64 t297, .slice Ao17 t298.length co17, .slice Ao18 t301.length co18] 31 (0, 0)) (by (with_reducible repeat (first | refine blk_drewN ?_ _ | refine blk_drew ?_ | refine blk_alloc ?_ _)); refine blk_put (cs := #[.int .i64 t296, .int .i64 t297, .slice Ao17 t298.length co17, .slice none 0 0]) ?_ 3 _ rfl; (with_reducible repeat (first | refine blk_drewN ?_ _ | refine blk_drew ?_ | refine blk_alloc ?_ _)); refine blk_put (cs := #[.int .i64 t296, .int .i64 t297, .slice none 0 0, .slice none 0 0]) ?_ 2 _ rfl; (with_reducible repeat (first | refine blk_drewN ?_ _ | refine blk_drew ?_ | refine blk_alloc ?_ _)); refine blk_put (cs := #[.int .i64 t296, .int .i64 0, .slice none 0 0, .slice none 0 0]) ?_ 1 _ rfl; (with_reducible repeat (first | refine blk_drewN ?_ _ | refine blk_drew ?_ | refine blk_alloc ?_ _)); refine blk_put (cs := #[.int .i64 0, .int .i64 0, .slice none 0 0, .slice none 0 0]) ?_ 0 _ rfl; exact zK BK305.out) hb); have n6_ := Aside0.mk (below_step (by exact zB2 HB.out GE295.out GE305.out) hb); clear HO290; clear HO293; clear HO300; clear HO303; clear BK295; clear BK305; clear HB; have HO290 := n0_; have HO293 := n1_; have HO300 := n2_; have HO303 := n3_; have BK295 := n4_; have BK305 := n5_; have HB := n6_; clear n0_ n1_ n2_ n3_ n4_ n5_ n6_; (try clear hb); (try clear hb2); (try clear hk); (try clear hi)))
     go_meet
     case rel => exact ⟨_, (!t304), (by first | rfl | (simp; done) | (simp [*]; done)), H', ⟨by first | omega | exact Nat.le_refl _⟩, ⟨by exact zR (Kd.R_mono HO290.out (fun _ hk => hk.2))⟩, ⟨by exact zR (Kd.R_mono HO293.out (fun _ hk => hk.2))⟩, ⟨by exact zR (Kd.R_mono HO300.out (fun _ hk => hk.2))⟩, ⟨by exact zR (Kd.R_mono HO303.out (fun _ hk => hk.2))⟩, ⟨by exact zK BK295.out⟩, ⟨by exact zK BK305.out⟩, ⟨by exact zB2 HB.out GE295.out GE305.out⟩⟩
    ·replace c21 := Bool.eq_false_iff.mpr c21
     subst c21
     have H1 : (laws_FnPkgStrict.j0 k t285 t294 t304 true t286 t287 t288 t291 t296 t297 t298 t301) = some r := by rw [if_neg (show ¬ (false = true) by decide)] at H; exact H
     clear H
     have H := H1
     clear H1
     have H' := Aside0.mk H
     clear H
     have hnb26 := NB305_295.out
     have hnc26 := NB295_305.out
     obtain ⟨hcz27_0, hcz27_1, hcz27_2, hcz27_3, hfz27_0, hfz27_1, hfz27_2, hfz27_3⟩ := zc4f BK305.out
     obtain ⟨hcz28_0, hcz28_1, hcz28_2, hcz28_3, hfz28_0, hfz28_1, hfz28_2, hfz28_3⟩ := zc4f BK295.out
     go_wp2_with (first | (go_at_call 16; (with_reducible refine (laws_luPkg.calls k t296 t297 _ _ t298 _ _ t301 t286 t287 _ _ t288 _ _ t291 false _ ?side1 ?side2 ?side3 ?side4 ?side5 ?side6 ?side7 ?side8 A20.out).mono ?_); (case side1 => refine (Kd.R_reads' (e := 67) (base := w.heap.size) (ok := fun k_ => (True ∧ some k_ ≠ (.slice Ao11 t288.length co11 : Value).ownBlock)) (n := t298.length) (c := co17) ?_).2.2; exact (by exact zR (Kd.R_mono (Kd.R_far (p := ⟨gb305, 3, none⟩) (Kd.R_far (p := ⟨gb305, 2, none⟩) (Kd.R_far (p := ⟨gb305, 1, none⟩) (Kd.R_far (p := ⟨gb305, 0, none⟩) (Kd.R_types HO300.out BK305.out (by decide)) (fun _ hk => hk.2) (.int .i64 t296)) (fun _ hk => hk.2) (.int .i64 t297)) (fun _ hk => hk.2) (.slice Ao17 t298.length co17)) (fun _ hk => hk.2) (.slice Ao18 t301.length co18)) (fun _ h_ => h_.1)))); (case side2 => exact (Kd.R_reads' HO300.out).2.1); (case side3 => refine (Kd.R_reads' (e := 69) (base := w.heap.size) (ok := fun k_ => (True ∧ some k_ ≠ (.slice Ao12 t291.length co12 : Value).ownBlock)) (n := t301.length) (c := co18) ?_).2.2; exact (by exact zR (Kd.R_mono (Kd.R_far (p := ⟨gb305, 3, none⟩) (Kd.R_far (p := ⟨gb305, 2, none⟩) (Kd.R_far (p := ⟨gb305, 1, none⟩) (Kd.R_far (p := ⟨gb305, 0, none⟩) (Kd.R_types HO303.out BK305.out (by decide)) (fun _ hk => hk.2) (.int .i64 t296)) (fun _ hk => hk.2) (.int .i64 t297)) (fun _ hk => hk.2) (.slice Ao17 t298.length co17)) (fun _ hk => hk.2) (.slice Ao18 t301.length co18)) (fun _ h_ => h_.1)))); (case side4 => exact (Kd.R_reads' HO303.out).2.1); (case side5 => refine (Kd.R_reads' (e := 67) (base := w.heap.size) (ok := fun k_ => (True ∧ some k_ ≠ (.slice Ao17 t298.length co17 : Value).ownBlock)) (n := t288.length) (c := co11) ?_).2.2; exact (by exact zR (Kd.R_mono (Kd.R_far (p := ⟨gb305, 3, none⟩) (Kd.R_far (p := ⟨gb305, 2, none⟩) (Kd.R_far (p := ⟨gb305, 1, none⟩) (Kd.R_far (p := ⟨gb305, 0, none⟩) (Kd.R_types HO290.out BK305.out (by decide)) (fun _ hk => hk.2) (.int .i64 t296)) (fun _ hk => hk.2) (.int .i64 t297)) (fun _ hk => hk.2) (.slice Ao17 t298.length co17)) (fun _ hk => hk.2) (.slice Ao18 t301.length co18)) (fun _ h_ => h_.1)))); (case side6 => exact (Kd.R_reads' HO290.out).2.1); (case side7 => refine (Kd.R_reads' (e := 69) (base := w.heap.size) (ok := fun k_ => (True ∧ some k_ ≠ (.slice Ao18 t301.length co18 : Value).ownBlock)) (n := t291.length) (c := co12) ?_).2.2; exact (by exact zR (Kd.R_mono (Kd.R_far (p := ⟨gb305, 3, none⟩) (Kd.R_far (p := ⟨gb305, 2, none⟩) (Kd.R_far (p := ⟨gb305, 1, none⟩) (Kd.R_far (p := ⟨gb305, 0, none⟩) (Kd.R_types HO293.out BK305.out (by decide)) (fun _ hk => hk.2) (.int .i64 t296)) (fun _ hk => hk.2) (.int .i64 t297)) (fun _ hk => hk.2) (.slice Ao17 t298.length co17)) (fun _ hk => hk.2) (.slice Ao18 t301.length co18)) (fun _ h_ => h_.1)))); (case side8 => exact (Kd.R_reads' HO293.out).2.1); rintro e w29 ⟨rfl, hb⟩; have n0_ := Aside0.mk (Kd.R_below (by exact zR (Kd.R_mono (Kd.R_far (p := ⟨gb305, 3, none⟩) (Kd.R_far (p := ⟨gb305, 2, none⟩) (Kd.R_far (p := ⟨gb305, 1, none⟩) (Kd.R_far (p := ⟨gb305, 0, none⟩) (Kd.R_types HO290.out BK305.out (by decide)) (fun _ hk => hk.2) (.int .i64 t296)) (fun _ hk => hk.2) (.int .i64 t297)) (fun _ hk => hk.2) (.slice Ao17 t298.length co17)) (fun _ hk => hk.2) (.slice Ao18 t301.length co18)) (fun _ h_ => h_.1))) hb); have n1_ := Aside0.mk (Kd.R_below (by exact zR (Kd.R_mono (Kd.R_far (p := ⟨gb305, 3, none⟩) (Kd.R_far (p := ⟨gb305, 2, none⟩) (Kd.R_far (p := ⟨gb305, 1, none⟩) (Kd.R_far (p := ⟨gb305, 0, none⟩) (Kd.R_types HO293.out BK305.out (by decide)) (fun _ hk => hk.2) (.int .i64 t296)) (fun _ hk => hk.2) (.int .i64 t297)) (fun _ hk => hk.2) (.slice Ao17 t298.length co17)) (fun _ hk => hk.2) (.slice Ao18 t301.length co18)) (fun _ h_ => h_.1))) hb); have n2_ := Aside0.mk (Kd.R_below (by exact zR (Kd.R_mono (Kd.R_far (p := ⟨gb305, 3, none⟩) (Kd.R_far (p := ⟨gb305, 2, none⟩) (Kd.R_far (p := ⟨gb305, 1, none⟩) (Kd.R_far (p := ⟨gb305, 0, none⟩) (Kd.R_types HO300.out BK305.out (by decide)) (fun _ hk => hk.2) (.int .i64 t296)) (fun _ hk => hk.2) (.int .i64 t297)) (fun _ hk => hk.2) (.slice Ao17 t298.length co17)) (fun _ hk => hk.2) (.slice Ao18 t301.length co18)) (fun _ h_ => h_.1))) hb); have n3_ := Aside0.mk (Kd.R_below (by exact zR (Kd.R_mono (Kd.R_far (p := ⟨gb305, 3, none⟩) (Kd.R_far (p := ⟨gb305, 2, none⟩) (Kd.R_far (p := ⟨gb305, 1, none⟩) (Kd.R_far (p := ⟨gb305, 0, none⟩) (Kd.R_types HO303.out BK305.out (by decide)) (fun _ hk => hk.2) (.int .i64 t296)) (fun _ hk => hk.2) (.int .i64 t297)) (fun _ hk => hk.2) (.slice Ao17 t298.length co17)) (fun _ hk => hk.2) (.slice Ao18 t301.length co18)) (fun _ h_ => h_.1))) hb); have n4_ := Aside0.mk (blk_below (g := gb295) (o := .cells #[.int .i64 t286, .int .i64 t287, .slice Ao11 t288.length co11, .slice Ao12 t291.length co12] 31 (0, 0)) (by (with_reducible repeat (first | refine blk_drewN ?_ _ | refine blk_drew ?_ | refine blk_alloc ?_ _)); refine blk_far ?_ NB295_305.out _; (with_reducible repeat (first | refine blk_drewN ?_ _ | refine blk_drew ?_ | refine blk_alloc ?_ _)); refine blk_far ?_ NB295_305.out _; (with_reducible repeat (first | refine blk_drewN ?_ _ | refine blk_drew ?_ | refine blk_alloc ?_ _)); refine blk_far ?_ NB295_305.out _; (with_reducible repeat (first | refine blk_drewN ?_ _ | refine blk_drew ?_ | refine blk_alloc ?_ _)); refine blk_far ?_ NB295_305.out _; exact zK BK295.out) hb); have n5_ := Aside0.mk (blk_below (g := gb305) (o := .cells #[.int .i64 t296, .int .i64 t297, .slice Ao17 t298.length co17, .slice Ao18 t301.length co18] 31 (0, 0)) (by (with_reducible repeat (first | refine blk_drewN ?_ _ | refine blk_drew ?_ | refine blk_alloc ?_ _)); refine blk_put (cs := #[.int .i64 t296, .int .i64 t297, .slice Ao17 t298.length co17, .slice none 0 0]) ?_ 3 _ rfl; (with_reducible repeat (first | refine blk_drewN ?_ _ | refine blk_drew ?_ | refine blk_alloc ?_ _)); refine blk_put (cs := #[.int .i64 t296, .int .i64 t297, .slice none 0 0, .slice none 0 0]) ?_ 2 _ rfl; (with_reducible repeat (first | refine blk_drewN ?_ _ | refine blk_drew ?_ | refine blk_alloc ?_ _)); refine blk_put (cs := #[.int .i64 t296, .int .i64 0, .slice none 0 0, .slice none 0 0]) ?_ 1 _ rfl; (with_reducible repeat (first | refine blk_drewN ?_ _ | refine blk_drew ?_ | refine blk_alloc ?_ _)); refine blk_put (cs := #[.int .i64 0, .int .i64 0, .slice none 0 0, .slice none 0 0]) ?_ 0 _ rfl; exact zK BK305.out) hb); have n6_ := Aside0.mk (below_step (by exact zB2 HB.out GE295.out GE305.out) hb); clear HO290; clear HO293; clear HO300; clear HO303; clear BK295; clear BK305; clear HB; have HO290 := n0_; have HO293 := n1_; have HO300 := n2_; have HO303 := n3_; have BK295 := n4_; have BK305 := n5_; have HB := n6_; clear n0_ n1_ n2_ n3_ n4_ n5_ n6_; (try clear hb); (try clear hb2); (try clear hk); (try clear hi)))
     go_meet
     case rel => exact ⟨_, (true), (by first | rfl | (simp; done) | (simp [*]; done)), H', ⟨by first | omega | exact Nat.le_refl _⟩, ⟨by exact zR (Kd.R_mono HO290.out (fun _ hk => hk.2))⟩, ⟨by exact zR (Kd.R_mono HO293.out (fun _ hk => hk.2))⟩, ⟨by exact zR (Kd.R_mono HO300.out (fun _ hk => hk.2))⟩, ⟨by exact zR (Kd.R_mono HO303.out (fun _ hk => hk.2))⟩, ⟨by exact zK BK295.out⟩, ⟨by exact zK BK305.out⟩, ⟨by exact zB2 HB.out GE295.out GE305.out⟩⟩
  case rest =>
   clear HC6
   try clear c1
   try clear c2
   try clear c2b0
   try clear c2b1
   try clear p2
   try clear c7
   try clear c15
   try clear c19
   try clear c19b0
   try clear c19b1
   try clear c19b2
   try clear c21
   try clear c22
   try clear c24
   try clear c25
   try clear c26
   try clear hcz10_0
   try clear hcz10_1
   try clear hcz10_2
   try clear hcz10_3
   try clear hcz16_0
   try clear hcz16_1
   try clear hcz16_2
   try clear hcz16_3
   try clear hcz23_0
   try clear hcz23_1
   try clear hcz23_2
   try clear hcz23_3
   try clear hcz24_0
   try clear hcz24_1
   try clear hcz24_2
   try clear hcz24_3
   try clear hcz27_0
   try clear hcz27_1
   try clear hcz27_2
   try clear hcz27_3
   try clear hcz28_0
   try clear hcz28_1
   try clear hcz28_2
   try clear hcz28_3
   try clear hfz10_0
   try clear hfz10_1
   try clear hfz10_2
   try clear hfz10_3
   try clear hfz16_0
   try clear hfz16_1
   try clear hfz16_2
   try clear hfz16_3
   try clear hfz23_0
   try clear hfz23_1
   try clear hfz23_2
   try clear hfz23_3
   try clear hfz24_0
   try clear hfz24_1
   try clear hfz24_2
   try clear hfz24_3
   try clear hfz27_0
   try clear hfz27_1
   try clear hfz27_2
   try clear hfz27_3
   try clear hfz28_0
   try clear hfz28_1
   try clear hfz28_2
   try clear hfz28_3
   obtain ⟨kq, x35_5, rfl, HA, HJ5, HO_296002, HO_296003, HO_306002, HO_306003, BK295, BK305, HB⟩ := hcut
   cases kq with
   | zero => exact absurd HA.out (by simp [laws_FnPkgStrict.j0])
   | succ kj5 =>
    have H := HA.out
    clear HA
    simp only [laws_FnPkgStrict.j0] at H
    by_cases c30 : x35_5 = true
    ·subst c30
     have H1 : (if (t304 == t294) = true then ((laws_luPkg.f kj5 t296 t297 t298 t301 t286 t287 t288 t291).bind fun t307 => (some t307)) else (none)) = some r := by rw [if_pos rfl] at H; exact H
     clear H
     have H := H1
     clear H1
     by_cases c31 : (t304 == t294) = true
     ·rw [if_pos c31] at H
      have c31b0 : (t304 == t294) = true := c31
      (try (have c31b1 : decide (t304 = t294) = true := by simpa using c31))
      (try (have c31b2 : (t304 == t294) = true := by simpa using c31))
      clear c31
      replace H := Option.bind_eq_some_iff.mp H
      obtain ⟨t307, A320, H⟩ := H
      replace H : (some t307) = some r := H
      have A32 := Aside0.mk A320
      clear A320
      obtain rfl := Option.some.inj H
      have hnb33 := NB305_295.out
      have hnc33 := NB295_305.out
      obtain ⟨hcz34_0, hcz34_1, hcz34_2, hcz34_3, hfz34_0, hfz34_1, hfz34_2, hfz34_3⟩ := zc4f BK305.out
      obtain ⟨hcz35_0, hcz35_1, hcz35_2, hcz35_3, hfz35_0, hfz35_1, hfz35_2, hfz35_3⟩ := zc4f BK295.out
      go_wp2_with (first | (go_at_call 16; (with_reducible refine (laws_luPkg.calls kj5 t296 t297 _ _ t298 _ _ t301 t286 t287 _ _ t288 _ _ t291 t307 _ ?side1 ?side2 ?side3 ?side4 ?side5 ?side6 ?side7 ?side8 A32.out).mono ?_); (case side1 => exact zC (Kd.R_reads' HO_306002.out).2.2); (case side2 => exact (Kd.R_reads' HO_306002.out).2.1); (case side3 => exact zC (Kd.R_reads' HO_306003.out).2.2); (case side4 => exact (Kd.R_reads' HO_306003.out).2.1); (case side5 => exact zC (Kd.R_reads' HO_296002.out).2.2); (case side6 => exact (Kd.R_reads' HO_296002.out).2.1); (case side7 => exact zC (Kd.R_reads' HO_296003.out).2.2); (case side8 => exact (Kd.R_reads' HO_296003.out).2.1); rintro e w36 ⟨rfl, hb⟩; have n0_ := Aside0.mk (Kd.R_below (by exact zR HO_296002.out) hb); have n1_ := Aside0.mk (Kd.R_below (by exact zR HO_296003.out) hb); have n2_ := Aside0.mk (Kd.R_below (by exact zR HO_306002.out) hb); have n3_ := Aside0.mk (Kd.R_below (by exact zR HO_306003.out) hb); have n4_ := Aside0.mk (blk_below (g := gb295) (o := .cells #[.int .i64 t286, .int .i64 t287, .slice Ao11 t288.length co11, .slice Ao12 t291.length co12] 31 (0, 0)) (by exact zK BK295.out) hb); have n5_ := Aside0.mk (blk_below (g := gb305) (o := .cells #[.int .i64 t296, .int .i64 t297, .slice Ao17 t298.length co17, .slice Ao18 t301.length co18] 31 (0, 0)) (by exact zK BK305.out) hb); have n6_ := Aside0.mk (below_step (by exact zB2 HB.out GE295.out GE305.out) hb); clear HO_296002; clear HO_296003; clear HO_306002; clear HO_306003; clear BK295; clear BK305; clear HB; have HO_296002 := n0_; have HO_296003 := n1_; have HO_306002 := n2_; have HO_306003 := n3_; have BK295 := n4_; have BK305 := n5_; have HB := n6_; clear n0_ n1_ n2_ n3_ n4_ n5_ n6_; (try clear hb); (try clear hb2); (try clear hk); (try clear hi)))
      go_ret
      exact ⟨by first | rfl | (simp [errW_none, errW_some] <;> rfl) | (simp [*, errW_none, errW_some] <;> rfl), by exact zB2 HB.out GE295.out GE305.out⟩
     ·rw [if_neg c31] at H
      exact absurd H (by simp)
    ·replace c30 := Bool.eq_false_iff.mpr c30
     subst c30
     have H1 : ((impl_PkgOk.f kj5 t296 t297 t298 t301).bind fun t308 => (if t308 = true then ((impl_PkgText.f kj5 t296 t297 t298 t301).bind fun t309 => (some (t309.toList == t285.toList))) else (none))) = some r := by rw [if_neg (show ¬ (false = true) by decide)] at H; exact H
     clear H
     have H := H1
     clear H1
     replace H := Option.bind_eq_some_iff.mp H
     obtain ⟨t308, A370, H⟩ := H
     replace H : (if t308 = true then ((impl_PkgText.f kj5 t296 t297 t298 t301).bind fun t309 => (some (t309.toList == t285.toList))) else (none)) = some r := H
     have A37 := Aside0.mk A370
     clear A370
     by_cases c38 : t308 = true
     ·subst c38
      have H1 : ((impl_PkgText.f kj5 t296 t297 t298 t301).bind fun t309 => (some (t309.toList == t285.toList))) = some r := by rw [if_pos rfl] at H; exact H
      clear H
      have H := H1
      clear H1
      replace H := Option.bind_eq_some_iff.mp H
      obtain ⟨t309, A390, H⟩ := H
      replace H : (some (t309.toList == t285.toList)) = some r := H
      have A39 := Aside0.mk A390
      clear A390
      obtain rfl := Option.some.inj H
      have hnb40 := NB305_295.out
      have hnc40 := NB295_305.out
      obtain ⟨hcz41_0, hcz41_1, hcz41_2, hcz41_3, hfz41_0, hfz41_1, hfz41_2, hfz41_3⟩ := zc4f BK305.out
      go_wp2_with (first | ((with_reducible refine gate_callee (f := 23) rfl ?_); refine goesL_ (some 45) rfl rfl Tryd.func23 (by kernel_rfl) rfl #[.agg #[.int .i64 t296, .int .i64 t297, .slice Ao17 t298.length co17, .slice Ao18 t301.length co18]] rfl (by (try simp only [zm1, zm2, zm3]); first | done | rfl | (simp only [List.length_drop, List.length_take]; rfl)) ?_; (with_reducible refine (impl_PkgOk.calls kj5 t296 t297 _ _ t298 _ _ t301 true _ ?side1 ?side2 ?side3 ?side4 A37.out).mono ?_); (case side1 => exact zC (Kd.R_reads' HO_306002.out).2.2); (case side2 => exact (Kd.R_reads' HO_306002.out).2.1); (case side3 => exact zC (Kd.R_reads' HO_306003.out).2.2); (case side4 => exact (Kd.R_reads' HO_306003.out).2.1); rintro e w42 ⟨rfl, hb⟩; refine ⟨_, rfl, ?_⟩; have n0_ := Aside0.mk (Kd.R_below (by exact zR HO_296002.out) hb); have n1_ := Aside0.mk (Kd.R_below (by exact zR HO_296003.out) hb); have n2_ := Aside0.mk (Kd.R_below (by exact zR HO_306002.out) hb); have n3_ := Aside0.mk (Kd.R_below (by exact zR HO_306003.out) hb); have n4_ := Aside0.mk (blk_below (g := gb295) (o := .cells #[.int .i64 t286, .int .i64 t287, .slice Ao11 t288.length co11, .slice Ao12 t291.length co12] 31 (0, 0)) (by exact zK BK295.out) hb); have n5_ := Aside0.mk (blk_below (g := gb305) (o := .cells #[.int .i64 t296, .int .i64 t297, .slice Ao17 t298.length co17, .slice Ao18 t301.length co18] 31 (0, 0)) (by exact zK BK305.out) hb); have n6_ := Aside0.mk (below_step (by exact zB2 HB.out GE295.out GE305.out) hb); clear HO_296002; clear HO_296003; clear HO_306002; clear HO_306003; clear BK295; clear BK305; clear HB; have HO_296002 := n0_; have HO_296003 := n1_; have HO_306002 := n2_; have HO_306003 := n3_; have BK295 := n4_; have BK305 := n5_; have HB := n6_; clear n0_ n1_ n2_ n3_ n4_ n5_ n6_; (try clear hb); (try clear hb2); (try clear hk); (try clear hi); obtain ⟨hcz43_0, hcz43_1, hcz43_2, hcz43_3, hfz43_0, hfz43_1, hfz43_2, hfz43_3⟩ := zc4f BK305.out) | (go_at_call 17; (with_reducible refine (impl_PkgText.calls kj5 t296 t297 _ _ t298 _ _ t301 t309 _ ?side1 ?side2 ?side3 ?side4 A39.out).mono ?_); (case side1 => exact zC (Kd.R_reads' HO_306002.out).2.2); (case side2 => exact (Kd.R_reads' HO_306002.out).2.1); (case side3 => exact zC (Kd.R_reads' HO_306003.out).2.2); (case side4 => exact (Kd.R_reads' HO_306003.out).2.1); rintro e w44 ⟨rfl, hb⟩; have n0_ := Aside0.mk (Kd.R_below (by exact zR HO_296002.out) hb); have n1_ := Aside0.mk (Kd.R_below (by exact zR HO_296003.out) hb); have n2_ := Aside0.mk (Kd.R_below (by exact zR HO_306002.out) hb); have n3_ := Aside0.mk (Kd.R_below (by exact zR HO_306003.out) hb); have n4_ := Aside0.mk (blk_below (g := gb295) (o := .cells #[.int .i64 t286, .int .i64 t287, .slice Ao11 t288.length co11, .slice Ao12 t291.length co12] 31 (0, 0)) (by exact zK BK295.out) hb); have n5_ := Aside0.mk (blk_below (g := gb305) (o := .cells #[.int .i64 t296, .int .i64 t297, .slice Ao17 t298.length co17, .slice Ao18 t301.length co18] 31 (0, 0)) (by exact zK BK305.out) hb); have n6_ := Aside0.mk (below_step (by exact zB2 HB.out GE295.out GE305.out) hb); clear HO_296002; clear HO_296003; clear HO_306002; clear HO_306003; clear BK295; clear BK305; clear HB; have HO_296002 := n0_; have HO_296003 := n1_; have HO_306002 := n2_; have HO_306003 := n3_; have BK295 := n4_; have BK305 := n5_; have HB := n6_; clear n0_ n1_ n2_ n3_ n4_ n5_ n6_; (try clear hb); (try clear hb2); (try clear hk); (try clear hi)))
      go_ret
      exact ⟨by first | rfl | (simp [errW_none, errW_some] <;> rfl) | (simp [*, errW_none, errW_some] <;> rfl), by exact zB2 HB.out GE295.out GE305.out⟩
     ·replace c38 := Bool.eq_false_iff.mpr c38
      subst c38
      have H1 : (none) = some r := by rw [if_neg (show ¬ (false = true) by decide)] at H; exact H
      clear H
      have H := H1
      clear H1
      exact absurd H (by simp)

/-- THE ONE PURE STATEMENT of laws_FnPkgStrict: yours. -/
def laws_FnPkgStrict.Pure : Prop := ∀ (l0 : List Int), l0.length ≤ maxLen → l0.length * 1 ≤ 140737488351232 → (∀ x ∈ l0, (Lit.int .u8 x).wf = true) → ∃ k, laws_FnPkgStrict.f k l0 = some true
theorem laws_FnPkgStrict.walk (P : laws_FnPkgStrict.Pure) (a0 : Option Addr) (len0 cap0 : Nat) (z0 : List Int) (w : World) (w0 : (a0 = none ∧ len0 = 0 ∧ cap0 = 0 ∧ z0 = []) ∨ ∃ x, a0 = some x ∧ len0 ≤ cap0 ∧ cap0 ≤ maxLen ∧ z0.length = cap0 ∧ (∀ i, i < z0.length → w.cell? (x.add i) = some (.int .u8 (z0.getD i 0))) ∧ ∀ n ∈ z0, (Lit.int .u8 n).wf = true) (y0 : len0 * 1 ≤ 140737488351232) (hLD : LaidW w) :
  Calls Tryd.prog 7 #[.slice a0 len0 cap0] w fun e w' => e = .returned (.bool true) ∧ Below w.heap.size w w' := by
 obtain ⟨l0, rfl, hr0, hm0, hw0, hc0⟩ := ReadsInt.ofRowC w0
 obtain ⟨k, h⟩ := P l0 hm0 y0 hw0
 refine (laws_FnPkgStrict.calls k _ _ l0 true w (Kd.C_of_reads (d := (0 : Int)) (h1 := fun _ => rfl) hr0) hc0 hLD h).mono ?_
 rintro e w' ⟨rfl, hd⟩
 exact ⟨rfl, hd⟩

end Go.Proofs.YtkjgnnjcjkphbaaDoor.PFnPkgStrict
