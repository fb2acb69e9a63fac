-- printed for this claim by a program out of the translation, its tactics shortened by another
import Derived.Test.YtkjgnnjcjkphbaaGreatDoorPFnExactIndexHasx1
namespace Go.Proofs.YtkjgnnjcjkphbaaGreatDoor.PFnExactIndexHas
open Go.RowKit Go.Proofs.YtkjgnnjcjkphbaaGreatDoorW.PrintWords Go.Proofs.YtkjgnnjcjkphbaaGreatDoorW.PrintLast Go.Proofs.YtkjgnnjcjkphbaaGreatDoorW.PrintMore
attribute [local go_sem] max2_int min2_int max_two min_two max_three min_three max_four min_four   -- for this text's walks alone
set_option linter.unusedVariables false
set_option linter.unusedSimpArgs false

/-! ### spec_PkgRead: function 31 -/
mutual
def spec_PkgRead.l0 : Nat → ByteArray → List ByteArray → Int → Int → Int → List (S71) → List (S73) → Option (Int × Int × (List (S71)) × (List (S73)) × Bool)
 | 0, _, _, _, _, _, _, _ => none
 | k + 1, x0, x4, x6, x152000, x152001, x152002, x152003 => if x6 < (x4.length : Int) then (if 0 ≤ x6 then (if x6 = 0 then (spec_PkgRead.j1 k x0 x4 x6 (rdOf ByteArray.empty x4 x6) (((rdOf ByteArray.empty x4 x6).size : Int) == 2) x152000 x152001 x152002 x152003) else (spec_PkgRead.j1 k x0 x4 x6 (rdOf ByteArray.empty x4 x6) false x152000 x152001 x152002 x152003)) else (none)) else ((spec_PkgText.f k x152000 x152001 x152002 x152003).bind fun t159 => (if t159.toList = x0.toList then (if x0.toList = ([] : List UInt8) then (some (0, 0, ([] : List (S71)), ([] : List (S73)), false)) else (some (x152000, x152001, x152002, x152003, true))) else (some (0, 0, ([] : List (S71)), ([] : List (S73)), false))))
def spec_PkgRead.j1 : Nat → ByteArray → List ByteArray → Int → ByteArray → Bool → Int → Int → List (S71) → List (S73) → Option (Int × Int × (List (S71)) × (List (S73)) × Bool)
 | 0, _, _, _, _, _, _, _, _, _ => none
 | k + 1, x0, x4, x6, x7, x27, x152000, x152001, x152002, x152003 => if x27 = true then (if 0 < (x7.size : Int) then (if 1 < (x7.size : Int) then (spec_PkgRead.l0 k x0 x4 (wrap64 (x6 + 1)) (wrap64 ((wrap64 ((wrap64 (bt x7 0)) - 97)) + 1)) (wrap64 ((wrap64 (bt x7 1)) - 48)) x152002 x152003) else (none)) else (none)) else (if x6 > 0 then (spec_PkgRead.j2 k x0 x4 x6 x7 ((x7.size : Int) == 3) x152000 x152001 x152002 x152003) else (spec_PkgRead.j2 k x0 x4 x6 x7 false x152000 x152001 x152002 x152003))
def spec_PkgRead.j2 : Nat → ByteArray → List ByteArray → Int → ByteArray → Bool → Int → Int → List (S71) → List (S73) → Option (Int × Int × (List (S71)) × (List (S73)) × Bool)
 | 0, _, _, _, _, _, _, _, _, _ => none
 | k + 1, x0, x4, x6, x7, x46, x152000, x152001, x152002, x152003 => if x46 = true then (if 0 < (x7.size : Int) then (if 2 < (x7.size : Int) then (if x152002.length < 8796093022208 then (spec_PkgRead.l0 k x0 x4 (wrap64 (x6 + 1)) x152000 x152001 (x152002 ++ [(⟨wrap64 ((wrap64 (bt x7 0)) - 48), wrap64 ((wrap64 (bt x7 2)) - 48)⟩ : S71)]) x152003) else (none)) else (none)) else (none)) else (if x6 > 0 then (if (x7.size : Int) = 2 then (if 0 < (x7.size : Int) then (if 1 < (x7.size : Int) then (if x152003.length < 8796093022208 then (spec_PkgRead.l0 k x0 x4 (wrap64 (x6 + 1)) x152000 x152001 x152002 (x152003 ++ [(⟨wrap64 ((wrap64 ((wrap64 (bt x7 0)) - 97)) + 1), wrap64 ((wrap64 (bt x7 1)) - 48)⟩ : S73)])) else (none)) else (none)) else (none)) else (spec_PkgRead.l0 k x0 x4 (wrap64 (x6 + 1)) x152000 x152001 x152002 x152003)) else (spec_PkgRead.l0 k x0 x4 (wrap64 (x6 + 1)) x152000 x152001 x152002 x152003))
end
def spec_PkgRead.f (k : Nat) (a0 : ByteArray) : Option (Int × Int × (List (S71)) × (List (S73)) × Bool) := if (a0.size : Int) > 30 then (some (0, 0, ([] : List (S71)), ([] : List (S73)), false)) else ((spec_l1Cut.f a0 32).bind fun t142 => (spec_PkgRead.l0 k a0 t142 0 0 0 (([] : List (S71))) (([] : List (S73)))))
theorem spec_PkgRead.mono_l : ∀ k, (∀ y0 y1 y2 y3 y4 y5 y6, LeO (spec_PkgRead.l0 k y0 y1 y2 y3 y4 y5 y6) (spec_PkgRead.l0 (k + 1) y0 y1 y2 y3 y4 y5 y6)) ∧ (∀ y0 y1 y2 y3 y4 y5 y6 y7 y8, LeO (spec_PkgRead.j1 k y0 y1 y2 y3 y4 y5 y6 y7 y8) (spec_PkgRead.j1 (k + 1) y0 y1 y2 y3 y4 y5 y6 y7 y8)) ∧ (∀ y0 y1 y2 y3 y4 y5 y6 y7 y8, LeO (spec_PkgRead.j2 k y0 y1 y2 y3 y4 y5 y6 y7 y8) (spec_PkgRead.j2 (k + 1) y0 y1 y2 y3 y4 y5 y6 y7 y8))
 | 0 => ⟨fun _ _ _ _ _ _ _ r h => by simp [spec_PkgRead.l0] at h, fun _ _ _ _ _ _ _ _ _ r h => by simp [spec_PkgRead.j1] at h, fun _ _ _ _ _ _ _ _ _ r h => by simp [spec_PkgRead.j2] at h⟩
 | k + 1 => by
  obtain ⟨ih0, ih1, ih2⟩ := spec_PkgRead.mono_l k
  refine ⟨?_, ?_, ?_⟩
  ·intro y0 y1 y2 y3 y4 y5 y6
   unfold spec_PkgRead.l0
   repeat' first
   | (with_reducible exact ih0 _ _ _ _ _ _ _)
   | (with_reducible exact ih1 _ _ _ _ _ _ _ _ _)
   | (with_reducible exact ih2 _ _ _ _ _ _ _ _ _)
   | (with_reducible exact spec_PkgText.mono _ _ _ _ _)
   | (with_reducible exact LeO.refl _)
   | (with_reducible exact LeO.none _)
   | (with_reducible refine LeO.ite ?_ ?_)
   | (with_reducible refine LeO.bind ?_ (fun _ => ?_))
   | exact ih0 _ _ _ _ _ _ _
   | exact ih1 _ _ _ _ _ _ _ _ _
   | exact ih2 _ _ _ _ _ _ _ _ _
   | exact spec_PkgText.mono _ _ _ _ _
   | exact LeO.none _
   | refine LeO.ite ?_ ?_
   | refine LeO.bind ?_ (fun _ => ?_)
  ·intro y0 y1 y2 y3 y4 y5 y6 y7 y8
   unfold spec_PkgRead.j1
   repeat' first
   | (with_reducible exact ih0 _ _ _ _ _ _ _)
   | (with_reducible exact ih1 _ _ _ _ _ _ _ _ _)
   | (with_reducible exact ih2 _ _ _ _ _ _ _ _ _)
   | (with_reducible exact spec_PkgText.mono _ _ _ _ _)
   | (with_reducible exact LeO.refl _)
   | (with_reducible exact LeO.none _)
   | (with_reducible refine LeO.ite ?_ ?_)
   | (with_reducible refine LeO.bind ?_ (fun _ => ?_))
   | exact ih0 _ _ _ _ _ _ _
   | exact ih1 _ _ _ _ _ _ _ _ _
   | exact ih2 _ _ _ _ _ _ _ _ _
   | exact spec_PkgText.mono _ _ _ _ _
   | exact LeO.none _
   | refine LeO.ite ?_ ?_
   | refine LeO.bind ?_ (fun _ => ?_)
  ·intro y0 y1 y2 y3 y4 y5 y6 y7 y8
   unfold spec_PkgRead.j2
   repeat' first
   | (with_reducible exact ih0 _ _ _ _ _ _ _)
   | (with_reducible exact ih1 _ _ _ _ _ _ _ _ _)
   | (with_reducible exact ih2 _ _ _ _ _ _ _ _ _)
   | (with_reducible exact spec_PkgText.mono _ _ _ _ _)
   | (with_reducible exact LeO.refl _)
   | (with_reducible exact LeO.none _)
   | (with_reducible refine LeO.ite ?_ ?_)
   | (with_reducible refine LeO.bind ?_ (fun _ => ?_))
   | exact ih0 _ _ _ _ _ _ _
   | exact ih1 _ _ _ _ _ _ _ _ _
   | exact ih2 _ _ _ _ _ _ _ _ _
   | exact spec_PkgText.mono _ _ _ _ _
   | exact LeO.none _
   | refine LeO.ite ?_ ?_
   | refine LeO.bind ?_ (fun _ => ?_)
theorem spec_PkgRead.mono : ∀ a0 k, LeO (spec_PkgRead.f k a0) (spec_PkgRead.f (k + 1) a0) := by
 intro a0 k
 obtain ⟨ih0, ih1, ih2⟩ := spec_PkgRead.mono_l k
 unfold spec_PkgRead.f
 repeat' with_reducible first | apply ih0 | apply ih1 | apply ih2 | apply spec_PkgText.mono | exact LeO.refl _ | exact LeO.none _ | refine LeO.ite ?_ ?_ | refine LeO.bind ?_ (fun _ => ?_)
def spec_PkgRead.T13 : Bool × List (List Nat × List Nat) := (true, [([], []), ([0], [0]), ([], []), ([2], [2]), ([3], [3]), ([4], [4]), ([], []), ([6], [6]), ([7], [7]), ([8], [8]), ([5, 9], [5, 9]), ([10], [10]), ([1, 11], [1, 11]), ([0, 1, 2, 3, 4, 5, 6, 7, 8, 9, 10, 11, 12], []), ([13, 12, 12, 0, 1, 2, 3, 4, 5, 6, 7, 8, 9, 10, 11, 12], [12, 13])])
def spec_PkgRead.B13 : List Nat := [0, 1, 0, 4, 12, 28, 0, 64, 192, 448, 1020, 2044, 4095, 8191, 16383]
theorem spec_PkgRead.tab13 : rtab .any (opsOf Tryz.f31 13) = spec_PkgRead.T13 := by kernel_rfl
theorem spec_PkgRead.bits13 : waitsOk spec_PkgRead.T13.2 spec_PkgRead.B13 = true := by kernel_rfl
def spec_PkgRead.T15 : Bool × List (List Nat × List Nat) := (true, [([], []), ([0], [0]), ([], []), ([2], [2]), ([3], [3]), ([4], [4]), ([5], [5]), ([], []), ([7], [7]), ([8], [8]), ([9], [9]), ([6, 10], [6, 10]), ([11], [11]), ([1, 12], [1, 12]), ([0, 1, 2, 3, 4, 5, 6, 7, 8, 9, 10, 11, 12, 13], []), ([14, 13, 13, 0, 1, 2, 3, 4, 5, 6, 7, 8, 9, 10, 11, 12, 13], [13, 14])])
def spec_PkgRead.B15 : List Nat := [0, 1, 0, 4, 12, 28, 60, 0, 128, 384, 896, 2044, 4092, 8191, 16383, 32767]
theorem spec_PkgRead.tab15 : rtab .any (opsOf Tryz.f31 15) = spec_PkgRead.T15 := by kernel_rfl
theorem spec_PkgRead.bits15 : waitsOk spec_PkgRead.T15.2 spec_PkgRead.B15 = true := by kernel_rfl
set_option maxHeartbeats 8000000 in
set_option maxRecDepth 100000 in
theorem spec_PkgRead.calls (k : Nat) (a0 : ByteArray) (r1 : Int) (r2 : Int) (r3 : List (S71)) (r4 : List (S73)) (r5 : Bool) (w : World) (h : spec_PkgRead.f k a0 = some (r1, r2, r3, r4, r5)) :
  Calls Tryz.prog 31 #[.string a0] w fun e w' => ∃ v2_ v3_ : Value, e = .returned (.tuple #[.agg #[.int .i64 r1, .int .i64 r2, v2_, v3_], .bool r5]) ∧ Kd.R k71 71 w' w.heap.size (fun _ => True) v2_ r3 ∧ Kd.R k73 73 w' w.heap.size (fun _ => True) v3_ r4 ∧ Below w.heap.size w w' := by
 have hu29 := Tryz.underlying29; have hu71 := Tryz.underlying71; have hu73 := Tryz.underlying73; have HB := aM (Below.refl w.heap.size w); have H : (if (a0.size : Int) > 30 then (some (0, 0, ([] : List (S71)), ([] : List (S73)), false)) else ((spec_l1Cut.f a0 32).bind fun t142 => (spec_PkgRead.l0 k a0 t142 0 0 0 (([] : List (S71))) (([] : List (S73)))))) = some (r1, r2, r3, r4, r5) := h; clear h
 by_cases c2 : (a0.size : Int) > 30
 ·rw [if_pos c2] at H; have c2b0 : decide (30 < (a0.size : Int)) = true := decide_eq_true c2; have c2b1 : decide (30 < a0.size) = true := decide_eq_true (by omega); clear c2; simp only [Option.some.injEq, Prod.mk.injEq] at H; obtain ⟨rfl, rfl, rfl, rfl, rfl⟩ := H
  go_enter Tryz.func31, Tryz.ntmps31
  go_wp2_with (first | ((with_reducible refine gate_dst (N := 2) rfl ?_); (try (refine gate_guard (by rfl) ?_; dsimp only)); refine box_event ?hg (N := 2) ?hd (cs := #[.int .i64 0, .int .i64 0, .slice none 0 0, .slice none 0 0]) (t := 29) ?hr ?_; (case hd => rfl); (case hg => rfl); (case hr => first | (go_simp; done) | (go_simp; rfl)); intro gb141 hg w3 hbox hb; have _ := aM (below_step (zB HB.1) hb); have _ := aM (hbox); have _ := aM (zge hg (zB HB.1)); have _ := aM (zge hg (zB HB.1)); clear HB; rename_i HB BK141 GW141 GE141; clear hb hbox hg; obtain ⟨hcz4_0, hcz4_1, hcz4_2, hcz4_3, hfz4_0, hfz4_1, hfz4_2, hfz4_3⟩ := zc4f BK141.1))
  refine bodyPost_ret (results_ct rfl _ _ gb141 29 #[.int .i64 0, .int .i64 0, .slice none 0 0, .slice none 0 0] (0, 0) _ rfl (by exact zP BK141.1 (by rfl)) Tryz.underlying29 rfl (by kernel_rfl)) rfl ?_; exact ⟨_, _, by first | rfl | (simp [errW_none, errW_some] <;> rfl) | (simp [*, errW_none, errW_some] <;> rfl), by first | exact Kd.R_nil _ _ _ _ _ | exact Kd.N_nil _ _ _ _ _ | exact Kd.V_nil _ _ _ _ _ | exact Kd.Q_nil _ _ _ _ _ | exact Kd.S_nil _ _ _ _ _, by first | exact Kd.R_nil _ _ _ _ _ | exact Kd.N_nil _ _ _ _ _ | exact Kd.V_nil _ _ _ _ _ | exact Kd.Q_nil _ _ _ _ _ | exact Kd.S_nil _ _ _ _ _, by exact zB1 HB.1 GE141.1⟩
 ·rw [if_neg c2] at H; have c2b0 : decide (30 < (a0.size : Int)) = false := decide_eq_false c2; have c2b1 : decide (30 < a0.size) = false := decide_eq_false (by omega); clear c2; replace H := Option.bind_eq_some_iff.mp H; obtain ⟨t142, A50, H⟩ := H; (try dsimp only at H); have A5 := aM A50; clear A50; obtain ⟨y145, hy145⟩ : ∃ y_ : List (S71), y_ = (([] : List (S71))) := ⟨_, rfl⟩
  replace H : (spec_PkgRead.l0 k a0 t142 0 0 0 y145 (([] : List (S73)))) = some (r1, r2, r3, r4, r5) := by first | (rw [hy145]; with_reducible exact H) | (have H2_ := (Option.bind_some _ _).symm.trans H; rw [hy145]; with_reducible exact H2_) | (have H2_ := (Option.bind_some _ _).symm.trans H; with_reducible exact H2_) | with_reducible exact H | (rw [hy145]; exact H) | exact H
  have Ny145 := aM hy145; clear hy145; obtain ⟨y148, hy148⟩ : ∃ y_ : List (S73), y_ = (([] : List (S73))) := ⟨_, rfl⟩
  replace H : (spec_PkgRead.l0 k a0 t142 0 0 0 y145 y148) = some (r1, r2, r3, r4, r5) := by first | (rw [hy148]; with_reducible exact H) | (have H2_ := (Option.bind_some _ _).symm.trans H; rw [hy148]; with_reducible exact H2_) | (have H2_ := (Option.bind_some _ _).symm.trans H; with_reducible exact H2_) | with_reducible exact H | (rw [hy148]; exact H) | exact H
  have Ny148 := aM hy148; clear hy148; have H' := aM H; clear H
  go_enter Tryz.func31, Tryz.ntmps31
  go_wp2_with (first | ((with_reducible refine gate_dst (N := 2) rfl ?_); (try (refine gate_guard (by rfl) ?_; dsimp only)); refine box_event ?hg (N := 2) ?hd (cs := #[.int .i64 0, .int .i64 0, .slice none 0 0, .slice none 0 0]) (t := 29) ?hr ?_; (case hd => rfl); (case hg => rfl); (case hr => first | (go_simp; done) | (go_simp; rfl)); intro gb141 hg w6 hbox hb; have _ := aM (below_step (zB HB.1) hb); have _ := aM (hbox); have _ := aM (zge hg (zB HB.1)); have _ := aM (zge hg (zB HB.1)); clear HB; rename_i HB BK141 GW141 GE141; clear hb hbox hg) | ((with_reducible refine gate_callee (f := 48) rfl ?_); refine zgL (some 13) Tryz.func48 #[.string a0, .int .u8 32] ?_; (with_reducible refine (spec_l1Cut.calls a0 32 t142 _ A5.1).mono ?_); rintro e w7 ⟨v143, rfl, ho0, hb⟩; refine ⟨_, rfl, ?_⟩; have _ := aM (Kd.R_lower ho0 (below_size (zB1 HB.1 GE141.1))); have _ := aM (blk_below (zK BK141.1) hb); have _ := aM (below_step (zB1 HB.1 GE141.1) hb); clear BK141 HB; rename_i HO144 BK141 HB; (try clear hb); (try clear hb2); (try clear hk); (try clear hi); (try clear ho0)) | ((with_reducible refine gate_dst (N := 14) rfl ?_); (try (refine gate_guard (by rfl) ?_; dsimp only)); refine Kd.R_lit k71 _ 71 ?hg (N := 14) ?hd (xs := ([] : List (S71))) (inner := []) (ok := fun _ => True) (okp := fun _ => True) ?hr ?hp (fun _ hk => hk) trivial (Below.refl _ _) (Nat.le_refl _) (by simp) ?_; (case hd => rfl); (case hg => rfl); (case hr => first | (go_simp; done) | (go_simp; rfl)); (case hp => exact (Reps.none _ _)); intro v146 w8 ho9 hb hg_ hnew_; clear hg_ hnew_; (first | rw [← Ny145.1] at ho9 | (simp only [Int.reduceToNat] at ho9; rw [← Ny145.1] at ho9)); have _ := aM (Kd.R_below (zR HO144.1) hb); have _ := aM (Kd.R_lower ho9 (below_size (zB1 HB.1 GE141.1))); have _ := aM (blk_below (zK BK141.1) hb); have _ := aM (below_step (zB1 HB.1 GE141.1) hb); clear HO144 BK141 HB; rename_i HO144 HO147 BK141 HB; clear hb ho9) | ((with_reducible refine gate_dst (N := 15) rfl ?_); (try (refine gate_guard (by rfl) ?_; dsimp only)); refine Kd.R_lit k73 _ 73 ?hg (N := 15) ?hd (xs := ([] : List (S73))) (inner := []) (ok := fun _ => True) (okp := fun _ => True) ?hr ?hp (fun _ hk => hk) trivial (Below.refl _ _) (Nat.le_refl _) (by simp) ?_; (case hd => rfl); (case hg => rfl); (case hr => first | (go_simp; done) | (go_simp; rfl)); (case hp => exact (Reps.none _ _)); intro v149 w10 ho11 hb hg_ hnew_; clear hg_ hnew_; (first | rw [← Ny148.1] at ho11 | (simp only [Int.reduceToNat] at ho11; rw [← Ny148.1] at ho11)); have _ := aM (Kd.R_below (zR HO144.1) hb); have _ := aM (Kd.R_below (zR HO147.1) hb); have _ := aM (Kd.R_lower ho11 (below_size (zB1 HB.1 GE141.1))); have _ := aM (blk_below (zK BK141.1) hb); have _ := aM (below_step (zB1 HB.1 GE141.1) hb); clear HO144 HO147 BK141 HB; rename_i HO144 HO147 HO150 BK141 HB; clear hb ho11; obtain ⟨Ao12, co12, eo12⟩ := Kd.R_slice HO150.1; subst eo12; obtain ⟨Ao13, co13, eo13⟩ := Kd.R_slice HO147.1; subst eo13) | ((with_reducible refine gate_dst (N := 5) rfl ?_); (try (refine gate_guard (by rfl) ?_; dsimp only)); refine box_event ?hg (N := 5) ?hd (cs := #[.int .i64 0, .int .i64 0, .slice none 0 0, .slice none 0 0]) (t := 29) ?hr ?_; (case hd => rfl); (case hg => rfl); (case hr => first | (go_simp; done) | (go_simp; rfl)); intro gb151 hg w14 hbox hb; have _ := aM (Kd.R_below (zR HO144.1) hb); have _ := aM (Kd.R_below (zR HO147.1) hb); have _ := aM (Kd.R_below (zR HO150.1) hb); have _ := aM (blk_below (zK BK141.1) hb); have _ := aM (below_step (zB1 HB.1 GE141.1) hb); have _ := aM (hbox); have _ := aM (zge hg (zB1 HB.1 GE141.1)); have _ := aM (zge hg (zB1 HB.1 GE141.1)); have _ := aM (znl hg (zK BK141.1)); have _ := aM (zng hg (zK BK141.1)); clear HO144 HO147 HO150 BK141 HB; rename_i HO144 HO147 HO150 BK141 HB BK151 GW151 GE151 NB141_151 NB151_141; clear hb hbox hg; have hnb15 := NB151_141.1; have hnc15 := NB141_151.1; obtain ⟨hcz16_0, hcz16_1, hcz16_2, hcz16_3, hfz16_0, hfz16_1, hfz16_2, hfz16_3⟩ := zc4f BK151.1))
  go_loopg [6] k (fun kq v6 w' => ∃ (x6_1 : Int) (x152000_1 : Int) (x152001_1 : Int) (x152002_1 : List (S71)) (x152003_1 : List (S73)) (u152002 : Value) (u152003 : Value), v6 = .int .i64 x6_1 ∧ Aside0 (spec_PkgRead.l0 kq a0 t142 x6_1 x152000_1 x152001_1 x152002_1 x152003_1 = some (r1, r2, r3, r4, r5)) ∧ Aside0 (kq ≤ k) ∧ Aside0 (Kd.R Kd.string 9 w' w.heap.size (fun _ => True) v143 t142) ∧ Aside0 (Kd.R k71 71 w' w.heap.size (fun _ => True) u152002 x152002_1) ∧ Aside0 (Kd.R k73 73 w' w.heap.size (fun _ => True) u152003 x152003_1) ∧ Aside0 (w'.heap[gb141]? = some (.cells #[.int .i64 0, .int .i64 0, (.slice none 0 0), (.slice none 0 0)] 29 (0, 0))) ∧ Aside0 (w'.heap[gb151]? = some (.cells #[.int .i64 x152000_1, .int .i64 x152001_1, u152002, u152003] 29 (0, 0))) ∧ Aside0 (Below w.heap.size w w'))
  case atStart => exact ⟨(0), (0), (0), (y145), (y148), (.slice Ao13 y145.length co13), (.slice Ao12 y148.length co12), (by first | rfl | (simp; done) | (simp [*]; done)), H', ⟨Nat.le_refl _⟩, ⟨by exact (Kd.R_mono (zFR (g := gb151) (Kd.R_types HO144.1 BK151.1 (by decide)) (fun _ hk => hk.2)) (fun _ hk => trivial))⟩, ⟨by exact (Kd.R_mono (zFR (g := gb151) (Kd.R_types HO147.1 BK151.1 (by decide)) (fun _ hk => hk.2)) (fun _ hk => trivial))⟩, ⟨by exact (Kd.R_mono (zFR (g := gb151) (Kd.R_types HO150.1 BK151.1 (by decide)) (fun _ hk => hk.2)) (fun _ hk => trivial))⟩, ⟨zK1 BK141.1 NB141_151.1⟩, ⟨by exact zP BK151.1 (by rfl)⟩, ⟨zB2 HB.1 GE141.1 GE151.1⟩⟩
  case round =>
   clear H'
   try clear c1
   try clear c2
   try clear c2b0
   try clear c2b1
   try clear p2
   try clear c3
   try clear c4
   try clear c15
   try clear hcz16_0
   try clear hcz16_1
   try clear hcz16_2
   try clear hcz16_3
   try clear hcz4_0
   try clear hcz4_1
   try clear hcz4_2
   try clear hcz4_3
   try clear hfz16_0
   try clear hfz16_1
   try clear hfz16_2
   try clear hfz16_3
   try clear hfz4_0
   try clear hfz4_1
   try clear hfz4_2
   try clear hfz4_3
   obtain ⟨x6_1, x152000_1, x152001_1, x152002_1, x152003_1, u152002, u152003, rfl, HA, HK1, HO_4, HO_152002, HO_152003, BK141, BK151, HB⟩ := hrel; cases gk with
   | zero => exact absurd HA.1 (by simp [spec_PkgRead.l0])
   | succ k1 =>
    have H := HA.1; clear HA; simp only [spec_PkgRead.l0] at H
    by_cases c17 : x6_1 < (t142.length : Int)
    ·rw [if_pos c17] at H; have c17b0 : decide (x6_1 < (t142.length : Int)) = true := decide_eq_true c17; clear c17; replace H := zif H; obtain ⟨c18, H⟩ := H; have c18b0 : decide (0 ≤ x6_1) = true := decide_eq_true c18; clear c18; have HC19 := aM H; clear H; obtain ⟨Ao20, co20, eo20⟩ := Kd.R_slice HO_4.1; subst eo20; have p152 : 0 ≤ (x6_1 : Int) := zd; have q152 : x6_1 < (t142.length : Int) := zd; obtain ⟨ad152, e152, hx152_0⟩ := Kd.at_string (Kd.R_reads' HO_4.1).2.2 x6_1 p152 q152; cases e152; replace p152 := eq_true p152; replace q152 := eq_true q152
     go_upto_region 9 with (fail)
     go_cut [27] (fun v27 wc => ∃ (kq : Nat) (x27_18 : Bool), v27 = .bool x27_18 ∧ Aside0 (spec_PkgRead.j1 kq a0 t142 x6_1 (rdOf ByteArray.empty t142 x6_1) x27_18 x152000_1 x152001_1 x152002_1 x152003_1 = some (r1, r2, r3, r4, r5)) ∧ Aside0 (kq ≤ k1) ∧ Aside0 (Kd.R Kd.string 9 wc w.heap.size (fun _ => True) (.slice (some ad152) t142.length co20) t142) ∧ Aside0 (Kd.R k71 71 wc w.heap.size (fun _ => True) u152002 x152002_1) ∧ Aside0 (Kd.R k73 73 wc w.heap.size (fun _ => True) u152003 x152003_1) ∧ Aside0 (wc.heap[gb141]? = some (.cells #[.int .i64 0, .int .i64 0, (.slice none 0 0), (.slice none 0 0)] 29 (0, 0))) ∧ Aside0 (wc.heap[gb151]? = some (.cells #[.int .i64 x152000_1, .int .i64 x152001_1, u152002, u152003] 29 (0, 0))) ∧ Aside0 (Below w.heap.size w wc))
     case first =>
      have H := HC19.1; clear HC19
      by_cases c21 : x6_1 = 0
      ·rw [if_pos c21] at H; have c21b0 : (x6_1 == 0) = true := beq_iff_eq.mpr c21; have c21b1 : (x6_1 != 0) = false := bne_eq_false_iff_eq.mpr c21; clear c21; (first | rw [c21b0] | (simp only [i64_w, i32_w]; rw [c21b0]) | skip); have H' := aM H; clear H
       go_wp2
       go_meet
       case rel => exact ⟨_, ((((rdOf ByteArray.empty t142 x6_1).size : Int) == 2)), (by first | rfl | (simp; done) | (simp [*]; done)), H', ⟨by have := HK1.1; first | omega | exact Nat.le_refl _⟩, ⟨zR HO_4.1⟩, ⟨zR HO_152002.1⟩, ⟨zR HO_152003.1⟩, ⟨zK BK141.1⟩, ⟨zK BK151.1⟩, ⟨zB2 HB.1 GE141.1 GE151.1⟩⟩
      ·rw [if_neg c21] at H; have c21b0 : (x6_1 == 0) = false := beq_eq_false_iff_ne.mpr c21; have c21b1 : (x6_1 != 0) = true := bne_iff_ne.mpr c21; (first | rw [c21b0] | (simp only [i64_w, i32_w]; rw [c21b0]) | skip); have H' := aM H; clear H
       go_wp2
       go_meet
       case rel => exact ⟨_, (false), (by first | rfl | (simp; done) | (simp [*]; done)), H', ⟨by have := HK1.1; first | omega | exact Nat.le_refl _⟩, ⟨zR HO_4.1⟩, ⟨zR HO_152002.1⟩, ⟨zR HO_152003.1⟩, ⟨zK BK141.1⟩, ⟨zK BK151.1⟩, ⟨zB2 HB.1 GE141.1 GE151.1⟩⟩
     case rest =>
      clear HC19
      try clear c1
      try clear p1
      try clear q1
      try clear hx1
      try clear c2
      try clear c2b0
      try clear c2b1
      try clear p2
      try clear c3
      try clear c4
      try clear c15
      try clear p15
      try clear q15
      try clear hx15
      try clear c17
      try clear c17b0
      try clear c18
      try clear c18b0
      try clear c21
      try clear c21b0
      try clear c21b1
      try clear hcz16_0
      try clear hcz16_1
      try clear hcz16_2
      try clear hcz16_3
      try clear hcz4_0
      try clear hcz4_1
      try clear hcz4_2
      try clear hcz4_3
      try clear hfz16_0
      try clear hfz16_1
      try clear hfz16_2
      try clear hfz16_3
      try clear hfz4_0
      try clear hfz4_1
      try clear hfz4_2
      try clear hfz4_3
      try clear hx152_0
      try clear p152
      try clear p2
      try clear q152
      obtain ⟨kq, x27_18, rfl, HA, HJ18, HO_4, HO_152002, HO_152003, BK141, BK151, HB⟩ := hcut; cases kq with
      | zero => exact absurd HA.1 (by simp [spec_PkgRead.j1])
      | succ kj18 =>
       have H := HA.1; clear HA; simp only [spec_PkgRead.j1] at H
       by_cases c22 : x27_18 = true
       ·subst c22; replace H := zy1 H; replace H := zif H; obtain ⟨c23, H⟩ := H; have c23b0 : decide (0 < ((rdOf ByteArray.empty t142 x6_1).size : Int)) = true := decide_eq_true c23; have c23b1 : decide (0 < (rdOf ByteArray.empty t142 x6_1).size) = true := decide_eq_true (by omega); clear c23; replace H := zif H; obtain ⟨c25, H⟩ := H; have c25b0 : decide (1 < ((rdOf ByteArray.empty t142 x6_1).size : Int)) = true := decide_eq_true c25; have c25b1 : decide (1 < (rdOf ByteArray.empty t142 x6_1).size) = true := decide_eq_true (by omega); clear c25; have H' := aM H; clear H; have p24 : 0 ≤ (0 : Int) := (by omega); have q24 : 0 < (rdOf ByteArray.empty t142 x6_1).size := (by have : (0 : Int) < ((rdOf ByteArray.empty t142 x6_1).size : Int) := zd; omega); have hx24 : ∀ h : 0 < (rdOf ByteArray.empty t142 x6_1).size, (((rdOf ByteArray.empty t142 x6_1)[0]'h).toNat : Int) = bt (rdOf ByteArray.empty t142 x6_1) 0 := bt_at (rdOf ByteArray.empty t142 x6_1) 0; clear p24; have qi24 : (0 < ((rdOf ByteArray.empty t142 x6_1).size : Int)) = True := eq_true (zd); replace q24 := eq_true q24; have hnb27 := NB151_141.1; have hnc27 := NB141_151.1; obtain ⟨hcz28_0, hcz28_1, hcz28_2, hcz28_3, hfz28_0, hfz28_1, hfz28_2, hfz28_3⟩ := zc4f BK151.1; have p26 : 0 ≤ (1 : Int) := (by omega); have q26 : 1 < (rdOf ByteArray.empty t142 x6_1).size := (by have : (1 : Int) < ((rdOf ByteArray.empty t142 x6_1).size : Int) := zd; omega); have hx26 : ∀ h : 1 < (rdOf ByteArray.empty t142 x6_1).size, (((rdOf ByteArray.empty t142 x6_1)[1]'h).toNat : Int) = bt (rdOf ByteArray.empty t142 x6_1) 1 := bt_at (rdOf ByteArray.empty t142 x6_1) 1; clear p26; have qi26 : (1 < ((rdOf ByteArray.empty t142 x6_1).size : Int)) = True := eq_true (zd); replace q26 := eq_true q26
        go_wp2
        go_roundg kj18
        case measure => have := HK1.1; have := HJ18.1; omega
        case rel => exact ⟨(wrap64 (x6_1 + 1)), (wrap64 ((wrap64 ((wrap64 (bt (rdOf ByteArray.empty t142 x6_1) 0)) - 97)) + 1)), (wrap64 ((wrap64 (bt (rdOf ByteArray.empty t142 x6_1) 1)) - 48)), (x152002_1), (x152003_1), (u152002), (u152003), (by first | rfl | (simp; done) | (simp [*]; done)), H', ⟨by have := HK1.1; have := HJ18.1; omega⟩, ⟨by exact (Kd.R_mono (zFR (g := gb151) (Kd.R_types HO_4.1 BK151.1 (by decide)) (fun _ hk => hk.2)) (fun _ hk => trivial))⟩, ⟨by exact (Kd.R_mono (zFR (g := gb151) (Kd.R_types HO_152002.1 BK151.1 (by decide)) (fun _ hk => hk.2)) (fun _ hk => trivial))⟩, ⟨by exact (Kd.R_mono (zFR (g := gb151) (Kd.R_types HO_152003.1 BK151.1 (by decide)) (fun _ hk => hk.2)) (fun _ hk => trivial))⟩, ⟨zK1 BK141.1 NB141_151.1⟩, ⟨by exact zP BK151.1 (by rfl)⟩, ⟨zB2 HB.1 GE141.1 GE151.1⟩⟩
       ·replace c22 := Bool.eq_false_iff.mpr c22; subst c22; replace H := zy0 H; have HC29 := aM H; clear H
        go_upto_region 12 with (fail)
        go_cut [46] (fun v46 wc => ∃ (kq : Nat) (x46_28 : Bool), v46 = .bool x46_28 ∧ Aside0 (spec_PkgRead.j2 kq a0 t142 x6_1 (rdOf ByteArray.empty t142 x6_1) x46_28 x152000_1 x152001_1 x152002_1 x152003_1 = some (r1, r2, r3, r4, r5)) ∧ Aside0 (kq ≤ kj18) ∧ Aside0 (Kd.R Kd.string 9 wc w.heap.size (fun _ => True) (.slice (some ad152) t142.length co20) t142) ∧ Aside0 (Kd.R k71 71 wc w.heap.size (fun _ => True) u152002 x152002_1) ∧ Aside0 (Kd.R k73 73 wc w.heap.size (fun _ => True) u152003 x152003_1) ∧ Aside0 (wc.heap[gb141]? = some (.cells #[.int .i64 0, .int .i64 0, (.slice none 0 0), (.slice none 0 0)] 29 (0, 0))) ∧ Aside0 (wc.heap[gb151]? = some (.cells #[.int .i64 x152000_1, .int .i64 x152001_1, u152002, u152003] 29 (0, 0))) ∧ Aside0 (Below w.heap.size w wc))
        case first =>
         have H := HC29.1; clear HC29
         by_cases c30 : x6_1 > 0
         ·rw [if_pos c30] at H; have c30b0 : decide (0 < x6_1) = true := decide_eq_true c30; clear c30; (first | rw [c30b0] | (simp only [i64_w, i32_w]; rw [c30b0]) | skip); have H' := aM H; clear H
          go_wp2
          go_meet
          case rel => exact ⟨_, ((((rdOf ByteArray.empty t142 x6_1).size : Int) == 3)), (by first | rfl | (simp; done) | (simp [*]; done)), H', ⟨by have := HK1.1; have := HJ18.1; first | omega | exact Nat.le_refl _⟩, ⟨zR HO_4.1⟩, ⟨zR HO_152002.1⟩, ⟨zR HO_152003.1⟩, ⟨zK BK141.1⟩, ⟨zK BK151.1⟩, ⟨zB2 HB.1 GE141.1 GE151.1⟩⟩
         ·rw [if_neg c30] at H; have c30b0 : decide (0 < x6_1) = false := decide_eq_false c30; clear c30; (first | rw [c30b0] | (simp only [i64_w, i32_w]; rw [c30b0]) | skip); have H' := aM H; clear H
          go_wp2
          go_meet
          case rel => exact ⟨_, (false), (by first | rfl | (simp; done) | (simp [*]; done)), H', ⟨by have := HK1.1; have := HJ18.1; first | omega | exact Nat.le_refl _⟩, ⟨zR HO_4.1⟩, ⟨zR HO_152002.1⟩, ⟨zR HO_152003.1⟩, ⟨zK BK141.1⟩, ⟨zK BK151.1⟩, ⟨zB2 HB.1 GE141.1 GE151.1⟩⟩
        case rest =>
         clear HC29
         try clear c1
         try clear p1
         try clear q1
         try clear hx1
         try clear c2
         try clear c2b0
         try clear c2b1
         try clear p2
         try clear q2
         try clear hx2
         try clear qi2
         try clear c3
         try clear c4
         try clear p6
         try clear c15
         try clear p15
         try clear q15
         try clear hx15
         try clear c17
         try clear c17b0
         try clear c18
         try clear c18b0
         try clear c21
         try clear c21b0
         try clear c21b1
         try clear c22
         try clear c23
         try clear c23b0
         try clear c23b1
         try clear p24
         try clear q24
         try clear hx24
         try clear qi24
         try clear c25
         try clear c25b0
         try clear c25b1
         try clear p26
         try clear q26
         try clear hx26
         try clear qi26
         try clear c27
         try clear c30
         try clear c30b0
         try clear hcz16_0
         try clear hcz16_1
         try clear hcz16_2
         try clear hcz16_3
         try clear hcz28_0
         try clear hcz28_1
         try clear hcz28_2
         try clear hcz28_3
         try clear hcz4_0
         try clear hcz4_1
         try clear hcz4_2
         try clear hcz4_3
         try clear hfz16_0
         try clear hfz16_1
         try clear hfz16_2
         try clear hfz16_3
         try clear hfz28_0
         try clear hfz28_1
         try clear hfz28_2
         try clear hfz28_3
         try clear hfz4_0
         try clear hfz4_1
         try clear hfz4_2
         try clear hfz4_3
         try clear hx152_0
         try clear p1
         try clear p15
         try clear p152
         try clear p2
         try clear p24
         try clear p26
         try clear q1
         try clear q15
         try clear q152
         try clear q24
         try clear q26
         obtain ⟨kq, x46_28, rfl, HA, HJ28, HO_4, HO_152002, HO_152003, BK141, BK151, HB⟩ := hcut; cases kq with
         | zero => exact absurd HA.1 (by simp [spec_PkgRead.j2])
         | succ kj28 =>
          have H := HA.1; clear HA; simp only [spec_PkgRead.j2] at H
          by_cases c31 : x46_28 = true
          ·subst c31; replace H := zy1 H; replace H := zif H; obtain ⟨c32, H⟩ := H; have c32b0 : decide (0 < ((rdOf ByteArray.empty t142 x6_1).size : Int)) = true := decide_eq_true c32; have c32b1 : decide (0 < (rdOf ByteArray.empty t142 x6_1).size) = true := decide_eq_true (by omega); clear c32; replace H := zif H; obtain ⟨c34, H⟩ := H; have c34b0 : decide (2 < ((rdOf ByteArray.empty t142 x6_1).size : Int)) = true := decide_eq_true c34; have c34b1 : decide (2 < (rdOf ByteArray.empty t142 x6_1).size) = true := decide_eq_true (by omega); clear c34; replace H := zif H; obtain ⟨c36, H⟩ := H; have LMc36 := aM c36; clear c36; obtain ⟨y153, hy153⟩ : ∃ y_ : List (S71), y_ = (x152002_1 ++ [(⟨wrap64 ((wrap64 (bt (rdOf ByteArray.empty t142 x6_1) 0)) - 48), wrap64 ((wrap64 (bt (rdOf ByteArray.empty t142 x6_1) 2)) - 48)⟩ : S71)]) := ⟨_, rfl⟩; (first | (replace H := zbs hy153 H; try dsimp only at H) | rw [← hy153] at H); have Ny153 := aM hy153; clear hy153; have H' := aM H; clear H
           try go_wp2
           have _ := aM (Kd.R_drew HO_4.1); have _ := aM (Kd.R_drew HO_152002.1); have _ := aM (Kd.R_drew HO_152003.1); have _ := aM (blk_drew BK141.1); have _ := aM (blk_drew BK151.1); have _ := aM (below_drew1 HB.1); clear HO_4 HO_152002 HO_152003 BK141 BK151 HB; rename_i HO_4 HO_152002 HO_152003 BK141 BK151 HB; have p33 : 0 ≤ (0 : Int) := (by omega); have q33 : 0 < (rdOf ByteArray.empty t142 x6_1).size := (by have : (0 : Int) < ((rdOf ByteArray.empty t142 x6_1).size : Int) := zd; omega); have hx33 : ∀ h : 0 < (rdOf ByteArray.empty t142 x6_1).size, (((rdOf ByteArray.empty t142 x6_1)[0]'h).toNat : Int) = bt (rdOf ByteArray.empty t142 x6_1) 0 := bt_at (rdOf ByteArray.empty t142 x6_1) 0; clear p33; have qi33 : (0 < ((rdOf ByteArray.empty t142 x6_1).size : Int)) = True := eq_true (zd); replace q33 := eq_true q33; have p35 : 0 ≤ (2 : Int) := (by omega); have q35 : 2 < (rdOf ByteArray.empty t142 x6_1).size := (by have : (2 : Int) < ((rdOf ByteArray.empty t142 x6_1).size : Int) := zd; omega); have hx35 : ∀ h : 2 < (rdOf ByteArray.empty t142 x6_1).size, (((rdOf ByteArray.empty t142 x6_1)[2]'h).toNat : Int) = bt (rdOf ByteArray.empty t142 x6_1) 2 := bt_at (rdOf ByteArray.empty t142 x6_1) 2; clear p35; have qi35 : (2 < ((rdOf ByteArray.empty t142 x6_1).size : Int)) = True := eq_true (zd); replace q35 := eq_true q35
           refine start_ (n := 15) (S := fun w' => w'.cell? ⟨gb151, 0, none⟩ = some (.int .i64 x152000_1) ∧ w'.cell? ⟨gb151, 1, none⟩ = some (.int .i64 x152001_1) ∧ w'.cell? ⟨gb151, 2, none⟩ = some (u152002) ∧ w'.cell? ⟨gb151, 3, none⟩ = some (u152003)) (ds := [14]) (zA 15 0) (by kernel_rfl) rfl rfl ⟨(blk_cell BK151.1 0).trans rfl, (blk_cell BK151.1 1).trans rfl, (blk_cell BK151.1 2).trans rfl, (blk_cell BK151.1 3).trans rfl⟩ (fun hHeld => ?_); refine with_tabW spec_PkgRead.tab13 spec_PkgRead.bits13 (fun HT_ HW_ => ?_)
           generalize wc.drew = w37 at HO_4 HO_152002 HO_152003 BK141 BK151 HB hHeld ⊢; refine zu HT_ 0 (some 54) (zA 15 1) ?_; refine zu HT_ 2 (some 56) (zA 15 5) ?_; refine zu HT_ 6 (some 60) (zA 15 69) ?_; refine take_ (i := 1) (N := some 55) (v := ?_) (a' := ?_) (zA 15 71) rfl rfl (take_ofW HT_.1 HW_.1 (by kernel_rfl)) (fun _ _ _ h => h) (Or.inl ⟨by rfl, ?_⟩) hHeld ?_ ?_; rotate_left
           ·rintro w' ⟨s0, s1, s2, s3⟩
            go_simp
            (with_reducible rfl)
           rotate_left
           ·simp only [zp0, zp1, zp2, zp3, zp4, i64_w, i32_w]; rfl
           refine take_ (i := 3) (N := some 57) (v := ?_) (a' := ?_) (zA 15 79) rfl rfl (take_ofW HT_.1 HW_.1 (by kernel_rfl)) (fun _ _ _ h => h) (Or.inl ⟨by rfl, ?_⟩) hHeld ?_ ?_; rotate_left
           ·rintro w' ⟨s0, s1, s2, s3⟩
            go_simp
            (with_reducible rfl)
           rotate_left
           ·simp only [zp0, zp1, zp2, zp3, zp4, i64_w, i32_w]; rfl
           refine zu HT_ 4 (some 58) (zA 15 95) ?_; refine zu HT_ 5 (some 59) (zA 15 127) ?_; refine take_ (i := 7) (N := some 61) (v := ?_) (a' := ?_) (zA 15 255) rfl rfl (take_ofW HT_.1 HW_.1 (by kernel_rfl)) (fun _ _ _ h => h) (Or.inl ⟨by rfl, ?_⟩) hHeld ?_ ?_; rotate_left
           ·rintro w' ⟨s0, s1, s2, s3⟩
            go_simp
            (with_reducible rfl)
           rotate_left
           ·simp only [zp0, zp1, zp2, zp3, zp4, i64_w, i32_w]; rfl
           refine zu HT_ 8 (some 62) (zA 15 511) ?_; refine zu HT_ 9 (some 63) (zA 15 1023) ?_; refine zu HT_ 10 (some 64) (zA 15 2047) ?_; refine zo HT_ 11 (some 65) (zA 15 4095) (fun K hK => ?_); refine value_ (w1 := ?_) (v := ?_) (by rfl) rfl ?_ ?_; rotate_left 2
           ·go_simp
            constructor
            ·rfl
            ·rfl
           refine hK.out _ _ ⟨(blk_cell (blk_alloc BK151.1 _) 0).trans rfl, (blk_cell (blk_alloc BK151.1 _) 1).trans rfl, (blk_cell (blk_alloc BK151.1 _) 2).trans rfl, (blk_cell (blk_alloc BK151.1 _) 3).trans rfl⟩ (fun hHeld => ?_); clear hK K; refine zn (some 65) ?_; refine zo HT_ 12 (some 66) (zA 15 8191) (fun K hK => ?_); refine Kd.R_append_step k71 (w0 := w) w.heap.size (by rfl) (.tmp 55) (.tmp 65) 26 71 (.agg #[(.int .i64 0), (.int .i64 0)]) 16 rfl Tryz.underlying26 info71 rfl (by decide) (by omega) u152002 x152002_1 (⟨wrap64 ((wrap64 (bt (rdOf ByteArray.empty t142 x6_1) 0)) - 48), wrap64 ((wrap64 (bt (rdOf ByteArray.empty t142 x6_1) 2)) - 48)⟩ : S71) [.int .i64 (wrap64 ((wrap64 (bt (rdOf ByteArray.empty t142 x6_1) 0)) - 48)), .int .i64 (wrap64 ((wrap64 (bt (rdOf ByteArray.empty t142 x6_1) 2)) - 48))] (fun _ => True) (fun _ => False) rfl rfl ?aP (fun _ hk => hk.elim) ?aF ?aO ?aB ?aS ?aL ?_; (case aP => exact k71_mkM _ _ _ (⟨wrap64 ((wrap64 (bt (rdOf ByteArray.empty t142 x6_1) 0)) - 48), wrap64 ((wrap64 (bt (rdOf ByteArray.empty t142 x6_1) 2)) - 48)⟩ : S71)); (case aB => exact (zB2 HB.1 GE141.1 GE151.1)); (case aF => exact (fun _ _ => trivial)); (case aO => exact (zR HO_152002.1)); (case aS => exact (below_size (zB2 HB.1 GE141.1 GE151.1))); (case aL => have := LMc36.1; omega); intro v154 w38 ho hb hg hat; rw [← Ny153.1] at ho; have _ := aM (Kd.R_over' (zR HO_4.1) (Kd.R_typed (zR HO_152002.1)) (by decide) hg); have _ := aM (Kd.R_over' (zR HO_152003.1) (Kd.R_typed (zR HO_152002.1)) (by decide) hg); have _ := aM (blk_grown (zK BK141.1) hg (Kd.R_ne HO_152002.1 BK141.1 (by decide))); have _ := aM (blk_grown (zK BK151.1) hg (Kd.R_ne HO_152002.1 BK151.1 (by decide))); have _ := aM (hb); have _ := aM (ho); clear HO_4 HO_152003 BK141 BK151 HB HO_152002; rename_i HO_4 HO_152003 BK141 BK151 HB HO155; clear ho hb hg hat; obtain ⟨Ao39, co39, eo39⟩ := Kd.R_slice HO155.1; (first | subst eo39 | (injection eo39 with f1_ f2_ f3_; have f4_ := f1_.symm; have f5_ := f3_.symm; clear f1_ f2_ f3_; subst f4_; subst f5_)); refine hK.out _ _ ⟨(blk_cell BK151.1 0).trans rfl, (blk_cell BK151.1 1).trans rfl, (blk_cell BK151.1 2).trans rfl, (blk_cell BK151.1 3).trans rfl⟩ (fun hHeld => ?_); clear hK K; refine zn (some 66) ?_; refine zu HT_ 13 (some 67) (zA 15 16383) ?_; refine last_ (i := 14) (N := none) (zA 15 32767) rfl rfl (one_of HT_.1 (by kernel_rfl)) (by decide) (fun K hK => ?_); have hs40 : w38.cell? ⟨gb151, 2, none⟩ = some (u152002) := (blk_cell BK151.1 2).trans rfl; have hfs40 := blk_frozen BK151.1 2; have hns40_0 := NB141_151.1; have hms40_0 := NB151_141.1; refine skip_ (w1 := ?_) (by rfl) rfl ?_ ?_; rotate_left
           ·go_simp
            rfl
           refine hK.out _ _ ?_; clear hK K; refine done_ (done_of HT_.1 (by kernel_rfl)) ?_
           try go_wp2
           go_roundg kj28
           case measure => have := HK1.1; have := HJ18.1; have := HJ28.1; omega
           case rel => exact ⟨(wrap64 (x6_1 + 1)), (x152000_1), (x152001_1), (y153), (x152003_1), (.slice Ao39 y153.length co39), (u152003), (by first | rfl | (simp; done) | (simp [*]; done)), H', ⟨by have := HK1.1; have := HJ18.1; have := HJ28.1; omega⟩, ⟨by exact (Kd.R_mono (zFR (g := gb151) (Kd.R_types HO_4.1 BK151.1 (by decide)) (fun _ hk => hk.2)) (fun _ hk => trivial))⟩, ⟨by exact (Kd.R_mono (zFR (g := gb151) (Kd.R_types HO155.1 BK151.1 (by decide)) (fun _ hk => hk.2)) (fun _ hk => trivial))⟩, ⟨by exact (Kd.R_mono (zFR (g := gb151) (Kd.R_types HO_152003.1 BK151.1 (by decide)) (fun _ hk => hk.2)) (fun _ hk => trivial))⟩, ⟨zK1 BK141.1 NB141_151.1⟩, ⟨by exact zP BK151.1 (by rfl)⟩, ⟨zB2 HB.1 GE141.1 GE151.1⟩⟩
          ·replace c31 := Bool.eq_false_iff.mpr c31; subst c31; replace H := zy0 H
           by_cases c41 : x6_1 > 0
           ·rw [if_pos c41] at H; have c41b0 : decide (0 < x6_1) = true := decide_eq_true c41; clear c41
            by_cases c42 : ((rdOf ByteArray.empty t142 x6_1).size : Int) = 2
            ·rw [if_pos c42] at H; have c42b0 : (((rdOf ByteArray.empty t142 x6_1).size : Int) == 2) = true := beq_iff_eq.mpr c42; have c42b1 : (((rdOf ByteArray.empty t142 x6_1).size : Int) != 2) = false := bne_eq_false_iff_eq.mpr c42; clear c42; replace H := zif H; obtain ⟨c43, H⟩ := H; have c43b0 : decide (0 < ((rdOf ByteArray.empty t142 x6_1).size : Int)) = true := decide_eq_true c43; have c43b1 : decide (0 < (rdOf ByteArray.empty t142 x6_1).size) = true := decide_eq_true (by omega); clear c43; replace H := zif H; obtain ⟨c45, H⟩ := H; have c45b0 : decide (1 < ((rdOf ByteArray.empty t142 x6_1).size : Int)) = true := decide_eq_true c45; have c45b1 : decide (1 < (rdOf ByteArray.empty t142 x6_1).size) = true := decide_eq_true (by omega); clear c45; replace H := zif H; obtain ⟨c47, H⟩ := H; have LMc47 := aM c47; clear c47; obtain ⟨y156, hy156⟩ : ∃ y_ : List (S73), y_ = (x152003_1 ++ [(⟨wrap64 ((wrap64 ((wrap64 (bt (rdOf ByteArray.empty t142 x6_1) 0)) - 97)) + 1), wrap64 ((wrap64 (bt (rdOf ByteArray.empty t142 x6_1) 1)) - 48)⟩ : S73)]) := ⟨_, rfl⟩; (first | (replace H := zbs hy156 H; try dsimp only at H) | rw [← hy156] at H); have Ny156 := aM hy156; clear hy156; have H' := aM H; clear H
             try go_wp2
             have _ := aM (Kd.R_drew HO_4.1); have _ := aM (Kd.R_drew HO_152002.1); have _ := aM (Kd.R_drew HO_152003.1); have _ := aM (blk_drew BK141.1); have _ := aM (blk_drew BK151.1); have _ := aM (below_drew1 HB.1); clear HO_4 HO_152002 HO_152003 BK141 BK151 HB; rename_i HO_4 HO_152002 HO_152003 BK141 BK151 HB; have p44 : 0 ≤ (0 : Int) := (by omega); have q44 : 0 < (rdOf ByteArray.empty t142 x6_1).size := (by have : (0 : Int) < ((rdOf ByteArray.empty t142 x6_1).size : Int) := zd; omega); have hx44 : ∀ h : 0 < (rdOf ByteArray.empty t142 x6_1).size, (((rdOf ByteArray.empty t142 x6_1)[0]'h).toNat : Int) = bt (rdOf ByteArray.empty t142 x6_1) 0 := bt_at (rdOf ByteArray.empty t142 x6_1) 0; clear p44; have qi44 : (0 < ((rdOf ByteArray.empty t142 x6_1).size : Int)) = True := eq_true (zd); replace q44 := eq_true q44; have p46 : 0 ≤ (1 : Int) := (by omega); have q46 : 1 < (rdOf ByteArray.empty t142 x6_1).size := (by have : (1 : Int) < ((rdOf ByteArray.empty t142 x6_1).size : Int) := zd; omega); have hx46 : ∀ h : 1 < (rdOf ByteArray.empty t142 x6_1).size, (((rdOf ByteArray.empty t142 x6_1)[1]'h).toNat : Int) = bt (rdOf ByteArray.empty t142 x6_1) 1 := bt_at (rdOf ByteArray.empty t142 x6_1) 1; clear p46; have qi46 : (1 < ((rdOf ByteArray.empty t142 x6_1).size : Int)) = True := eq_true (zd); replace q46 := eq_true q46
             refine start_ (n := 16) (S := fun w' => w'.cell? ⟨gb151, 0, none⟩ = some (.int .i64 x152000_1) ∧ w'.cell? ⟨gb151, 1, none⟩ = some (.int .i64 x152001_1) ∧ w'.cell? ⟨gb151, 2, none⟩ = some (u152002) ∧ w'.cell? ⟨gb151, 3, none⟩ = some (u152003)) (ds := [15]) (zA 16 0) (by kernel_rfl) rfl rfl ⟨(blk_cell BK151.1 0).trans rfl, (blk_cell BK151.1 1).trans rfl, (blk_cell BK151.1 2).trans rfl, (blk_cell BK151.1 3).trans rfl⟩ (fun hHeld => ?_); refine with_tabW spec_PkgRead.tab15 spec_PkgRead.bits15 (fun HT_ HW_ => ?_)
             generalize wc.drew = w48 at HO_4 HO_152002 HO_152003 BK141 BK151 HB hHeld ⊢; refine zu HT_ 0 (some 76) (zA 16 1) ?_; refine zu HT_ 2 (some 78) (zA 16 5) ?_; refine zu HT_ 7 (some 83) (zA 16 133) ?_; refine take_ (i := 1) (N := some 77) (v := ?_) (a' := ?_) (zA 16 135) rfl rfl (take_ofW HT_.1 HW_.1 (by kernel_rfl)) (fun _ _ _ h => h) (Or.inl ⟨by rfl, ?_⟩) hHeld ?_ ?_; rotate_left
             ·rintro w' ⟨s0, s1, s2, s3⟩
              go_simp
              (with_reducible rfl)
             rotate_left
             ·simp only [zp0, zp1, zp2, zp3, zp4, i64_w, i32_w]; rfl
             refine take_ (i := 3) (N := some 79) (v := ?_) (a' := ?_) (zA 16 143) rfl rfl (take_ofW HT_.1 HW_.1 (by kernel_rfl)) (fun _ _ _ h => h) (Or.inl ⟨by rfl, ?_⟩) hHeld ?_ ?_; rotate_left
             ·rintro w' ⟨s0, s1, s2, s3⟩
              go_simp
              (with_reducible rfl)
             rotate_left
             ·simp only [zp0, zp1, zp2, zp3, zp4, i64_w, i32_w]; rfl
             refine zu HT_ 4 (some 80) (zA 16 159) ?_; refine zu HT_ 5 (some 81) (zA 16 191) ?_; refine zu HT_ 6 (some 82) (zA 16 255) ?_; refine take_ (i := 8) (N := some 84) (v := ?_) (a' := ?_) (zA 16 511) rfl rfl (take_ofW HT_.1 HW_.1 (by kernel_rfl)) (fun _ _ _ h => h) (Or.inl ⟨by rfl, ?_⟩) hHeld ?_ ?_; rotate_left
             ·rintro w' ⟨s0, s1, s2, s3⟩
              go_simp
              (with_reducible rfl)
             rotate_left
             ·simp only [zp0, zp1, zp2, zp3, zp4, i64_w, i32_w]; rfl
             refine zu HT_ 9 (some 85) (zA 16 1023) ?_; refine zu HT_ 10 (some 86) (zA 16 2047) ?_; refine zu HT_ 11 (some 87) (zA 16 4095) ?_; refine zo HT_ 12 (some 88) (zA 16 8191) (fun K hK => ?_); refine value_ (w1 := ?_) (v := ?_) (by rfl) rfl ?_ ?_; rotate_left 2
             ·go_simp
              constructor
              ·rfl
              ·rfl
             refine hK.out _ _ ⟨(blk_cell (blk_alloc BK151.1 _) 0).trans rfl, (blk_cell (blk_alloc BK151.1 _) 1).trans rfl, (blk_cell (blk_alloc BK151.1 _) 2).trans rfl, (blk_cell (blk_alloc BK151.1 _) 3).trans rfl⟩ (fun hHeld => ?_); clear hK K; refine zn (some 88) ?_; refine zo HT_ 13 (some 89) (zA 16 16383) (fun K hK => ?_); refine Kd.R_append_step k73 (w0 := w) w.heap.size (by rfl) (.tmp 77) (.tmp 88) 27 73 (.agg #[(.int .i64 0), (.int .i64 0)]) 16 rfl Tryz.underlying27 info73 rfl (by decide) (by omega) u152003 x152003_1 (⟨wrap64 ((wrap64 ((wrap64 (bt (rdOf ByteArray.empty t142 x6_1) 0)) - 97)) + 1), wrap64 ((wrap64 (bt (rdOf ByteArray.empty t142 x6_1) 1)) - 48)⟩ : S73) [.int .i64 (wrap64 ((wrap64 ((wrap64 (bt (rdOf ByteArray.empty t142 x6_1) 0)) - 97)) + 1)), .int .i64 (wrap64 ((wrap64 (bt (rdOf ByteArray.empty t142 x6_1) 1)) - 48))] (fun _ => True) (fun _ => False) rfl rfl ?aP (fun _ hk => hk.elim) ?aF ?aO ?aB ?aS ?aL ?_; (case aP => exact k73_mkM _ _ _ (⟨wrap64 ((wrap64 ((wrap64 (bt (rdOf ByteArray.empty t142 x6_1) 0)) - 97)) + 1), wrap64 ((wrap64 (bt (rdOf ByteArray.empty t142 x6_1) 1)) - 48)⟩ : S73)); (case aB => exact (zB2 HB.1 GE141.1 GE151.1)); (case aF => exact (fun _ _ => trivial)); (case aO => exact (zR HO_152003.1)); (case aS => exact (below_size (zB2 HB.1 GE141.1 GE151.1))); (case aL => have := LMc47.1; omega); intro v157 w49 ho hb hg hat; rw [← Ny156.1] at ho; have _ := aM (Kd.R_over' (zR HO_4.1) (Kd.R_typed (zR HO_152003.1)) (by decide) hg); have _ := aM (Kd.R_over' (zR HO_152002.1) (Kd.R_typed (zR HO_152003.1)) (by decide) hg); have _ := aM (blk_grown (zK BK141.1) hg (Kd.R_ne HO_152003.1 BK141.1 (by decide))); have _ := aM (blk_grown (zK BK151.1) hg (Kd.R_ne HO_152003.1 BK151.1 (by decide))); have _ := aM (hb); have _ := aM (ho); clear HO_4 HO_152002 BK141 BK151 HB HO_152003; rename_i HO_4 HO_152002 BK141 BK151 HB HO158; clear ho hb hg hat; obtain ⟨Ao50, co50, eo50⟩ := Kd.R_slice HO158.1; (first | subst eo50 | (injection eo50 with f1_ f2_ f3_; have f4_ := f1_.symm; have f5_ := f3_.symm; clear f1_ f2_ f3_; subst f4_; subst f5_)); refine hK.out _ _ ⟨(blk_cell BK151.1 0).trans rfl, (blk_cell BK151.1 1).trans rfl, (blk_cell BK151.1 2).trans rfl, (blk_cell BK151.1 3).trans rfl⟩ (fun hHeld => ?_); clear hK K; refine zn (some 89) ?_; refine zu HT_ 14 (some 90) (zA 16 32767) ?_; refine last_ (i := 15) (N := none) (zA 16 65535) rfl rfl (one_of HT_.1 (by kernel_rfl)) (by decide) (fun K hK => ?_); have hs51 : w49.cell? ⟨gb151, 3, none⟩ = some (u152003) := (blk_cell BK151.1 3).trans rfl; have hfs51 := blk_frozen BK151.1 3; have hns51_0 := NB141_151.1; have hms51_0 := NB151_141.1; refine skip_ (w1 := ?_) (by rfl) rfl ?_ ?_; rotate_left
             ·go_simp
              rfl
             refine hK.out _ _ ?_; clear hK K; refine done_ (done_of HT_.1 (by kernel_rfl)) ?_
             try go_wp2
             go_roundg kj28
             case measure => have := HK1.1; have := HJ18.1; have := HJ28.1; omega
             case rel => exact ⟨(wrap64 (x6_1 + 1)), (x152000_1), (x152001_1), (x152002_1), (y156), (u152002), (.slice Ao50 y156.length co50), (by first | rfl | (simp; done) | (simp [*]; done)), H', ⟨by have := HK1.1; have := HJ18.1; have := HJ28.1; omega⟩, ⟨by exact (Kd.R_mono (zFR (g := gb151) (Kd.R_types HO_4.1 BK151.1 (by decide)) (fun _ hk => hk.2)) (fun _ hk => trivial))⟩, ⟨by exact (Kd.R_mono (zFR (g := gb151) (Kd.R_types HO_152002.1 BK151.1 (by decide)) (fun _ hk => hk.2)) (fun _ hk => trivial))⟩, ⟨by exact (Kd.R_mono (zFR (g := gb151) (Kd.R_types HO158.1 BK151.1 (by decide)) (fun _ hk => hk.2)) (fun _ hk => trivial))⟩, ⟨zK1 BK141.1 NB141_151.1⟩, ⟨by exact zP BK151.1 (by rfl)⟩, ⟨zB2 HB.1 GE141.1 GE151.1⟩⟩
            ·rw [if_neg c42] at H; have c42b0 : (((rdOf ByteArray.empty t142 x6_1).size : Int) == 2) = false := beq_eq_false_iff_ne.mpr c42; have c42b1 : (((rdOf ByteArray.empty t142 x6_1).size : Int) != 2) = true := bne_iff_ne.mpr c42; have H' := aM H; clear H
             go_wp2
             go_roundg kj28
             case measure => have := HK1.1; have := HJ18.1; have := HJ28.1; omega
             case rel => exact ⟨(wrap64 (x6_1 + 1)), (x152000_1), (x152001_1), (x152002_1), (x152003_1), (u152002), (u152003), (by first | rfl | (simp; done) | (simp [*]; done)), H', ⟨by have := HK1.1; have := HJ18.1; have := HJ28.1; omega⟩, ⟨zR HO_4.1⟩, ⟨zR HO_152002.1⟩, ⟨zR HO_152003.1⟩, ⟨zK BK141.1⟩, ⟨zK BK151.1⟩, ⟨zB2 HB.1 GE141.1 GE151.1⟩⟩
           ·rw [if_neg c41] at H; have c41b0 : decide (0 < x6_1) = false := decide_eq_false c41; clear c41; have H' := aM H; clear H
            go_wp2
            go_roundg kj28
            case measure => have := HK1.1; have := HJ18.1; have := HJ28.1; omega
            case rel => exact ⟨(wrap64 (x6_1 + 1)), (x152000_1), (x152001_1), (x152002_1), (x152003_1), (u152002), (u152003), (by first | rfl | (simp; done) | (simp [*]; done)), H', ⟨by have := HK1.1; have := HJ18.1; have := HJ28.1; omega⟩, ⟨zR HO_4.1⟩, ⟨zR HO_152002.1⟩, ⟨zR HO_152003.1⟩, ⟨zK BK141.1⟩, ⟨zK BK151.1⟩, ⟨zB2 HB.1 GE141.1 GE151.1⟩⟩
    ·rw [if_neg c17] at H; have c17b0 : decide (x6_1 < (t142.length : Int)) = false := decide_eq_false c17; clear c17; replace H := Option.bind_eq_some_iff.mp H; obtain ⟨t159, A520, H⟩ := H; (try dsimp only at H); have A52 := aM A520; clear A520
     by_cases c53 : t159.toList = a0.toList
     ·rw [if_pos c53] at H; have c53b0 : (t159.toList == a0.toList) = true := beq_iff_eq.mpr c53; have c53b1 : (t159.toList != a0.toList) = false := bne_eq_false_iff_eq.mpr c53; clear c53
      by_cases c54 : a0.toList = ([] : List UInt8)
      ·rw [if_pos c54] at H; have c54b0 : (a0.toList == ([] : List UInt8)) = true := beq_iff_eq.mpr c54; have c54b1 : (a0.toList != ([] : List UInt8)) = false := bne_eq_false_iff_eq.mpr c54; clear c54; simp only [Option.some.injEq, Prod.mk.injEq] at H; obtain ⟨rfl, rfl, rfl, rfl, rfl⟩ := H; obtain ⟨Ao55, co55, eo55⟩ := Kd.R_slice HO_4.1; subst eo55; have hnb56 := NB151_141.1; have hnc56 := NB141_151.1; obtain ⟨hcz57_0, hcz57_1, hcz57_2, hcz57_3, hfz57_0, hfz57_1, hfz57_2, hfz57_3⟩ := zc4f BK151.1; obtain ⟨Ao58, co58, eo58⟩ := Kd.R_slice HO_152002.1; subst eo58; obtain ⟨Ao59, co59, eo59⟩ := Kd.R_slice HO_152003.1; subst eo59
       go_wp2_with (first | ((with_reducible refine gate_callee (f := 49) rfl ?_); refine zgL (some 92) Tryz.func49 #[.agg #[.int .i64 x152000_1, .int .i64 x152001_1, .slice Ao58 x152002_1.length co58, .slice Ao59 x152003_1.length co59]] ?_; (with_reducible refine (spec_PkgText.calls k1 x152000_1 x152001_1 _ _ x152002_1 _ _ x152003_1 t159 _ ?side1 ?side2 ?side3 ?side4 A52.1).mono ?_); (case side1 => exact zC (Kd.R_reads' HO_152002.1).2.2); (case side2 => exact (Kd.R_reads' HO_152002.1).2.1); (case side3 => exact zC (Kd.R_reads' HO_152003.1).2.2); (case side4 => exact (Kd.R_reads' HO_152003.1).2.1); rintro e w60 ⟨rfl, hb⟩; refine ⟨_, rfl, ?_⟩; have _ := aM (Kd.R_below (zR HO_4.1) hb); have _ := aM (Kd.R_below (zR HO_152002.1) hb); have _ := aM (Kd.R_below (zR HO_152003.1) hb); have _ := aM (blk_below (zK BK141.1) hb); have _ := aM (blk_below (zK BK151.1) hb); have _ := aM (below_step (zB2 HB.1 GE141.1 GE151.1) hb); clear HO_4 HO_152002 HO_152003 BK141 BK151 HB; rename_i HO_4 HO_152002 HO_152003 BK141 BK151 HB; (try clear hb); (try clear hb2); (try clear hk); (try clear hi); obtain ⟨hcz61_0, hcz61_1, hcz61_2, hcz61_3, hfz61_0, hfz61_1, hfz61_2, hfz61_3⟩ := zc4f BK141.1))
       refine bodyPost_ret (results_ct rfl _ _ gb141 29 #[.int .i64 0, .int .i64 0, .slice none 0 0, .slice none 0 0] (0, 0) _ rfl (by exact zP BK141.1 (by rfl)) Tryz.underlying29 rfl (by kernel_rfl)) rfl ?_; exact ⟨_, _, by first | rfl | (simp [errW_none, errW_some] <;> rfl) | (simp [*, errW_none, errW_some] <;> rfl), by first | exact Kd.R_nil _ _ _ _ _ | exact Kd.N_nil _ _ _ _ _ | exact Kd.V_nil _ _ _ _ _ | exact Kd.Q_nil _ _ _ _ _ | exact Kd.S_nil _ _ _ _ _, by first | exact Kd.R_nil _ _ _ _ _ | exact Kd.N_nil _ _ _ _ _ | exact Kd.V_nil _ _ _ _ _ | exact Kd.Q_nil _ _ _ _ _ | exact Kd.S_nil _ _ _ _ _, by exact zB2 HB.1 GE141.1 GE151.1⟩
      ·rw [if_neg c54] at H; have c54b0 : (a0.toList == ([] : List UInt8)) = false := beq_eq_false_iff_ne.mpr c54; have c54b1 : (a0.toList != ([] : List UInt8)) = true := bne_iff_ne.mpr c54; simp only [Option.some.injEq, Prod.mk.injEq] at H; obtain ⟨rfl, rfl, rfl, rfl, rfl⟩ := H; obtain ⟨Ao62, co62, eo62⟩ := Kd.R_slice HO_4.1; subst eo62; have hnb63 := NB151_141.1; have hnc63 := NB141_151.1; obtain ⟨hcz64_0, hcz64_1, hcz64_2, hcz64_3, hfz64_0, hfz64_1, hfz64_2, hfz64_3⟩ := zc4f BK151.1; obtain ⟨Ao65, co65, eo65⟩ := Kd.R_slice HO_152002.1; subst eo65; obtain ⟨Ao66, co66, eo66⟩ := Kd.R_slice HO_152003.1; subst eo66
       go_wp2_with (first | ((with_reducible refine gate_callee (f := 49) rfl ?_); refine zgL (some 92) Tryz.func49 #[.agg #[.int .i64 x152000_1, .int .i64 x152001_1, .slice Ao65 x152002_1.length co65, .slice Ao66 x152003_1.length co66]] ?_; (with_reducible refine (spec_PkgText.calls k1 x152000_1 x152001_1 _ _ x152002_1 _ _ x152003_1 t159 _ ?side1 ?side2 ?side3 ?side4 A52.1).mono ?_); (case side1 => exact zC (Kd.R_reads' HO_152002.1).2.2); (case side2 => exact (Kd.R_reads' HO_152002.1).2.1); (case side3 => exact zC (Kd.R_reads' HO_152003.1).2.2); (case side4 => exact (Kd.R_reads' HO_152003.1).2.1); rintro e w67 ⟨rfl, hb⟩; refine ⟨_, rfl, ?_⟩; have _ := aM (Kd.R_below (zR HO_4.1) hb); have _ := aM (Kd.R_below (zR HO_152002.1) hb); have _ := aM (Kd.R_below (zR HO_152003.1) hb); have _ := aM (blk_below (zK BK141.1) hb); have _ := aM (blk_below (zK BK151.1) hb); have _ := aM (below_step (zB2 HB.1 GE141.1 GE151.1) hb); clear HO_4 HO_152002 HO_152003 BK141 BK151 HB; rename_i HO_4 HO_152002 HO_152003 BK141 BK151 HB; (try clear hb); (try clear hb2); (try clear hk); (try clear hi); obtain ⟨hcz68_0, hcz68_1, hcz68_2, hcz68_3, hfz68_0, hfz68_1, hfz68_2, hfz68_3⟩ := zc4f BK151.1; obtain ⟨hcz69_0, hcz69_1, hcz69_2, hcz69_3, hfz69_0, hfz69_1, hfz69_2, hfz69_3⟩ := zc4f BK141.1))
       refine bodyPost_ret (results_ct rfl _ _ gb141 29 #[.int .i64 x152000_1, .int .i64 x152001_1, .slice Ao65 x152002_1.length co65, .slice Ao66 x152003_1.length co66] (0, 0) _ rfl (by exact zP BK141.1 (by rfl)) Tryz.underlying29 rfl (by kernel_rfl)) rfl ?_; exact ⟨_, _, by first | rfl | (simp [errW_none, errW_some] <;> rfl) | (simp [*, errW_none, errW_some] <;> rfl), by exact (Kd.R_mono (zFR (g := gb141) (Kd.R_types HO_152002.1 BK141.1 (by decide)) (fun _ hk => hk.2)) (fun _ hk => trivial)), by exact (Kd.R_mono (zFR (g := gb141) (Kd.R_types HO_152003.1 BK141.1 (by decide)) (fun _ hk => hk.2)) (fun _ hk => trivial)), by exact zB2 HB.1 GE141.1 GE151.1⟩
     ·rw [if_neg c53] at H; have c53b0 : (t159.toList == a0.toList) = false := beq_eq_false_iff_ne.mpr c53; have c53b1 : (t159.toList != a0.toList) = true := bne_iff_ne.mpr c53; simp only [Option.some.injEq, Prod.mk.injEq] at H; obtain ⟨rfl, rfl, rfl, rfl, rfl⟩ := H; obtain ⟨Ao70, co70, eo70⟩ := Kd.R_slice HO_4.1; subst eo70; have hnb71 := NB151_141.1; have hnc71 := NB141_151.1; obtain ⟨hcz72_0, hcz72_1, hcz72_2, hcz72_3, hfz72_0, hfz72_1, hfz72_2, hfz72_3⟩ := zc4f BK151.1; obtain ⟨Ao73, co73, eo73⟩ := Kd.R_slice HO_152002.1; subst eo73; obtain ⟨Ao74, co74, eo74⟩ := Kd.R_slice HO_152003.1; subst eo74
      go_wp2_with (first | ((with_reducible refine gate_callee (f := 49) rfl ?_); refine zgL (some 92) Tryz.func49 #[.agg #[.int .i64 x152000_1, .int .i64 x152001_1, .slice Ao73 x152002_1.length co73, .slice Ao74 x152003_1.length co74]] ?_; (with_reducible refine (spec_PkgText.calls k1 x152000_1 x152001_1 _ _ x152002_1 _ _ x152003_1 t159 _ ?side1 ?side2 ?side3 ?side4 A52.1).mono ?_); (case side1 => exact zC (Kd.R_reads' HO_152002.1).2.2); (case side2 => exact (Kd.R_reads' HO_152002.1).2.1); (case side3 => exact zC (Kd.R_reads' HO_152003.1).2.2); (case side4 => exact (Kd.R_reads' HO_152003.1).2.1); rintro e w75 ⟨rfl, hb⟩; refine ⟨_, rfl, ?_⟩; have _ := aM (Kd.R_below (zR HO_4.1) hb); have _ := aM (Kd.R_below (zR HO_152002.1) hb); have _ := aM (Kd.R_below (zR HO_152003.1) hb); have _ := aM (blk_below (zK BK141.1) hb); have _ := aM (blk_below (zK BK151.1) hb); have _ := aM (below_step (zB2 HB.1 GE141.1 GE151.1) hb); clear HO_4 HO_152002 HO_152003 BK141 BK151 HB; rename_i HO_4 HO_152002 HO_152003 BK141 BK151 HB; (try clear hb); (try clear hb2); (try clear hk); (try clear hi); obtain ⟨hcz76_0, hcz76_1, hcz76_2, hcz76_3, hfz76_0, hfz76_1, hfz76_2, hfz76_3⟩ := zc4f BK141.1))
      refine bodyPost_ret (results_ct rfl _ _ gb141 29 #[.int .i64 0, .int .i64 0, .slice none 0 0, .slice none 0 0] (0, 0) _ rfl (by exact zP BK141.1 (by rfl)) Tryz.underlying29 rfl (by kernel_rfl)) rfl ?_; exact ⟨_, _, by first | rfl | (simp [errW_none, errW_some] <;> rfl) | (simp [*, errW_none, errW_some] <;> rfl), by first | exact Kd.R_nil _ _ _ _ _ | exact Kd.N_nil _ _ _ _ _ | exact Kd.V_nil _ _ _ _ _ | exact Kd.Q_nil _ _ _ _ _ | exact Kd.S_nil _ _ _ _ _, by first | exact Kd.R_nil _ _ _ _ _ | exact Kd.N_nil _ _ _ _ _ | exact Kd.V_nil _ _ _ _ _ | exact Kd.Q_nil _ _ _ _ _ | exact Kd.S_nil _ _ _ _ _, by exact zB2 HB.1 GE141.1 GE151.1⟩

/-! ### spec_SumOf: function 32 -/
def spec_SumOf.l0 : Nat → ByteArray → Int → Int → Option (Int)
 | 0, _, _, _ => none
 | k + 1, x0, x3, x4 => if x4 < (x0.size : Int) then (if 0 ≤ x4 then (spec_SumOf.l0 k x0 (Int.tmod (wrap64 ((wrap64 ((wrap64 (31 * x3)) + (wrap64 (bt x0 x4)))) + 1)) 9973) (wrap64 (x4 + 1))) else (none)) else (some x3)
def spec_SumOf.f (k : Nat) (a0 : ByteArray) : Option (Int) := spec_SumOf.l0 k a0 7 0
theorem spec_SumOf.mono_l : ∀ k, (∀ y0 y1 y2, LeO (spec_SumOf.l0 k y0 y1 y2) (spec_SumOf.l0 (k + 1) y0 y1 y2))
 | 0 => fun _ _ _ r h => by simp [spec_SumOf.l0] at h
 | k + 1 => by
  have ih0 := spec_SumOf.mono_l k
  ·intro y0 y1 y2
   unfold spec_SumOf.l0
   repeat' first
   | (with_reducible exact ih0 _ _ _)
   | (with_reducible exact LeO.refl _)
   | (with_reducible exact LeO.none _)
   | (with_reducible refine LeO.ite ?_ ?_)
   | (with_reducible refine LeO.bind ?_ (fun _ => ?_))
   | exact ih0 _ _ _
   | exact LeO.none _
   | refine LeO.ite ?_ ?_
   | refine LeO.bind ?_ (fun _ => ?_)
theorem spec_SumOf.mono : ∀ a0 k, LeO (spec_SumOf.f k a0) (spec_SumOf.f (k + 1) a0) := by
 intro a0 k
 have ih0 := spec_SumOf.mono_l k
 unfold spec_SumOf.f
 repeat' with_reducible first | apply ih0 | exact LeO.refl _ | exact LeO.none _ | refine LeO.ite ?_ ?_ | refine LeO.bind ?_ (fun _ => ?_)
set_option maxHeartbeats 8000000 in
set_option maxRecDepth 100000 in
theorem spec_SumOf.calls (k : Nat) (a0 : ByteArray) (r : Int) (w : World) (h : spec_SumOf.f k a0 = some r) :
  Calls Tryz.prog 32 #[.string a0] w fun e w' => e = .returned (.int .i64 r) ∧ Drawn0 w w' := by
 have H : (spec_SumOf.l0 k a0 7 0) = some r := h; clear h; have H' := aM H; clear H
 go_enter Tryz.func32, Tryz.ntmps32
 go_wp2
 go_loopg [3, 4] k (fun kq v3 v4 w' => ∃ (x3_1 : Int) (x4_1 : Int), v3 = .int .i64 x3_1 ∧ v4 = .int .i64 x4_1 ∧ Aside0 (spec_SumOf.l0 kq a0 x3_1 x4_1 = some r) ∧ Aside0 (kq ≤ k) ∧ Drawn0 w w')
 case atStart => exact ⟨(7), (0), (by first | rfl | (simp; done) | (simp [*]; done)), (by first | rfl | (simp; done) | (simp [*]; done)), H', ⟨Nat.le_refl _⟩, by repeat (first | exact Drawn0.refl _ | apply Drawn0.step)⟩
 case round =>
  clear H'; obtain ⟨x3_1, x4_1, rfl, rfl, HA, HK1, ⟨m1, rfl⟩⟩ := hrel; cases gk with
  | zero => exact absurd HA.1 (by simp [spec_SumOf.l0])
  | succ k1 =>
   have H := HA.1; clear HA; simp only [spec_SumOf.l0] at H
   by_cases c2 : x4_1 < (a0.size : Int)
   ·rw [if_pos c2] at H; have c2b0 : decide (x4_1 < (a0.size : Int)) = true := decide_eq_true c2; clear c2; replace H := zif H; obtain ⟨c3, H⟩ := H; have c3b0 : decide (0 ≤ x4_1) = true := decide_eq_true c3; clear c3; have H' := aM H; clear H; have p4 : 0 ≤ (x4_1 : Int) := zd; have q4 : x4_1 < (a0.size : Int) := zd; have hx4 := bt_at a0 x4_1; replace p4 := eq_true p4; replace q4 := eq_true q4
    go_wp2
    go_roundg k1
    case measure => have := HK1.1; omega
    case rel => exact ⟨(Int.tmod (wrap64 ((wrap64 ((wrap64 (31 * x3_1)) + (wrap64 (bt a0 x4_1)))) + 1)) 9973), (wrap64 (x4_1 + 1)), (by first | rfl | (simp; done) | (simp [*]; done)), (by first | rfl | (simp; done) | (simp [*]; done)), H', ⟨by have := HK1.1; omega⟩, by repeat (first | exact Drawn0.refl _ | apply Drawn0.step)⟩
   ·rw [if_neg c2] at H; have c2b0 : decide (x4_1 < (a0.size : Int)) = false := decide_eq_false c2; clear c2; obtain rfl := Option.some.inj H
    go_wp2
    go_ret
    exact ⟨by first | rfl | (simp; done) | (simp [*]; done), by repeat (first | exact Drawn0.refl _ | apply Drawn0.step)⟩

/-! ### spec_l3Has: function 15 -/
mutual
def spec_l3Has.l0 : Nat → ByteArray → Int → Int → Int → List (S47) → Int → Int → List (S71) → List (S73) → Option (Int × Int × (List (S71)) × (List (S73)) × Bool)
 | 0, _, _, _, _, _, _, _, _, _ => none
 | k + 1, x1, x8, x161000, x161001, x161002, x172000, x172001, x172002, x172003 => if x8 < (x161002.length : Int) then (if 0 ≤ x8 then (if ((rd_T47 x161002 x8).f0) = x172000 then (if ((rd_T47 x161002 x8).f1) = x172001 then ((spec_SumOf.f k x1).bind fun t174 => (spec_l3Has.j1 k x1 x8 (((rd_T47 x161002 x8).f2) == t174) x161000 x161001 x161002 x172000 x172001 x172002 x172003)) else (spec_l3Has.j1 k x1 x8 false x161000 x161001 x161002 x172000 x172001 x172002 x172003)) else (spec_l3Has.j1 k x1 x8 false x161000 x161001 x161002 x172000 x172001 x172002 x172003)) else (none)) else (some (0, 0, ([] : List (S71)), ([] : List (S73)), false))
def spec_l3Has.j1 : Nat → ByteArray → Int → Bool → Int → Int → List (S47) → Int → Int → List (S71) → List (S73) → Option (Int × Int × (List (S71)) × (List (S73)) × Bool)
 | 0, _, _, _, _, _, _, _, _, _, _ => none
 | k + 1, x1, x8, x48, x161000, x161001, x161002, x172000, x172001, x172002, x172003 => if x48 = true then (some (x172000, x172001, x172002, x172003, true)) else (spec_l3Has.l0 k x1 (wrap64 (x8 + 1)) x161000 x161001 x161002 x172000 x172001 x172002 x172003)
end
def spec_l3Has.f (k : Nat) (a0_0 : Int) (a0_1 : Int) (l0_2 : List (S47)) (a1 : ByteArray) : Option (Int × Int × (List (S71)) × (List (S73)) × Bool) := (spec_PkgRead.f k a1).bind fun bt162 => (if bt162.2.2.2.2 = true then (spec_l3Has.l0 k a1 0 a0_0 a0_1 l0_2 bt162.1 bt162.2.1 bt162.2.2.1 bt162.2.2.2.1) else (some (0, 0, ([] : List (S71)), ([] : List (S73)), false)))
theorem spec_l3Has.mono_l : ∀ k, (∀ y0 y1 y2 y3 y4 y5 y6 y7 y8, LeO (spec_l3Has.l0 k y0 y1 y2 y3 y4 y5 y6 y7 y8) (spec_l3Has.l0 (k + 1) y0 y1 y2 y3 y4 y5 y6 y7 y8)) ∧ (∀ y0 y1 y2 y3 y4 y5 y6 y7 y8 y9, LeO (spec_l3Has.j1 k y0 y1 y2 y3 y4 y5 y6 y7 y8 y9) (spec_l3Has.j1 (k + 1) y0 y1 y2 y3 y4 y5 y6 y7 y8 y9))
 | 0 => ⟨fun _ _ _ _ _ _ _ _ _ r h => by simp [spec_l3Has.l0] at h, fun _ _ _ _ _ _ _ _ _ _ r h => by simp [spec_l3Has.j1] at h⟩
 | k + 1 => by
  obtain ⟨ih0, ih1⟩ := spec_l3Has.mono_l k
  refine ⟨?_, ?_⟩
  ·intro y0 y1 y2 y3 y4 y5 y6 y7 y8
   unfold spec_l3Has.l0
   repeat' first
   | (with_reducible exact ih0 _ _ _ _ _ _ _ _ _)
   | (with_reducible exact ih1 _ _ _ _ _ _ _ _ _ _)
   | (with_reducible exact spec_PkgRead.mono _ _)
   | (with_reducible exact spec_SumOf.mono _ _)
   | (with_reducible exact LeO.refl _)
   | (with_reducible exact LeO.none _)
   | (with_reducible refine LeO.ite ?_ ?_)
   | (with_reducible refine LeO.bind ?_ (fun _ => ?_))
   | exact ih0 _ _ _ _ _ _ _ _ _
   | exact ih1 _ _ _ _ _ _ _ _ _ _
   | exact spec_PkgRead.mono _ _
   | exact spec_SumOf.mono _ _
   | exact LeO.none _
   | refine LeO.ite ?_ ?_
   | refine LeO.bind ?_ (fun _ => ?_)
  ·intro y0 y1 y2 y3 y4 y5 y6 y7 y8 y9
   unfold spec_l3Has.j1
   repeat' first
   | (with_reducible exact ih0 _ _ _ _ _ _ _ _ _)
   | (with_reducible exact ih1 _ _ _ _ _ _ _ _ _ _)
   | (with_reducible exact spec_PkgRead.mono _ _)
   | (with_reducible exact spec_SumOf.mono _ _)
   | (with_reducible exact LeO.refl _)
   | (with_reducible exact LeO.none _)
   | (with_reducible refine LeO.ite ?_ ?_)
   | (with_reducible refine LeO.bind ?_ (fun _ => ?_))
   | exact ih0 _ _ _ _ _ _ _ _ _
   | exact ih1 _ _ _ _ _ _ _ _ _ _
   | exact spec_PkgRead.mono _ _
   | exact spec_SumOf.mono _ _
   | exact LeO.none _
   | refine LeO.ite ?_ ?_
   | refine LeO.bind ?_ (fun _ => ?_)
theorem spec_l3Has.mono : ∀ a0 a1 a2 a3 k, LeO (spec_l3Has.f k a0 a1 a2 a3) (spec_l3Has.f (k + 1) a0 a1 a2 a3) := by
 intro a0 a1 a2 a3 k
 obtain ⟨ih0, ih1⟩ := spec_l3Has.mono_l k
 unfold spec_l3Has.f
 repeat' with_reducible first | apply ih0 | apply ih1 | apply spec_PkgRead.mono | apply spec_SumOf.mono | exact LeO.refl _ | exact LeO.none _ | refine LeO.ite ?_ ?_ | refine LeO.bind ?_ (fun _ => ?_)
set_option maxHeartbeats 8000000 in
set_option maxRecDepth 100000 in
theorem spec_l3Has.calls (k : Nat) (a0_0 : Int) (a0_1 : Int) (A0_2 : Option Addr) (c0_2 : Nat) (l0_2 : List (S47)) (a1 : ByteArray) (r1 : Int) (r2 : Int) (r3 : List (S71)) (r4 : List (S73)) (r5 : Bool) (w : World) (hr0_2 : Kd.C k47 w A0_2 l0_2.length l0_2) (hc0_2 : l0_2.length ≤ c0_2) (h : spec_l3Has.f k a0_0 a0_1 l0_2 a1 = some (r1, r2, r3, r4, r5)) :
  Calls Tryz.prog 15 #[.agg #[.int .i64 a0_0, .int .i64 a0_1, .slice A0_2 l0_2.length c0_2], .string a1] w fun e w' => ∃ v2_ v3_ : Value, e = .returned (.tuple #[.agg #[.int .i64 r1, .int .i64 r2, v2_, v3_], .bool r5]) ∧ Kd.R k71 71 w' w.heap.size (fun _ => True) v2_ r3 ∧ Kd.R k73 73 w' w.heap.size (fun _ => True) v3_ r4 ∧ Below w.heap.size w w' := by
 have hu34 := Tryz.underlying34; have hu29 := Tryz.underlying29; have hu47 := Tryz.underlying47; have HR0_2 := aM hr0_2; have HC0_2 := aM hc0_2; clear hr0_2 hc0_2; have HB := aM (Below.refl w.heap.size w); have H : ((spec_PkgRead.f k a1).bind fun bt162 => (if bt162.2.2.2.2 = true then (spec_l3Has.l0 k a1 0 a0_0 a0_1 l0_2 bt162.1 bt162.2.1 bt162.2.2.1 bt162.2.2.2.1) else (some (0, 0, ([] : List (S71)), ([] : List (S73)), false)))) = some (r1, r2, r3, r4, r5) := h; clear h; replace H := Option.bind_eq_some_iff.mp H; obtain ⟨⟨t162, t163, t164, t167, t170⟩, A30, H⟩ := H; (try dsimp only at H); have A3 := aM A30; clear A30
 by_cases c4 : t170 = true
 ·subst c4; replace H := zy1 H; have H' := aM H; clear H
  go_enter Tryz.func15, Tryz.ntmps15
  go_wp2_with (first | ((with_reducible refine gate_dst (N := 2) rfl ?_); refine zbx 2 #[.int .i64 a0_0, .int .i64 a0_1, .slice A0_2 l0_2.length c0_2] 34 ?_; intro gb160 hg w5 hbox hb; have _ := aM (below_step (zB HB.1) hb); have _ := aM (hbox); have _ := aM (zge hg (zB HB.1)); have _ := aM (zge hg (zB HB.1)); clear HB; rename_i HB BK160 GW160 GE160; clear hb hbox hg) | ((with_reducible refine gate_dst (N := 4) rfl ?_); refine zbx 4 #[.int .i64 0, .int .i64 0, .slice none 0 0, .slice none 0 0] 29 ?_; intro gb161 hg w6 hbox hb; have _ := aM (blk_below (zK BK160.1) hb); have _ := aM (below_step (zB1 HB.1 GE160.1) hb); have _ := aM (hbox); have _ := aM (zge hg (zB1 HB.1 GE160.1)); have _ := aM (zge hg (zB1 HB.1 GE160.1)); have _ := aM (znl hg (zK BK160.1)); have _ := aM (zng hg (zK BK160.1)); clear BK160 HB; rename_i BK160 HB BK161 GW161 GE161 NB160_161 NB161_160; clear hb hbox hg) | (go_at_call 31; (with_reducible refine (spec_PkgRead.calls k a1 t162 t163 t164 t167 true _ A3.1).mono ?_); rintro e w7 ⟨v165, v168, rfl, ho0, ho1, hb⟩; have _ := aM (Kd.R_lower ho0 (below_size (zB2 HB.1 GE160.1 GE161.1))); have _ := aM (Kd.R_lower ho1 (below_size (zB2 HB.1 GE160.1 GE161.1))); have _ := aM (blk_below (zK BK160.1) hb); have _ := aM (blk_below (zK BK161.1) hb); have _ := aM (below_step (zB2 HB.1 GE160.1 GE161.1) hb); clear BK160 BK161 HB; rename_i HO166 HO169 BK160 BK161 HB; (try clear hb); (try clear hb2); (try clear hk); (try clear hi); (try clear ho0); (try clear ho1)) | ((with_reducible refine gate_dst (N := 6) rfl ?_); refine zbx 6 #[.int .i64 0, .int .i64 0, .slice none 0 0, .slice none 0 0] 29 ?_; intro gb171 hg w8 hbox hb; have _ := aM (Kd.R_below (zR HO166.1) hb); have _ := aM (Kd.R_below (zR HO169.1) hb); have _ := aM (blk_below (zK BK160.1) hb); have _ := aM (blk_below (zK BK161.1) hb); have _ := aM (below_step (zB2 HB.1 GE160.1 GE161.1) hb); have _ := aM (hbox); have _ := aM (zge hg (zB2 HB.1 GE160.1 GE161.1)); have _ := aM (zge hg (zB2 HB.1 GE160.1 GE161.1)); have _ := aM (znl hg (zK BK160.1)); have _ := aM (zng hg (zK BK160.1)); have _ := aM (znl hg (zK BK161.1)); have _ := aM (zng hg (zK BK161.1)); clear HO166 HO169 BK160 BK161 HB; rename_i HO166 HO169 BK160 BK161 HB BK171 GW171 GE171 NB160_171 NB171_160 NB161_171 NB171_161; clear hb hbox hg; have hnb9 := NB171_160.1; have hnc9 := NB160_171.1; have hnb10 := NB171_161.1; have hnc10 := NB161_171.1; obtain ⟨hcz11_0, hcz11_1, hcz11_2, hcz11_3, hfz11_0, hfz11_1, hfz11_2, hfz11_3⟩ := zc4f BK171.1; obtain ⟨Ao12, co12, eo12⟩ := Kd.R_slice HO166.1; subst eo12; obtain ⟨Ao13, co13, eo13⟩ := Kd.R_slice HO169.1; subst eo13))
  repeat (go_quiet (first | (go_at_call 31; (with_reducible refine (spec_PkgRead.calls k a1 t162 t163 t164 t167 true _ A3.1).mono ?_); rintro e w7 ⟨v165, v168, rfl, ho0, ho1, hb⟩; have _ := aM (Kd.R_lower ho0 (below_size (zB2 HB.1 GE160.1 GE161.1))); have _ := aM (Kd.R_lower ho1 (below_size (zB2 HB.1 GE160.1 GE161.1))); have _ := aM (blk_below (zK BK160.1) hb); have _ := aM (blk_below (zK BK161.1) hb); have _ := aM (below_step (zB2 HB.1 GE160.1 GE161.1) hb); clear BK160 BK161 HB; rename_i HO166 HO169 BK160 BK161 HB; (try clear hb); (try clear hb2); (try clear hk); (try clear hi); (try clear ho0); (try clear ho1))); try go_wp2_with (first | ((with_reducible refine gate_dst (N := 2) rfl ?_); refine zbx 2 #[.int .i64 a0_0, .int .i64 a0_1, .slice A0_2 l0_2.length c0_2] 34 ?_; intro gb160 hg w5 hbox hb; have _ := aM (below_step (zB HB.1) hb); have _ := aM (hbox); have _ := aM (zge hg (zB HB.1)); have _ := aM (zge hg (zB HB.1)); clear HB; rename_i HB BK160 GW160 GE160; clear hb hbox hg) | ((with_reducible refine gate_dst (N := 4) rfl ?_); refine zbx 4 #[.int .i64 0, .int .i64 0, .slice none 0 0, .slice none 0 0] 29 ?_; intro gb161 hg w6 hbox hb; have _ := aM (blk_below (zK BK160.1) hb); have _ := aM (below_step (zB1 HB.1 GE160.1) hb); have _ := aM (hbox); have _ := aM (zge hg (zB1 HB.1 GE160.1)); have _ := aM (zge hg (zB1 HB.1 GE160.1)); have _ := aM (znl hg (zK BK160.1)); have _ := aM (zng hg (zK BK160.1)); clear BK160 HB; rename_i BK160 HB BK161 GW161 GE161 NB160_161 NB161_160; clear hb hbox hg) | (go_at_call 31; (with_reducible refine (spec_PkgRead.calls k a1 t162 t163 t164 t167 true _ A3.1).mono ?_); rintro e w7 ⟨v165, v168, rfl, ho0, ho1, hb⟩; have _ := aM (Kd.R_lower ho0 (below_size (zB2 HB.1 GE160.1 GE161.1))); have _ := aM (Kd.R_lower ho1 (below_size (zB2 HB.1 GE160.1 GE161.1))); have _ := aM (blk_below (zK BK160.1) hb); have _ := aM (blk_below (zK BK161.1) hb); have _ := aM (below_step (zB2 HB.1 GE160.1 GE161.1) hb); clear BK160 BK161 HB; rename_i HO166 HO169 BK160 BK161 HB; (try clear hb); (try clear hb2); (try clear hk); (try clear hi); (try clear ho0); (try clear ho1)) | ((with_reducible refine gate_dst (N := 6) rfl ?_); refine zbx 6 #[.int .i64 0, .int .i64 0, .slice none 0 0, .slice none 0 0] 29 ?_; intro gb171 hg w8 hbox hb; have _ := aM (Kd.R_below (zR HO166.1) hb); have _ := aM (Kd.R_below (zR HO169.1) hb); have _ := aM (blk_below (zK BK160.1) hb); have _ := aM (blk_below (zK BK161.1) hb); have _ := aM (below_step (zB2 HB.1 GE160.1 GE161.1) hb); have _ := aM (hbox); have _ := aM (zge hg (zB2 HB.1 GE160.1 GE161.1)); have _ := aM (zge hg (zB2 HB.1 GE160.1 GE161.1)); have _ := aM (znl hg (zK BK160.1)); have _ := aM (zng hg (zK BK160.1)); have _ := aM (znl hg (zK BK161.1)); have _ := aM (zng hg (zK BK161.1)); clear HO166 HO169 BK160 BK161 HB; rename_i HO166 HO169 BK160 BK161 HB BK171 GW171 GE171 NB160_171 NB171_160 NB161_171 NB171_161; clear hb hbox hg; have hnb9 := NB171_160.1; have hnc9 := NB160_171.1; have hnb10 := NB171_161.1; have hnc10 := NB161_171.1; obtain ⟨hcz11_0, hcz11_1, hcz11_2, hcz11_3, hfz11_0, hfz11_1, hfz11_2, hfz11_3⟩ := zc4f BK171.1; obtain ⟨Ao12, co12, eo12⟩ := Kd.R_slice HO166.1; subst eo12; obtain ⟨Ao13, co13, eo13⟩ := Kd.R_slice HO169.1; subst eo13)))
  go_loopg [8] k (fun kq v8 w' => ∃ (x8_1 : Int) (x162000_1 : Int) (x162001_1 : Int), v8 = .int .i64 x8_1 ∧ Aside0 (spec_l3Has.l0 kq a1 x8_1 a0_0 a0_1 l0_2 t162 t163 t164 t167 = some (r1, r2, r3, r4, r5)) ∧ Aside0 (kq ≤ k) ∧ Aside0 (Kd.R k71 71 w' w.heap.size (fun _ => True) (.slice Ao12 t164.length co12) t164) ∧ Aside0 (Kd.R k73 73 w' w.heap.size (fun _ => True) (.slice Ao13 t167.length co13) t167) ∧ Aside0 (w'.heap[gb160]? = some (.cells #[.int .i64 a0_0, .int .i64 a0_1, (.slice A0_2 l0_2.length c0_2)] 34 (0, 0))) ∧ Aside0 (w'.heap[gb161]? = some (.cells #[.int .i64 x162000_1, .int .i64 x162001_1, (.slice none 0 0), (.slice none 0 0)] 29 (0, 0))) ∧ Aside0 (w'.heap[gb171]? = some (.cells #[.int .i64 t162, .int .i64 t163, (.slice Ao12 t164.length co12), (.slice Ao13 t167.length co13)] 29 (0, 0))) ∧ Aside0 (Below w.heap.size w w'))
  case atStart => exact ⟨(0), (0), (0), (by first | rfl | (simp; done) | (simp [*]; done)), H', ⟨Nat.le_refl _⟩, ⟨by exact (Kd.R_mono (zFR (g := gb171) (Kd.R_types HO166.1 BK171.1 (by decide)) (fun _ hk => hk.2)) (fun _ hk => trivial))⟩, ⟨by exact (Kd.R_mono (zFR (g := gb171) (Kd.R_types HO169.1 BK171.1 (by decide)) (fun _ hk => hk.2)) (fun _ hk => trivial))⟩, ⟨zK1 BK160.1 NB160_171.1⟩, ⟨zK1 BK161.1 NB161_171.1⟩, ⟨by exact zP BK171.1 (by rfl)⟩, ⟨zB3 HB.1 GE160.1 GE161.1 GE171.1⟩⟩
  case round =>
   clear H'
   try clear c1
   try clear p2
   try clear c4
   try clear c9
   try clear c10
   try clear hcz11_0
   try clear hcz11_1
   try clear hcz11_2
   try clear hcz11_3
   try clear hfz11_0
   try clear hfz11_1
   try clear hfz11_2
   try clear hfz11_3
   obtain ⟨x8_1, x162000_1, x162001_1, rfl, HA, HK1, HO_172002, HO_172003, BK160, BK161, BK171, HB⟩ := hrel; cases gk with
   | zero => exact absurd HA.1 (by simp [spec_l3Has.l0])
   | succ k1 =>
    have H := HA.1; clear HA; simp only [spec_l3Has.l0] at H
    by_cases c14 : x8_1 < (l0_2.length : Int)
    ·rw [if_pos c14] at H; have c14b0 : decide (x8_1 < (l0_2.length : Int)) = true := decide_eq_true c14; clear c14; replace H := zif H; obtain ⟨c15, H⟩ := H; have c15b0 : decide (0 ≤ x8_1) = true := decide_eq_true c15; clear c15; have HC16 := aM H; clear H; have hnb17 := NB160_161.1; have hnc17 := NB161_160.1; have hnb18 := NB160_171.1; have hnc18 := NB171_160.1; obtain ⟨hcz19_0, hcz19_1, hcz19_2, hfz19_0, hfz19_1, hfz19_2⟩ := zc3f BK160.1; have p172 : 0 ≤ (x8_1 : Int) := zd; have q172 : x8_1 < (l0_2.length : Int) := zd; obtain ⟨ad172, e172, hx172_0, hx172_1, hx172_2⟩ := at_T47 HR0_2.1 x8_1 p172 q172; cases e172; replace hx172_0 := (HB.1.cell (World.block_lt_of_cell? w _ hx172_0)).trans hx172_0; replace hx172_1 := (HB.1.cell (World.block_lt_of_cell? w _ hx172_1)).trans hx172_1; replace hx172_2 := (HB.1.cell (World.block_lt_of_cell? w _ hx172_2)).trans hx172_2; replace p172 := eq_true p172; replace q172 := eq_true q172
     go_upto_region 8 with (first | ((with_reducible refine gate_dst (N := 9) rfl ?_); refine zbx 9 #[.int .i64 0, .int .i64 0, .int .i64 0] 47 ?_; intro gb173 hg w20 hbox hb; have _ := aM (Kd.R_below (zR HO_172002.1) hb); have _ := aM (Kd.R_below (zR HO_172003.1) hb); have _ := aM (blk_below (zK BK160.1) hb); have _ := aM (blk_below (zK BK161.1) hb); have _ := aM (blk_below (zK BK171.1) hb); have _ := aM (below_step (zB3 HB.1 GE160.1 GE161.1 GE171.1) hb); have _ := aM (hbox); have _ := aM (zge hg (zB3 HB.1 GE160.1 GE161.1 GE171.1)); have _ := aM (zge hg (zB3 HB.1 GE160.1 GE161.1 GE171.1)); have _ := aM (znl hg (zK BK160.1)); have _ := aM (zng hg (zK BK160.1)); have _ := aM (znl hg (zK BK161.1)); have _ := aM (zng hg (zK BK161.1)); have _ := aM (znl hg (zK BK171.1)); have _ := aM (zng hg (zK BK171.1)); clear HO_172002 HO_172003 BK160 BK161 BK171 HB; rename_i HO_172002 HO_172003 BK160 BK161 BK171 HB BK173 GW173 GE173 NB160_173 NB173_160 NB161_173 NB173_161 NB171_173 NB173_171; clear hb hbox hg; have hnb21 := NB173_160.1; have hnc21 := NB160_173.1; have hnb22 := NB173_161.1; have hnc22 := NB161_173.1; have hnb23 := NB173_171.1; have hnc23 := NB171_173.1; obtain ⟨hcz24_0, hcz24_1, hcz24_2, hfz24_0, hfz24_1, hfz24_2⟩ := zc3f BK173.1))
     repeat (go_quiet (fail); go_upto_region 8 with (first | ((with_reducible refine gate_dst (N := 9) rfl ?_); refine zbx 9 #[.int .i64 0, .int .i64 0, .int .i64 0] 47 ?_; intro gb173 hg w20 hbox hb; have _ := aM (Kd.R_below (zR HO_172002.1) hb); have _ := aM (Kd.R_below (zR HO_172003.1) hb); have _ := aM (blk_below (zK BK160.1) hb); have _ := aM (blk_below (zK BK161.1) hb); have _ := aM (blk_below (zK BK171.1) hb); have _ := aM (below_step (zB3 HB.1 GE160.1 GE161.1 GE171.1) hb); have _ := aM (hbox); have _ := aM (zge hg (zB3 HB.1 GE160.1 GE161.1 GE171.1)); have _ := aM (zge hg (zB3 HB.1 GE160.1 GE161.1 GE171.1)); have _ := aM (znl hg (zK BK160.1)); have _ := aM (zng hg (zK BK160.1)); have _ := aM (znl hg (zK BK161.1)); have _ := aM (zng hg (zK BK161.1)); have _ := aM (znl hg (zK BK171.1)); have _ := aM (zng hg (zK BK171.1)); clear HO_172002 HO_172003 BK160 BK161 BK171 HB; rename_i HO_172002 HO_172003 BK160 BK161 BK171 HB BK173 GW173 GE173 NB160_173 NB173_160 NB161_173 NB173_161 NB171_173 NB173_171; clear hb hbox hg; have hnb21 := NB173_160.1; have hnc21 := NB160_173.1; have hnb22 := NB173_161.1; have hnc22 := NB161_173.1; have hnb23 := NB173_171.1; have hnc23 := NB171_173.1; obtain ⟨hcz24_0, hcz24_1, hcz24_2, hfz24_0, hfz24_1, hfz24_2⟩ := zc3f BK173.1)))
     (try simp only [zp0, zp1, zp2, zp3, zp4])
     go_cut [48] (fun v48 wc => ∃ (kq : Nat) (x48_15 : Bool), v48 = .bool x48_15 ∧ Aside0 (spec_l3Has.j1 kq a1 x8_1 x48_15 a0_0 a0_1 l0_2 t162 t163 t164 t167 = some (r1, r2, r3, r4, r5)) ∧ Aside0 (kq ≤ k1) ∧ Aside0 (Kd.R k71 71 wc w.heap.size (fun _ => True) (.slice Ao12 t164.length co12) t164) ∧ Aside0 (Kd.R k73 73 wc w.heap.size (fun _ => True) (.slice Ao13 t167.length co13) t167) ∧ Aside0 (wc.heap[gb160]? = some (.cells #[.int .i64 a0_0, .int .i64 a0_1, (.slice (some ad172) l0_2.length c0_2)] 34 (0, 0))) ∧ Aside0 (wc.heap[gb161]? = some (.cells #[.int .i64 x162000_1, .int .i64 x162001_1, (.slice none 0 0), (.slice none 0 0)] 29 (0, 0))) ∧ Aside0 (wc.heap[gb171]? = some (.cells #[.int .i64 t162, .int .i64 t163, (.slice Ao12 t164.length co12), (.slice Ao13 t167.length co13)] 29 (0, 0))) ∧ Aside0 (wc.heap[gb173]? = some (.cells #[.int .i64 ((rd_T47 l0_2 x8_1).f0), .int .i64 ((rd_T47 l0_2 x8_1).f1), .int .i64 ((rd_T47 l0_2 x8_1).f2)] 47 (0, 0))) ∧ Aside0 (Below w.heap.size w wc))
     case first =>
      have H := HC16.1; clear HC16
      by_cases c25 : ((rd_T47 l0_2 x8_1).f0) = t162
      ·rw [if_pos c25] at H; have c25b0 : (((rd_T47 l0_2 x8_1).f0) == t162) = true := beq_iff_eq.mpr c25; have c25b1 : (((rd_T47 l0_2 x8_1).f0) != t162) = false := bne_eq_false_iff_eq.mpr c25; clear c25; (first | rw [c25b0] | (simp only [i64_w, i32_w]; rw [c25b0]) | skip)
       by_cases c26 : ((rd_T47 l0_2 x8_1).f1) = t163
       ·rw [if_pos c26] at H; have c26b0 : (((rd_T47 l0_2 x8_1).f1) == t163) = true := beq_iff_eq.mpr c26; have c26b1 : (((rd_T47 l0_2 x8_1).f1) != t163) = false := bne_eq_false_iff_eq.mpr c26; clear c26; replace H := Option.bind_eq_some_iff.mp H; obtain ⟨t174, A270, H⟩ := H; (try dsimp only at H); have A27 := aM A270; clear A270; have H' := aM H; clear H; have hnb28 := NB173_160.1; have hnc28 := NB160_173.1; have hnb29 := NB173_161.1; have hnc29 := NB161_173.1; have hnb30 := NB173_171.1; have hnc30 := NB171_173.1; obtain ⟨hcz31_0, hcz31_1, hcz31_2, hfz31_0, hfz31_1, hfz31_2⟩ := zc3f BK173.1; have hnb32 := NB171_160.1; have hnc32 := NB160_171.1; have hnb33 := NB171_161.1; have hnc33 := NB161_171.1; obtain ⟨hcz34_0, hcz34_1, hcz34_2, hcz34_3, hfz34_0, hfz34_1, hfz34_2, hfz34_3⟩ := zc4f BK171.1
        go_wp2_with (first | (go_at_call 32; (with_reducible refine (spec_SumOf.calls k1 a1 t174 _ A27.1).mono ?_); rintro e w' ⟨rfl, ⟨nd, rfl⟩⟩; (try first | exact ⟨rfl, _, World.drewN_drewN _ _ _⟩ | exact ⟨rfl, _, Eq.trans (World.drewN_drewN _ _ _) (congrArg (World.drewN _) (Nat.add_assoc _ _ _))⟩)))
        repeat (go_quiet (first | (go_at_call 32; (with_reducible refine (spec_SumOf.calls k1 a1 t174 _ A27.1).mono ?_); rintro e w' ⟨rfl, ⟨nd, rfl⟩⟩; (try first | exact ⟨rfl, _, World.drewN_drewN _ _ _⟩ | exact ⟨rfl, _, Eq.trans (World.drewN_drewN _ _ _) (congrArg (World.drewN _) (Nat.add_assoc _ _ _))⟩))); try go_wp2_with (first | (go_at_call 32; (with_reducible refine (spec_SumOf.calls k1 a1 t174 _ A27.1).mono ?_); rintro e w' ⟨rfl, ⟨nd, rfl⟩⟩; (try first | exact ⟨rfl, _, World.drewN_drewN _ _ _⟩ | exact ⟨rfl, _, Eq.trans (World.drewN_drewN _ _ _) (congrArg (World.drewN _) (Nat.add_assoc _ _ _))⟩))))
        go_meet
        case rel => exact ⟨_, ((((rd_T47 l0_2 x8_1).f2) == t174)), (by first | rfl | (simp; done) | (simp [*]; done)), H', ⟨by have := HK1.1; first | omega | exact Nat.le_refl _⟩, ⟨by exact (Kd.R_mono (zFR (g := gb173) (Kd.R_types HO_172002.1 BK173.1 (by decide)) (fun _ hk => hk.2)) (fun _ hk => trivial))⟩, ⟨by exact (Kd.R_mono (zFR (g := gb173) (Kd.R_types HO_172003.1 BK173.1 (by decide)) (fun _ hk => hk.2)) (fun _ hk => trivial))⟩, ⟨zK1 BK160.1 NB160_173.1⟩, ⟨zK1 BK161.1 NB161_173.1⟩, ⟨zK1 BK171.1 NB171_173.1⟩, ⟨by exact zP BK173.1 (by rfl)⟩, ⟨zB4 HB.1 GE160.1 GE161.1 GE171.1 GE173.1⟩⟩
       ·rw [if_neg c26] at H; have c26b0 : (((rd_T47 l0_2 x8_1).f1) == t163) = false := beq_eq_false_iff_ne.mpr c26; have c26b1 : (((rd_T47 l0_2 x8_1).f1) != t163) = true := bne_iff_ne.mpr c26; have H' := aM H; clear H; have hnb35 := NB173_160.1; have hnc35 := NB160_173.1; have hnb36 := NB173_161.1; have hnc36 := NB161_173.1; have hnb37 := NB173_171.1; have hnc37 := NB171_173.1; obtain ⟨hcz38_0, hcz38_1, hcz38_2, hfz38_0, hfz38_1, hfz38_2⟩ := zc3f BK173.1; have hnb39 := NB171_160.1; have hnc39 := NB160_171.1; have hnb40 := NB171_161.1; have hnc40 := NB161_171.1; obtain ⟨hcz41_0, hcz41_1, hcz41_2, hcz41_3, hfz41_0, hfz41_1, hfz41_2, hfz41_3⟩ := zc4f BK171.1
        go_wp2
        repeat (go_quiet (fail); try go_wp2)
        go_meet
        case rel => exact ⟨_, (false), (by first | rfl | (simp; done) | (simp [*]; done)), H', ⟨by have := HK1.1; first | omega | exact Nat.le_refl _⟩, ⟨by exact (Kd.R_mono (zFR (g := gb173) (Kd.R_types HO_172002.1 BK173.1 (by decide)) (fun _ hk => hk.2)) (fun _ hk => trivial))⟩, ⟨by exact (Kd.R_mono (zFR (g := gb173) (Kd.R_types HO_172003.1 BK173.1 (by decide)) (fun _ hk => hk.2)) (fun _ hk => trivial))⟩, ⟨zK1 BK160.1 NB160_173.1⟩, ⟨zK1 BK161.1 NB161_173.1⟩, ⟨zK1 BK171.1 NB171_173.1⟩, ⟨by exact zP BK173.1 (by rfl)⟩, ⟨zB4 HB.1 GE160.1 GE161.1 GE171.1 GE173.1⟩⟩
      ·rw [if_neg c25] at H; have c25b0 : (((rd_T47 l0_2 x8_1).f0) == t162) = false := beq_eq_false_iff_ne.mpr c25; have c25b1 : (((rd_T47 l0_2 x8_1).f0) != t162) = true := bne_iff_ne.mpr c25; (first | rw [c25b0] | (simp only [i64_w, i32_w]; rw [c25b0]) | skip); have H' := aM H; clear H; have hnb42 := NB173_160.1; have hnc42 := NB160_173.1; have hnb43 := NB173_161.1; have hnc43 := NB161_173.1; have hnb44 := NB173_171.1; have hnc44 := NB171_173.1; obtain ⟨hcz45_0, hcz45_1, hcz45_2, hfz45_0, hfz45_1, hfz45_2⟩ := zc3f BK173.1; have hnb46 := NB171_160.1; have hnc46 := NB160_171.1; have hnb47 := NB171_161.1; have hnc47 := NB161_171.1; obtain ⟨hcz48_0, hcz48_1, hcz48_2, hcz48_3, hfz48_0, hfz48_1, hfz48_2, hfz48_3⟩ := zc4f BK171.1
       go_wp2
       repeat (go_quiet (fail); try go_wp2)
       go_meet
       case rel => exact ⟨_, (false), (by first | rfl | (simp; done) | (simp [*]; done)), H', ⟨by have := HK1.1; first | omega | exact Nat.le_refl _⟩, ⟨by exact (Kd.R_mono (zFR (g := gb173) (Kd.R_types HO_172002.1 BK173.1 (by decide)) (fun _ hk => hk.2)) (fun _ hk => trivial))⟩, ⟨by exact (Kd.R_mono (zFR (g := gb173) (Kd.R_types HO_172003.1 BK173.1 (by decide)) (fun _ hk => hk.2)) (fun _ hk => trivial))⟩, ⟨zK1 BK160.1 NB160_173.1⟩, ⟨zK1 BK161.1 NB161_173.1⟩, ⟨zK1 BK171.1 NB171_173.1⟩, ⟨by exact zP BK173.1 (by rfl)⟩, ⟨zB4 HB.1 GE160.1 GE161.1 GE171.1 GE173.1⟩⟩
     case rest =>
      clear HC16
      try clear c1
      try clear p1
      try clear q1
      try clear hx1
      try clear c2
      try clear p2
      try clear c3
      try clear c4
      try clear c9
      try clear c10
      try clear c14
      try clear c14b0
      try clear c15
      try clear c15b0
      try clear c17
      try clear p17
      try clear q17
      try clear hx17
      try clear c18
      try clear c21
      try clear c22
      try clear c23
      try clear c25
      try clear c25b0
      try clear c25b1
      try clear c26
      try clear c26b0
      try clear c26b1
      try clear c28
      try clear c29
      try clear c30
      try clear c32
      try clear c33
      try clear c35
      try clear c36
      try clear c37
      try clear c39
      try clear c40
      try clear c42
      try clear c43
      try clear c44
      try clear c46
      try clear c47
      try clear hcz11_0
      try clear hcz11_1
      try clear hcz11_2
      try clear hcz11_3
      try clear hcz19_0
      try clear hcz19_1
      try clear hcz19_2
      try clear hcz24_0
      try clear hcz24_1
      try clear hcz24_2
      try clear hcz31_0
      try clear hcz31_1
      try clear hcz31_2
      try clear hcz34_0
      try clear hcz34_1
      try clear hcz34_2
      try clear hcz34_3
      try clear hcz38_0
      try clear hcz38_1
      try clear hcz38_2
      try clear hcz41_0
      try clear hcz41_1
      try clear hcz41_2
      try clear hcz41_3
      try clear hcz45_0
      try clear hcz45_1
      try clear hcz45_2
      try clear hcz48_0
      try clear hcz48_1
      try clear hcz48_2
      try clear hcz48_3
      try clear hfz11_0
      try clear hfz11_1
      try clear hfz11_2
      try clear hfz11_3
      try clear hfz19_0
      try clear hfz19_1
      try clear hfz19_2
      try clear hfz24_0
      try clear hfz24_1
      try clear hfz24_2
      try clear hfz31_0
      try clear hfz31_1
      try clear hfz31_2
      try clear hfz34_0
      try clear hfz34_1
      try clear hfz34_2
      try clear hfz34_3
      try clear hfz38_0
      try clear hfz38_1
      try clear hfz38_2
      try clear hfz41_0
      try clear hfz41_1
      try clear hfz41_2
      try clear hfz41_3
      try clear hfz45_0
      try clear hfz45_1
      try clear hfz45_2
      try clear hfz48_0
      try clear hfz48_1
      try clear hfz48_2
      try clear hfz48_3
      try clear hx172_0
      try clear hx172_1
      try clear hx172_2
      try clear p172
      try clear p2
      try clear q172
      obtain ⟨kq, x48_15, rfl, HA, HJ15, HO_172002, HO_172003, BK160, BK161, BK171, BK173, HB⟩ := hcut; cases kq with
      | zero => exact absurd HA.1 (by simp [spec_l3Has.j1])
      | succ kj15 =>
       have H := HA.1; clear HA; simp only [spec_l3Has.j1] at H
       by_cases c49 : x48_15 = true
       ·subst c49; replace H := zy1 H; simp only [Option.some.injEq, Prod.mk.injEq] at H; obtain ⟨rfl, rfl, rfl, rfl, rfl⟩ := H; have hnb50 := NB171_160.1; have hnc50 := NB160_171.1; have hnb51 := NB171_161.1; have hnc51 := NB161_171.1; have hnb52 := NB171_173.1; have hnc52 := NB173_171.1; obtain ⟨hcz53_0, hcz53_1, hcz53_2, hcz53_3, hfz53_0, hfz53_1, hfz53_2, hfz53_3⟩ := zc4f BK171.1; have hnb54 := NB161_160.1; have hnc54 := NB160_161.1; have hnb55 := NB161_173.1; have hnc55 := NB173_161.1; obtain ⟨hcz56_0, hcz56_1, hcz56_2, hcz56_3, hfz56_0, hfz56_1, hfz56_2, hfz56_3⟩ := zc4f BK161.1
        go_wp2
        repeat (go_quiet (fail); try go_wp2)
        refine bodyPost_ret (results_ct rfl _ _ gb161 29 #[.int .i64 t162, .int .i64 t163, .slice Ao12 t164.length co12, .slice Ao13 t167.length co13] (0, 0) _ rfl (by exact zP BK161.1 (by rfl)) Tryz.underlying29 rfl (by kernel_rfl)) rfl ?_; exact ⟨_, _, by first | rfl | (simp [errW_none, errW_some] <;> rfl) | (simp [*, errW_none, errW_some] <;> rfl), by exact (Kd.R_mono (zFR (g := gb161) (Kd.R_types HO_172002.1 BK161.1 (by decide)) (fun _ hk => hk.2)) (fun _ hk => trivial)), by exact (Kd.R_mono (zFR (g := gb161) (Kd.R_types HO_172003.1 BK161.1 (by decide)) (fun _ hk => hk.2)) (fun _ hk => trivial)), by exact zB4 HB.1 GE160.1 GE161.1 GE171.1 GE173.1⟩
       ·replace c49 := Bool.eq_false_iff.mpr c49; subst c49; replace H := zy0 H; have H' := aM H; clear H
        go_wp2
        repeat (go_quiet (fail); try go_wp2)
        go_roundg kj15
        case measure => have := HK1.1; have := HJ15.1; omega
        case rel => exact ⟨(wrap64 (x8_1 + 1)), (x162000_1), (x162001_1), (by first | rfl | (simp; done) | (simp [*]; done)), H', ⟨by have := HK1.1; have := HJ15.1; omega⟩, ⟨zR HO_172002.1⟩, ⟨zR HO_172003.1⟩, ⟨zK BK160.1⟩, ⟨zK BK161.1⟩, ⟨zK BK171.1⟩, ⟨zB4 HB.1 GE160.1 GE161.1 GE171.1 GE173.1⟩⟩
    ·rw [if_neg c14] at H; have c14b0 : decide (x8_1 < (l0_2.length : Int)) = false := decide_eq_false c14; clear c14; simp only [Option.some.injEq, Prod.mk.injEq] at H; obtain ⟨rfl, rfl, rfl, rfl, rfl⟩ := H; have hnb57 := NB160_161.1; have hnc57 := NB161_160.1; have hnb58 := NB160_171.1; have hnc58 := NB171_160.1; obtain ⟨hcz59_0, hcz59_1, hcz59_2, hfz59_0, hfz59_1, hfz59_2⟩ := zc3f BK160.1; have hnb60 := NB161_171.1; have hnc60 := NB171_161.1; obtain ⟨hcz61_0, hcz61_1, hcz61_2, hcz61_3, hfz61_0, hfz61_1, hfz61_2, hfz61_3⟩ := zc4f BK161.1
     go_wp2
     repeat (go_quiet (fail); try go_wp2)
     refine bodyPost_ret (results_ct rfl _ _ gb161 29 #[.int .i64 0, .int .i64 0, .slice none 0 0, .slice none 0 0] (0, 0) _ rfl (by exact zP BK161.1 (by rfl)) Tryz.underlying29 rfl (by kernel_rfl)) rfl ?_; exact ⟨_, _, by first | rfl | (simp [errW_none, errW_some] <;> rfl) | (simp [*, errW_none, errW_some] <;> rfl), by first | exact Kd.R_nil _ _ _ _ _ | exact Kd.N_nil _ _ _ _ _ | exact Kd.V_nil _ _ _ _ _ | exact Kd.Q_nil _ _ _ _ _ | exact Kd.S_nil _ _ _ _ _, by first | exact Kd.R_nil _ _ _ _ _ | exact Kd.N_nil _ _ _ _ _ | exact Kd.V_nil _ _ _ _ _ | exact Kd.Q_nil _ _ _ _ _ | exact Kd.S_nil _ _ _ _ _, by exact zB3 HB.1 GE160.1 GE161.1 GE171.1⟩
 ·replace c4 := Bool.eq_false_iff.mpr c4; subst c4; replace H := zy0 H; simp only [Option.some.injEq, Prod.mk.injEq] at H; obtain ⟨rfl, rfl, rfl, rfl, rfl⟩ := H
  go_enter Tryz.func15, Tryz.ntmps15
  go_wp2_with (first | ((with_reducible refine gate_dst (N := 2) rfl ?_); refine zbx 2 #[.int .i64 a0_0, .int .i64 a0_1, .slice A0_2 l0_2.length c0_2] 34 ?_; intro gb160 hg w62 hbox hb; have _ := aM (below_step (zB HB.1) hb); have _ := aM (hbox); have _ := aM (zge hg (zB HB.1)); have _ := aM (zge hg (zB HB.1)); clear HB; rename_i HB BK160 GW160 GE160; clear hb hbox hg) | ((with_reducible refine gate_dst (N := 4) rfl ?_); refine zbx 4 #[.int .i64 0, .int .i64 0, .slice none 0 0, .slice none 0 0] 29 ?_; intro gb161 hg w63 hbox hb; have _ := aM (blk_below (zK BK160.1) hb); have _ := aM (below_step (zB1 HB.1 GE160.1) hb); have _ := aM (hbox); have _ := aM (zge hg (zB1 HB.1 GE160.1)); have _ := aM (zge hg (zB1 HB.1 GE160.1)); have _ := aM (znl hg (zK BK160.1)); have _ := aM (zng hg (zK BK160.1)); clear BK160 HB; rename_i BK160 HB BK161 GW161 GE161 NB160_161 NB161_160; clear hb hbox hg) | (go_at_call 31; (with_reducible refine (spec_PkgRead.calls k a1 t162 t163 t164 t167 false _ A3.1).mono ?_); rintro e w64 ⟨v165, v168, rfl, ho0, ho1, hb⟩; have _ := aM (Kd.R_lower ho0 (below_size (zB2 HB.1 GE160.1 GE161.1))); have _ := aM (Kd.R_lower ho1 (below_size (zB2 HB.1 GE160.1 GE161.1))); have _ := aM (blk_below (zK BK160.1) hb); have _ := aM (blk_below (zK BK161.1) hb); have _ := aM (below_step (zB2 HB.1 GE160.1 GE161.1) hb); clear BK160 BK161 HB; rename_i HO166 HO169 BK160 BK161 HB; (try clear hb); (try clear hb2); (try clear hk); (try clear hi); (try clear ho0); (try clear ho1)) | ((with_reducible refine gate_dst (N := 6) rfl ?_); refine zbx 6 #[.int .i64 0, .int .i64 0, .slice none 0 0, .slice none 0 0] 29 ?_; intro gb171 hg w65 hbox hb; have _ := aM (Kd.R_below (zR HO166.1) hb); have _ := aM (Kd.R_below (zR HO169.1) hb); have _ := aM (blk_below (zK BK160.1) hb); have _ := aM (blk_below (zK BK161.1) hb); have _ := aM (below_step (zB2 HB.1 GE160.1 GE161.1) hb); have _ := aM (hbox); have _ := aM (zge hg (zB2 HB.1 GE160.1 GE161.1)); have _ := aM (zge hg (zB2 HB.1 GE160.1 GE161.1)); have _ := aM (znl hg (zK BK160.1)); have _ := aM (zng hg (zK BK160.1)); have _ := aM (znl hg (zK BK161.1)); have _ := aM (zng hg (zK BK161.1)); clear HO166 HO169 BK160 BK161 HB; rename_i HO166 HO169 BK160 BK161 HB BK171 GW171 GE171 NB160_171 NB171_160 NB161_171 NB171_161; clear hb hbox hg; have hnb66 := NB171_160.1; have hnc66 := NB160_171.1; have hnb67 := NB171_161.1; have hnc67 := NB161_171.1; obtain ⟨hcz68_0, hcz68_1, hcz68_2, hcz68_3, hfz68_0, hfz68_1, hfz68_2, hfz68_3⟩ := zc4f BK171.1; obtain ⟨Ao69, co69, eo69⟩ := Kd.R_slice HO166.1; subst eo69; obtain ⟨Ao70, co70, eo70⟩ := Kd.R_slice HO169.1; subst eo70; have hnb71 := NB161_160.1; have hnc71 := NB160_161.1; obtain ⟨hcz72_0, hcz72_1, hcz72_2, hcz72_3, hfz72_0, hfz72_1, hfz72_2, hfz72_3⟩ := zc4f BK161.1))
  repeat (go_quiet (first | (go_at_call 31; (with_reducible refine (spec_PkgRead.calls k a1 t162 t163 t164 t167 false _ A3.1).mono ?_); rintro e w64 ⟨v165, v168, rfl, ho0, ho1, hb⟩; have _ := aM (Kd.R_lower ho0 (below_size (zB2 HB.1 GE160.1 GE161.1))); have _ := aM (Kd.R_lower ho1 (below_size (zB2 HB.1 GE160.1 GE161.1))); have _ := aM (blk_below (zK BK160.1) hb); have _ := aM (blk_below (zK BK161.1) hb); have _ := aM (below_step (zB2 HB.1 GE160.1 GE161.1) hb); clear BK160 BK161 HB; rename_i HO166 HO169 BK160 BK161 HB; (try clear hb); (try clear hb2); (try clear hk); (try clear hi); (try clear ho0); (try clear ho1))); try go_wp2_with (first | ((with_reducible refine gate_dst (N := 2) rfl ?_); refine zbx 2 #[.int .i64 a0_0, .int .i64 a0_1, .slice A0_2 l0_2.length c0_2] 34 ?_; intro gb160 hg w62 hbox hb; have _ := aM (below_step (zB HB.1) hb); have _ := aM (hbox); have _ := aM (zge hg (zB HB.1)); have _ := aM (zge hg (zB HB.1)); clear HB; rename_i HB BK160 GW160 GE160; clear hb hbox hg) | ((with_reducible refine gate_dst (N := 4) rfl ?_); refine zbx 4 #[.int .i64 0, .int .i64 0, .slice none 0 0, .slice none 0 0] 29 ?_; intro gb161 hg w63 hbox hb; have _ := aM (blk_below (zK BK160.1) hb); have _ := aM (below_step (zB1 HB.1 GE160.1) hb); have _ := aM (hbox); have _ := aM (zge hg (zB1 HB.1 GE160.1)); have _ := aM (zge hg (zB1 HB.1 GE160.1)); have _ := aM (znl hg (zK BK160.1)); have _ := aM (zng hg (zK BK160.1)); clear BK160 HB; rename_i BK160 HB BK161 GW161 GE161 NB160_161 NB161_160; clear hb hbox hg) | (go_at_call 31; (with_reducible refine (spec_PkgRead.calls k a1 t162 t163 t164 t167 false _ A3.1).mono ?_); rintro e w64 ⟨v165, v168, rfl, ho0, ho1, hb⟩; have _ := aM (Kd.R_lower ho0 (below_size (zB2 HB.1 GE160.1 GE161.1))); have _ := aM (Kd.R_lower ho1 (below_size (zB2 HB.1 GE160.1 GE161.1))); have _ := aM (blk_below (zK BK160.1) hb); have _ := aM (blk_below (zK BK161.1) hb); have _ := aM (below_step (zB2 HB.1 GE160.1 GE161.1) hb); clear BK160 BK161 HB; rename_i HO166 HO169 BK160 BK161 HB; (try clear hb); (try clear hb2); (try clear hk); (try clear hi); (try clear ho0); (try clear ho1)) | ((with_reducible refine gate_dst (N := 6) rfl ?_); refine zbx 6 #[.int .i64 0, .int .i64 0, .slice none 0 0, .slice none 0 0] 29 ?_; intro gb171 hg w65 hbox hb; have _ := aM (Kd.R_below (zR HO166.1) hb); have _ := aM (Kd.R_below (zR HO169.1) hb); have _ := aM (blk_below (zK BK160.1) hb); have _ := aM (blk_below (zK BK161.1) hb); have _ := aM (below_step (zB2 HB.1 GE160.1 GE161.1) hb); have _ := aM (hbox); have _ := aM (zge hg (zB2 HB.1 GE160.1 GE161.1)); have _ := aM (zge hg (zB2 HB.1 GE160.1 GE161.1)); have _ := aM (znl hg (zK BK160.1)); have _ := aM (zng hg (zK BK160.1)); have _ := aM (znl hg (zK BK161.1)); have _ := aM (zng hg (zK BK161.1)); clear HO166 HO169 BK160 BK161 HB; rename_i HO166 HO169 BK160 BK161 HB BK171 GW171 GE171 NB160_171 NB171_160 NB161_171 NB171_161; clear hb hbox hg; have hnb66 := NB171_160.1; have hnc66 := NB160_171.1; have hnb67 := NB171_161.1; have hnc67 := NB161_171.1; obtain ⟨hcz68_0, hcz68_1, hcz68_2, hcz68_3, hfz68_0, hfz68_1, hfz68_2, hfz68_3⟩ := zc4f BK171.1; obtain ⟨Ao69, co69, eo69⟩ := Kd.R_slice HO166.1; subst eo69; obtain ⟨Ao70, co70, eo70⟩ := Kd.R_slice HO169.1; subst eo70; have hnb71 := NB161_160.1; have hnc71 := NB160_161.1; obtain ⟨hcz72_0, hcz72_1, hcz72_2, hcz72_3, hfz72_0, hfz72_1, hfz72_2, hfz72_3⟩ := zc4f BK161.1)))
  refine bodyPost_ret (results_ct rfl _ _ gb161 29 #[.int .i64 0, .int .i64 0, .slice none 0 0, .slice none 0 0] (0, 0) _ rfl (by (with_reducible repeat (first | refine blk_drewN ?_ _ | refine blk_drew ?_ | refine blk_alloc ?_ _)); refine blk_put (cs := #[.int .i64 0, .int .i64 0, .slice none 0 0, .slice none 0 0]) ?_ 3 _ rfl; (with_reducible repeat (first | refine blk_drewN ?_ _ | refine blk_drew ?_ | refine blk_alloc ?_ _)); refine blk_put (cs := #[.int .i64 0, .int .i64 0, .slice none 0 0, .slice none 0 0]) ?_ 2 _ rfl; (with_reducible repeat (first | refine blk_drewN ?_ _ | refine blk_drew ?_ | refine blk_alloc ?_ _)); refine blk_put (cs := #[.int .i64 0, .int .i64 0, .slice none 0 0, .slice none 0 0]) ?_ 1 _ rfl; (with_reducible repeat (first | refine blk_drewN ?_ _ | refine blk_drew ?_ | refine blk_alloc ?_ _)); refine blk_put (cs := #[.int .i64 0, .int .i64 0, .slice none 0 0, .slice none 0 0]) ?_ 0 _ rfl; exact zK1 BK161.1 NB161_171.1) Tryz.underlying29 rfl (by kernel_rfl)) rfl ?_; exact ⟨_, _, by first | rfl | (simp [errW_none, errW_some] <;> rfl) | (simp [*, errW_none, errW_some] <;> rfl), by first | exact Kd.R_nil _ _ _ _ _ | exact Kd.N_nil _ _ _ _ _ | exact Kd.V_nil _ _ _ _ _ | exact Kd.Q_nil _ _ _ _ _ | exact Kd.S_nil _ _ _ _ _, by first | exact Kd.R_nil _ _ _ _ _ | exact Kd.N_nil _ _ _ _ _ | exact Kd.V_nil _ _ _ _ _ | exact Kd.Q_nil _ _ _ _ _ | exact Kd.S_nil _ _ _ _ _, by exact zB3 HB.1 GE160.1 GE161.1 GE171.1⟩

/-! ### spec_IndexHas: function 5 -/
def spec_IndexHas.f (k : Nat) (a0_0 : Int) (a0_1 : Int) (l0_2 : List (S47)) (a1 : ByteArray) : Option (Int × Int × (List (S71)) × (List (S73)) × Bool) := (spec_IndexOk.f k a0_0 a0_1 l0_2).bind fun t177 => (if t177 = true then ((spec_l3Has.f k a0_0 a0_1 l0_2 a1).bind fun bt178 => (some (bt178.1, bt178.2.1, bt178.2.2.1, bt178.2.2.2.1, bt178.2.2.2.2))) else (some (0, 0, ([] : List (S71)), ([] : List (S73)), false)))
theorem spec_IndexHas.mono : ∀ a0 a1 a2 a3 k, LeO (spec_IndexHas.f k a0 a1 a2 a3) (spec_IndexHas.f (k + 1) a0 a1 a2 a3) := by
 intro a0 a1 a2 a3 k
 unfold spec_IndexHas.f
 repeat' with_reducible first | apply spec_IndexOk.mono | apply spec_l3Has.mono | exact LeO.refl _ | exact LeO.none _ | refine LeO.ite ?_ ?_ | refine LeO.bind ?_ (fun _ => ?_)
set_option maxHeartbeats 8000000 in
set_option maxRecDepth 100000 in
theorem spec_IndexHas.calls (k : Nat) (a0_0 : Int) (a0_1 : Int) (A0_2 : Option Addr) (c0_2 : Nat) (l0_2 : List (S47)) (a1 : ByteArray) (r1 : Int) (r2 : Int) (r3 : List (S71)) (r4 : List (S73)) (r5 : Bool) (w : World) (hr0_2 : Kd.C k47 w A0_2 l0_2.length l0_2) (hc0_2 : l0_2.length ≤ c0_2) (h : spec_IndexHas.f k a0_0 a0_1 l0_2 a1 = some (r1, r2, r3, r4, r5)) :
  Calls Tryz.prog 5 #[.agg #[.int .i64 a0_0, .int .i64 a0_1, .slice A0_2 l0_2.length c0_2], .string a1] w fun e w' => ∃ v2_ v3_ : Value, e = .returned (.tuple #[.agg #[.int .i64 r1, .int .i64 r2, v2_, v3_], .bool r5]) ∧ Kd.R k71 71 w' w.heap.size (fun _ => True) v2_ r3 ∧ Kd.R k73 73 w' w.heap.size (fun _ => True) v3_ r4 ∧ Below w.heap.size w w' := by
 have hu34 := Tryz.underlying34; have hu29 := Tryz.underlying29; have HR0_2 := aM hr0_2; have HC0_2 := aM hc0_2; clear hr0_2 hc0_2; have HB := aM (Below.refl w.heap.size w); have H : ((spec_IndexOk.f k a0_0 a0_1 l0_2).bind fun t177 => (if t177 = true then ((spec_l3Has.f k a0_0 a0_1 l0_2 a1).bind fun bt178 => (some (bt178.1, bt178.2.1, bt178.2.2.1, bt178.2.2.2.1, bt178.2.2.2.2))) else (some (0, 0, ([] : List (S71)), ([] : List (S73)), false)))) = some (r1, r2, r3, r4, r5) := h; clear h; replace H := Option.bind_eq_some_iff.mp H; obtain ⟨t177, A30, H⟩ := H; (try dsimp only at H); have A3 := aM A30; clear A30
 by_cases c4 : t177 = true
 ·subst c4; replace H := zy1 H; replace H := Option.bind_eq_some_iff.mp H; obtain ⟨⟨t178, t179, t180, t183, t186⟩, A50, H⟩ := H; (try dsimp only at H); have A5 := aM A50; clear A50; simp only [Option.some.injEq, Prod.mk.injEq] at H; obtain ⟨rfl, rfl, rfl, rfl, rfl⟩ := H
  go_enter Tryz.func5, Tryz.ntmps5
  go_wp2_with (first | ((with_reducible refine gate_dst (N := 2) rfl ?_); refine zbx 2 #[.int .i64 a0_0, .int .i64 a0_1, .slice A0_2 l0_2.length c0_2] 34 ?_; intro gb175 hg w6 hbox hb; have _ := aM (below_step (zB HB.1) hb); have _ := aM (hbox); have _ := aM (zge hg (zB HB.1)); have _ := aM (zge hg (zB HB.1)); clear HB; rename_i HB BK175 GW175 GE175; clear hb hbox hg) | ((with_reducible refine gate_dst (N := 4) rfl ?_); refine zbx 4 #[.int .i64 0, .int .i64 0, .slice none 0 0, .slice none 0 0] 29 ?_; intro gb176 hg w7 hbox hb; have _ := aM (blk_below (zK BK175.1) hb); have _ := aM (below_step (zB1 HB.1 GE175.1) hb); have _ := aM (hbox); have _ := aM (zge hg (zB1 HB.1 GE175.1)); have _ := aM (zge hg (zB1 HB.1 GE175.1)); have _ := aM (znl hg (zK BK175.1)); have _ := aM (zng hg (zK BK175.1)); clear BK175 HB; rename_i BK175 HB BK176 GW176 GE176 NB175_176 NB176_175; clear hb hbox hg; have hnb8 := NB175_176.1; have hnc8 := NB176_175.1; obtain ⟨hcz9_0, hcz9_1, hcz9_2, hfz9_0, hfz9_1, hfz9_2⟩ := zc3f BK175.1) | ((with_reducible refine gate_callee (f := 14) rfl ?_); refine zgL (some 7) Tryz.func14 #[.agg #[.int .i64 a0_0, .int .i64 a0_1, .slice A0_2 l0_2.length c0_2]] ?_; (with_reducible refine (spec_IndexOk.calls k a0_0 a0_1 _ _ l0_2 true _ ?side1 ?side2 A3.1).mono ?_); (case side1 => exact zC (Kd.C_below HR0_2.1 HB.1)); (case side2 => exact HC0_2.1); rintro e w10 ⟨rfl, hb⟩; refine ⟨_, rfl, ?_⟩; have _ := aM (blk_below (zK BK175.1) hb); have _ := aM (blk_below (zK BK176.1) hb); have _ := aM (below_step (zB2 HB.1 GE175.1 GE176.1) hb); clear BK175 BK176 HB; rename_i BK175 BK176 HB; (try clear hb); (try clear hb2); (try clear hk); (try clear hi); obtain ⟨hcz11_0, hcz11_1, hcz11_2, hfz11_0, hfz11_1, hfz11_2⟩ := zc3f BK175.1) | ((with_reducible refine gate_callee (f := 15) rfl ?_); refine zgL (some 12) Tryz.func15 #[.agg #[.int .i64 a0_0, .int .i64 a0_1, .slice A0_2 l0_2.length c0_2], .string a1] ?_; (with_reducible refine (spec_l3Has.calls k a0_0 a0_1 _ _ l0_2 a1 t178 t179 t180 t183 t186 _ ?side1 ?side2 A5.1).mono ?_); (case side1 => exact zC (Kd.C_below HR0_2.1 HB.1)); (case side2 => exact HC0_2.1); rintro e w12 ⟨v181, v184, rfl, ho0, ho1, hb⟩; refine ⟨_, rfl, ?_⟩; have _ := aM (Kd.R_lower ho0 (below_size (zB2 HB.1 GE175.1 GE176.1))); have _ := aM (Kd.R_lower ho1 (below_size (zB2 HB.1 GE175.1 GE176.1))); have _ := aM (blk_below (zK BK175.1) hb); have _ := aM (blk_below (zK BK176.1) hb); have _ := aM (below_step (zB2 HB.1 GE175.1 GE176.1) hb); clear BK175 BK176 HB; rename_i HO182 HO185 BK175 BK176 HB; (try clear hb); (try clear hb2); (try clear hk); (try clear hi); (try clear ho0); (try clear ho1); obtain ⟨hcz13_0, hcz13_1, hcz13_2, hcz13_3, hfz13_0, hfz13_1, hfz13_2, hfz13_3⟩ := zc4f BK176.1; obtain ⟨Ao14, co14, eo14⟩ := Kd.R_slice HO182.1; subst eo14; obtain ⟨Ao15, co15, eo15⟩ := Kd.R_slice HO185.1; subst eo15))
  refine bodyPost_ret (results_ct rfl _ _ gb176 29 #[.int .i64 t178, .int .i64 t179, .slice Ao14 t180.length co14, .slice Ao15 t183.length co15] (0, 0) _ rfl (by exact zP BK176.1 (by rfl)) Tryz.underlying29 rfl (by kernel_rfl)) rfl ?_; exact ⟨_, _, by first | rfl | (simp [errW_none, errW_some] <;> rfl) | (simp [*, errW_none, errW_some] <;> rfl), by exact (Kd.R_mono (zFR (g := gb176) (Kd.R_types HO182.1 BK176.1 (by decide)) (fun _ hk => hk.2)) (fun _ hk => trivial)), by exact (Kd.R_mono (zFR (g := gb176) (Kd.R_types HO185.1 BK176.1 (by decide)) (fun _ hk => hk.2)) (fun _ hk => trivial)), by exact zB2 HB.1 GE175.1 GE176.1⟩
 ·replace c4 := Bool.eq_false_iff.mpr c4; subst c4; replace H := zy0 H; simp only [Option.some.injEq, Prod.mk.injEq] at H; obtain ⟨rfl, rfl, rfl, rfl, rfl⟩ := H
  go_enter Tryz.func5, Tryz.ntmps5
  go_wp2_with (first | ((with_reducible refine gate_dst (N := 2) rfl ?_); refine zbx 2 #[.int .i64 a0_0, .int .i64 a0_1, .slice A0_2 l0_2.length c0_2] 34 ?_; intro gb175 hg w16 hbox hb; have _ := aM (below_step (zB HB.1) hb); have _ := aM (hbox); have _ := aM (zge hg (zB HB.1)); have _ := aM (zge hg (zB HB.1)); clear HB; rename_i HB BK175 GW175 GE175; clear hb hbox hg) | ((with_reducible refine gate_dst (N := 4) rfl ?_); refine zbx 4 #[.int .i64 0, .int .i64 0, .slice none 0 0, .slice none 0 0] 29 ?_; intro gb176 hg w17 hbox hb; have _ := aM (blk_below (zK BK175.1) hb); have _ := aM (below_step (zB1 HB.1 GE175.1) hb); have _ := aM (hbox); have _ := aM (zge hg (zB1 HB.1 GE175.1)); have _ := aM (zge hg (zB1 HB.1 GE175.1)); have _ := aM (znl hg (zK BK175.1)); have _ := aM (zng hg (zK BK175.1)); clear BK175 HB; rename_i BK175 HB BK176 GW176 GE176 NB175_176 NB176_175; clear hb hbox hg; have hnb18 := NB175_176.1; have hnc18 := NB176_175.1; obtain ⟨hcz19_0, hcz19_1, hcz19_2, hfz19_0, hfz19_1, hfz19_2⟩ := zc3f BK175.1) | ((with_reducible refine gate_callee (f := 14) rfl ?_); refine zgL (some 7) Tryz.func14 #[.agg #[.int .i64 a0_0, .int .i64 a0_1, .slice A0_2 l0_2.length c0_2]] ?_; (with_reducible refine (spec_IndexOk.calls k a0_0 a0_1 _ _ l0_2 false _ ?side1 ?side2 A3.1).mono ?_); (case side1 => exact zC (Kd.C_below HR0_2.1 HB.1)); (case side2 => exact HC0_2.1); rintro e w20 ⟨rfl, hb⟩; refine ⟨_, rfl, ?_⟩; have _ := aM (blk_below (zK BK175.1) hb); have _ := aM (blk_below (zK BK176.1) hb); have _ := aM (below_step (zB2 HB.1 GE175.1 GE176.1) hb); clear BK175 BK176 HB; rename_i BK175 BK176 HB; (try clear hb); (try clear hb2); (try clear hk); (try clear hi); obtain ⟨hcz21_0, hcz21_1, hcz21_2, hcz21_3, hfz21_0, hfz21_1, hfz21_2, hfz21_3⟩ := zc4f BK176.1))
  refine bodyPost_ret (results_ct rfl _ _ gb176 29 #[.int .i64 0, .int .i64 0, .slice none 0 0, .slice none 0 0] (0, 0) _ rfl (by exact zP BK176.1 (by rfl)) Tryz.underlying29 rfl (by kernel_rfl)) rfl ?_; exact ⟨_, _, by first | rfl | (simp [errW_none, errW_some] <;> rfl) | (simp [*, errW_none, errW_some] <;> rfl), by first | exact Kd.R_nil _ _ _ _ _ | exact Kd.N_nil _ _ _ _ _ | exact Kd.V_nil _ _ _ _ _ | exact Kd.Q_nil _ _ _ _ _ | exact Kd.S_nil _ _ _ _ _, by first | exact Kd.R_nil _ _ _ _ _ | exact Kd.N_nil _ _ _ _ _ | exact Kd.V_nil _ _ _ _ _ | exact Kd.Q_nil _ _ _ _ _ | exact Kd.S_nil _ _ _ _ _, by exact zB2 HB.1 GE175.1 GE176.1⟩

/-! ### laws_toMeta: function 33 -/
def laws_toMeta.f (a0_0 : Int) (a0_1 : Int) (a0_2 : Int) : Option (Int × Int × Int) := some (a0_0, a0_1, a0_2)
set_option maxHeartbeats 8000000 in
set_option maxRecDepth 100000 in
theorem laws_toMeta.calls (a0_0 : Int) (a0_1 : Int) (a0_2 : Int) (r1 : Int) (r2 : Int) (r3 : Int) (w : World) (h : laws_toMeta.f a0_0 a0_1 a0_2 = some (r1, r2, r3)) :
  Calls Tryz.prog 33 #[.agg #[.int .i64 a0_0, .int .i64 a0_1, .int .i64 a0_2]] w fun e w' => e = .returned (.agg #[.int .i64 r1, .int .i64 r2, .int .i64 r3]) ∧ Below w.heap.size w w' := by
 have hu59 := Tryz.underlying59; have hu47 := Tryz.underlying47; have HB := aM (Below.refl w.heap.size w); have H : (some (a0_0, a0_1, a0_2)) = some (r1, r2, r3) := h; clear h; simp only [Option.some.injEq, Prod.mk.injEq] at H; obtain ⟨rfl, rfl, rfl⟩ := H
 go_enter Tryz.func33, Tryz.ntmps33
 go_wp2_with (first | ((with_reducible refine gate_dst (N := 1) rfl ?_); refine zbx 1 #[.int .i64 a0_0, .int .i64 a0_1, .int .i64 a0_2] 59 ?_; intro gb187 hg w2 hbox hb; have _ := aM (below_step (zB HB.1) hb); have _ := aM (hbox); have _ := aM (zge hg (zB HB.1)); have _ := aM (zge hg (zB HB.1)); clear HB; rename_i HB BK187 GW187 GE187; clear hb hbox hg) | ((with_reducible refine gate_dst (N := 2) rfl ?_); refine zbx 2 #[.int .i64 0, .int .i64 0, .int .i64 0] 47 ?_; intro gb188 hg w3 hbox hb; have _ := aM (blk_below (zK BK187.1) hb); have _ := aM (below_step (zB1 HB.1 GE187.1) hb); have _ := aM (hbox); have _ := aM (zge hg (zB1 HB.1 GE187.1)); have _ := aM (zge hg (zB1 HB.1 GE187.1)); have _ := aM (znl hg (zK BK187.1)); have _ := aM (zng hg (zK BK187.1)); clear BK187 HB; rename_i BK187 HB BK188 GW188 GE188 NB187_188 NB188_187; clear hb hbox hg) | ((with_reducible refine gate_dst (N := 3) rfl ?_); refine zbx 3 #[.int .i64 0, .int .i64 0, .int .i64 0] 47 ?_; intro gb189 hg w4 hbox hb; have _ := aM (blk_below (zK BK187.1) hb); have _ := aM (blk_below (zK BK188.1) hb); have _ := aM (below_step (zB2 HB.1 GE187.1 GE188.1) hb); have _ := aM (hbox); have _ := aM (zge hg (zB2 HB.1 GE187.1 GE188.1)); have _ := aM (zge hg (zB2 HB.1 GE187.1 GE188.1)); have _ := aM (znl hg (zK BK187.1)); have _ := aM (zng hg (zK BK187.1)); have _ := aM (znl hg (zK BK188.1)); have _ := aM (zng hg (zK BK188.1)); clear BK187 BK188 HB; rename_i BK187 BK188 HB BK189 GW189 GE189 NB187_189 NB189_187 NB188_189 NB189_188; clear hb hbox hg; have hnb5 := NB187_188.1; have hnc5 := NB188_187.1; have hnb6 := NB187_189.1; have hnc6 := NB189_187.1; obtain ⟨hcz7_0, hcz7_1, hcz7_2, hfz7_0, hfz7_1, hfz7_2⟩ := zc3f BK187.1; have hnb8 := NB189_188.1; have hnc8 := NB188_189.1; obtain ⟨hcz9_0, hcz9_1, hcz9_2, hfz9_0, hfz9_1, hfz9_2⟩ := zc3f BK189.1; obtain ⟨hcz10_0, hcz10_1, hcz10_2, hfz10_0, hfz10_1, hfz10_2⟩ := zc3f BK188.1))
 refine bodyPost_ret (results_cell_row rfl _ _ gb188 47 #[.int .i64 a0_0, .int .i64 a0_1, .int .i64 a0_2] (0, 0) _ rfl (by (with_reducible repeat (first | refine blk_drewN ?_ _ | refine blk_drew ?_ | refine blk_alloc ?_ _)); refine blk_put (cs := #[.int .i64 a0_0, .int .i64 a0_1, .int .i64 0]) ?_ 2 _ rfl; (with_reducible repeat (first | refine blk_drewN ?_ _ | refine blk_drew ?_ | refine blk_alloc ?_ _)); refine blk_put (cs := #[.int .i64 a0_0, .int .i64 0, .int .i64 0]) ?_ 1 _ rfl; (with_reducible repeat (first | refine blk_drewN ?_ _ | refine blk_drew ?_ | refine blk_alloc ?_ _)); refine blk_put (cs := #[.int .i64 0, .int .i64 0, .int .i64 0]) ?_ 0 _ rfl; exact zK1 BK188.1 NB188_189.1) Tryz.underlying47 rfl (by kernel_rfl)) rfl ?_; exact ⟨by first | rfl | (simp [errW_none, errW_some] <;> rfl) | (simp [*, errW_none, errW_some] <;> rfl), by exact zB3 HB.1 GE187.1 GE188.1 GE189.1⟩

/-! ### laws_toMetaS: function 16 -/
def laws_toMetaS.l0 : Nat → List (S59) → List (S47) → Int → Option ((List (S47)))
 | 0, _, _, _ => none
 | k + 1, x0, x3, x4 => if x4 < (x0.length : Int) then (if 0 ≤ x4 then ((laws_toMeta.f ((rd_T59 x0 x4).f0) ((rd_T59 x0 x4).f1) ((rd_T59 x0 x4).f2)).bind fun bt194 => (if x4 < (x3.length : Int) then (laws_toMetaS.l0 k x0 (x3.set (x4 : Int).toNat (⟨bt194.1, bt194.2.1, bt194.2.2⟩ : S47)) (wrap64 (x4 + 1))) else (none))) else (none)) else (some x3)
def laws_toMetaS.f (k : Nat) (l0 : List (S59)) : Option ((List (S47))) := if 0 ≤ (l0.length : Int) then (if ((l0.length : Int) : Int).toNat ≤ 11728124029610 then (laws_toMetaS.l0 k l0 (List.replicate ((l0.length : Int) : Int).toNat z47) 0) else (none)) else (none)
theorem laws_toMetaS.mono_l : ∀ k, (∀ y0 y1 y2, LeO (laws_toMetaS.l0 k y0 y1 y2) (laws_toMetaS.l0 (k + 1) y0 y1 y2))
 | 0 => fun _ _ _ r h => by simp [laws_toMetaS.l0] at h
 | k + 1 => by
  have ih0 := laws_toMetaS.mono_l k
  ·intro y0 y1 y2
   unfold laws_toMetaS.l0
   repeat' first
   | (with_reducible exact ih0 _ _ _)
   | (with_reducible exact LeO.refl _)
   | (with_reducible exact LeO.none _)
   | (with_reducible refine LeO.ite ?_ ?_)
   | (with_reducible refine LeO.bind ?_ (fun _ => ?_))
   | exact ih0 _ _ _
   | exact LeO.none _
   | refine LeO.ite ?_ ?_
   | refine LeO.bind ?_ (fun _ => ?_)
theorem laws_toMetaS.mono : ∀ a0 k, LeO (laws_toMetaS.f k a0) (laws_toMetaS.f (k + 1) a0) := by
 intro a0 k
 have ih0 := laws_toMetaS.mono_l k
 unfold laws_toMetaS.f
 repeat' with_reducible first | apply ih0 | exact LeO.refl _ | exact LeO.none _ | refine LeO.ite ?_ ?_ | refine LeO.bind ?_ (fun _ => ?_)
set_option maxHeartbeats 8000000 in
set_option maxRecDepth 100000 in
theorem laws_toMetaS.calls (k : Nat) (A0 : Option Addr) (c0 : Nat) (l0 : List (S59)) (r : List (S47)) (w : World) (hr0 : Kd.C k59 w A0 l0.length l0) (hc0 : l0.length ≤ c0) (h : laws_toMetaS.f k l0 = some r) :
  Calls Tryz.prog 16 #[.slice A0 l0.length c0] w fun e w' => ∃ v0_ : Value, e = .returned (v0_) ∧ Kd.R k47 47 w' w.heap.size (fun _ => True) v0_ r ∧ Below w.heap.size w w' := by
 have hu59 := Tryz.underlying59; have hu47 := Tryz.underlying47; have HR0 := aM hr0; have HC0 := aM hc0; clear hr0 hc0; have HB := aM (Below.refl w.heap.size w); have H : (if 0 ≤ (l0.length : Int) then (if ((l0.length : Int) : Int).toNat ≤ 11728124029610 then (laws_toMetaS.l0 k l0 (List.replicate ((l0.length : Int) : Int).toNat z47) 0) else (none)) else (none)) = some r := h; clear h; replace H := zif H; obtain ⟨c2, H⟩ := H; have c2b0 := eq_true c2; have c2b1 : decide (0 ≤ (l0.length : Int)) = true := decide_eq_true c2; clear c2; replace H := zif H; obtain ⟨c3, H⟩ := H; have c3b0 := eq_true c3; have c3b1 : decide (((l0.length : Int) : Int).toNat ≤ 11728124029610) = true := decide_eq_true c3; clear c3; obtain ⟨y190, hy190⟩ : ∃ y_ : List (S47), y_ = (List.replicate ((l0.length : Int) : Int).toNat z47) := ⟨_, rfl⟩; (first | (replace H := zbs hy190 H; try dsimp only at H) | rw [← hy190] at H); have Ny190 := aM hy190; clear hy190; have H' := aM H; clear H
 go_enter Tryz.func16, Tryz.ntmps16
 go_wp2_with (first | ((with_reducible refine gate_dst (N := 7) rfl ?_); refine Kd.R_make k47 _ 47 rfl (N := 7) rfl 32 _ _ rfl (l0.length : Int) rfl rfl Tryz.underlying32 (.agg #[(.int .i64 0), (.int .i64 0), (.int .i64 0)]) 24 info47 rfl (by decide) (by omega) z47 (ok := fun _ => True) (okp := fun _ => True) (k47_mkM _ _ _ z47 ) (fun _ hk => hk) trivial (zd) (Nat.le_trans (Nat.mul_le_mul_right _ (zd : (l0.length : Int).toNat ≤ 11728124029610)) (by omega)) (Below.refl _ _) (Nat.le_refl _) ?_; intro v191 w4 ho5 hb hg_ hnew_; clear hg_ hnew_; (first | rw [← Ny190.1] at ho5 | (simp only [Int.reduceToNat] at ho5; rw [← Ny190.1] at ho5)); have _ := aM (Kd.R_lower ho5 (below_size (zB HB.1))); have _ := aM (below_step (zB HB.1) hb); clear HB; rename_i HO192 HB; clear hb ho5))
 go_loopg [4] k (fun kq v4 w' => ∃ (x3_1 : List (S47)) (x4_1 : Int), v4 = .int .i64 x4_1 ∧ Aside0 (laws_toMetaS.l0 kq l0 x3_1 x4_1 = some r) ∧ Aside0 (kq ≤ k) ∧ Aside0 (Kd.R k47 47 w' w.heap.size (fun _ => True) v191 x3_1) ∧ Aside0 (Below w.heap.size w w'))
 case atStart => exact ⟨(y190), (0), (by first | rfl | (simp; done) | (simp [*]; done)), H', ⟨Nat.le_refl _⟩, ⟨zR HO192.1⟩, ⟨zB HB.1⟩⟩
 case round =>
  clear H'
  try clear c1
  try clear c2
  try clear c2b0
  try clear c2b1
  try clear p2
  try clear c3
  try clear c3b0
  try clear c3b1
  obtain ⟨x3_1, x4_1, rfl, HA, HK1, HO_3, HB⟩ := hrel; cases gk with
  | zero => exact absurd HA.1 (by simp [laws_toMetaS.l0])
  | succ k1 =>
   have H := HA.1; clear HA; simp only [laws_toMetaS.l0] at H
   by_cases c6 : x4_1 < (l0.length : Int)
   ·rw [if_pos c6] at H; have c6b0 : decide (x4_1 < (l0.length : Int)) = true := decide_eq_true c6; clear c6; replace H := zif H; obtain ⟨c7, H⟩ := H; have c7b0 : decide (0 ≤ x4_1) = true := decide_eq_true c7; clear c7; replace H := Option.bind_eq_some_iff.mp H; obtain ⟨⟨t194, t195, t196⟩, A80, H⟩ := H; (try dsimp only at H); have A8 := aM A80; clear A80; replace H := zif H; obtain ⟨c9, H⟩ := H; have c9b0 : decide (x4_1 < (x3_1.length : Int)) = true := decide_eq_true c9; clear c9; obtain ⟨y197, hy197⟩ : ∃ y_ : List (S47), y_ = (x3_1.set (x4_1 : Int).toNat (⟨t194, t195, t196⟩ : S47)) := ⟨_, rfl⟩; (first | (replace H := zbs hy197 H; try dsimp only at H) | rw [← hy197] at H); have Ny197 := aM hy197; clear hy197; have H' := aM H; clear H; have p193 : 0 ≤ (x4_1 : Int) := zd; have q193 : x4_1 < (l0.length : Int) := zd; obtain ⟨ad193, e193, hx193_0, hx193_1, hx193_2⟩ := at_T59 HR0.1 x4_1 p193 q193; cases e193; replace hx193_0 := (HB.1.cell (World.block_lt_of_cell? w _ hx193_0)).trans hx193_0; replace hx193_1 := (HB.1.cell (World.block_lt_of_cell? w _ hx193_1)).trans hx193_1; replace hx193_2 := (HB.1.cell (World.block_lt_of_cell? w _ hx193_2)).trans hx193_2; replace p193 := eq_true p193; replace q193 := eq_true q193
    go_wp2_with (first | ((with_reducible refine gate_callee (f := 33) rfl ?_); refine zgL (some 20) Tryz.func33 #[.agg #[.int .i64 ((rd_T59 l0 x4_1).f0), .int .i64 ((rd_T59 l0 x4_1).f1), .int .i64 ((rd_T59 l0 x4_1).f2)]] ?_; (with_reducible refine (laws_toMeta.calls ((rd_T59 l0 x4_1).f0) ((rd_T59 l0 x4_1).f1) ((rd_T59 l0 x4_1).f2) t194 t195 t196 _ A8.1).mono ?_); rintro e w11 ⟨rfl, hb⟩; refine ⟨_, rfl, ?_⟩; have _ := aM (Kd.R_below (zR HO_3.1) hb); have _ := aM (below_step (zB HB.1) hb); clear HO_3 HB; rename_i HO_3 HB; (try clear hb); (try clear hb2); (try clear hk); (try clear hi); have p10 : 0 ≤ (x4_1 : Int) := zd; have q10 : (x4_1 : Int) < ((x3_1.length : Int) : Int) := zd; obtain ⟨go10, co10, eo10, gb10, gl10, cl10, HG10⟩ := Kd.R_form HO_3.1 (by omega); (first | cases eo10 | (injection eo10 with ea_ en_ ec_; (first | subst ea_ | (injection ea_ with ea_; subst ea_)); subst ec_; clear en_)); have GB10 := aM gb10; have GG10 := aM HG10; clear gb10 gl10 HG10; obtain ⟨ce10, hcl10, hM10, hcc10, hfr10⟩ := Kd.R_elem HO_3.1 z47 (x4_1 : Int) p10 q10; obtain rfl := k47_openM hM10; have hx10_0 : w11.cell? ⟨go10, (x4_1 : Int).toNat * 3, none⟩ = some (.int .i64 ((rd_T47 x3_1 x4_1).f0)) := hcc10 0 _ rfl; have hx10_1 : w11.cell? ⟨go10, (x4_1 : Int).toNat * 3 + 1, none⟩ = some (.int .i64 ((rd_T47 x3_1 x4_1).f1)) := hcc10 1 _ rfl; have hx10_2 : w11.cell? ⟨go10, (x4_1 : Int).toNat * 3 + 2, none⟩ = some (.int .i64 ((rd_T47 x3_1 x4_1).f2)) := hcc10 2 _ rfl; have hf10_0 : w11.frozen? ⟨go10, (x4_1 : Int).toNat * 3, none⟩ = false := hfr10 0; have hf10_1 : w11.frozen? ⟨go10, (x4_1 : Int).toNat * 3 + 1, none⟩ = false := hfr10 1; have hf10_2 : w11.frozen? ⟨go10, (x4_1 : Int).toNat * 3 + 2, none⟩ = false := hfr10 2; clear hcl10 hcc10 hfr10 hM10; replace p10 := eq_true p10; replace q10 := eq_true q10; have HX12 := aM (show Kd.R k47 47 w11 w.heap.size (fun _ => True) (.slice (some ⟨go10, 0, none⟩) x3_1.length co10) x3_1 from (zR HO_3.1)); obtain ⟨ce12, hcl12, hM12, hcc12, hfr12⟩ := Kd.R_elem HX12.1 z47 (x4_1 : Int) (zd) (by have h_ : (x4_1 : Int) < ((x3_1.length : Int) : Int) := zd; first | exact h_ | (have e_ := (Kd.R_reads' HO_3.1).1; omega) | simpa using h_); obtain rfl := k47_openM hM12; have HP12 := Kd.R_seg HX12.1 (x4_1 : Int) (zd) (by have h_ : (x4_1 : Int) < ((x3_1.length : Int) : Int) := zd; first | exact h_ | (have e_ := (Kd.R_reads' HO_3.1).1; omega) | simpa using h_) (seg := [.int .i64 t194, .int .i64 t195, .int .i64 t196]) (j := 0) hcl12 hcc12 (show 3 ≤ 3 from by decide) (x' := (⟨t194, t195, t196⟩ : S47)) (k47_mkM _ _ _ (⟨t194, t195, t196⟩ : S47) ) (fun _ hk => hk); have hx12_0 := hcc12 0 _ rfl; (try simp only [show (k47).sz = 3 from rfl, Nat.mul_one, Nat.add_zero] at hx12_0); have hf12_0 := hfr12 0; (try simp only [show (k47).sz = 3 from rfl, Nat.mul_one, Nat.add_zero] at hf12_0); have hx12_1 := hcc12 1 _ rfl; (try simp only [show (k47).sz = 3 from rfl, Nat.mul_one, Nat.add_zero] at hx12_1); have hf12_1 := hfr12 1; (try simp only [show (k47).sz = 3 from rfl, Nat.mul_one, Nat.add_zero] at hf12_1); have hx12_2 := hcc12 2 _ rfl; (try simp only [show (k47).sz = 3 from rfl, Nat.mul_one, Nat.add_zero] at hx12_2); have hf12_2 := hfr12 2; (try simp only [show (k47).sz = 3 from rfl, Nat.mul_one, Nat.add_zero] at hf12_2); clear hcl12 hcc12 hfr12 hM12) | ((with_reducible refine gate_store (t := 47) (p := 21) rfl ?_); refine store_event (t := 47) (p := 21) (v := ?vo_w13) (w1 := (((w11.setCell ⟨go10, (x4_1 : Int).toNat * 3, none⟩ (.int .i64 t194)).setCell ⟨go10, (x4_1 : Int).toNat * 3 + 1, none⟩ (.int .i64 t195)).setCell ⟨go10, (x4_1 : Int).toNat * 3 + 2, none⟩ (.int .i64 t196))) ?hg ?ho ?hn ?hr ?_; (case ho => rfl); (case hg => rfl); (case hn => rfl); (case hr => first | (go_simp; done) | (go_simp; rfl)); intro w13 hw; have hg : w11.grownBy w13 (some go10) := (by rw [hw]; exact HP12.2); have hp_ : Kd.R k47 47 w13 w.heap.size (fun _ => True) (.slice (some ⟨go10, 0, none⟩) x3_1.length co10) y197 := (by rw [hw, Ny197.1]; exact HP12.1); clear HP12; have _ := aM (hp_); have _ := aM ((by rw [hw]; exact below_set (below_set (below_set (HB.1) GB10.1) GB10.1) GB10.1 : Below w.heap.size w w13)); clear HO_3 HB; rename_i HO_3 HB; clear hg hw hp_))
    go_roundg k1
    case measure => have := HK1.1; omega
    case rel => exact ⟨(y197), (wrap64 (x4_1 + 1)), (by first | rfl | (simp; done) | (simp [*]; done)), H', ⟨by have := HK1.1; omega⟩, ⟨zR HO_3.1⟩, ⟨zB HB.1⟩⟩
   ·rw [if_neg c6] at H; have c6b0 : decide (x4_1 < (l0.length : Int)) = false := decide_eq_false c6; clear c6; obtain rfl := Option.some.inj H
    go_wp2
    go_ret
    exact ⟨_, by first | rfl | (simp [errW_none, errW_some] <;> rfl) | (simp [*, errW_none, errW_some] <;> rfl), by exact zR HO_3.1, by exact zB HB.1⟩

/-! ### laws_toIndex: function 6 -/
def laws_toIndex.f (k : Nat) (a0_0 : Int) (a0_1 : Int) (l0_2 : List (S59)) : Option (Int × Int × (List (S47))) := (laws_toMetaS.f k l0_2).bind fun t201 => (some (a0_0, a0_1, t201))
theorem laws_toIndex.mono : ∀ a0 a1 a2 k, LeO (laws_toIndex.f k a0 a1 a2) (laws_toIndex.f (k + 1) a0 a1 a2) := by
 intro a0 a1 a2 k
 unfold laws_toIndex.f
 repeat' with_reducible first | apply laws_toMetaS.mono | exact LeO.refl _ | exact LeO.none _ | refine LeO.ite ?_ ?_ | refine LeO.bind ?_ (fun _ => ?_)
set_option maxHeartbeats 8000000 in
set_option maxRecDepth 100000 in
theorem laws_toIndex.calls (k : Nat) (a0_0 : Int) (a0_1 : Int) (A0_2 : Option Addr) (c0_2 : Nat) (l0_2 : List (S59)) (r1 : Int) (r2 : Int) (r3 : List (S47)) (w : World) (hr0_2 : Kd.C k59 w A0_2 l0_2.length l0_2) (hc0_2 : l0_2.length ≤ c0_2) (h : laws_toIndex.f k a0_0 a0_1 l0_2 = some (r1, r2, r3)) :
  Calls Tryz.prog 6 #[.agg #[.int .i64 a0_0, .int .i64 a0_1, .slice A0_2 l0_2.length c0_2]] w fun e w' => ∃ v2_ : Value, e = .returned (.agg #[.int .i64 r1, .int .i64 r2, v2_]) ∧ Kd.R k47 47 w' w.heap.size (fun _ => True) v2_ r3 ∧ Below w.heap.size w w' := by
 have hu24 := Tryz.underlying24; have hu34 := Tryz.underlying34; have HR0_2 := aM hr0_2; have HC0_2 := aM hc0_2; clear hr0_2 hc0_2; have HB := aM (Below.refl w.heap.size w); have H : ((laws_toMetaS.f k l0_2).bind fun t201 => (some (a0_0, a0_1, t201))) = some (r1, r2, r3) := h; clear h; replace H := Option.bind_eq_some_iff.mp H; obtain ⟨t201, A20, H⟩ := H; (try dsimp only at H); have A2 := aM A20; clear A20; simp only [Option.some.injEq, Prod.mk.injEq] at H; obtain ⟨rfl, rfl, rfl⟩ := H
 go_enter Tryz.func6, Tryz.ntmps6
 go_wp2_with (first | ((with_reducible refine gate_dst (N := 1) rfl ?_); refine zbx 1 #[.int .i64 a0_0, .int .i64 a0_1, .slice A0_2 l0_2.length c0_2] 24 ?_; intro gb198 hg w3 hbox hb; have _ := aM (below_step (zB HB.1) hb); have _ := aM (hbox); have _ := aM (zge hg (zB HB.1)); have _ := aM (zge hg (zB HB.1)); clear HB; rename_i HB BK198 GW198 GE198; clear hb hbox hg) | ((with_reducible refine gate_dst (N := 2) rfl ?_); refine zbx 2 #[.int .i64 0, .int .i64 0, .slice none 0 0] 34 ?_; intro gb199 hg w4 hbox hb; have _ := aM (blk_below (zK BK198.1) hb); have _ := aM (below_step (zB1 HB.1 GE198.1) hb); have _ := aM (hbox); have _ := aM (zge hg (zB1 HB.1 GE198.1)); have _ := aM (zge hg (zB1 HB.1 GE198.1)); have _ := aM (znl hg (zK BK198.1)); have _ := aM (zng hg (zK BK198.1)); clear BK198 HB; rename_i BK198 HB BK199 GW199 GE199 NB198_199 NB199_198; clear hb hbox hg) | ((with_reducible refine gate_dst (N := 3) rfl ?_); refine zbx 3 #[.int .i64 0, .int .i64 0, .slice none 0 0] 34 ?_; intro gb200 hg w5 hbox hb; have _ := aM (blk_below (zK BK198.1) hb); have _ := aM (blk_below (zK BK199.1) hb); have _ := aM (below_step (zB2 HB.1 GE198.1 GE199.1) hb); have _ := aM (hbox); have _ := aM (zge hg (zB2 HB.1 GE198.1 GE199.1)); have _ := aM (zge hg (zB2 HB.1 GE198.1 GE199.1)); have _ := aM (znl hg (zK BK198.1)); have _ := aM (zng hg (zK BK198.1)); have _ := aM (znl hg (zK BK199.1)); have _ := aM (zng hg (zK BK199.1)); clear BK198 BK199 HB; rename_i BK198 BK199 HB BK200 GW200 GE200 NB198_200 NB200_198 NB199_200 NB200_199; clear hb hbox hg; have hnb6 := NB198_199.1; have hnc6 := NB199_198.1; have hnb7 := NB198_200.1; have hnc7 := NB200_198.1; obtain ⟨hcz8_0, hcz8_1, hcz8_2, hfz8_0, hfz8_1, hfz8_2⟩ := zc3f BK198.1; have hnb9 := NB200_199.1; have hnc9 := NB199_200.1; obtain ⟨hcz10_0, hcz10_1, hcz10_2, hfz10_0, hfz10_1, hfz10_2⟩ := zc3f BK200.1) | ((with_reducible refine gate_callee (f := 16) rfl ?_); refine zgL (some 12) Tryz.func16 #[.slice A0_2 l0_2.length c0_2] ?_; (with_reducible refine (laws_toMetaS.calls k _ _ l0_2 t201 _ ?side1 ?side2 A2.1).mono ?_); (case side1 => exact Kd.C_below HR0_2.1 (zB3 HB.1 GE198.1 GE199.1 GE200.1)); (case side2 => exact HC0_2.1); rintro e w11 ⟨v202, rfl, ho0, hb⟩; refine ⟨_, rfl, ?_⟩; have _ := aM (Kd.R_lower ho0 (below_size (zB3 HB.1 GE198.1 GE199.1 GE200.1))); have _ := aM (blk_below (zK1 BK198.1 NB198_200.1) hb); have _ := aM (blk_below (zK1 BK199.1 NB199_200.1) hb); have _ := aM (blk_below (g := gb200) (o := .cells #[.int .i64 a0_0, .int .i64 a0_1, .slice none 0 0] 34 (0, 0)) (by exact zP BK200.1 (by rfl)) hb); have _ := aM (below_step (zB3 HB.1 GE198.1 GE199.1 GE200.1) hb); clear BK198 BK199 BK200 HB; rename_i HO203 BK198 BK199 BK200 HB; (try clear hb); (try clear hb2); (try clear hk); (try clear hi); (try clear ho0); obtain ⟨Ao12, co12, eo12⟩ := Kd.R_slice HO203.1; subst eo12; obtain ⟨hcz13_0, hcz13_1, hcz13_2, hfz13_0, hfz13_1, hfz13_2⟩ := zc3f BK200.1; obtain ⟨hcz14_0, hcz14_1, hcz14_2, hfz14_0, hfz14_1, hfz14_2⟩ := zc3f BK199.1))
 refine bodyPost_ret (results_cell_row rfl _ _ gb199 34 #[.int .i64 a0_0, .int .i64 a0_1, .slice Ao12 t201.length co12] (0, 0) _ rfl (by (with_reducible repeat (first | refine blk_drewN ?_ _ | refine blk_drew ?_ | refine blk_alloc ?_ _)); refine blk_put (cs := #[.int .i64 a0_0, .int .i64 a0_1, .slice none 0 0]) ?_ 2 _ rfl; (with_reducible repeat (first | refine blk_drewN ?_ _ | refine blk_drew ?_ | refine blk_alloc ?_ _)); refine blk_put (cs := #[.int .i64 a0_0, .int .i64 0, .slice none 0 0]) ?_ 1 _ rfl; (with_reducible repeat (first | refine blk_drewN ?_ _ | refine blk_drew ?_ | refine blk_alloc ?_ _)); refine blk_put (cs := #[.int .i64 0, .int .i64 0, .slice none 0 0]) ?_ 0 _ rfl; exact zK1 BK199.1 NB199_200.1) Tryz.underlying34 rfl (by kernel_rfl)) rfl ?_; exact ⟨_, by first | rfl | (simp [errW_none, errW_some] <;> rfl) | (simp [*, errW_none, errW_some] <;> rfl), by exact (Kd.R_mono (zFR (g := gb199) (Kd.R_far (p := ⟨gb200, 2, none⟩) (Kd.R_types (Kd.R_types HO203.1 BK200.1 (by decide)) BK199.1 (by decide)) (fun _ hk => hk.1.2) (.slice Ao12 t201.length co12)) (fun _ hk => hk.2)) (fun _ hk => trivial)), by exact zB3 HB.1 GE198.1 GE199.1 GE200.1⟩

/-! ### strings_Split: function 34 -/
def strings_Split.f (s sep : ByteArray) : Option (List ByteArray) := if s.size < 4294967281 ∧ 1 ≤ sep.size then some (Lib.splitB sep 0 (Lib.countB s sep) s) else none
theorem strings_Split.calls (a0 a1 : ByteArray) (r : List ByteArray) (w : World) (hLD : LaidW w) (h : strings_Split.f a0 a1 = some r) :
  Calls Tryz.prog 34 #[.string a0, .string a1] w fun e w' => ∃ v0_ : Value, e = .returned v0_ ∧ Kd.R Kd.string 9 w' w.heap.size (fun _ => True) v0_ r ∧ Below w.heap.size w w' := by
 unfold strings_Split.f at h
 split at h
 ·rename_i hc; obtain rfl := Option.some.inj h; obtain ⟨m, hm⟩ := hLD.len; refine (Tryz.strings_Split a0 a1 m w hc.1 hm hc.2).mono ?_; rintro e w' ⟨rfl, rfl⟩; have hl := Lib.splitB_all a1 hc.2 0 (Lib.countB a0 a1) a0 rfl; have hb := Lib.countB_le a1 hc.2 a0.size a0 (Nat.le_refl _); refine ⟨_, rfl, Kd.R_of_own ?_ (fun _ _ => trivial), below_alloc (Below.refl _ _) _⟩; rw [← hl]; exact own_lit_of w w.heap.size 9 _ (Nat.le_refl _) (by omega)
 ·cases h

/-! ### strconv_Atoi: function 37 -/
def atV (s : ByteArray) : Int := match Lib.atoiAll s.data.toList with
 | .ok v => v
 | .range => Lib.atoiSat s.data.toList
 | _ => 0
def strconv_Atoi.f (s : ByteArray) : Option (Int × Option Int) := if s.size ≤ 281474976710656 then some (atV s, none) else none
theorem strconv_Atoi.calls (a0 : ByteArray) (r1 : Int) (r2 : Option Int) (w : World) (hLD : LaidW w) (h : strconv_Atoi.f a0 = some (r1, r2)) :
  Calls Tryz.prog 37 #[.string a0] w fun e w' => ∃ ev : Value, e = .returned (.tuple #[.int .i64 r1, ev]) ∧ Below w.heap.size w w' := by
 unfold strconv_Atoi.f at h
 split at h
 ·rename_i hc; obtain ⟨rfl, _⟩ := Prod.mk.inj (Option.some.inj h); unfold atV; cases ha : Lib.atoiAll a0.data.toList with
  | ok v =>
   refine (Tryz.strconv_Atoi_ok a0 (by omega) v ha w).mono ?_; rintro e w' ⟨rfl, hw⟩; refine ⟨_, rfl, ?_⟩
   rcases hw with rfl | ⟨t, rfl⟩
   ·exact Below.refl _ _
   ·exact Lib.bytesWorld_below w _ t
  | range =>
   obtain ⟨ev, hv, hev⟩ := hLD.ran; refine (Tryz.strconv_Atoi_range a0 hc ha ev w hv hev).mono ?_; rintro e w' ⟨N, rfl, _, _, hb⟩; exact ⟨_, rfl, hb⟩
  | _ =>
   obtain ⟨ev, hv, hev⟩ := hLD.syn; refine (Tryz.strconv_Atoi_syntax a0 hc ha ev w hv hev).mono ?_; rintro e w' ⟨N, rfl, _, _, hb⟩; exact ⟨_, rfl, hb⟩
 ·cases h

/-! ### impl_nameRead: function 35 -/
def impl_nameRead.f (a0 : ByteArray) : Option (Int × Int) := if a0.toList = ([] : List UInt8) then (some (0, 0)) else (if 1 ≤ (a0.size : Int) then ((strconv_Atoi.f (a0.extract 1 a0.size)).bind fun bt204 => (if 0 < (a0.size : Int) then (some (wrap64 ((wrap64 ((wrap64 (bt a0 0)) - 97)) + 1), bt204.1)) else (none))) else (none))
set_option maxHeartbeats 8000000 in
set_option maxRecDepth 100000 in
theorem impl_nameRead.calls (a0 : ByteArray) (r1 : Int) (r2 : Int) (w : World) (hLD : LaidW w) (h : impl_nameRead.f a0 = some (r1, r2)) :
  Calls Tryz.prog 35 #[.string a0] w fun e w' => e = .returned (.tuple #[.int .i64 r1, .int .i64 r2]) ∧ Below w.heap.size w w' := by
 have HB := aM (Below.refl w.heap.size w); have HLD := aM hLD; clear hLD; have H : (if a0.toList = ([] : List UInt8) then (some (0, 0)) else (if 1 ≤ (a0.size : Int) then ((strconv_Atoi.f (a0.extract 1 a0.size)).bind fun bt204 => (if 0 < (a0.size : Int) then (some (wrap64 ((wrap64 ((wrap64 (bt a0 0)) - 97)) + 1), bt204.1)) else (none))) else (none))) = some (r1, r2) := h; clear h
 by_cases c2 : a0.toList = ([] : List UInt8)
 ·rw [if_pos c2] at H; have c2b0 : (a0.toList == ([] : List UInt8)) = true := beq_iff_eq.mpr c2; have c2b1 : (a0.toList != ([] : List UInt8)) = false := bne_eq_false_iff_eq.mpr c2; clear c2; simp only [Option.some.injEq, Prod.mk.injEq] at H; obtain ⟨rfl, rfl⟩ := H
  go_enter Tryz.func35, Tryz.ntmps35
  go_wp2
  go_ret2
  exact ⟨by first | rfl | (simp [errW_none, errW_some] <;> rfl) | (simp [*, errW_none, errW_some] <;> rfl), by exact zB HB.1⟩
 ·rw [if_neg c2] at H; have c2b0 : (a0.toList == ([] : List UInt8)) = false := beq_eq_false_iff_ne.mpr c2; have c2b1 : (a0.toList != ([] : List UInt8)) = true := bne_iff_ne.mpr c2; replace H := zif H; obtain ⟨c3, H⟩ := H; have c3b0 := eq_true c3; have c3b1 : decide (1 ≤ (a0.size : Int)) = true := decide_eq_true c3; clear c3; replace H := Option.bind_eq_some_iff.mp H; obtain ⟨⟨t204, t205⟩, A40, H⟩ := H; (try dsimp only at H); have A4 := aM A40; clear A40; replace H := zif H; obtain ⟨c5, H⟩ := H; have c5b0 : decide (0 < (a0.size : Int)) = true := decide_eq_true c5; have c5b1 : decide (0 < a0.size) = true := decide_eq_true (by omega); clear c5; simp only [Option.some.injEq, Prod.mk.injEq] at H; obtain ⟨rfl, rfl⟩ := H
  go_enter Tryz.func35, Tryz.ntmps35
  go_wp2_with (first | ((with_reducible refine gate_callee (f := 37) rfl ?_); refine zgL (some 11) Tryz.func37 #[.string (a0.extract 1 a0.size)] ?_; (with_reducible refine (strconv_Atoi.calls (a0.extract 1 a0.size) t204 t205 _ ?sideL A4.1).mono ?_); (case sideL => exact HLD.1.on (zB HB.1)); rintro e w7 ⟨ev_, rfl, hb⟩; refine ⟨_, rfl, ?_⟩; have _ := aM (below_step (zB HB.1) hb); clear HB; rename_i HB; (try clear hb); (try clear hb2); (try clear hk); (try clear hi); (try simp only [errW_none, errW_some]); have p6 : 0 ≤ (0 : Int) := (by omega); have q6 : 0 < a0.size := (by have : (0 : Int) < (a0.size : Int) := zd; omega); have hx6 : ∀ h : 0 < a0.size, ((a0[0]'h).toNat : Int) = bt a0 0 := bt_at a0 0; clear p6; have qi6 : (0 < (a0.size : Int)) = True := eq_true (zd); replace q6 := eq_true q6))
  go_ret2
  exact ⟨by first | rfl | (simp [errW_none, errW_some] <;> rfl) | (simp [*, errW_none, errW_some] <;> rfl), by exact zB HB.1⟩

/-! ### strings_Cut: function 36 -/
def strings_Cut.f (s sep : ByteArray) : Option (ByteArray × ByteArray × Bool) := if s.size < 4294967281 then some (⟨(Lib.cut s.data.toList sep.data.toList).1.toArray⟩, ⟨(Lib.cut s.data.toList sep.data.toList).2.1.toArray⟩, (Lib.cut s.data.toList sep.data.toList).2.2) else none
theorem strings_Cut.calls (a0 a1 : ByteArray) (r1 r2 : ByteArray) (r3 : Bool) (w : World) (hLD : LaidW w) (h : strings_Cut.f a0 a1 = some (r1, r2, r3)) :
  Calls Tryz.prog 36 #[.string a0, .string a1] w fun e w' => e = .returned (.tuple #[.string r1, .string r2, .bool r3]) ∧ Below w.heap.size w w' := by
 unfold strings_Cut.f at h
 split at h
 ·rename_i hc; obtain ⟨e1, e2⟩ := Prod.mk.inj (Option.some.inj h); obtain ⟨e3, e4⟩ := Prod.mk.inj e2; subst e1 e3 e4; obtain ⟨m, hm⟩ := hLD.len; refine (Tryz.strings_Cut a0 a1 m w hc hm).mono ?_; rintro e w' ⟨rfl, n, rfl⟩; exact ⟨rfl, pw_below_drewN (Below.refl _ _) n⟩
 ·cases h

/-! ### impl_in: function 42 -/
theorem impl_in_b (w : World) (n a b : Int) (v : Bool) (h : inB_ n a b = v) : Calls Tryz.prog 42 #[.int .i64 n, .int .i64 a, .int .i64 b] w fun e w' => e = .returned (.bool v) ∧ w' = w := by
 subst h
 go_enter Tryz.func42, Tryz.ntmps42
 by_cases h1 : a ≤ n
 ·by_cases h2 : n ≤ b
  ·have e1 : inB_ n a b = true := by unfold inB_; rw [decide_eq_true h1, decide_eq_true h2]; rfl
   have d1 : decide (a ≤ n) = true := decide_eq_true h1
   have d2 : decide (n ≤ b) = true := decide_eq_true h2
   rw [e1]
   clear h1 h2 e1
   go_wp2
   go_ret
   exact ⟨by first | rfl | simp [*], rfl⟩
  ·have e1 : inB_ n a b = false := by unfold inB_; rw [decide_eq_false h2, Bool.and_false]
   have d1 : decide (a ≤ n) = true := decide_eq_true h1
   have d2 : decide (n ≤ b) = false := decide_eq_false h2
   rw [e1]
   clear h1 h2 e1
   go_wp2
   go_ret
   exact ⟨by first | rfl | simp [*], rfl⟩
 ·have e1 : inB_ n a b = false := by unfold inB_; rw [decide_eq_false h1, Bool.false_and]
  have d1 : decide (a ≤ n) = false := decide_eq_false h1
  rw [e1]
  clear h1 e1
  go_wp2
  go_ret
  exact ⟨by first | rfl | simp [*], rfl⟩
def impl_in.f (a0 : Int) (a1 : Int) (a2 : Int) : Option (Bool) := if a0 ≥ a1 then (some (decide (a0 ≤ a2))) else (some (false))
theorem impl_in.calls (a0 : Int) (a1 : Int) (a2 : Int) (r : Bool) (w : World) (h : impl_in.f a0 a1 a2 = some r) :
  Calls Tryz.prog 42 #[.int .i64 a0, .int .i64 a1, .int .i64 a2] w fun e w' => e = .returned (.bool r) ∧ Drawn0 w w' := by
 have e : inB_ a0 a1 a2 = r := by
  unfold impl_in.f at h; unfold inB_
  by_cases c : a0 ≥ a1
  ·rw [if_pos c] at h; rw [decide_eq_true c, Bool.true_and]; exact Option.some.inj h
  ·rw [if_neg c] at h; rw [decide_eq_false c, Bool.false_and]; exact Option.some.inj h
 exact (impl_in_b w a0 a1 a2 r e).mono fun _ _ h => ⟨h.1, by rw [h.2]; exact Drawn0.refl _⟩

/-! ### impl_isName: function 40 -/
theorem impl_isName_b (w : World) (n : Int) (v : Bool) (h : inB_ n 1 4 = v) : Calls Tryz.prog 40 #[.int .i64 n] w fun e w' => e = .returned (.bool v) ∧ w' = w := by
 subst h
 go_enter Tryz.func40, Tryz.ntmps40
 by_cases h1 : 1 ≤ n
 ·by_cases h2 : n ≤ 4
  ·have e1 : inB_ n 1 4 = true := by unfold inB_; rw [decide_eq_true h1, decide_eq_true h2]; rfl
   have d1 : decide (1 ≤ n) = true := decide_eq_true h1
   have d2 : decide (n ≤ 4) = true := decide_eq_true h2
   rw [e1]
   clear h1 h2 e1
   go_wp2
   go_ret
   exact ⟨by first | rfl | simp [*], rfl⟩
  ·have e1 : inB_ n 1 4 = false := by unfold inB_; rw [decide_eq_false h2, Bool.and_false]
   have d1 : decide (1 ≤ n) = true := decide_eq_true h1
   have d2 : decide (n ≤ 4) = false := decide_eq_false h2
   rw [e1]
   clear h1 h2 e1
   go_wp2
   go_ret
   exact ⟨by first | rfl | simp [*], rfl⟩
 ·have e1 : inB_ n 1 4 = false := by unfold inB_; rw [decide_eq_false h1, Bool.false_and]
  have d1 : decide (1 ≤ n) = false := decide_eq_false h1
  rw [e1]
  clear h1 e1
  go_wp2
  go_ret
  exact ⟨by first | rfl | simp [*], rfl⟩
def impl_isName.f (a0 : Int) : Option (Bool) := impl_in.f a0 1 4
theorem impl_isName.calls (a0 : Int) (r : Bool) (w : World) (h : impl_isName.f a0 = some r) :
  Calls Tryz.prog 40 #[.int .i64 a0] w fun e w' => e = .returned (.bool r) ∧ Drawn0 w w' := by
 have e : inB_ a0 1 4 = r := by
  unfold impl_isName.f impl_in.f at h; unfold inB_
  by_cases c : a0 ≥ 1
  ·rw [if_pos c] at h; rw [decide_eq_true c, Bool.true_and]; exact Option.some.inj h
  ·rw [if_neg c] at h; rw [decide_eq_false c, Bool.false_and]; exact Option.some.inj h
 exact (impl_isName_b w a0 r e).mono fun _ _ h => ⟨h.1, by rw [h.2]; exact Drawn0.refl _⟩

/-! ### impl_isVer: function 41 -/
theorem impl_isVer_b (w : World) (n : Int) (v : Bool) (h : inB_ n 1 5 = v) : Calls Tryz.prog 41 #[.int .i64 n] w fun e w' => e = .returned (.bool v) ∧ w' = w := by
 subst h
 go_enter Tryz.func41, Tryz.ntmps41
 by_cases h1 : 1 ≤ n
 ·by_cases h2 : n ≤ 5
  ·have e1 : inB_ n 1 5 = true := by unfold inB_; rw [decide_eq_true h1, decide_eq_true h2]; rfl
   have d1 : decide (1 ≤ n) = true := decide_eq_true h1
   have d2 : decide (n ≤ 5) = true := decide_eq_true h2
   rw [e1]
   clear h1 h2 e1
   go_wp2
   go_ret
   exact ⟨by first | rfl | simp [*], rfl⟩
  ·have e1 : inB_ n 1 5 = false := by unfold inB_; rw [decide_eq_false h2, Bool.and_false]
   have d1 : decide (1 ≤ n) = true := decide_eq_true h1
   have d2 : decide (n ≤ 5) = false := decide_eq_false h2
   rw [e1]
   clear h1 h2 e1
   go_wp2
   go_ret
   exact ⟨by first | rfl | simp [*], rfl⟩
 ·have e1 : inB_ n 1 5 = false := by unfold inB_; rw [decide_eq_false h1, Bool.false_and]
  have d1 : decide (1 ≤ n) = false := decide_eq_false h1
  rw [e1]
  clear h1 e1
  go_wp2
  go_ret
  exact ⟨by first | rfl | simp [*], rfl⟩
def impl_isVer.f (a0 : Int) : Option (Bool) := impl_in.f a0 1 5
theorem impl_isVer.calls (a0 : Int) (r : Bool) (w : World) (h : impl_isVer.f a0 = some r) :
  Calls Tryz.prog 41 #[.int .i64 a0] w fun e w' => e = .returned (.bool r) ∧ Drawn0 w w' := by
 have e : inB_ a0 1 5 = r := by
  unfold impl_isVer.f impl_in.f at h; unfold inB_
  by_cases c : a0 ≥ 1
  ·rw [if_pos c] at h; rw [decide_eq_true c, Bool.true_and]; exact Option.some.inj h
  ·rw [if_neg c] at h; rw [decide_eq_false c, Bool.false_and]; exact Option.some.inj h
 exact (impl_isVer_b w a0 r e).mono fun _ _ h => ⟨h.1, by rw [h.2]; exact Drawn0.refl _⟩

/-! ### impl_PkgOk: function 38 -/
def pkf1 (l : List S71) (i : Nat) : Bool := inB_ (l.getD i z71).f0 0 5 && (inB_ (l.getD i z71).f1 0 9 && (i == 0 || decide ((l.getD (i - 1) z71).f0 < (l.getD i z71).f0)))
def pkd1 (name : Int) (l : List S73) (i : Nat) : Bool := inB_ (l.getD i z73).f0 1 4 && (!decide ((l.getD i z73).f0 = name) && (inB_ (l.getD i z73).f1 1 5 && (i == 0 || decide ((l.getD (i - 1) z73).f0 < (l.getD i z73).f0))))
def pkpre (n v : Int) (a b : Nat) : Bool := inB_ n 1 4 && (inB_ v 1 5 && (decide (a ≤ 2) && decide (b ≤ 2)))
def pkB (n v : Int) (l2 : List S71) (l3 : List S73) : Bool := pkpre n v l2.length l3.length && (okFrom (pkf1 l2) l2.length 0 && okFrom (pkd1 n l3) l3.length 0)
set_option maxHeartbeats 8000000 in
set_option maxRecDepth 100000 in
theorem pko_no (n v : Int) (A2 : Option Addr) (c2 : Nat) (l2 : List S71) (A3 : Option Addr) (c3 : Nat) (l3 : List S73) (w : World) (hno : pkpre n v l2.length l3.length = false) :
  Calls Tryz.prog 38 #[.agg #[.int .i64 n, .int .i64 v, .slice A2 l2.length c2, .slice A3 l3.length c3]] w fun e w' => e = .returned (.bool false) ∧ Below w.heap.size w w' := by
 have HB := Aside0.mk (Below.refl w.heap.size w)
 have hx : ¬ 1 ≤ n ∨ (1 ≤ n ∧ ¬ n ≤ 4) ∨ ((1 ≤ n ∧ n ≤ 4) ∧ ¬ 1 ≤ v) ∨ ((1 ≤ n ∧ n ≤ 4) ∧ 1 ≤ v ∧ ¬ v ≤ 5) ∨ ((1 ≤ n ∧ n ≤ 4) ∧ (1 ≤ v ∧ v ≤ 5) ∧ 2 < (l2.length : Int)) ∨ ((1 ≤ n ∧ n ≤ 4) ∧ (1 ≤ v ∧ v ≤ 5) ∧ ¬ 2 < (l2.length : Int) ∧ 2 < (l3.length : Int)) := by
  by_cases h1 : 1 ≤ n
  ·by_cases h2 : n ≤ 4
   ·by_cases h3 : 1 ≤ v
    ·by_cases h4 : v ≤ 5
     ·by_cases h5 : 2 < (l2.length : Int)
      ·exact .inr (.inr (.inr (.inr (.inl ⟨⟨h1, h2⟩, ⟨h3, h4⟩, h5⟩))))
      ·refine .inr (.inr (.inr (.inr (.inr ⟨⟨h1, h2⟩, ⟨h3, h4⟩, h5, Decidable.byContradiction fun h6 => ?_⟩))))
       simp only [pkpre, inB_, decide_eq_true h1, decide_eq_true h2, decide_eq_true h3, decide_eq_true h4, decide_eq_true (show l2.length ≤ 2 by omega), decide_eq_true (show l3.length ≤ 2 by omega), Bool.and_true] at hno
       cases hno
     ·exact .inr (.inr (.inr (.inl ⟨⟨h1, h2⟩, h3, h4⟩)))
    ·exact .inr (.inr (.inl ⟨⟨h1, h2⟩, h3⟩))
   ·exact .inr (.inl ⟨h1, h2⟩)
  ·exact .inl h1
 clear hno
 go_enter Tryz.func38, Tryz.ntmps38
 rcases hx with h1 | ⟨h1, h2⟩ | ⟨⟨h1, h2⟩, h3⟩ | ⟨⟨h1, h2⟩, h3, h4⟩ | ⟨⟨h1, h2⟩, ⟨h3, h4⟩, h5⟩ | ⟨⟨h1, h2⟩, ⟨h3, h4⟩, h5, h6⟩
 all_goals
  go_wp2
  go_ret
  exact ⟨by first | rfl | simp [*], below_alloc HB.out _⟩
set_option maxHeartbeats 8000000 in
set_option maxRecDepth 100000 in
theorem pko_yes (n v : Int) (A2 : Option Addr) (c2 : Nat) (l2 : List S71) (A3 : Option Addr) (c3 : Nat) (l3 : List S73) (w : World) (hr2 : Kd.C k71 w A2 l2.length l2) (hr3 : Kd.C k73 w A3 l3.length l3) (hyes : pkpre n v l2.length l3.length = true) :
  Calls Tryz.prog 38 #[.agg #[.int .i64 n, .int .i64 v, .slice A2 l2.length c2, .slice A3 l3.length c3]] w fun e w' => e = .returned (.bool (pkB n v l2 l3)) ∧ Below w.heap.size w w' := by
 have HR2 := Aside0.mk hr2
 have HR3 := Aside0.mk hr3
 have HL2 := Aside0.mk hr2.2.1
 have HL3 := Aside0.mk hr3.2.1
 clear hr2 hr3
 have HE : Aside0 (pkB n v l2 l3 = (okFrom (pkf1 l2) (l2.length - (0 : Int).toNat) (0 : Int).toNat && okFrom (pkd1 n l3) l3.length 0)) := ⟨by unfold pkB; rw [hyes]; rfl⟩
 have hx : (1 ≤ n ∧ n ≤ 4) ∧ (1 ≤ v ∧ v ≤ 5) ∧ ¬ 2 < (l2.length : Int) ∧ ¬ 2 < (l3.length : Int) := by
  simp only [pkpre, inB_, Bool.and_eq_true, decide_eq_true_eq] at hyes
  obtain ⟨h1, h2, h3, h4⟩ := hyes
  exact ⟨h1, h2, by omega, by omega⟩
 clear hyes
 obtain ⟨⟨h1, h2⟩, ⟨h3, h4⟩, h5, h6⟩ := hx
 go_enter Tryz.func38, Tryz.ntmps38
 go_wp2
 clear h1 h2 h3 h4 h5 h6
 have n0_ := Aside0.mk (below_alloc (Below.refl w.heap.size w) (Obj.cells #[.int .i64 n, .int .i64 v, .slice A2 l2.length c2, .slice A3 l3.length c3] 29))
 have n1_ := Aside0.mk (blk_new w (Obj.cells #[.int .i64 n, .int .i64 v, .slice A2 l2.length c2, .slice A3 l3.length c3] 29))
 generalize w.alloc (Obj.cells #[.int .i64 n, .int .i64 v, .slice A2 l2.length c2, .slice A3 l3.length c3] 29) = W0 at n0_ n1_ ⊢
 obtain ⟨gb, hgb⟩ : ∃ g, g = w.heap.size := ⟨_, rfl⟩
 rw [← hgb] at n1_ ⊢
 have HB := n0_
 have BK := n1_
 clear n0_ n1_ hgb
 have k0 : W0.cell? ⟨gb, 0, none⟩ = some (.int .i64 n) := (blk_cell BK.out 0).trans rfl
 have k1 : W0.cell? ⟨gb, 1, none⟩ = some (.int .i64 v) := (blk_cell BK.out 1).trans rfl
 have k2 : W0.cell? ⟨gb, 2, none⟩ = some (.slice A2 l2.length c2) := (blk_cell BK.out 2).trans rfl
 have k3 : W0.cell? ⟨gb, 3, none⟩ = some (.slice A3 l3.length c3) := (blk_cell BK.out 3).trans rfl
 go_loopw [32] (fun v5 w' => ∃ x : Int, 0 ≤ x ∧ x ≤ (l2.length : Int) ∧ v5 = .int .i64 x ∧ Aside0 (pkB n v l2 l3 = (okFrom (pkf1 l2) (l2.length - x.toNat) x.toNat && okFrom (pkd1 n l3) l3.length 0)) ∧ Aside0 (w'.heap[gb]? = some (.cells #[.int .i64 n, .int .i64 v, .slice A2 l2.length c2, .slice A3 l3.length c3] 29 (0, 0))) ∧ Aside0 (Below w.heap.size w w')) (fun v5 _ => l2.length - (intOf v5).toNat)
 case atStart => exact ⟨0, by omega, by omega, rfl, HE, BK, HB⟩
 case round =>
  clear HE HB BK k0 k1 k2 k3
  obtain ⟨x, hx0, hx1, rfl, HE, BK, HB⟩ := hrel
  have k0 : wr.cell? ⟨gb, 0, none⟩ = some (.int .i64 n) := (blk_cell BK.out 0).trans rfl
  have k1 : wr.cell? ⟨gb, 1, none⟩ = some (.int .i64 v) := (blk_cell BK.out 1).trans rfl
  have k2 : wr.cell? ⟨gb, 2, none⟩ = some (.slice A2 l2.length c2) := (blk_cell BK.out 2).trans rfl
  have k3 : wr.cell? ⟨gb, 3, none⟩ = some (.slice A3 l3.length c3) := (blk_cell BK.out 3).trans rfl
  have HL2 := HL2.out
  by_cases hlt : x < (l2.length : Int)
  ·obtain ⟨ad, e, m0, m1⟩ := at_T71 HR2.out x hx0 hlt
   cases e
   replace m0 := (HB.out.cell (World.block_lt_of_cell? w _ m0)).trans m0
   replace m1 := (HB.out.cell (World.block_lt_of_cell? w _ m1)).trans m1
   obtain ⟨F0, hF0⟩ : ∃ F0, F0 = (rd_T71 l2 x).f0 := ⟨_, rfl⟩
   obtain ⟨F1, hF1⟩ : ∃ F1, F1 = (rd_T71 l2 x).f1 := ⟨_, rfl⟩
   rw [← hF0] at m0
   rw [← hF1] at m1
   have HF := Aside0.mk (And.intro hF0 hF1)
   clear hF0 hF1
   have q1 : decide (x < (l2.length : Int)) = true := decide_eq_true hlt
   have q2 : 0 ≤ x := hx0
   obtain ⟨b1, hb1⟩ : ∃ b, inB_ F0 0 5 = b := ⟨_, rfl⟩
   obtain ⟨b2, hb2⟩ : ∃ b, inB_ F1 0 9 = b := ⟨_, rfl⟩
   have C1 := Aside0.mk (fun W => impl_in_b W F0 0 5 b1 hb1)
   have C2 := Aside0.mk (fun W => impl_in_b W F1 0 9 b2 hb2)
   have B1 := Aside0.mk hb1
   have B2 := Aside0.mk hb2
   clear hb1 hb2
   have HN := Aside0.mk (okFrom_at (p := pkf1 l2) hx0 hlt)
   have no : Aside0 (pkf1 l2 x.toNat = false → pkB n v l2 l3 = false) := ⟨fun h_ => by rw [HE.out, HN.out, h_]; rfl⟩
   have yes : Aside0 (pkf1 l2 x.toNat = true → pkB n v l2 l3 = (okFrom (pkf1 l2) (l2.length - (x + 1).toNat) (x + 1).toNat && okFrom (pkd1 n l3) l3.length 0)) := ⟨fun h_ => by rw [HE.out, HN.out, h_]; rfl⟩
   have D : Aside0 (pkf1 l2 x.toNat = (b1 && (b2 && (x.toNat == 0 || decide ((l2.getD (x.toNat - 1) z71).f0 < F0))))) := ⟨by
    unfold pkf1
    rw [← show _ = (l2.getD x.toNat z71).f0 from HF.out.1, ← show _ = (l2.getD x.toNat z71).f1 from HF.out.2, B1.out, B2.out]⟩
   clear HE HN HF B1 B2
   go_wp2
   have n0_ := Aside0.mk (below_alloc HB.out (Obj.cells #[.int .i64 F0, .int .i64 F1] 71))
   have n1_ := Aside0.mk (blk_alloc BK.out (Obj.cells #[.int .i64 F0, .int .i64 F1] 71))
   have f0 : (wr.alloc (Obj.cells #[.int .i64 F0, .int .i64 F1] 71)).cell? ⟨wr.heap.size, 0, none⟩ = some (.int .i64 F0) := by simp
   have f1 : (wr.alloc (Obj.cells #[.int .i64 F0, .int .i64 F1] 71)).cell? ⟨wr.heap.size, 1, none⟩ = some (.int .i64 F1) := by simp
   clear HB BK m0 m1 k0 k1 k2 k3
   generalize wr.alloc (Obj.cells #[.int .i64 F0, .int .i64 F1] 71) = W at n0_ n1_ f0 f1 ⊢
   generalize wr.heap.size = gf at f0 f1 ⊢
   have HB := n0_
   have BK := n1_
   clear n0_ n1_
   have k0 : W.cell? ⟨gb, 0, none⟩ = some (.int .i64 n) := (blk_cell BK.out 0).trans rfl
   have k1 : W.cell? ⟨gb, 1, none⟩ = some (.int .i64 v) := (blk_cell BK.out 1).trans rfl
   have k2 : W.cell? ⟨gb, 2, none⟩ = some (.slice (some ad) l2.length c2) := (blk_cell BK.out 2).trans rfl
   have k3 : W.cell? ⟨gb, 3, none⟩ = some (.slice A3 l3.length c3) := (blk_cell BK.out 3).trans rfl
   cases b1 with
   | false =>
    go_quiet ((first | (go_at_call 42; (first | with_reducible refine (C1.out _).mono ?_ | with_reducible refine (C2.out _).mono ?_); exact fun _ _ h_ => ⟨h_.1, _, h_.2⟩)))
    go_wp2
    go_ret
    rw [no.out (by rw [D.out]; rfl)]
    exact ⟨by first | rfl | simp [*], by repeat (first | exact HB.out | apply pw_below_drewN)⟩
   | true =>
    cases b2 with
    | false =>
     go_quiet ((first | (go_at_call 42; (first | with_reducible refine (C1.out _).mono ?_ | with_reducible refine (C2.out _).mono ?_); exact fun _ _ h_ => ⟨h_.1, _, h_.2⟩)))
     go_wp2
     go_ret
     rw [no.out (by rw [D.out]; rfl)]
     exact ⟨by first | rfl | simp [*], by repeat (first | exact HB.out | apply pw_below_drewN)⟩
    | true =>
     by_cases hz : x ≤ 0
     ·have hx4 : decide (0 < x) = false := decide_eq_false (by omega)
      have Y := Aside0.mk (yes.out (by rw [D.out, show (x.toNat == 0) = true by rw [beq_iff_eq]; omega]; rfl))
      clear yes no D hz
      go_quiet ((first | (go_at_call 42; (first | with_reducible refine (C1.out _).mono ?_ | with_reducible refine (C2.out _).mono ?_); exact fun _ _ h_ => ⟨h_.1, _, h_.2⟩)))
      go_wp2
      go_roundw
      case rel => exact ⟨x + 1, by omega, by omega, by first | rfl | simp, Y, ⟨by (with_reducible repeat (first | refine blk_drewN ?_ _)); exact BK.out⟩, ⟨by repeat (first | exact HB.out | apply pw_below_drewN)⟩⟩
      case measure => simp [intOf]; omega
     ·have g0 : 0 < x := by omega
      clear hz
      obtain ⟨y, hy⟩ : ∃ y, y = x - 1 := ⟨_, rfl⟩
      have hw : IntKind.i64.wrap (x - 1) = y := by rw [i64_w, hy]; unfold wrap64; omega
      obtain ⟨ad2, e2, d0, d1⟩ := at_T71 HR2.out y (by omega) (by omega)
      obtain ⟨G0, hG0⟩ : ∃ G0, G0 = (rd_T71 l2 y).f0 := ⟨_, rfl⟩
      obtain ⟨G1, hG1⟩ : ∃ G1, G1 = (rd_T71 l2 y).f1 := ⟨_, rfl⟩
      rw [← hG0] at d0
      rw [← hG1] at d1
      cases e2
      replace d0 := (HB.out.cell (World.block_lt_of_cell? w _ d0)).trans d0
      replace d1 := (HB.out.cell (World.block_lt_of_cell? w _ d1)).trans d1
      have HG := Aside0.mk hG0
      clear hG0 hG1
      have hx2 : 0 ≤ y := by omega
      have hx3 : decide (y < (l2.length : Int)) = true := decide_eq_true (by omega)
      have hx4 : decide (0 < x) = true := decide_eq_true g0
      have hx5 : y < (l2.length : Int) := by omega
      have HY := Aside0.mk hy
      clear hy
      have FD : Aside0 (pkf1 l2 x.toNat = decide (G0 < F0)) := ⟨by
       rw [D.out, show (x.toNat == 0) = false by rw [beq_eq_false_iff_ne]; omega, show x.toNat - 1 = y.toNat by have := HY.out; omega, ← show _ = (l2.getD y.toNat z71).f0 from HG.out]; rfl⟩
      by_cases hc : F0 ≤ G0
      ·have cb : decide (F0 ≤ G0) = true := decide_eq_true hc
       have N := Aside0.mk (no.out (by rw [FD.out, decide_eq_false (by omega)]))
       clear yes no hc D
       go_quiet ((first | (go_at_call 42; (first | with_reducible refine (C1.out _).mono ?_ | with_reducible refine (C2.out _).mono ?_); exact fun _ _ h_ => ⟨h_.1, _, h_.2⟩)))
       go_wp2
       go_ret
       rw [N.out]
       exact ⟨by first | rfl | simp [*], by repeat (first | exact HB.out | apply pw_below_drewN)⟩
      ·have cb : decide (F0 ≤ G0) = false := decide_eq_false hc
       have Y := Aside0.mk (yes.out (by rw [FD.out, decide_eq_true (by omega)]))
       clear yes no hc D
       go_quiet ((first | (go_at_call 42; (first | with_reducible refine (C1.out _).mono ?_ | with_reducible refine (C2.out _).mono ?_); exact fun _ _ h_ => ⟨h_.1, _, h_.2⟩)))
       go_wp2
       go_roundw
       case rel => exact ⟨x + 1, by omega, by omega, by first | rfl | simp, Y, ⟨by (with_reducible repeat (first | refine blk_drewN ?_ _)); exact BK.out⟩, ⟨by repeat (first | exact HB.out | apply pw_below_drewN)⟩⟩
       case measure => simp [intOf]; omega
  ·have hxe : x = (l2.length : Int) := by omega
   have q1 : decide (x < (l2.length : Int)) = false := decide_eq_false hlt
   have E := Aside0.mk (show pkB n v l2 l3 = (okFrom (pkd1 n l3) (l3.length - (0 : Int).toNat) (0 : Int).toNat) by
    rw [HE.out, hxe, Int.toNat_natCast, Nat.sub_self]
    rfl)
   clear hxe HE hx0 hx1 hlt
   have HE := E
   clear E
   go_wp2
   clear q1
   obtain ⟨W0, hW0⟩ : ∃ W, W = wr := ⟨_, rfl⟩
   rw [← hW0] at HB BK k0 k1 k2 k3 ⊢
   clear hW0
   go_loopw [67] (fun v5 w' => ∃ x : Int, 0 ≤ x ∧ x ≤ (l3.length : Int) ∧ v5 = .int .i64 x ∧ Aside0 (pkB n v l2 l3 = (okFrom (pkd1 n l3) (l3.length - x.toNat) x.toNat)) ∧ Aside0 (w'.heap[gb]? = some (.cells #[.int .i64 n, .int .i64 v, .slice A2 l2.length c2, .slice A3 l3.length c3] 29 (0, 0))) ∧ Aside0 (Below w.heap.size w w')) (fun v5 _ => l3.length - (intOf v5).toNat)
   case atStart => exact ⟨0, by omega, by omega, rfl, HE, BK, HB⟩
   case round =>
    clear HE HB BK k0 k1 k2 k3
    obtain ⟨x, hx0, hx1, rfl, HE, BK, HB⟩ := hrel
    have k0 : wr.cell? ⟨gb, 0, none⟩ = some (.int .i64 n) := (blk_cell BK.out 0).trans rfl
    have k1 : wr.cell? ⟨gb, 1, none⟩ = some (.int .i64 v) := (blk_cell BK.out 1).trans rfl
    have k2 : wr.cell? ⟨gb, 2, none⟩ = some (.slice A2 l2.length c2) := (blk_cell BK.out 2).trans rfl
    have k3 : wr.cell? ⟨gb, 3, none⟩ = some (.slice A3 l3.length c3) := (blk_cell BK.out 3).trans rfl
    have HL2 := HL3.out
    by_cases hlt : x < (l3.length : Int)
    ·obtain ⟨ad, e, m0, m1⟩ := at_T73 HR3.out x hx0 hlt
     cases e
     replace m0 := (HB.out.cell (World.block_lt_of_cell? w _ m0)).trans m0
     replace m1 := (HB.out.cell (World.block_lt_of_cell? w _ m1)).trans m1
     obtain ⟨F0, hF0⟩ : ∃ F0, F0 = (rd_T73 l3 x).f0 := ⟨_, rfl⟩
     obtain ⟨F1, hF1⟩ : ∃ F1, F1 = (rd_T73 l3 x).f1 := ⟨_, rfl⟩
     rw [← hF0] at m0
     rw [← hF1] at m1
     have HF := Aside0.mk (And.intro hF0 hF1)
     clear hF0 hF1
     have q1 : decide (x < (l3.length : Int)) = true := decide_eq_true hlt
     have q2 : 0 ≤ x := hx0
     obtain ⟨b1, hb1⟩ : ∃ b, inB_ F0 1 4 = b := ⟨_, rfl⟩
     obtain ⟨b2, hb2⟩ : ∃ b, inB_ F1 1 5 = b := ⟨_, rfl⟩
     have C1 := Aside0.mk (fun W => impl_isName_b W F0 b1 hb1)
     have C2 := Aside0.mk (fun W => impl_isVer_b W F1 b2 hb2)
     have B1 := Aside0.mk hb1
     have B2 := Aside0.mk hb2
     clear hb1 hb2
     have HN := Aside0.mk (okFrom_at (p := pkd1 n l3) hx0 hlt)
     have no : Aside0 (pkd1 n l3 x.toNat = false → pkB n v l2 l3 = false) := ⟨fun h_ => by rw [HE.out, HN.out, h_]; rfl⟩
     have yes : Aside0 (pkd1 n l3 x.toNat = true → pkB n v l2 l3 = (okFrom (pkd1 n l3) (l3.length - (x + 1).toNat) (x + 1).toNat)) := ⟨fun h_ => by rw [HE.out, HN.out, h_]; rfl⟩
     have D : Aside0 (pkd1 n l3 x.toNat = (b1 && (!decide (F0 = n) && (b2 && (x.toNat == 0 || decide ((l3.getD (x.toNat - 1) z73).f0 < F0)))))) := ⟨by
      unfold pkd1
      rw [← show _ = (l3.getD x.toNat z73).f0 from HF.out.1, ← show _ = (l3.getD x.toNat z73).f1 from HF.out.2, B1.out, B2.out]⟩
     clear HE HN HF B1 B2
     go_wp2
     have n0_ := Aside0.mk (below_alloc HB.out (Obj.cells #[.int .i64 F0, .int .i64 F1] 73))
     have n1_ := Aside0.mk (blk_alloc BK.out (Obj.cells #[.int .i64 F0, .int .i64 F1] 73))
     have f0 : (wr.alloc (Obj.cells #[.int .i64 F0, .int .i64 F1] 73)).cell? ⟨wr.heap.size, 0, none⟩ = some (.int .i64 F0) := by simp
     have f1 : (wr.alloc (Obj.cells #[.int .i64 F0, .int .i64 F1] 73)).cell? ⟨wr.heap.size, 1, none⟩ = some (.int .i64 F1) := by simp
     clear HB BK m0 m1 k0 k1 k2 k3
     generalize wr.alloc (Obj.cells #[.int .i64 F0, .int .i64 F1] 73) = W at n0_ n1_ f0 f1 ⊢
     generalize wr.heap.size = gf at f0 f1 ⊢
     have HB := n0_
     have BK := n1_
     clear n0_ n1_
     have k0 : W.cell? ⟨gb, 0, none⟩ = some (.int .i64 n) := (blk_cell BK.out 0).trans rfl
     have k1 : W.cell? ⟨gb, 1, none⟩ = some (.int .i64 v) := (blk_cell BK.out 1).trans rfl
     have k2 : W.cell? ⟨gb, 2, none⟩ = some (.slice A2 l2.length c2) := (blk_cell BK.out 2).trans rfl
     have k3 : W.cell? ⟨gb, 3, none⟩ = some (.slice (some ad) l3.length c3) := (blk_cell BK.out 3).trans rfl
     cases b1 with
     | false =>
      go_quiet ((first | (go_at_call 40; with_reducible refine (C1.out _).mono ?_; exact fun _ _ h_ => ⟨h_.1, _, h_.2⟩) | (go_at_call 41; with_reducible refine (C2.out _).mono ?_; exact fun _ _ h_ => ⟨h_.1, _, h_.2⟩)))
      go_wp2
      go_ret
      rw [no.out (by rw [D.out]; rfl)]
      exact ⟨by first | rfl | simp [*], by repeat (first | exact HB.out | apply pw_below_drewN)⟩
     | true =>
      by_cases he : F0 = n
      ·have N := Aside0.mk (no.out (by rw [D.out, decide_eq_true he]; rfl))
       have e1 : (F0 == n) = true := beq_iff_eq.mpr he
       clear yes no D he
       go_quiet ((first | (go_at_call 40; with_reducible refine (C1.out _).mono ?_; exact fun _ _ h_ => ⟨h_.1, _, h_.2⟩) | (go_at_call 41; with_reducible refine (C2.out _).mono ?_; exact fun _ _ h_ => ⟨h_.1, _, h_.2⟩)))
       go_wp2
       go_ret
       rw [N.out]
       exact ⟨by first | rfl | simp [*], by repeat (first | exact HB.out | apply pw_below_drewN)⟩
      ·have e1 : (F0 == n) = false := beq_eq_false_iff_ne.mpr he
       replace D := Aside0.mk (D.out.trans (by rw [decide_eq_false he]))
       clear he
       cases b2 with
       | false =>
        go_quiet ((first | (go_at_call 40; with_reducible refine (C1.out _).mono ?_; exact fun _ _ h_ => ⟨h_.1, _, h_.2⟩) | (go_at_call 41; with_reducible refine (C2.out _).mono ?_; exact fun _ _ h_ => ⟨h_.1, _, h_.2⟩)))
        go_wp2
        go_ret
        rw [no.out (by rw [D.out]; rfl)]
        exact ⟨by first | rfl | simp [*], by repeat (first | exact HB.out | apply pw_below_drewN)⟩
       | true =>
        by_cases hz : x ≤ 0
        ·have hx4 : decide (0 < x) = false := decide_eq_false (by omega)
         have Y := Aside0.mk (yes.out (by rw [D.out, show (x.toNat == 0) = true by rw [beq_iff_eq]; omega]; rfl))
         clear yes no D hz
         go_quiet ((first | (go_at_call 40; with_reducible refine (C1.out _).mono ?_; exact fun _ _ h_ => ⟨h_.1, _, h_.2⟩) | (go_at_call 41; with_reducible refine (C2.out _).mono ?_; exact fun _ _ h_ => ⟨h_.1, _, h_.2⟩)))
         go_wp2
         go_roundw
         case rel => exact ⟨x + 1, by omega, by omega, by first | rfl | simp, Y, ⟨by (with_reducible repeat (first | refine blk_drewN ?_ _)); exact BK.out⟩, ⟨by repeat (first | exact HB.out | apply pw_below_drewN)⟩⟩
         case measure => simp [intOf]; omega
        ·have g0 : 0 < x := by omega
         clear hz
         obtain ⟨y, hy⟩ : ∃ y, y = x - 1 := ⟨_, rfl⟩
         have hw : IntKind.i64.wrap (x - 1) = y := by rw [i64_w, hy]; unfold wrap64; omega
         obtain ⟨ad2, e2, d0, d1⟩ := at_T73 HR3.out y (by omega) (by omega)
         obtain ⟨G0, hG0⟩ : ∃ G0, G0 = (rd_T73 l3 y).f0 := ⟨_, rfl⟩
         obtain ⟨G1, hG1⟩ : ∃ G1, G1 = (rd_T73 l3 y).f1 := ⟨_, rfl⟩
         rw [← hG0] at d0
         rw [← hG1] at d1
         cases e2
         replace d0 := (HB.out.cell (World.block_lt_of_cell? w _ d0)).trans d0
         replace d1 := (HB.out.cell (World.block_lt_of_cell? w _ d1)).trans d1
         have HG := Aside0.mk hG0
         clear hG0 hG1
         have hx2 : 0 ≤ y := by omega
         have hx3 : decide (y < (l3.length : Int)) = true := decide_eq_true (by omega)
         have hx4 : decide (0 < x) = true := decide_eq_true g0
         have hx5 : y < (l3.length : Int) := by omega
         have HY := Aside0.mk hy
         clear hy
         have FD : Aside0 (pkd1 n l3 x.toNat = decide (G0 < F0)) := ⟨by
          rw [D.out, show (x.toNat == 0) = false by rw [beq_eq_false_iff_ne]; omega, show x.toNat - 1 = y.toNat by have := HY.out; omega, ← show _ = (l3.getD y.toNat z73).f0 from HG.out]; rfl⟩
         by_cases hc : F0 ≤ G0
         ·have cb : decide (F0 ≤ G0) = true := decide_eq_true hc
          have N := Aside0.mk (no.out (by rw [FD.out, decide_eq_false (by omega)]))
          clear yes no hc D
          go_quiet ((first | (go_at_call 40; with_reducible refine (C1.out _).mono ?_; exact fun _ _ h_ => ⟨h_.1, _, h_.2⟩) | (go_at_call 41; with_reducible refine (C2.out _).mono ?_; exact fun _ _ h_ => ⟨h_.1, _, h_.2⟩)))
          go_wp2
          go_ret
          rw [N.out]
          exact ⟨by first | rfl | simp [*], by repeat (first | exact HB.out | apply pw_below_drewN)⟩
         ·have cb : decide (F0 ≤ G0) = false := decide_eq_false hc
          have Y := Aside0.mk (yes.out (by rw [FD.out, decide_eq_true (by omega)]))
          clear yes no hc D
          go_quiet ((first | (go_at_call 40; with_reducible refine (C1.out _).mono ?_; exact fun _ _ h_ => ⟨h_.1, _, h_.2⟩) | (go_at_call 41; with_reducible refine (C2.out _).mono ?_; exact fun _ _ h_ => ⟨h_.1, _, h_.2⟩)))
          go_wp2
          go_roundw
          case rel => exact ⟨x + 1, by omega, by omega, by first | rfl | simp, Y, ⟨by (with_reducible repeat (first | refine blk_drewN ?_ _)); exact BK.out⟩, ⟨by repeat (first | exact HB.out | apply pw_below_drewN)⟩⟩
          case measure => simp [intOf]; omega
    ·have hxe : x = (l3.length : Int) := by omega
     have q1 : decide (x < (l3.length : Int)) = false := decide_eq_false hlt
     have E := Aside0.mk (show pkB n v l2 l3 = true by
      rw [HE.out, hxe, Int.toNat_natCast, Nat.sub_self]
      rfl)
     clear hxe HE
     go_wp2
     go_ret
     rw [E.out]
     exact ⟨by first | rfl | simp [*], by repeat (first | exact HB.out | apply pw_below_drewN)⟩
def impl_PkgOk.f (_k : Nat) (n v : Int) (l2 : List S71) (l3 : List S73) : Option Bool := some (pkB n v l2 l3)
theorem impl_PkgOk.mono : ∀ a0 a1 a2 a3 k, LeO (impl_PkgOk.f k a0 a1 a2 a3) (impl_PkgOk.f (k + 1) a0 a1 a2 a3) := fun _ _ _ _ _ _ h => h
theorem impl_PkgOk.calls (k : Nat) (a0_0 : Int) (a0_1 : Int) (A0_2 : Option Addr) (c0_2 : Nat) (l0_2 : List S71) (A0_3 : Option Addr) (c0_3 : Nat) (l0_3 : List S73) (r : Bool) (w : World) (hr0_2 : Kd.C k71 w A0_2 l0_2.length l0_2) (hc0_2 : l0_2.length ≤ c0_2) (hr0_3 : Kd.C k73 w A0_3 l0_3.length l0_3) (hc0_3 : l0_3.length ≤ c0_3) (h : impl_PkgOk.f k a0_0 a0_1 l0_2 l0_3 = some r) :
  Calls Tryz.prog 38 #[.agg #[.int .i64 a0_0, .int .i64 a0_1, .slice A0_2 l0_2.length c0_2, .slice A0_3 l0_3.length c0_3]] w fun e w' => e = .returned (.bool r) ∧ Below w.heap.size w w' := by
 obtain rfl := Option.some.inj h; cases hp : pkpre a0_0 a0_1 l0_2.length l0_3.length with
 | true => exact pko_yes a0_0 a0_1 A0_2 c0_2 l0_2 A0_3 c0_3 l0_3 w hr0_2 hr0_3 hp
 | false =>
  have e : pkB a0_0 a0_1 l0_2 l0_3 = false := by unfold pkB; rw [hp]; rfl
  rw [e]; exact pko_no a0_0 a0_1 A0_2 c0_2 l0_2 A0_3 c0_3 l0_3 w hp

/-! ### impl_PkgText: function 39 -/
def ptF (f : S71) : List Int := [32, 48 + f.f0, 58, 48 + f.f1]
def ptD (d : S73) : List Int := [32, 96 + d.f0, 48 + d.f1]
def ptL (n v : Int) (l2 : List S71) (l3 : List S73) : List Int := [96 + n, 48 + v] ++ (l2.flatMap ptF ++ l3.flatMap ptD)
def ptS (n v : Int) (l2 : List S71) (l3 : List S73) : ByteArray := if pkB n v l2 l3 = true then strOfNums (ptL n v l2 l3) else strOfNums []
set_option maxHeartbeats 8000000 in
set_option maxRecDepth 100000 in
theorem pt_no (n v : Int) (A2 : Option Addr) (c2 : Nat) (l2 : List S71) (A3 : Option Addr) (c3 : Nat) (l3 : List S73) (w : World) (hr2 : Kd.C k71 w A2 l2.length l2) (hc2 : l2.length ≤ c2) (hr3 : Kd.C k73 w A3 l3.length l3) (hc3 : l3.length ≤ c3) (hno : pkB n v l2 l3 = false) :
  Calls Tryz.prog 39 #[.agg #[.int .i64 n, .int .i64 v, .slice A2 l2.length c2, .slice A3 l3.length c3]] w fun e w' => e = .returned (.string ⟨#[]⟩) ∧ Below w.heap.size w w' := by
 have HR2 := Aside0.mk hr2
 have HR3 := Aside0.mk hr3
 have HC2 := Aside0.mk hc2
 have HC3 := Aside0.mk hc3
 have HN := Aside0.mk (show impl_PkgOk.f 0 n v l2 l3 = some false from congrArg some hno)
 clear hr2 hr3 hc2 hc3 hno
 go_enter Tryz.func39, Tryz.ntmps39
 go_wp2_with (go_at_call 38; with_reducible refine (impl_PkgOk.calls 0 n v A2 c2 l2 A3 c3 l3 false _ ?h1 HC2.out ?h2 HC3.out HN.out).mono ?_; (case h1 => exact zC HR2.out); (case h2 => exact zC HR3.out); rintro e w' ⟨rfl, hb⟩)
 go_wp2
 go_ret
 exact ⟨rfl, below_then (below_alloc (Below.refl _ _) _) (by simp) hb⟩
theorem pt_file (F0 F1 : Nat) : (⟨#[32]⟩ ++ ⟨#[UInt8.ofNat (48 + F0)]⟩ ++ ⟨#[58]⟩ ++ ⟨#[UInt8.ofNat (48 + F1)]⟩ : ByteArray) = strOfNums [32, 48 + (F0 : Int), 58, 48 + (F1 : Int)] := by
 rw [one_str, one_str, show (⟨#[32]⟩ : ByteArray) = strOfNums [32] from rfl, show (⟨#[58]⟩ : ByteArray) = strOfNums [58] from rfl, str_cat, str_cat, str_cat]
 rfl
theorem pt_dep (F0 F1 : Nat) : (⟨#[32]⟩ ++ (⟨#[UInt8.ofNat (96 + F0)]⟩ ++ ⟨#[UInt8.ofNat (48 + F1)]⟩) : ByteArray) = strOfNums [32, 96 + (F0 : Int), 48 + (F1 : Int)] := by
 rw [one_str, one_str, show (⟨#[32]⟩ : ByteArray) = strOfNums [32] from rfl, str_cat, str_cat]
 rfl
theorem pkB_nums {n v : Int} {l2 : List S71} {l3 : List S73} (h : pkB n v l2 l3 = true) :
  (1 ≤ n ∧ n ≤ 4) ∧ (1 ≤ v ∧ v ≤ 5) ∧ l2.length ≤ 2 ∧ l3.length ≤ 2 ∧ (∀ x : Int, 0 ≤ x → x < l2.length → (0 ≤ (rd_T71 l2 x).f0 ∧ (rd_T71 l2 x).f0 ≤ 5) ∧ (0 ≤ (rd_T71 l2 x).f1 ∧ (rd_T71 l2 x).f1 ≤ 9)) ∧
  (∀ x : Int, 0 ≤ x → x < l3.length → (1 ≤ (rd_T73 l3 x).f0 ∧ (rd_T73 l3 x).f0 ≤ 4) ∧ (1 ≤ (rd_T73 l3 x).f1 ∧ (rd_T73 l3 x).f1 ≤ 5)) := by
 unfold pkB pkpre at h
 simp only [Bool.and_eq_true, decide_eq_true_eq] at h
 obtain ⟨⟨h1, h2, h3, h4⟩, h5, h6⟩ := h
 refine ⟨inB_b h1, inB_b h2, h3, h4, fun x h0 hx => ?_, fun x h0 hx => ?_⟩
 ·have := okFrom_all _ _ h5 x.toNat (by omega) (by omega)
  unfold pkf1 at this
  simp only [Bool.and_eq_true] at this
  exact ⟨inB_b this.1, inB_b this.2.1⟩
 ·have := okFrom_all _ _ h6 x.toNat (by omega) (by omega)
  unfold pkd1 at this
  simp only [Bool.and_eq_true] at this
  exact ⟨inB_b this.1, inB_b this.2.2.1⟩
set_option maxHeartbeats 8000000 in
set_option maxRecDepth 100000 in
theorem pt_yes (n v : Nat) (A2 : Option Addr) (c2 : Nat) (l2 : List S71) (A3 : Option Addr) (c3 : Nat) (l3 : List S73) (w : World) (hr2 : Kd.C k71 w A2 l2.length l2) (hc2 : l2.length ≤ c2) (hr3 : Kd.C k73 w A3 l3.length l3) (hc3 : l3.length ≤ c3) (hyes : pkB n v l2 l3 = true) :
  Calls Tryz.prog 39 #[.agg #[.int .i64 n, .int .i64 v, .slice A2 l2.length c2, .slice A3 l3.length c3]] w fun e w' => e = .returned (.string (strOfNums (ptL n v l2 l3))) ∧ Below w.heap.size w w' := by
 have HR2 := Aside0.mk hr2
 have HR3 := Aside0.mk hr3
 have HC2 := Aside0.mk hc2
 have HC3 := Aside0.mk hc3
 obtain ⟨hn, hv, hl2, hl3, hf2, hf3⟩ := pkB_nums hyes
 have HN := Aside0.mk (show impl_PkgOk.f 0 n v l2 l3 = some true from congrArg some hyes)
 have HD := Aside0.mk (fun W => named_b n v (by omega) (by omega) (by omega) W)
 have HL2 := Aside0.mk hl2
 have HL3 := Aside0.mk hl3
 have HF2 := Aside0.mk hf2
 have HF3 := Aside0.mk hf3
 clear hr2 hr3 hc2 hc3 hyes hn hv hl2 hl3 hf2 hf3
 go_enter Tryz.func39, Tryz.ntmps39
 go_wp2_with (go_at_call 38; with_reducible refine (impl_PkgOk.calls 0 n v A2 c2 l2 A3 c3 l3 true _ ?h1 HC2.out ?h2 HC3.out HN.out).mono ?_; (case h1 => exact zC HR2.out); (case h2 => exact zC HR3.out); rintro e w1 ⟨rfl, hb⟩; refine Go.RowKit.Hid.out ?_)
 refine Go.Lib.hid ?_
 have HB := Aside0.mk (below_then (below_alloc (Below.refl w.heap.size w) _) (by simp) hb)
 have BK := Aside0.mk (blk_below (blk_new w _) hb)
 clear hb
 obtain ⟨gb, hgb⟩ : ∃ g, g = w.heap.size := ⟨_, rfl⟩
 rw [← hgb] at BK ⊢
 clear hgb
 have k0 : w1.cell? ⟨gb, 0, none⟩ = some (.int .i64 n) := (blk_cell BK.out 0).trans rfl
 have k1 : w1.cell? ⟨gb, 1, none⟩ = some (.int .i64 v) := (blk_cell BK.out 1).trans rfl
 have k2 : w1.cell? ⟨gb, 2, none⟩ = some (.slice A2 l2.length c2) := (blk_cell BK.out 2).trans rfl
 have k3 : w1.cell? ⟨gb, 3, none⟩ = some (.slice A3 l3.length c3) := (blk_cell BK.out 3).trans rfl
 go_wp2_with ((with_reducible refine gate_dst (N := 3) rfl ?_); refine box_event ?hg (N := 3) ?hd (cs := #[.pointer none, .slice none 0 0]) (t := 87) ?hr ?_; (case hd => rfl); (case hg => rfl); (case hr => first | (go_simp; done) | (go_simp; rfl)); intro b hbb w2 hbox hb; have HBB := Aside0.mk hbb; clear hbb; have HBX := Aside0.mk hbox; clear hbox; refine Go.RowKit.Hid.out ?_)
 refine Go.Lib.hid ?_
 have hbb := HBB.out
 have hbox := HBX.out
 clear HBB HBX
 have HI := Aside0.mk (show Lib.IsBuilder 87 5 b b [] w2 from .inl ⟨Nat.le_refl _, _, hbox, own_nil w2 b 5 1, by simp [Value.ownBlock]⟩)
 have n0_ := Aside0.mk (below_step HB.out hb)
 have n1_ := Aside0.mk (blk_below BK.out hb)
 have HG := Aside0.mk (show gb < b by rw [hbb]; exact blk_lt BK.out)
 have HS := Aside0.mk (show w.heap.size ≤ b by rw [hbb]; exact HB.out.size)
 have HT := Aside0.mk (blk_lt hbox)
 clear HB BK k0 k1 k2 k3 hbox hb hbb
 have HB := n0_
 have BK := n1_
 clear n0_ n1_
 have k0 : w2.cell? ⟨gb, 0, none⟩ = some (.int .i64 n) := (blk_cell BK.out 0).trans rfl
 have k1 : w2.cell? ⟨gb, 1, none⟩ = some (.int .i64 v) := (blk_cell BK.out 1).trans rfl
 have k2 : w2.cell? ⟨gb, 2, none⟩ = some (.slice A2 l2.length c2) := (blk_cell BK.out 2).trans rfl
 have k3 : w2.cell? ⟨gb, 3, none⟩ = some (.slice A3 l3.length c3) := (blk_cell BK.out 3).trans rfl
 obtain ⟨s0, hs0⟩ : ∃ s : ByteArray, s = (⟨#[UInt8.ofNat (96 + n)]⟩ ++ ⟨#[UInt8.ofNat (48 + v)]⟩) := ⟨_, rfl⟩
 rw [← hs0] at HD
 have HS0 := Aside0.mk hs0
 have hz0 : s0.size = 2 := by rw [hs0]; rfl
 have HZ0 := Aside0.mk hz0
 clear hs0 hz0
 go_wp2_with (first | (go_at_call 55; with_reducible refine (HD.out _).mono ?_; rintro e w' ⟨rfl, rfl⟩) | (go_at_call 54; with_reducible refine (bld_WriteString b b [] s0 _ HI.out ?h1 ?h2).mono ?_; (case h1 => rw [HZ0.out]; simp); (case h2 => exact Nat.le_of_lt HT.out); rintro e w3 ⟨rfl, hi, hb⟩; refine Go.RowKit.Hid.out ?_))
 refine Go.Lib.hid ?_
 have HI := Aside0.mk (show Lib.IsBuilder 87 5 b b (Lib.strCells (strOfNums ([96 + (n : Int), 48 + (v : Int)] ++ (l2.take (0 : Int).toNat).flatMap ptF))) w3 from .inr (by
  rw [show strOfNums ([96 + (n : Int), 48 + (v : Int)] ++ (l2.take (0 : Int).toNat).flatMap ptF) = s0 by rw [HS0.out]; rfl]
  exact hi))
 have n0_ := Aside0.mk (below_far HB.out HS.out hb)
 have n1_ := Aside0.mk ((hb.block gb HG.out).trans BK.out)
 have n2_ := Aside0.mk (Nat.lt_of_lt_of_le HT.out hb.size)
 clear HB BK k0 k1 k2 k3 hi hb HT HS0 HZ0 HD
 have HB := n0_
 have BK := n1_
 have HT := n2_
 clear n0_ n1_ n2_
 have k0 : w3.cell? ⟨gb, 0, none⟩ = some (.int .i64 n) := (blk_cell BK.out 0).trans rfl
 have k1 : w3.cell? ⟨gb, 1, none⟩ = some (.int .i64 v) := (blk_cell BK.out 1).trans rfl
 have k2 : w3.cell? ⟨gb, 2, none⟩ = some (.slice A2 l2.length c2) := (blk_cell BK.out 2).trans rfl
 have k3 : w3.cell? ⟨gb, 3, none⟩ = some (.slice A3 l3.length c3) := (blk_cell BK.out 3).trans rfl
 go_wp2
 go_loopw [20] (fun v5 w' => ∃ x : Int, 0 ≤ x ∧ x ≤ (l2.length : Int) ∧ v5 = .int .i64 x ∧ Aside0 (Lib.IsBuilder 87 5 b b (Lib.strCells (strOfNums ([96 + (n : Int), 48 + (v : Int)] ++ (l2.take x.toNat).flatMap ptF))) w') ∧ Aside0 (w'.heap[gb]? = some (.cells #[.int .i64 n, .int .i64 v, .slice A2 l2.length c2, .slice A3 l3.length c3] 29 (0, 0))) ∧ Aside0 (Below w.heap.size w w') ∧ Aside0 (b < w'.heap.size)) (fun v5 _ => l2.length - (intOf v5).toNat)
 case atStart => exact ⟨0, by omega, by omega, rfl, HI, BK, HB, HT⟩
 case round =>
  clear HI HB BK k0 k1 k2 k3 HT
  obtain ⟨x, hx0, hx1, rfl, HI, BK, HB, HT⟩ := hrel
  have k0 : wr.cell? ⟨gb, 0, none⟩ = some (.int .i64 n) := (blk_cell BK.out 0).trans rfl
  have k1 : wr.cell? ⟨gb, 1, none⟩ = some (.int .i64 v) := (blk_cell BK.out 1).trans rfl
  have k2 : wr.cell? ⟨gb, 2, none⟩ = some (.slice A2 l2.length c2) := (blk_cell BK.out 2).trans rfl
  have k3 : wr.cell? ⟨gb, 3, none⟩ = some (.slice A3 l3.length c3) := (blk_cell BK.out 3).trans rfl
  have hl2 := HL2.out
  by_cases hlt : x < (l2.length : Int)
  ·obtain ⟨ad, e, m0, m1⟩ := at_T71 HR2.out x hx0 hlt
   cases e
   replace m0 := (HB.out.cell (World.block_lt_of_cell? w _ m0)).trans m0
   replace m1 := (HB.out.cell (World.block_lt_of_cell? w _ m1)).trans m1
   obtain ⟨⟨r0, r1⟩, r2, r3⟩ := HF2.out x hx0 hlt
   obtain ⟨F0, hF0⟩ : ∃ F0 : Nat, (F0 : Int) = (rd_T71 l2 x).f0 := ⟨(rd_T71 l2 x).f0.toNat, by omega⟩
   obtain ⟨F1, hF1⟩ : ∃ F1 : Nat, (F1 : Int) = (rd_T71 l2 x).f1 := ⟨(rd_T71 l2 x).f1.toNat, by omega⟩
   rw [← hF0] at m0 r0 r1
   rw [← hF1] at m1 r2 r3
   have HF := Aside0.mk (And.intro hF0 hF1)
   clear hF0 hF1
   have q1 : decide (x < (l2.length : Int)) = true := decide_eq_true hlt
   have q2 : 0 ≤ x := hx0
   have I0 := fun W => Tryz.strconv_Itoa_small F0 (by omega) W
   have I1 := fun W => Tryz.strconv_Itoa_small F1 (by omega) W
   rw [one_digit F0 (by omega)] at I0
   rw [one_digit F1 (by omega)] at I1
   obtain ⟨d0, hd0⟩ : ∃ s : ByteArray, s = ⟨#[UInt8.ofNat (48 + F0)]⟩ := ⟨_, rfl⟩
   obtain ⟨d1, hd1⟩ : ∃ s : ByteArray, s = ⟨#[UInt8.ofNat (48 + F1)]⟩ := ⟨_, rfl⟩
   rw [← hd0] at I0
   rw [← hd1] at I1
   have z0 : d0.size = 1 := by rw [hd0]; rfl
   have z1 : d1.size = 1 := by rw [hd1]; rfl
   have HD := Aside0.mk (And.intro hd0 hd1)
   have J0 := Aside0.mk I0
   have J1 := Aside0.mk I1
   clear hd0 hd1 I0 I1 r0 r1 r2 r3
   go_wp2
   have n0_ := Aside0.mk (below_alloc HB.out (Obj.cells #[.int .i64 (F0 : Int), .int .i64 (F1 : Int)] 71))
   have n1_ := Aside0.mk (blk_alloc BK.out (Obj.cells #[.int .i64 (F0 : Int), .int .i64 (F1 : Int)] 71))
   have n2_ := Aside0.mk (ib_below HI.out (below_alloc (Below.refl _ wr) (Obj.cells #[.int .i64 (F0 : Int), .int .i64 (F1 : Int)] 71)))
   have n3_ := Aside0.mk (Nat.lt_of_lt_of_le HT.out (below_alloc (Below.refl _ wr) (Obj.cells #[.int .i64 (F0 : Int), .int .i64 (F1 : Int)] 71)).size)
   have f0 : (wr.alloc (Obj.cells #[.int .i64 (F0 : Int), .int .i64 (F1 : Int)] 71)).cell? ⟨wr.heap.size, 0, none⟩ = some (.int .i64 F0) := by simp
   have f1 : (wr.alloc (Obj.cells #[.int .i64 (F0 : Int), .int .i64 (F1 : Int)] 71)).cell? ⟨wr.heap.size, 1, none⟩ = some (.int .i64 F1) := by simp
   clear HB BK m0 m1 k0 k1 k2 k3 HI HT
   generalize wr.alloc (Obj.cells #[.int .i64 (F0 : Int), .int .i64 (F1 : Int)] 71) = W at n0_ n1_ n2_ n3_ f0 f1 ⊢
   generalize wr.heap.size = gf at f0 f1 ⊢
   have HB := n0_
   have BK := n1_
   have HI := n2_
   have HT := n3_
   clear n0_ n1_ n2_ n3_
   refine wp_region_still_tail 9 (by kernel_rfl) (by kernel_rfl) ?_
   simp only [List.take_succ_cons, List.take_zero, List.drop_succ_cons, List.drop_zero]
   repeat still_step
   still_call (J0.out _)
   repeat still_step
   still_call (J1.out _)
   repeat still_step
   refine wpStill_nil ?_
   have n0_ := Aside0.mk (below_drew HB.out)
   have n1_ := Aside0.mk (blk_drew BK.out)
   have n2_ := Aside0.mk (ib_below HI.out (below_drew (Below.refl _ W)))
   have n3_ := Aside0.mk (show b < W.drew.heap.size from HT.out)
   clear HB BK HI HT f0 f1
   have HB := n0_
   have BK := n1_
   have HI := n2_
   have HT := n3_
   clear n0_ n1_ n2_ n3_
   have HLN := Aside0.mk (show (Lib.strCells (strOfNums ([96 + (n : Int), 48 + (v : Int)] ++ (l2.take x.toNat).flatMap ptF))).length + (⟨#[32]⟩ ++ d0 ++ ⟨#[58]⟩ ++ d1 : ByteArray).size ≤ 140737488355328 by
    have h1 := flat_le ptF 4 (l2.take x.toNat) (fun _ _ => Nat.le_refl _)
    have h2 : (l2.take x.toNat).length ≤ l2.length := by rw [List.length_take]; omega
    simp only [Lib.strCells_length, strOfNums_size, List.length_append, List.length_cons, List.length_nil, ByteArray.size_append, z0, z1, show (⟨#[32]⟩ : ByteArray).size = 1 from rfl, show (⟨#[58]⟩ : ByteArray).size = 1 from rfl]
    omega)
   have HE := Aside0.mk (show Lib.strCells (strOfNums ([96 + (n : Int), 48 + (v : Int)] ++ (l2.take x.toNat).flatMap ptF)) ++ Lib.strCells (⟨#[32]⟩ ++ d0 ++ ⟨#[58]⟩ ++ d1) = Lib.strCells (strOfNums ([96 + (n : Int), 48 + (v : Int)] ++ (l2.take (x + 1).toNat).flatMap ptF)) by
    rw [HD.out.1, HD.out.2, pt_file, take_next ptF z71 l2 x hx0 hlt, ← str_cells, str_cat, List.append_assoc]
    congr 4
    rw [HF.out.1, HF.out.2]
    rfl)
   clear z0 z1
   go_wp2_with (go_at_call 54; with_reducible refine (bld_WriteString b b _ _ _ HI.out HLN.out (Nat.le_of_lt HT.out)).mono ?_; rintro e w4 ⟨rfl, hi, hb⟩; refine Go.RowKit.Hid.out ?_)
   refine Go.Lib.hid ?_
   rw [HE.out] at hi
   have n0_ := Aside0.mk (below_far HB.out HS.out hb)
   have n1_ := Aside0.mk ((hb.block gb HG.out).trans BK.out)
   have n2_ := Aside0.mk (Nat.lt_of_lt_of_le HT.out hb.size)
   have HI2 := Aside0.mk hi
   clear HB BK hi hb HT HE HLN HI
   go_wp2
   go_roundw
   case rel => exact ⟨x + 1, by omega, by omega, by first | rfl | simp, ⟨.inr HI2.out⟩, n1_, n0_, n2_⟩
   case measure => simp [intOf]; omega
  ·have hxe : x = (l2.length : Int) := by omega
   have q1 : decide (x < (l2.length : Int)) = false := decide_eq_false hlt
   replace HI := Aside0.mk (show Lib.IsBuilder 87 5 b b (Lib.strCells (strOfNums (([96 + (n : Int), 48 + (v : Int)] ++ l2.flatMap ptF) ++ (l3.take (0 : Int).toNat).flatMap ptD))) wr by
    have h_ := HI.out
    rw [hxe, Int.toNat_natCast, List.take_length] at h_
    simpa using h_)
   clear hxe hx0 hx1 hlt hl2
   go_wp2
   clear q1 k0 k1 k2 k3
   obtain ⟨W0, hW0⟩ : ∃ W, W = wr := ⟨_, rfl⟩
   rw [← hW0] at HB BK HI HT ⊢
   clear hW0
   go_loopw [38] (fun v5 w' => ∃ x : Int, 0 ≤ x ∧ x ≤ (l3.length : Int) ∧ v5 = .int .i64 x ∧ Aside0 (Lib.IsBuilder 87 5 b b (Lib.strCells (strOfNums (([96 + (n : Int), 48 + (v : Int)] ++ l2.flatMap ptF) ++ (l3.take x.toNat).flatMap ptD))) w') ∧ Aside0 (w'.heap[gb]? = some (.cells #[.int .i64 n, .int .i64 v, .slice A2 l2.length c2, .slice A3 l3.length c3] 29 (0, 0))) ∧ Aside0 (Below w.heap.size w w') ∧ Aside0 (b < w'.heap.size)) (fun v5 _ => l3.length - (intOf v5).toNat)
   case atStart => exact ⟨0, by omega, by omega, rfl, HI, BK, HB, HT⟩
   case round =>
    clear HI HB BK HT
    obtain ⟨x, hx0, hx1, rfl, HI, BK, HB, HT⟩ := hrel
    have hl3 := HL3.out
    by_cases hlt : x < (l3.length : Int)
    ·obtain ⟨ad, e, m0, m1⟩ := at_T73 HR3.out x hx0 hlt
     cases e
     replace m0 := (HB.out.cell (World.block_lt_of_cell? w _ m0)).trans m0
     replace m1 := (HB.out.cell (World.block_lt_of_cell? w _ m1)).trans m1
     obtain ⟨⟨r0, r1⟩, r2, r3⟩ := HF3.out x hx0 hlt
     obtain ⟨F0, hF0⟩ : ∃ F0 : Nat, (F0 : Int) = (rd_T73 l3 x).f0 := ⟨(rd_T73 l3 x).f0.toNat, by omega⟩
     obtain ⟨F1, hF1⟩ : ∃ F1 : Nat, (F1 : Int) = (rd_T73 l3 x).f1 := ⟨(rd_T73 l3 x).f1.toNat, by omega⟩
     rw [← hF0] at m0 r0 r1
     rw [← hF1] at m1 r2 r3
     have HF := Aside0.mk (And.intro hF0 hF1)
     clear hF0 hF1
     have q1 : decide (x < (l3.length : Int)) = true := decide_eq_true hlt
     have q2 : 0 ≤ x := hx0
     have I0 := fun W => named_b F0 F1 (by omega) (by omega) (by omega) W
     obtain ⟨d0, hd0⟩ : ∃ s : ByteArray, s = (⟨#[UInt8.ofNat (96 + F0)]⟩ ++ ⟨#[UInt8.ofNat (48 + F1)]⟩) := ⟨_, rfl⟩
     rw [← hd0] at I0
     have z0 : d0.size = 2 := by rw [hd0]; rfl
     have HD := Aside0.mk hd0
     have J0 := Aside0.mk I0
     clear hd0 I0 r0 r1 r2 r3
     go_wp2_with (go_at_call 55; with_reducible refine (J0.out _).mono ?_; rintro e wx ⟨rfl, hwx⟩; have HWX := Aside0.mk hwx; clear hwx; refine Go.RowKit.Hid.out ?_)
     refine Go.Lib.hid ?_
     have hwx := HWX.out
     have HBX : Below wr.heap.size wr wx := by rw [hwx]; exact below_alloc (Below.refl _ wr) _
     clear HWX hwx
     have n0_ := Aside0.mk (below_step HB.out HBX)
     have n1_ := Aside0.mk (blk_below BK.out HBX)
     have n2_ := Aside0.mk (ib_below HI.out HBX)
     have n3_ := Aside0.mk (Nat.lt_of_lt_of_le HT.out HBX.size)
     clear HB BK m0 m1 HI HT HBX
     have HB := n0_
     have BK := n1_
     have HI := n2_
     have HT := n3_
     clear n0_ n1_ n2_ n3_
     have HLN := Aside0.mk (show (Lib.strCells (strOfNums (([96 + (n : Int), 48 + (v : Int)] ++ l2.flatMap ptF) ++ (l3.take x.toNat).flatMap ptD))).length + (⟨#[32]⟩ ++ d0 : ByteArray).size ≤ 140737488355328 by
      have h1 := flat_le ptD 3 (l3.take x.toNat) (fun _ _ => Nat.le_refl _)
      have h2 : (l3.take x.toNat).length ≤ l3.length := by rw [List.length_take]; omega
      have h3 := flat_le ptF 4 l2 (fun _ _ => Nat.le_refl _)
      have h4 := HL2.out
      simp only [Lib.strCells_length, strOfNums_size, List.length_append, List.length_cons, List.length_nil, ByteArray.size_append, z0, show (⟨#[32]⟩ : ByteArray).size = 1 from rfl]
      omega)
     have HE := Aside0.mk (show Lib.strCells (strOfNums (([96 + (n : Int), 48 + (v : Int)] ++ l2.flatMap ptF) ++ (l3.take x.toNat).flatMap ptD)) ++ Lib.strCells (⟨#[32]⟩ ++ d0) = Lib.strCells (strOfNums (([96 + (n : Int), 48 + (v : Int)] ++ l2.flatMap ptF) ++ (l3.take (x + 1).toNat).flatMap ptD)) by
      rw [HD.out, pt_dep, take_next ptD z73 l3 x hx0 hlt, ← str_cells, str_cat, List.append_assoc]
      congr 4
      rw [HF.out.1, HF.out.2]
      rfl)
     go_wp2_with (go_at_call 54; with_reducible refine (bld_WriteString b b _ _ _ HI.out HLN.out (Nat.le_of_lt HT.out)).mono ?_; rintro e w4 ⟨rfl, hi, hb⟩; refine Go.RowKit.Hid.out ?_)
     refine Go.Lib.hid ?_
     rw [HE.out] at hi
     have n0_ := Aside0.mk (below_far HB.out HS.out hb)
     have n1_ := Aside0.mk ((hb.block gb HG.out).trans BK.out)
     have n2_ := Aside0.mk (Nat.lt_of_lt_of_le HT.out hb.size)
     have HI2 := Aside0.mk hi
     clear HB BK hi hb HT HE HLN HI z0
     go_wp2
     go_roundw
     case rel => exact ⟨x + 1, by omega, by omega, by first | rfl | simp, ⟨.inr HI2.out⟩, n1_, n0_, n2_⟩
     case measure => simp [intOf]; omega
    ·have hxe : x = (l3.length : Int) := by omega
     have q1 : decide (x < (l3.length : Int)) = false := decide_eq_false hlt
     replace HI := Aside0.mk (show Lib.IsBuilder 87 5 b b (Lib.byteCells (strOfNums (ptL n v l2 l3)).data.toList) wr by
      have h_ := HI.out
      rw [hxe, Int.toNat_natCast, List.take_length] at h_
      unfold ptL
      rw [← List.append_assoc]
      exact h_)
     clear hxe hx0 hx1 hlt hl3
     go_wp2_with (go_at_call 57; with_reducible refine (Tryz.Builder_String_any b b _ _ HI.out (Nat.le_of_lt HT.out)).mono ?_; rintro e w5 ⟨rfl, hb⟩)
     go_ret
     exact ⟨by first | rfl | simp [*], below_far HB.out HS.out hb⟩
def impl_PkgText.f (_k : Nat) (n v : Int) (l2 : List S71) (l3 : List S73) : Option ByteArray := some (ptS n v l2 l3)
theorem impl_PkgText.mono : ∀ a0 a1 a2 a3 k, LeO (impl_PkgText.f k a0 a1 a2 a3) (impl_PkgText.f (k + 1) a0 a1 a2 a3) := fun _ _ _ _ _ _ h => h
theorem impl_PkgText.calls (k : Nat) (a0_0 : Int) (a0_1 : Int) (A0_2 : Option Addr) (c0_2 : Nat) (l0_2 : List S71) (A0_3 : Option Addr) (c0_3 : Nat) (l0_3 : List S73) (r : ByteArray) (w : World) (hr0_2 : Kd.C k71 w A0_2 l0_2.length l0_2) (hc0_2 : l0_2.length ≤ c0_2) (hr0_3 : Kd.C k73 w A0_3 l0_3.length l0_3) (hc0_3 : l0_3.length ≤ c0_3) (h : impl_PkgText.f k a0_0 a0_1 l0_2 l0_3 = some r) :
  Calls Tryz.prog 39 #[.agg #[.int .i64 a0_0, .int .i64 a0_1, .slice A0_2 l0_2.length c0_2, .slice A0_3 l0_3.length c0_3]] w fun e w' => e = .returned (.string r) ∧ Below w.heap.size w w' := by
 obtain rfl := Option.some.inj h; cases hp : pkB a0_0 a0_1 l0_2 l0_3 with
 | true =>
  obtain ⟨⟨h1, _⟩, ⟨h2, _⟩, _⟩ := pkB_nums hp; obtain ⟨n, rfl⟩ : ∃ n : Nat, (n : Int) = a0_0 := ⟨a0_0.toNat, by omega⟩; obtain ⟨v, rfl⟩ : ∃ n : Nat, (n : Int) = a0_1 := ⟨a0_1.toNat, by omega⟩; rw [ptS, if_pos hp]; exact pt_yes n v A0_2 c0_2 l0_2 A0_3 c0_3 l0_3 w hr0_2 hc0_2 hr0_3 hc0_3 hp
 | false =>
  rw [ptS, if_neg (by rw [hp]; decide)]; exact pt_no a0_0 a0_1 A0_2 c0_2 l0_2 A0_3 c0_3 l0_3 w hr0_2 hc0_2 hr0_3 hc0_3 hp

attribute [local go_sem high] eqA47

end Go.Proofs.YtkjgnnjcjkphbaaGreatDoor.PFnExactIndexHas
