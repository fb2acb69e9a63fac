-- printed for this claim by a program out of the translation, its tactics shortened by another
import Derived.Test.YtkjgnnjcjkphbaaDoorPFnPkgStrictx0
namespace Go.Proofs.YtkjgnnjcjkphbaaDoor.PFnPkgStrict
open Go.RowKit Go.Proofs.YtkjgnnjcjkphbaaDoorW.PrintWords Go.Proofs.YtkjgnnjcjkphbaaDoorW.PrintLast Go.Proofs.YtkjgnnjcjkphbaaDoorW.PrintMore
attribute [local go_sem] max2_int min2_int max_two min_two max_three min_three max_four min_four   -- for this text's walks alone
set_option linter.unusedVariables false
set_option linter.unusedSimpArgs false

theorem eqA67 (d : Nat) (w : World) (x0 y0 : Int) (x1 y1 : Int) :
  (Op.equalIn (d + 2) 67 (.agg #[.int .i64 x0, .int .i64 x1]) (.agg #[.int .i64 y0, .int .i64 y1])).run Tryd.prog w = .ok (x0 == y0 && (x1 == y1)) w := by
 refine eqA_of Tryd.underlying67 (by kernel_rfl) ?_
 refine eqf_cons (by rfl) (by go_simp; rfl) (by go_simp; rfl) (by go_simp) ?_
 exact eqf_last (by rfl) (by go_simp; rfl) (by go_simp; rfl) (by go_simp)

theorem eqA69 (d : Nat) (w : World) (x0 y0 : Int) (x1 y1 : Int) :
  (Op.equalIn (d + 2) 69 (.agg #[.int .i64 x0, .int .i64 x1]) (.agg #[.int .i64 y0, .int .i64 y1])).run Tryd.prog w = .ok (x0 == y0 && (x1 == y1)) w := by
 refine eqA_of Tryd.underlying69 (by kernel_rfl) ?_
 refine eqf_cons (by rfl) (by go_simp; rfl) (by go_simp; rfl) (by go_simp) ?_
 exact eqf_last (by rfl) (by go_simp; rfl) (by go_simp; rfl) (by go_simp)

attribute [local go_sem high] eqA67 eqA69

/-! ### laws_luPkg: function 16 -/
mutual
def laws_luPkg.j0 : Nat → Bool → Int → Int → List (S67) → List (S69) → Int → Int → List (S67) → List (S69) → Option (Bool)
 | 0, _, _, _, _, _, _, _, _, _ => none
 | k + 1, x36, x102000, x102001, x102002, x102003, x103000, x103001, x103002, x103003 => if x36 = true then (some false) else (laws_luPkg.l0 k 0 x102000 x102001 x102002 x102003 x103000 x103001 x103002 x103003)
def laws_luPkg.l0 : Nat → Int → Int → Int → List (S67) → List (S69) → Int → Int → List (S67) → List (S69) → Option (Bool)
 | 0, _, _, _, _, _, _, _, _, _ => none
 | k + 1, x5, x102000, x102001, x102002, x102003, x103000, x103001, x103002, x103003 => if x5 < (x102002.length : Int) then (if 0 ≤ x5 then (if x5 < (x103002.length : Int) then (if (!(((rd_T67 x102002 x5).f0) == ((rd_T67 x103002 x5).f0)) || (!(((rd_T67 x102002 x5).f1) == ((rd_T67 x103002 x5).f1)))) = true then (some false) else (laws_luPkg.l0 k (wrap64 (x5 + 1)) x102000 x102001 x102002 x102003 x103000 x103001 x103002 x103003)) else (none)) else (none)) else (laws_luPkg.l1 k 0 x102000 x102001 x102002 x102003 x103000 x103001 x103002 x103003)
def laws_luPkg.l1 : Nat → Int → Int → Int → List (S67) → List (S69) → Int → Int → List (S67) → List (S69) → Option (Bool)
 | 0, _, _, _, _, _, _, _, _, _ => none
 | k + 1, x6, x102000, x102001, x102002, x102003, x103000, x103001, x103002, x103003 => if x6 < (x102003.length : Int) then (if 0 ≤ x6 then (if x6 < (x103003.length : Int) then (if (!(((rd_T69 x102003 x6).f0) == ((rd_T69 x103003 x6).f0)) || (!(((rd_T69 x102003 x6).f1) == ((rd_T69 x103003 x6).f1)))) = true then (some false) else (laws_luPkg.l1 k (wrap64 (x6 + 1)) x102000 x102001 x102002 x102003 x103000 x103001 x103002 x103003)) else (none)) else (none)) else (some true)
end
def laws_luPkg.f (k : Nat) (a0_0 : Int) (a0_1 : Int) (l0_2 : List (S67)) (l0_3 : List (S69)) (a1_0 : Int) (a1_1 : Int) (l1_2 : List (S67)) (l1_3 : List (S69)) : Option (Bool) := if a0_0 = a1_0 then (if a0_1 = a1_1 then (if (l0_2.length : Int) = (l1_2.length : Int) then (laws_luPkg.j0 k ((l0_3.length : Int) != (l1_3.length : Int)) a0_0 a0_1 l0_2 l0_3 a1_0 a1_1 l1_2 l1_3) else (laws_luPkg.j0 k true a0_0 a0_1 l0_2 l0_3 a1_0 a1_1 l1_2 l1_3)) else (laws_luPkg.j0 k true a0_0 a0_1 l0_2 l0_3 a1_0 a1_1 l1_2 l1_3)) else (laws_luPkg.j0 k true a0_0 a0_1 l0_2 l0_3 a1_0 a1_1 l1_2 l1_3)
theorem laws_luPkg.mono_l : ∀ k, (∀ y0 y1 y2 y3 y4 y5 y6 y7 y8, LeO (laws_luPkg.j0 k y0 y1 y2 y3 y4 y5 y6 y7 y8) (laws_luPkg.j0 (k + 1) y0 y1 y2 y3 y4 y5 y6 y7 y8)) ∧ (∀ y0 y1 y2 y3 y4 y5 y6 y7 y8, LeO (laws_luPkg.l0 k y0 y1 y2 y3 y4 y5 y6 y7 y8) (laws_luPkg.l0 (k + 1) y0 y1 y2 y3 y4 y5 y6 y7 y8)) ∧ (∀ y0 y1 y2 y3 y4 y5 y6 y7 y8, LeO (laws_luPkg.l1 k y0 y1 y2 y3 y4 y5 y6 y7 y8) (laws_luPkg.l1 (k + 1) y0 y1 y2 y3 y4 y5 y6 y7 y8))
 | 0 => ⟨fun _ _ _ _ _ _ _ _ _ r h => by simp [laws_luPkg.j0] at h, fun _ _ _ _ _ _ _ _ _ r h => by simp [laws_luPkg.l0] at h, fun _ _ _ _ _ _ _ _ _ r h => by simp [laws_luPkg.l1] at h⟩
 | k + 1 => by
  obtain ⟨ih0, ih1, ih2⟩ := laws_luPkg.mono_l k
  refine ⟨?_, ?_, ?_⟩
  ·intro y0 y1 y2 y3 y4 y5 y6 y7 y8
   unfold laws_luPkg.j0
   repeat' first
   | (with_reducible exact ih0 _ _ _ _ _ _ _ _ _)
   | (with_reducible exact ih1 _ _ _ _ _ _ _ _ _)
   | (with_reducible exact ih2 _ _ _ _ _ _ _ _ _)
   | (with_reducible exact LeO.refl _)
   | (with_reducible exact LeO.none _)
   | (with_reducible refine LeO.ite ?_ ?_)
   | (with_reducible refine LeO.bind ?_ (fun _ => ?_))
   | exact ih0 _ _ _ _ _ _ _ _ _
   | exact ih1 _ _ _ _ _ _ _ _ _
   | exact ih2 _ _ _ _ _ _ _ _ _
   | exact LeO.none _
   | refine LeO.ite ?_ ?_
   | refine LeO.bind ?_ (fun _ => ?_)
  ·intro y0 y1 y2 y3 y4 y5 y6 y7 y8
   unfold laws_luPkg.l0
   repeat' first
   | (with_reducible exact ih0 _ _ _ _ _ _ _ _ _)
   | (with_reducible exact ih1 _ _ _ _ _ _ _ _ _)
   | (with_reducible exact ih2 _ _ _ _ _ _ _ _ _)
   | (with_reducible exact LeO.refl _)
   | (with_reducible exact LeO.none _)
   | (with_reducible refine LeO.ite ?_ ?_)
   | (with_reducible refine LeO.bind ?_ (fun _ => ?_))
   | exact ih0 _ _ _ _ _ _ _ _ _
   | exact ih1 _ _ _ _ _ _ _ _ _
   | exact ih2 _ _ _ _ _ _ _ _ _
   | exact LeO.none _
   | refine LeO.ite ?_ ?_
   | refine LeO.bind ?_ (fun _ => ?_)
  ·intro y0 y1 y2 y3 y4 y5 y6 y7 y8
   unfold laws_luPkg.l1
   repeat' first
   | (with_reducible exact ih0 _ _ _ _ _ _ _ _ _)
   | (with_reducible exact ih1 _ _ _ _ _ _ _ _ _)
   | (with_reducible exact ih2 _ _ _ _ _ _ _ _ _)
   | (with_reducible exact LeO.refl _)
   | (with_reducible exact LeO.none _)
   | (with_reducible refine LeO.ite ?_ ?_)
   | (with_reducible refine LeO.bind ?_ (fun _ => ?_))
   | exact ih0 _ _ _ _ _ _ _ _ _
   | exact ih1 _ _ _ _ _ _ _ _ _
   | exact ih2 _ _ _ _ _ _ _ _ _
   | exact LeO.none _
   | refine LeO.ite ?_ ?_
   | refine LeO.bind ?_ (fun _ => ?_)
theorem laws_luPkg.mono : ∀ a0 a1 a2 a3 a4 a5 a6 a7 k, LeO (laws_luPkg.f k a0 a1 a2 a3 a4 a5 a6 a7) (laws_luPkg.f (k + 1) a0 a1 a2 a3 a4 a5 a6 a7) := by
 intro a0 a1 a2 a3 a4 a5 a6 a7 k
 obtain ⟨ih0, ih1, ih2⟩ := laws_luPkg.mono_l k
 unfold laws_luPkg.f
 repeat' first
   | (with_reducible exact ih0 _ _ _ _ _ _ _ _ _)
   | (with_reducible exact ih1 _ _ _ _ _ _ _ _ _)
   | (with_reducible exact ih2 _ _ _ _ _ _ _ _ _)
   | (with_reducible exact LeO.refl _)
   | (with_reducible exact LeO.none _)
   | (with_reducible refine LeO.ite ?_ ?_)
   | (with_reducible refine LeO.bind ?_ (fun _ => ?_))
   | exact ih0 _ _ _ _ _ _ _ _ _
   | exact ih1 _ _ _ _ _ _ _ _ _
   | exact ih2 _ _ _ _ _ _ _ _ _
   | exact LeO.none _
   | refine LeO.ite ?_ ?_
   | refine LeO.bind ?_ (fun _ => ?_)
set_option maxHeartbeats 8000000 in
set_option maxRecDepth 100000 in
theorem laws_luPkg.calls (k : Nat) (a0_0 : Int) (a0_1 : Int) (A0_2 : Option Addr) (c0_2 : Nat) (l0_2 : List (S67)) (A0_3 : Option Addr) (c0_3 : Nat) (l0_3 : List (S69)) (a1_0 : Int) (a1_1 : Int) (A1_2 : Option Addr) (c1_2 : Nat) (l1_2 : List (S67)) (A1_3 : Option Addr) (c1_3 : Nat) (l1_3 : List (S69)) (r : Bool) (w : World) (hr0_2 : Kd.C k67 w A0_2 l0_2.length l0_2) (hc0_2 : l0_2.length ≤ c0_2) (hr0_3 : Kd.C k69 w A0_3 l0_3.length l0_3) (hc0_3 : l0_3.length ≤ c0_3) (hr1_2 : Kd.C k67 w A1_2 l1_2.length l1_2) (hc1_2 : l1_2.length ≤ c1_2) (hr1_3 : Kd.C k69 w A1_3 l1_3.length l1_3) (hc1_3 : l1_3.length ≤ c1_3) (h : laws_luPkg.f k a0_0 a0_1 l0_2 l0_3 a1_0 a1_1 l1_2 l1_3 = some r) :
  Calls Tryd.prog 16 #[.agg #[.int .i64 a0_0, .int .i64 a0_1, .slice A0_2 l0_2.length c0_2, .slice A0_3 l0_3.length c0_3], .agg #[.int .i64 a1_0, .int .i64 a1_1, .slice A1_2 l1_2.length c1_2, .slice A1_3 l1_3.length c1_3]] w fun e w' => e = .returned (.bool r) ∧ Below w.heap.size w w' := by
 have hu31 := Tryd.underlying31
 have hu67 := Tryd.underlying67
 have hu69 := Tryd.underlying69
 have HR0_2 := Aside0.mk hr0_2
 have HC0_2 := Aside0.mk hc0_2
 clear hr0_2 hc0_2
 have HR0_3 := Aside0.mk hr0_3
 have HC0_3 := Aside0.mk hc0_3
 clear hr0_3 hc0_3
 have HR1_2 := Aside0.mk hr1_2
 have HC1_2 := Aside0.mk hc1_2
 clear hr1_2 hc1_2
 have HR1_3 := Aside0.mk hr1_3
 have HC1_3 := Aside0.mk hc1_3
 clear hr1_3 hc1_3
 have HB := Aside0.mk (Below.refl w.heap.size w)
 have H : (if a0_0 = a1_0 then (if a0_1 = a1_1 then (if (l0_2.length : Int) = (l1_2.length : Int) then (laws_luPkg.j0 k ((l0_3.length : Int) != (l1_3.length : Int)) a0_0 a0_1 l0_2 l0_3 a1_0 a1_1 l1_2 l1_3) else (laws_luPkg.j0 k true a0_0 a0_1 l0_2 l0_3 a1_0 a1_1 l1_2 l1_3)) else (laws_luPkg.j0 k true a0_0 a0_1 l0_2 l0_3 a1_0 a1_1 l1_2 l1_3)) else (laws_luPkg.j0 k true a0_0 a0_1 l0_2 l0_3 a1_0 a1_1 l1_2 l1_3)) = some r := h
 clear h
 have HC3 := Aside0.mk H
 clear H
 go_enter Tryd.func16, Tryd.ntmps16
 go_upto_region 1 with (first | ((with_reducible refine gate_dst (N := 2) rfl ?_); (try (refine gate_guard (by rfl) ?_; dsimp only)); refine box_event ?hg (N := 2) ?hd (cs := #[.int .i64 a0_0, .int .i64 a0_1, .slice A0_2 l0_2.length c0_2, .slice A0_3 l0_3.length c0_3]) (t := 31) ?hr ?_; (case hd => rfl); (case hg => rfl); (case hr => first | (go_simp; done) | (go_simp; rfl)); intro gb101 hg w4 hbox hb; have n0_ := Aside0.mk (below_step (by exact zB HB.out) hb); have n1_ := Aside0.mk (hbox); have n2_ := Aside0.mk ((by rw [hg]; exact (below_size (by exact zB HB.out)) : w.heap.size ≤ gb101)); have n3_ := Aside0.mk ((by rw [hg]; exact (below_size (by exact zB HB.out)) : w.heap.size ≤ gb101)); clear HB; have HB := n0_; have BK101 := n1_; have GW101 := n2_; have GE101 := n3_; clear n0_ n1_ n2_ n3_; clear hb hbox hg) | ((with_reducible refine gate_dst (N := 3) rfl ?_); (try (refine gate_guard (by rfl) ?_; dsimp only)); refine box_event ?hg (N := 3) ?hd (cs := #[.int .i64 a1_0, .int .i64 a1_1, .slice A1_2 l1_2.length c1_2, .slice A1_3 l1_3.length c1_3]) (t := 31) ?hr ?_; (case hd => rfl); (case hg => rfl); (case hr => first | (go_simp; done) | (go_simp; rfl)); intro gb102 hg w5 hbox hb; have n0_ := Aside0.mk (blk_below (g := gb101) (o := .cells #[.int .i64 a0_0, .int .i64 a0_1, .slice A0_2 l0_2.length c0_2, .slice A0_3 l0_3.length c0_3] 31 (0, 0)) (by exact zK BK101.out) hb); have n1_ := Aside0.mk (below_step (by exact zB1 HB.out GE101.out) hb); have n2_ := Aside0.mk (hbox); have n3_ := Aside0.mk ((by rw [hg]; exact (below_size (by exact zB1 HB.out GE101.out)) : w.heap.size ≤ gb102)); have n4_ := Aside0.mk ((by rw [hg]; exact (below_size (by exact zB1 HB.out GE101.out)) : w.heap.size ≤ gb102)); have n5_ := Aside0.mk ((by rw [hg]; exact Nat.ne_of_lt (blk_lt (g := gb101) (o := .cells #[.int .i64 a0_0, .int .i64 a0_1, .slice A0_2 l0_2.length c0_2, .slice A0_3 l0_3.length c0_3] 31 (0, 0)) (by exact zK BK101.out)) : gb101 ≠ gb102)); have n6_ := Aside0.mk ((by rw [hg]; exact Nat.ne_of_gt (blk_lt (g := gb101) (o := .cells #[.int .i64 a0_0, .int .i64 a0_1, .slice A0_2 l0_2.length c0_2, .slice A0_3 l0_3.length c0_3] 31 (0, 0)) (by exact zK BK101.out)) : gb102 ≠ gb101)); clear BK101; clear HB; have BK101 := n0_; have HB := n1_; have BK102 := n2_; have GW102 := n3_; have GE102 := n4_; have NB101_102 := n5_; have NB102_101 := n6_; clear n0_ n1_ n2_ n3_ n4_ n5_ n6_; clear hb hbox hg))
 repeat (go_quiet (first | ((with_reducible refine gate_dst (N := 2) rfl ?_); (try (refine gate_guard (by rfl) ?_; dsimp only)); refine box_event ?hg (N := 2) ?hd (cs := #[.int .i64 a0_0, .int .i64 a0_1, .slice A0_2 l0_2.length c0_2, .slice A0_3 l0_3.length c0_3]) (t := 31) ?hr ?_; (case hd => rfl); (case hg => rfl); (case hr => first | (go_simp; done) | (go_simp; rfl)); intro gb101 hg w4 hbox hb; have n0_ := Aside0.mk (below_step (by exact zB HB.out) hb); have n1_ := Aside0.mk (hbox); have n2_ := Aside0.mk ((by rw [hg]; exact (below_size (by exact zB HB.out)) : w.heap.size ≤ gb101)); have n3_ := Aside0.mk ((by rw [hg]; exact (below_size (by exact zB HB.out)) : w.heap.size ≤ gb101)); clear HB; have HB := n0_; have BK101 := n1_; have GW101 := n2_; have GE101 := n3_; clear n0_ n1_ n2_ n3_; clear hb hbox hg) | ((with_reducible refine gate_dst (N := 3) rfl ?_); (try (refine gate_guard (by rfl) ?_; dsimp only)); refine box_event ?hg (N := 3) ?hd (cs := #[.int .i64 a1_0, .int .i64 a1_1, .slice A1_2 l1_2.length c1_2, .slice A1_3 l1_3.length c1_3]) (t := 31) ?hr ?_; (case hd => rfl); (case hg => rfl); (case hr => first | (go_simp; done) | (go_simp; rfl)); intro gb102 hg w5 hbox hb; have n0_ := Aside0.mk (blk_below (g := gb101) (o := .cells #[.int .i64 a0_0, .int .i64 a0_1, .slice A0_2 l0_2.length c0_2, .slice A0_3 l0_3.length c0_3] 31 (0, 0)) (by exact zK BK101.out) hb); have n1_ := Aside0.mk (below_step (by exact zB1 HB.out GE101.out) hb); have n2_ := Aside0.mk (hbox); have n3_ := Aside0.mk ((by rw [hg]; exact (below_size (by exact zB1 HB.out GE101.out)) : w.heap.size ≤ gb102)); have n4_ := Aside0.mk ((by rw [hg]; exact (below_size (by exact zB1 HB.out GE101.out)) : w.heap.size ≤ gb102)); have n5_ := Aside0.mk ((by rw [hg]; exact Nat.ne_of_lt (blk_lt (g := gb101) (o := .cells #[.int .i64 a0_0, .int .i64 a0_1, .slice A0_2 l0_2.length c0_2, .slice A0_3 l0_3.length c0_3] 31 (0, 0)) (by exact zK BK101.out)) : gb101 ≠ gb102)); have n6_ := Aside0.mk ((by rw [hg]; exact Nat.ne_of_gt (blk_lt (g := gb101) (o := .cells #[.int .i64 a0_0, .int .i64 a0_1, .slice A0_2 l0_2.length c0_2, .slice A0_3 l0_3.length c0_3] 31 (0, 0)) (by exact zK BK101.out)) : gb102 ≠ gb101)); clear BK101; clear HB; have BK101 := n0_; have HB := n1_; have BK102 := n2_; have GW102 := n3_; have GE102 := n4_; have NB101_102 := n5_; have NB102_101 := n6_; clear n0_ n1_ n2_ n3_ n4_ n5_ n6_; clear hb hbox hg)); go_upto_region 1 with (first | ((with_reducible refine gate_dst (N := 2) rfl ?_); (try (refine gate_guard (by rfl) ?_; dsimp only)); refine box_event ?hg (N := 2) ?hd (cs := #[.int .i64 a0_0, .int .i64 a0_1, .slice A0_2 l0_2.length c0_2, .slice A0_3 l0_3.length c0_3]) (t := 31) ?hr ?_; (case hd => rfl); (case hg => rfl); (case hr => first | (go_simp; done) | (go_simp; rfl)); intro gb101 hg w4 hbox hb; have n0_ := Aside0.mk (below_step (by exact zB HB.out) hb); have n1_ := Aside0.mk (hbox); have n2_ := Aside0.mk ((by rw [hg]; exact (below_size (by exact zB HB.out)) : w.heap.size ≤ gb101)); have n3_ := Aside0.mk ((by rw [hg]; exact (below_size (by exact zB HB.out)) : w.heap.size ≤ gb101)); clear HB; have HB := n0_; have BK101 := n1_; have GW101 := n2_; have GE101 := n3_; clear n0_ n1_ n2_ n3_; clear hb hbox hg) | ((with_reducible refine gate_dst (N := 3) rfl ?_); (try (refine gate_guard (by rfl) ?_; dsimp only)); refine box_event ?hg (N := 3) ?hd (cs := #[.int .i64 a1_0, .int .i64 a1_1, .slice A1_2 l1_2.length c1_2, .slice A1_3 l1_3.length c1_3]) (t := 31) ?hr ?_; (case hd => rfl); (case hg => rfl); (case hr => first | (go_simp; done) | (go_simp; rfl)); intro gb102 hg w5 hbox hb; have n0_ := Aside0.mk (blk_below (g := gb101) (o := .cells #[.int .i64 a0_0, .int .i64 a0_1, .slice A0_2 l0_2.length c0_2, .slice A0_3 l0_3.length c0_3] 31 (0, 0)) (by exact zK BK101.out) hb); have n1_ := Aside0.mk (below_step (by exact zB1 HB.out GE101.out) hb); have n2_ := Aside0.mk (hbox); have n3_ := Aside0.mk ((by rw [hg]; exact (below_size (by exact zB1 HB.out GE101.out)) : w.heap.size ≤ gb102)); have n4_ := Aside0.mk ((by rw [hg]; exact (below_size (by exact zB1 HB.out GE101.out)) : w.heap.size ≤ gb102)); have n5_ := Aside0.mk ((by rw [hg]; exact Nat.ne_of_lt (blk_lt (g := gb101) (o := .cells #[.int .i64 a0_0, .int .i64 a0_1, .slice A0_2 l0_2.length c0_2, .slice A0_3 l0_3.length c0_3] 31 (0, 0)) (by exact zK BK101.out)) : gb101 ≠ gb102)); have n6_ := Aside0.mk ((by rw [hg]; exact Nat.ne_of_gt (blk_lt (g := gb101) (o := .cells #[.int .i64 a0_0, .int .i64 a0_1, .slice A0_2 l0_2.length c0_2, .slice A0_3 l0_3.length c0_3] 31 (0, 0)) (by exact zK BK101.out)) : gb102 ≠ gb101)); clear BK101; clear HB; have BK101 := n0_; have HB := n1_; have BK102 := n2_; have GW102 := n3_; have GE102 := n4_; have NB101_102 := n5_; have NB102_101 := n6_; clear n0_ n1_ n2_ n3_ n4_ n5_ n6_; clear hb hbox hg)))
 (try simp only [zp0, zp1, zp2, zp3, zp4])
 go_cut [36] (fun v36 wc => ∃ (kq : Nat) (x36_2 : Bool), v36 = .bool x36_2 ∧ Aside0 (laws_luPkg.j0 kq x36_2 a0_0 a0_1 l0_2 l0_3 a1_0 a1_1 l1_2 l1_3 = some r) ∧ Aside0 (kq ≤ k) ∧ Aside0 (wc.heap[gb101]? = some (.cells #[.int .i64 a0_0, .int .i64 a0_1, (.slice A0_2 l0_2.length c0_2), (.slice A0_3 l0_3.length c0_3)] 31 (0, 0))) ∧ Aside0 (wc.heap[gb102]? = some (.cells #[.int .i64 a1_0, .int .i64 a1_1, (.slice A1_2 l1_2.length c1_2), (.slice A1_3 l1_3.length c1_3)] 31 (0, 0))) ∧ Aside0 (Below w.heap.size w wc))
 case first =>
  have H := HC3.out
  clear HC3
  by_cases c6 : a0_0 = a1_0
  ·rw [if_pos c6] at H
   have c6b0 : (a0_0 == a1_0) = true := beq_iff_eq.mpr c6
   have c6b1 : (a0_0 != a1_0) = false := bne_eq_false_iff_eq.mpr c6
   clear c6
   (first | rw [c6b0] | (simp only [i64_w, i32_w]; rw [c6b0]) | skip)
   by_cases c7 : a0_1 = a1_1
   ·rw [if_pos c7] at H
    have c7b0 : (a0_1 == a1_1) = true := beq_iff_eq.mpr c7
    have c7b1 : (a0_1 != a1_1) = false := bne_eq_false_iff_eq.mpr c7
    clear c7
    by_cases c8 : (l0_2.length : Int) = (l1_2.length : Int)
    ·rw [if_pos c8] at H
     have c8b0 : ((l0_2.length : Int) == (l1_2.length : Int)) = true := beq_iff_eq.mpr c8
     have c8b1 : ((l0_2.length : Int) != (l1_2.length : Int)) = false := bne_eq_false_iff_eq.mpr c8
     have c8b2 : (l0_2.length == l1_2.length) = true := by first | simpa using c8 | (simp at c8 ⊢; omega)
     clear c8
     have H' := Aside0.mk H
     clear H
     have hnb9 := NB101_102.out
     have hnc9 := NB102_101.out
     obtain ⟨hcz10_0, hcz10_1, hcz10_2, hcz10_3, hfz10_0, hfz10_1, hfz10_2, hfz10_3⟩ := zc4f BK101.out
     obtain ⟨hcz11_0, hcz11_1, hcz11_2, hcz11_3, hfz11_0, hfz11_1, hfz11_2, hfz11_3⟩ := zc4f BK102.out
     go_wp2
     repeat (go_quiet (fail); try go_wp2)
     go_meet
     case rel => exact ⟨_, (((l0_3.length : Int) != (l1_3.length : Int))), (by first | rfl | (simp; done) | (simp [*]; done)), H', ⟨by first | omega | exact Nat.le_refl _⟩, ⟨by exact zK BK101.out⟩, ⟨by exact zK BK102.out⟩, ⟨by exact zB2 HB.out GE101.out GE102.out⟩⟩
    ·rw [if_neg c8] at H
     have c8b0 : ((l0_2.length : Int) == (l1_2.length : Int)) = false := beq_eq_false_iff_ne.mpr c8
     have c8b1 : ((l0_2.length : Int) != (l1_2.length : Int)) = true := bne_iff_ne.mpr c8
     have c8b2 : (l0_2.length == l1_2.length) = false := by first | simpa using c8 | (simp at c8 ⊢; omega)
     have H' := Aside0.mk H
     clear H
     have hnb12 := NB101_102.out
     have hnc12 := NB102_101.out
     obtain ⟨hcz13_0, hcz13_1, hcz13_2, hcz13_3, hfz13_0, hfz13_1, hfz13_2, hfz13_3⟩ := zc4f BK101.out
     obtain ⟨hcz14_0, hcz14_1, hcz14_2, hcz14_3, hfz14_0, hfz14_1, hfz14_2, hfz14_3⟩ := zc4f BK102.out
     go_wp2
     repeat (go_quiet (fail); try go_wp2)
     go_meet
     case rel => exact ⟨_, (true), (by first | rfl | (simp; done) | (simp [*]; done)), H', ⟨by first | omega | exact Nat.le_refl _⟩, ⟨by exact zK BK101.out⟩, ⟨by exact zK BK102.out⟩, ⟨by exact zB2 HB.out GE101.out GE102.out⟩⟩
   ·rw [if_neg c7] at H
    have c7b0 : (a0_1 == a1_1) = false := beq_eq_false_iff_ne.mpr c7
    have c7b1 : (a0_1 != a1_1) = true := bne_iff_ne.mpr c7
    have H' := Aside0.mk H
    clear H
    have hnb15 := NB101_102.out
    have hnc15 := NB102_101.out
    obtain ⟨hcz16_0, hcz16_1, hcz16_2, hcz16_3, hfz16_0, hfz16_1, hfz16_2, hfz16_3⟩ := zc4f BK101.out
    obtain ⟨hcz17_0, hcz17_1, hcz17_2, hcz17_3, hfz17_0, hfz17_1, hfz17_2, hfz17_3⟩ := zc4f BK102.out
    go_wp2
    repeat (go_quiet (fail); try go_wp2)
    go_meet
    case rel => exact ⟨_, (true), (by first | rfl | (simp; done) | (simp [*]; done)), H', ⟨by first | omega | exact Nat.le_refl _⟩, ⟨by exact zK BK101.out⟩, ⟨by exact zK BK102.out⟩, ⟨by exact zB2 HB.out GE101.out GE102.out⟩⟩
  ·rw [if_neg c6] at H
   have c6b0 : (a0_0 == a1_0) = false := beq_eq_false_iff_ne.mpr c6
   have c6b1 : (a0_0 != a1_0) = true := bne_iff_ne.mpr c6
   (first | rw [c6b0] | (simp only [i64_w, i32_w]; rw [c6b0]) | skip)
   have H' := Aside0.mk H
   clear H
   have hnb18 := NB101_102.out
   have hnc18 := NB102_101.out
   obtain ⟨hcz19_0, hcz19_1, hcz19_2, hcz19_3, hfz19_0, hfz19_1, hfz19_2, hfz19_3⟩ := zc4f BK101.out
   obtain ⟨hcz20_0, hcz20_1, hcz20_2, hcz20_3, hfz20_0, hfz20_1, hfz20_2, hfz20_3⟩ := zc4f BK102.out
   go_wp2
   repeat (go_quiet (fail); try go_wp2)
   go_meet
   case rel => exact ⟨_, (true), (by first | rfl | (simp; done) | (simp [*]; done)), H', ⟨by first | omega | exact Nat.le_refl _⟩, ⟨by exact zK BK101.out⟩, ⟨by exact zK BK102.out⟩, ⟨by exact zB2 HB.out GE101.out GE102.out⟩⟩
 case rest =>
  clear HC3
  try clear c1
  try clear p2
  try clear c6
  try clear c6b0
  try clear c6b1
  try clear c7
  try clear c7b0
  try clear c7b1
  try clear c8
  try clear c8b0
  try clear c8b1
  try clear c8b2
  try clear c9
  try clear c12
  try clear c15
  try clear c16
  try clear c18
  try clear hcz10_0
  try clear hcz10_1
  try clear hcz10_2
  try clear hcz10_3
  try clear hcz11_0
  try clear hcz11_1
  try clear hcz11_2
  try clear hcz11_3
  try clear hcz13_0
  try clear hcz13_1
  try clear hcz13_2
  try clear hcz13_3
  try clear hcz14_0
  try clear hcz14_1
  try clear hcz14_2
  try clear hcz14_3
  try clear hcz16_0
  try clear hcz16_1
  try clear hcz16_2
  try clear hcz16_3
  try clear hcz17_0
  try clear hcz17_1
  try clear hcz17_2
  try clear hcz17_3
  try clear hcz19_0
  try clear hcz19_1
  try clear hcz19_2
  try clear hcz19_3
  try clear hcz20_0
  try clear hcz20_1
  try clear hcz20_2
  try clear hcz20_3
  try clear hfz10_0
  try clear hfz10_1
  try clear hfz10_2
  try clear hfz10_3
  try clear hfz11_0
  try clear hfz11_1
  try clear hfz11_2
  try clear hfz11_3
  try clear hfz13_0
  try clear hfz13_1
  try clear hfz13_2
  try clear hfz13_3
  try clear hfz14_0
  try clear hfz14_1
  try clear hfz14_2
  try clear hfz14_3
  try clear hfz16_0
  try clear hfz16_1
  try clear hfz16_2
  try clear hfz16_3
  try clear hfz17_0
  try clear hfz17_1
  try clear hfz17_2
  try clear hfz17_3
  try clear hfz19_0
  try clear hfz19_1
  try clear hfz19_2
  try clear hfz19_3
  try clear hfz20_0
  try clear hfz20_1
  try clear hfz20_2
  try clear hfz20_3
  obtain ⟨kq, x36_2, rfl, HA, HJ2, BK101, BK102, HB⟩ := hcut
  cases kq with
  | zero => exact absurd HA.out (by simp [laws_luPkg.j0])
  | succ kj2 =>
   have H := HA.out
   clear HA
   simp only [laws_luPkg.j0] at H
   by_cases c21 : x36_2 = true
   ·subst c21
    have H1 : (some false) = some r := by rw [if_pos rfl] at H; exact H
    clear H
    have H := H1
    clear H1
    obtain rfl := Option.some.inj H
    go_wp2
    repeat (go_quiet (fail); try go_wp2)
    go_ret
    exact ⟨by first | rfl | (simp [errW_none, errW_some] <;> rfl) | (simp [*, errW_none, errW_some] <;> rfl), by exact zB2 HB.out GE101.out GE102.out⟩
   ·replace c21 := Bool.eq_false_iff.mpr c21
    subst c21
    have H1 : (laws_luPkg.l0 kj2 0 a0_0 a0_1 l0_2 l0_3 a1_0 a1_1 l1_2 l1_3) = some r := by rw [if_neg (show ¬ (false = true) by decide)] at H; exact H
    clear H
    have H := H1
    clear H1
    have H' := Aside0.mk H
    clear H
    go_wp2
    repeat (go_quiet (fail); try go_wp2)
    go_loopg [5] kj2 (fun kq v5 w' => ∃ (x5_2 : Int), v5 = .int .i64 x5_2 ∧ Aside0 (laws_luPkg.l0 kq x5_2 a0_0 a0_1 l0_2 l0_3 a1_0 a1_1 l1_2 l1_3 = some r) ∧ Aside0 (kq ≤ kj2) ∧ Aside0 (w'.heap[gb101]? = some (.cells #[.int .i64 a0_0, .int .i64 a0_1, (.slice A0_2 l0_2.length c0_2), (.slice A0_3 l0_3.length c0_3)] 31 (0, 0))) ∧ Aside0 (w'.heap[gb102]? = some (.cells #[.int .i64 a1_0, .int .i64 a1_1, (.slice A1_2 l1_2.length c1_2), (.slice A1_3 l1_3.length c1_3)] 31 (0, 0))) ∧ Aside0 (Below w.heap.size w w'))
    case atStart => exact ⟨(0), (by first | rfl | (simp; done) | (simp [*]; done)), H', ⟨Nat.le_refl _⟩, ⟨by exact zK BK101.out⟩, ⟨by exact zK BK102.out⟩, ⟨by exact zB2 HB.out GE101.out GE102.out⟩⟩
    case round =>
     clear H'
     try clear c1
     try clear c2
     try clear p2
     try clear c6
     try clear c6b0
     try clear c6b1
     try clear c7
     try clear c7b0
     try clear c7b1
     try clear c8
     try clear c8b0
     try clear c8b1
     try clear c8b2
     try clear c9
     try clear c12
     try clear c15
     try clear c16
     try clear c18
     try clear c21
     try clear hcz10_0
     try clear hcz10_1
     try clear hcz10_2
     try clear hcz10_3
     try clear hcz11_0
     try clear hcz11_1
     try clear hcz11_2
     try clear hcz11_3
     try clear hcz13_0
     try clear hcz13_1
     try clear hcz13_2
     try clear hcz13_3
     try clear hcz14_0
     try clear hcz14_1
     try clear hcz14_2
     try clear hcz14_3
     try clear hcz16_0
     try clear hcz16_1
     try clear hcz16_2
     try clear hcz16_3
     try clear hcz17_0
     try clear hcz17_1
     try clear hcz17_2
     try clear hcz17_3
     try clear hcz19_0
     try clear hcz19_1
     try clear hcz19_2
     try clear hcz19_3
     try clear hcz20_0
     try clear hcz20_1
     try clear hcz20_2
     try clear hcz20_3
     try clear hfz10_0
     try clear hfz10_1
     try clear hfz10_2
     try clear hfz10_3
     try clear hfz11_0
     try clear hfz11_1
     try clear hfz11_2
     try clear hfz11_3
     try clear hfz13_0
     try clear hfz13_1
     try clear hfz13_2
     try clear hfz13_3
     try clear hfz14_0
     try clear hfz14_1
     try clear hfz14_2
     try clear hfz14_3
     try clear hfz16_0
     try clear hfz16_1
     try clear hfz16_2
     try clear hfz16_3
     try clear hfz17_0
     try clear hfz17_1
     try clear hfz17_2
     try clear hfz17_3
     try clear hfz19_0
     try clear hfz19_1
     try clear hfz19_2
     try clear hfz19_3
     try clear hfz20_0
     try clear hfz20_1
     try clear hfz20_2
     try clear hfz20_3
     try clear p2
     obtain ⟨x5_2, rfl, HA, HK2, BK101, BK102, HB⟩ := hrel
     cases gk with
     | zero => exact absurd HA.out (by simp [laws_luPkg.l0])
     | succ k2 =>
      have H := HA.out
      clear HA
      simp only [laws_luPkg.l0] at H
      by_cases c22 : x5_2 < (l0_2.length : Int)
      ·rw [if_pos c22] at H
       have c22b0 : decide (x5_2 < (l0_2.length : Int)) = true := decide_eq_true c22
       clear c22
       by_cases c23 : 0 ≤ x5_2
       ·rw [if_pos c23] at H
        have c23b0 : decide (0 ≤ x5_2) = true := decide_eq_true c23
        clear c23
        by_cases c24 : x5_2 < (l1_2.length : Int)
        ·rw [if_pos c24] at H
         have c24b0 : decide (x5_2 < (l1_2.length : Int)) = true := decide_eq_true c24
         clear c24
         by_cases c25 : (!(((rd_T67 l0_2 x5_2).f0) == ((rd_T67 l1_2 x5_2).f0)) || (!(((rd_T67 l0_2 x5_2).f1) == ((rd_T67 l1_2 x5_2).f1)))) = true
         ·rw [if_pos c25] at H
          have c25b0 : (!(((rd_T67 l0_2 x5_2).f0) == ((rd_T67 l1_2 x5_2).f0)) || (!(((rd_T67 l0_2 x5_2).f1) == ((rd_T67 l1_2 x5_2).f1)))) = true := c25
          clear c25
          obtain rfl := Option.some.inj H
          have hnb26 := NB101_102.out
          have hnc26 := NB102_101.out
          obtain ⟨hcz27_0, hcz27_1, hcz27_2, hcz27_3, hfz27_0, hfz27_1, hfz27_2, hfz27_3⟩ := zc4f BK101.out
          have p103 : 0 ≤ (x5_2 : Int) := of_decide_eq_true (by first | (with_reducible assumption) | assumption)
          have q103 : x5_2 < (l0_2.length : Int) := of_decide_eq_true (by first | (with_reducible assumption) | assumption)
          obtain ⟨ad103, e103, hx103_0, hx103_1⟩ := at_T67 HR0_2.out x5_2 p103 q103
          cases e103
          replace hx103_0 := (HB.out.cell (World.block_lt_of_cell? w _ hx103_0)).trans hx103_0
          replace hx103_1 := (HB.out.cell (World.block_lt_of_cell? w _ hx103_1)).trans hx103_1
          replace p103 := eq_true p103
          replace q103 := eq_true q103
          obtain ⟨hcz28_0, hcz28_1, hcz28_2, hcz28_3, hfz28_0, hfz28_1, hfz28_2, hfz28_3⟩ := zc4f BK102.out
          have p104 : 0 ≤ (x5_2 : Int) := of_decide_eq_true (by first | (with_reducible assumption) | assumption)
          have q104 : x5_2 < (l1_2.length : Int) := of_decide_eq_true (by first | (with_reducible assumption) | assumption)
          obtain ⟨ad104, e104, hx104_0, hx104_1⟩ := at_T67 HR1_2.out x5_2 p104 q104
          cases e104
          replace hx104_0 := (HB.out.cell (World.block_lt_of_cell? w _ hx104_0)).trans hx104_0
          replace hx104_1 := (HB.out.cell (World.block_lt_of_cell? w _ hx104_1)).trans hx104_1
          replace p104 := eq_true p104
          replace q104 := eq_true q104
          go_wp2
          repeat (go_quiet (fail); try go_wp2)
          go_ret
          exact ⟨by first | rfl | (simp [errW_none, errW_some] <;> rfl) | (simp [*, errW_none, errW_some] <;> rfl), by exact zB2 HB.out GE101.out GE102.out⟩
         ·rw [if_neg c25] at H
          have c25b0 : (!(((rd_T67 l0_2 x5_2).f0) == ((rd_T67 l1_2 x5_2).f0)) || (!(((rd_T67 l0_2 x5_2).f1) == ((rd_T67 l1_2 x5_2).f1)))) = false := by simpa using c25
          clear c25
          have H' := Aside0.mk H
          clear H
          have hnb29 := NB101_102.out
          have hnc29 := NB102_101.out
          obtain ⟨hcz30_0, hcz30_1, hcz30_2, hcz30_3, hfz30_0, hfz30_1, hfz30_2, hfz30_3⟩ := zc4f BK101.out
          have p103 : 0 ≤ (x5_2 : Int) := of_decide_eq_true (by first | (with_reducible assumption) | assumption)
          have q103 : x5_2 < (l0_2.length : Int) := of_decide_eq_true (by first | (with_reducible assumption) | assumption)
          obtain ⟨ad103, e103, hx103_0, hx103_1⟩ := at_T67 HR0_2.out x5_2 p103 q103
          cases e103
          replace hx103_0 := (HB.out.cell (World.block_lt_of_cell? w _ hx103_0)).trans hx103_0
          replace hx103_1 := (HB.out.cell (World.block_lt_of_cell? w _ hx103_1)).trans hx103_1
          replace p103 := eq_true p103
          replace q103 := eq_true q103
          obtain ⟨hcz31_0, hcz31_1, hcz31_2, hcz31_3, hfz31_0, hfz31_1, hfz31_2, hfz31_3⟩ := zc4f BK102.out
          have p104 : 0 ≤ (x5_2 : Int) := of_decide_eq_true (by first | (with_reducible assumption) | assumption)
          have q104 : x5_2 < (l1_2.length : Int) := of_decide_eq_true (by first | (with_reducible assumption) | assumption)
          obtain ⟨ad104, e104, hx104_0, hx104_1⟩ := at_T67 HR1_2.out x5_2 p104 q104
          cases e104
          replace hx104_0 := (HB.out.cell (World.block_lt_of_cell? w _ hx104_0)).trans hx104_0
          replace hx104_1 := (HB.out.cell (World.block_lt_of_cell? w _ hx104_1)).trans hx104_1
          replace p104 := eq_true p104
          replace q104 := eq_true q104
          go_wp2
          repeat (go_quiet (fail); try go_wp2)
          go_roundg k2
          case measure => have := HJ2.out; have := HK2.out; omega
          case rel => exact ⟨(wrap64 (x5_2 + 1)), (by first | rfl | (simp; done) | (simp [*]; done)), H', ⟨by have := HJ2.out; have := HK2.out; omega⟩, ⟨by exact zK BK101.out⟩, ⟨by exact zK BK102.out⟩, ⟨by exact zB2 HB.out GE101.out GE102.out⟩⟩
        ·rw [if_neg c24] at H
         exact absurd H (by simp)
       ·rw [if_neg c23] at H
        exact absurd H (by simp)
      ·rw [if_neg c22] at H
       have c22b0 : decide (x5_2 < (l0_2.length : Int)) = false := decide_eq_false c22
       clear c22
       have H' := Aside0.mk H
       clear H
       have hnb32 := NB101_102.out
       have hnc32 := NB102_101.out
       obtain ⟨hcz33_0, hcz33_1, hcz33_2, hcz33_3, hfz33_0, hfz33_1, hfz33_2, hfz33_3⟩ := zc4f BK101.out
       go_wp2
       repeat (go_quiet (fail); try go_wp2)
       go_loopg [6] k2 (fun kq v6 w' => ∃ (x6_3 : Int), v6 = .int .i64 x6_3 ∧ Aside0 (laws_luPkg.l1 kq x6_3 a0_0 a0_1 l0_2 l0_3 a1_0 a1_1 l1_2 l1_3 = some r) ∧ Aside0 (kq ≤ k2) ∧ Aside0 (w'.heap[gb101]? = some (.cells #[.int .i64 a0_0, .int .i64 a0_1, (.slice A0_2 l0_2.length c0_2), (.slice A0_3 l0_3.length c0_3)] 31 (0, 0))) ∧ Aside0 (w'.heap[gb102]? = some (.cells #[.int .i64 a1_0, .int .i64 a1_1, (.slice A1_2 l1_2.length c1_2), (.slice A1_3 l1_3.length c1_3)] 31 (0, 0))) ∧ Aside0 (Below w.heap.size w w'))
       case atStart => exact ⟨(0), (by first | rfl | (simp; done) | (simp [*]; done)), H', ⟨Nat.le_refl _⟩, ⟨by exact zK BK101.out⟩, ⟨by exact zK BK102.out⟩, ⟨by exact zB2 HB.out GE101.out GE102.out⟩⟩
       case round =>
        clear H'
        try clear c1
        try clear p1
        try clear q1
        try clear hx1
        try clear c2
        try clear p2
        try clear c3
        try clear c6
        try clear c6b0
        try clear c6b1
        try clear p6
        try clear c7
        try clear c7b0
        try clear c7b1
        try clear c8
        try clear c8b0
        try clear c8b1
        try clear c8b2
        try clear c9
        try clear p10
        try clear q10
        try clear hx10
        try clear c12
        try clear c15
        try clear c16
        try clear c18
        try clear c21
        try clear c22
        try clear c22b0
        try clear c23
        try clear c23b0
        try clear c24
        try clear c24b0
        try clear c25
        try clear c25b0
        try clear c26
        try clear c29
        try clear c32
        try clear hcz10_0
        try clear hcz10_1
        try clear hcz10_2
        try clear hcz10_3
        try clear hcz11_0
        try clear hcz11_1
        try clear hcz11_2
        try clear hcz11_3
        try clear hcz13_0
        try clear hcz13_1
        try clear hcz13_2
        try clear hcz13_3
        try clear hcz14_0
        try clear hcz14_1
        try clear hcz14_2
        try clear hcz14_3
        try clear hcz16_0
        try clear hcz16_1
        try clear hcz16_2
        try clear hcz16_3
        try clear hcz17_0
        try clear hcz17_1
        try clear hcz17_2
        try clear hcz17_3
        try clear hcz19_0
        try clear hcz19_1
        try clear hcz19_2
        try clear hcz19_3
        try clear hcz20_0
        try clear hcz20_1
        try clear hcz20_2
        try clear hcz20_3
        try clear hcz27_0
        try clear hcz27_1
        try clear hcz27_2
        try clear hcz27_3
        try clear hcz28_0
        try clear hcz28_1
        try clear hcz28_2
        try clear hcz28_3
        try clear hcz30_0
        try clear hcz30_1
        try clear hcz30_2
        try clear hcz30_3
        try clear hcz31_0
        try clear hcz31_1
        try clear hcz31_2
        try clear hcz31_3
        try clear hcz33_0
        try clear hcz33_1
        try clear hcz33_2
        try clear hcz33_3
        try clear hfz10_0
        try clear hfz10_1
        try clear hfz10_2
        try clear hfz10_3
        try clear hfz11_0
        try clear hfz11_1
        try clear hfz11_2
        try clear hfz11_3
        try clear hfz13_0
        try clear hfz13_1
        try clear hfz13_2
        try clear hfz13_3
        try clear hfz14_0
        try clear hfz14_1
        try clear hfz14_2
        try clear hfz14_3
        try clear hfz16_0
        try clear hfz16_1
        try clear hfz16_2
        try clear hfz16_3
        try clear hfz17_0
        try clear hfz17_1
        try clear hfz17_2
        try clear hfz17_3
        try clear hfz19_0
        try clear hfz19_1
        try clear hfz19_2
        try clear hfz19_3
        try clear hfz20_0
        try clear hfz20_1
        try clear hfz20_2
        try clear hfz20_3
        try clear hfz27_0
        try clear hfz27_1
        try clear hfz27_2
        try clear hfz27_3
        try clear hfz28_0
        try clear hfz28_1
        try clear hfz28_2
        try clear hfz28_3
        try clear hfz30_0
        try clear hfz30_1
        try clear hfz30_2
        try clear hfz30_3
        try clear hfz31_0
        try clear hfz31_1
        try clear hfz31_2
        try clear hfz31_3
        try clear hfz33_0
        try clear hfz33_1
        try clear hfz33_2
        try clear hfz33_3
        try clear hx103_0
        try clear hx103_1
        try clear hx104_0
        try clear hx104_1
        try clear p103
        try clear p104
        try clear p2
        try clear q103
        try clear q104
        obtain ⟨x6_3, rfl, HA, HK3, BK101, BK102, HB⟩ := hrel
        cases gk with
        | zero => exact absurd HA.out (by simp [laws_luPkg.l1])
        | succ k3 =>
         have H := HA.out
         clear HA
         simp only [laws_luPkg.l1] at H
         by_cases c34 : x6_3 < (l0_3.length : Int)
         ·rw [if_pos c34] at H
          have c34b0 : decide (x6_3 < (l0_3.length : Int)) = true := decide_eq_true c34
          clear c34
          by_cases c35 : 0 ≤ x6_3
          ·rw [if_pos c35] at H
           have c35b0 : decide (0 ≤ x6_3) = true := decide_eq_true c35
           clear c35
           by_cases c36 : x6_3 < (l1_3.length : Int)
           ·rw [if_pos c36] at H
            have c36b0 : decide (x6_3 < (l1_3.length : Int)) = true := decide_eq_true c36
            clear c36
            by_cases c37 : (!(((rd_T69 l0_3 x6_3).f0) == ((rd_T69 l1_3 x6_3).f0)) || (!(((rd_T69 l0_3 x6_3).f1) == ((rd_T69 l1_3 x6_3).f1)))) = true
            ·rw [if_pos c37] at H
             have c37b0 : (!(((rd_T69 l0_3 x6_3).f0) == ((rd_T69 l1_3 x6_3).f0)) || (!(((rd_T69 l0_3 x6_3).f1) == ((rd_T69 l1_3 x6_3).f1)))) = true := c37
             clear c37
             obtain rfl := Option.some.inj H
             have hnb38 := NB101_102.out
             have hnc38 := NB102_101.out
             obtain ⟨hcz39_0, hcz39_1, hcz39_2, hcz39_3, hfz39_0, hfz39_1, hfz39_2, hfz39_3⟩ := zc4f BK101.out
             have p105 : 0 ≤ (x6_3 : Int) := of_decide_eq_true (by first | (with_reducible assumption) | assumption)
             have q105 : x6_3 < (l0_3.length : Int) := of_decide_eq_true (by first | (with_reducible assumption) | assumption)
             obtain ⟨ad105, e105, hx105_0, hx105_1⟩ := at_T69 HR0_3.out x6_3 p105 q105
             cases e105
             replace hx105_0 := (HB.out.cell (World.block_lt_of_cell? w _ hx105_0)).trans hx105_0
             replace hx105_1 := (HB.out.cell (World.block_lt_of_cell? w _ hx105_1)).trans hx105_1
             replace p105 := eq_true p105
             replace q105 := eq_true q105
             obtain ⟨hcz40_0, hcz40_1, hcz40_2, hcz40_3, hfz40_0, hfz40_1, hfz40_2, hfz40_3⟩ := zc4f BK102.out
             have p106 : 0 ≤ (x6_3 : Int) := of_decide_eq_true (by first | (with_reducible assumption) | assumption)
             have q106 : x6_3 < (l1_3.length : Int) := of_decide_eq_true (by first | (with_reducible assumption) | assumption)
             obtain ⟨ad106, e106, hx106_0, hx106_1⟩ := at_T69 HR1_3.out x6_3 p106 q106
             cases e106
             replace hx106_0 := (HB.out.cell (World.block_lt_of_cell? w _ hx106_0)).trans hx106_0
             replace hx106_1 := (HB.out.cell (World.block_lt_of_cell? w _ hx106_1)).trans hx106_1
             replace p106 := eq_true p106
             replace q106 := eq_true q106
             go_wp2
             repeat (go_quiet (fail); try go_wp2)
             go_ret
             exact ⟨by first | rfl | (simp [errW_none, errW_some] <;> rfl) | (simp [*, errW_none, errW_some] <;> rfl), by exact zB2 HB.out GE101.out GE102.out⟩
            ·rw [if_neg c37] at H
             have c37b0 : (!(((rd_T69 l0_3 x6_3).f0) == ((rd_T69 l1_3 x6_3).f0)) || (!(((rd_T69 l0_3 x6_3).f1) == ((rd_T69 l1_3 x6_3).f1)))) = false := by simpa using c37
             clear c37
             have H' := Aside0.mk H
             clear H
             have hnb41 := NB101_102.out
             have hnc41 := NB102_101.out
             obtain ⟨hcz42_0, hcz42_1, hcz42_2, hcz42_3, hfz42_0, hfz42_1, hfz42_2, hfz42_3⟩ := zc4f BK101.out
             have p105 : 0 ≤ (x6_3 : Int) := of_decide_eq_true (by first | (with_reducible assumption) | assumption)
             have q105 : x6_3 < (l0_3.length : Int) := of_decide_eq_true (by first | (with_reducible assumption) | assumption)
             obtain ⟨ad105, e105, hx105_0, hx105_1⟩ := at_T69 HR0_3.out x6_3 p105 q105
             cases e105
             replace hx105_0 := (HB.out.cell (World.block_lt_of_cell? w _ hx105_0)).trans hx105_0
             replace hx105_1 := (HB.out.cell (World.block_lt_of_cell? w _ hx105_1)).trans hx105_1
             replace p105 := eq_true p105
             replace q105 := eq_true q105
             obtain ⟨hcz43_0, hcz43_1, hcz43_2, hcz43_3, hfz43_0, hfz43_1, hfz43_2, hfz43_3⟩ := zc4f BK102.out
             have p106 : 0 ≤ (x6_3 : Int) := of_decide_eq_true (by first | (with_reducible assumption) | assumption)
             have q106 : x6_3 < (l1_3.length : Int) := of_decide_eq_true (by first | (with_reducible assumption) | assumption)
             obtain ⟨ad106, e106, hx106_0, hx106_1⟩ := at_T69 HR1_3.out x6_3 p106 q106
             cases e106
             replace hx106_0 := (HB.out.cell (World.block_lt_of_cell? w _ hx106_0)).trans hx106_0
             replace hx106_1 := (HB.out.cell (World.block_lt_of_cell? w _ hx106_1)).trans hx106_1
             replace p106 := eq_true p106
             replace q106 := eq_true q106
             go_wp2
             repeat (go_quiet (fail); try go_wp2)
             go_roundg k3
             case measure => have := HJ2.out; have := HK2.out; have := HK3.out; omega
             case rel => exact ⟨(wrap64 (x6_3 + 1)), (by first | rfl | (simp; done) | (simp [*]; done)), H', ⟨by have := HJ2.out; have := HK2.out; have := HK3.out; omega⟩, ⟨by exact zK BK101.out⟩, ⟨by exact zK BK102.out⟩, ⟨by exact zB2 HB.out GE101.out GE102.out⟩⟩
           ·rw [if_neg c36] at H
            exact absurd H (by simp)
          ·rw [if_neg c35] at H
           exact absurd H (by simp)
         ·rw [if_neg c34] at H
          have c34b0 : decide (x6_3 < (l0_3.length : Int)) = false := decide_eq_false c34
          clear c34
          obtain rfl := Option.some.inj H
          have hnb44 := NB101_102.out
          have hnc44 := NB102_101.out
          obtain ⟨hcz45_0, hcz45_1, hcz45_2, hcz45_3, hfz45_0, hfz45_1, hfz45_2, hfz45_3⟩ := zc4f BK101.out
          go_wp2
          repeat (go_quiet (fail); try go_wp2)
          go_ret
          exact ⟨by first | rfl | (simp [errW_none, errW_some] <;> rfl) | (simp [*, errW_none, errW_some] <;> rfl), by exact zB2 HB.out GE101.out GE102.out⟩

/-! ### impl_in: function 65 -/
theorem impl_in_b (w : World) (n a b : Int) (v : Bool) (h : inB_ n a b = v) : Calls Tryd.prog 65 #[.int .i64 n, .int .i64 a, .int .i64 b] w fun e w' => e = .returned (.bool v) ∧ w' = w := by
 subst h
 go_enter Tryd.func65, Tryd.ntmps65
 by_cases h1 : a ≤ n
 ·by_cases h2 : n ≤ b
  ·have e1 : inB_ n a b = true := by unfold inB_; rw [decide_eq_true h1, decide_eq_true h2]; rfl
   have d1 : decide (a ≤ n) = true := decide_eq_true h1
   have d2 : decide (n ≤ b) = true := decide_eq_true h2
   rw [e1]
   clear h1 h2 e1
   go_wp2
   go_ret
   exact ⟨by first | rfl | simp [*], rfl⟩
  ·have e1 : inB_ n a b = false := by unfold inB_; rw [decide_eq_false h2, Bool.and_false]
   have d1 : decide (a ≤ n) = true := decide_eq_true h1
   have d2 : decide (n ≤ b) = false := decide_eq_false h2
   rw [e1]
   clear h1 h2 e1
   go_wp2
   go_ret
   exact ⟨by first | rfl | simp [*], rfl⟩
 ·have e1 : inB_ n a b = false := by unfold inB_; rw [decide_eq_false h1, Bool.false_and]
  have d1 : decide (a ≤ n) = false := decide_eq_false h1
  rw [e1]
  clear h1 e1
  go_wp2
  go_ret
  exact ⟨by first | rfl | simp [*], rfl⟩
def impl_in.f (a0 : Int) (a1 : Int) (a2 : Int) : Option (Bool) := if a0 ≥ a1 then (some (decide (a0 ≤ a2))) else (some (false))
theorem impl_in.calls (a0 : Int) (a1 : Int) (a2 : Int) (r : Bool) (w : World) (h : impl_in.f a0 a1 a2 = some r) :
  Calls Tryd.prog 65 #[.int .i64 a0, .int .i64 a1, .int .i64 a2] w fun e w' => e = .returned (.bool r) ∧ Drawn0 w w' := by
 have e : inB_ a0 a1 a2 = r := by
  unfold impl_in.f at h
  unfold inB_
  by_cases c : a0 ≥ a1
  ·rw [if_pos c] at h
   rw [decide_eq_true c, Bool.true_and]
   exact Option.some.inj h
  ·rw [if_neg c] at h
   rw [decide_eq_false c, Bool.false_and]
   exact Option.some.inj h
 exact (impl_in_b w a0 a1 a2 r e).mono fun _ _ h => ⟨h.1, by rw [h.2]; exact Drawn0.refl _⟩

/-! ### impl_isName: function 63 -/
theorem impl_isName_b (w : World) (n : Int) (v : Bool) (h : inB_ n 1 4 = v) : Calls Tryd.prog 63 #[.int .i64 n] w fun e w' => e = .returned (.bool v) ∧ w' = w := by
 subst h
 go_enter Tryd.func63, Tryd.ntmps63
 by_cases h1 : 1 ≤ n
 ·by_cases h2 : n ≤ 4
  ·have e1 : inB_ n 1 4 = true := by unfold inB_; rw [decide_eq_true h1, decide_eq_true h2]; rfl
   have d1 : decide (1 ≤ n) = true := decide_eq_true h1
   have d2 : decide (n ≤ 4) = true := decide_eq_true h2
   rw [e1]
   clear h1 h2 e1
   go_wp2
   go_ret
   exact ⟨by first | rfl | simp [*], rfl⟩
  ·have e1 : inB_ n 1 4 = false := by unfold inB_; rw [decide_eq_false h2, Bool.and_false]
   have d1 : decide (1 ≤ n) = true := decide_eq_true h1
   have d2 : decide (n ≤ 4) = false := decide_eq_false h2
   rw [e1]
   clear h1 h2 e1
   go_wp2
   go_ret
   exact ⟨by first | rfl | simp [*], rfl⟩
 ·have e1 : inB_ n 1 4 = false := by unfold inB_; rw [decide_eq_false h1, Bool.false_and]
  have d1 : decide (1 ≤ n) = false := decide_eq_false h1
  rw [e1]
  clear h1 e1
  go_wp2
  go_ret
  exact ⟨by first | rfl | simp [*], rfl⟩
def impl_isName.f (a0 : Int) : Option (Bool) := impl_in.f a0 1 4
theorem impl_isName.calls (a0 : Int) (r : Bool) (w : World) (h : impl_isName.f a0 = some r) :
  Calls Tryd.prog 63 #[.int .i64 a0] w fun e w' => e = .returned (.bool r) ∧ Drawn0 w w' := by
 have e : inB_ a0 1 4 = r := by
  unfold impl_isName.f impl_in.f at h
  unfold inB_
  by_cases c : a0 ≥ 1
  ·rw [if_pos c] at h
   rw [decide_eq_true c, Bool.true_and]
   exact Option.some.inj h
  ·rw [if_neg c] at h
   rw [decide_eq_false c, Bool.false_and]
   exact Option.some.inj h
 exact (impl_isName_b w a0 r e).mono fun _ _ h => ⟨h.1, by rw [h.2]; exact Drawn0.refl _⟩

/-! ### impl_isVer: function 64 -/
theorem impl_isVer_b (w : World) (n : Int) (v : Bool) (h : inB_ n 1 5 = v) : Calls Tryd.prog 64 #[.int .i64 n] w fun e w' => e = .returned (.bool v) ∧ w' = w := by
 subst h
 go_enter Tryd.func64, Tryd.ntmps64
 by_cases h1 : 1 ≤ n
 ·by_cases h2 : n ≤ 5
  ·have e1 : inB_ n 1 5 = true := by unfold inB_; rw [decide_eq_true h1, decide_eq_true h2]; rfl
   have d1 : decide (1 ≤ n) = true := decide_eq_true h1
   have d2 : decide (n ≤ 5) = true := decide_eq_true h2
   rw [e1]
   clear h1 h2 e1
   go_wp2
   go_ret
   exact ⟨by first | rfl | simp [*], rfl⟩
  ·have e1 : inB_ n 1 5 = false := by unfold inB_; rw [decide_eq_false h2, Bool.and_false]
   have d1 : decide (1 ≤ n) = true := decide_eq_true h1
   have d2 : decide (n ≤ 5) = false := decide_eq_false h2
   rw [e1]
   clear h1 h2 e1
   go_wp2
   go_ret
   exact ⟨by first | rfl | simp [*], rfl⟩
 ·have e1 : inB_ n 1 5 = false := by unfold inB_; rw [decide_eq_false h1, Bool.false_and]
  have d1 : decide (1 ≤ n) = false := decide_eq_false h1
  rw [e1]
  clear h1 e1
  go_wp2
  go_ret
  exact ⟨by first | rfl | simp [*], rfl⟩
def impl_isVer.f (a0 : Int) : Option (Bool) := impl_in.f a0 1 5
theorem impl_isVer.calls (a0 : Int) (r : Bool) (w : World) (h : impl_isVer.f a0 = some r) :
  Calls Tryd.prog 64 #[.int .i64 a0] w fun e w' => e = .returned (.bool r) ∧ Drawn0 w w' := by
 have e : inB_ a0 1 5 = r := by
  unfold impl_isVer.f impl_in.f at h
  unfold inB_
  by_cases c : a0 ≥ 1
  ·rw [if_pos c] at h
   rw [decide_eq_true c, Bool.true_and]
   exact Option.some.inj h
  ·rw [if_neg c] at h
   rw [decide_eq_false c, Bool.false_and]
   exact Option.some.inj h
 exact (impl_isVer_b w a0 r e).mono fun _ _ h => ⟨h.1, by rw [h.2]; exact Drawn0.refl _⟩

/-! ### impl_PkgOk: function 23 -/
def pkf1 (l : List S67) (i : Nat) : Bool := inB_ (l.getD i z67).f0 0 5 && (inB_ (l.getD i z67).f1 0 9 && (i == 0 || decide ((l.getD (i - 1) z67).f0 < (l.getD i z67).f0)))
def pkd1 (name : Int) (l : List S69) (i : Nat) : Bool := inB_ (l.getD i z69).f0 1 4 && (!decide ((l.getD i z69).f0 = name) && (inB_ (l.getD i z69).f1 1 5 && (i == 0 || decide ((l.getD (i - 1) z69).f0 < (l.getD i z69).f0))))
def pkpre (n v : Int) (a b : Nat) : Bool := inB_ n 1 4 && (inB_ v 1 5 && (decide (a ≤ 2) && decide (b ≤ 2)))
def pkB (n v : Int) (l2 : List S67) (l3 : List S69) : Bool := pkpre n v l2.length l3.length && (okFrom (pkf1 l2) l2.length 0 && okFrom (pkd1 n l3) l3.length 0)
set_option maxHeartbeats 8000000 in
set_option maxRecDepth 100000 in
theorem pko_no (n v : Int) (A2 : Option Addr) (c2 : Nat) (l2 : List S67) (A3 : Option Addr) (c3 : Nat) (l3 : List S69) (w : World) (hno : pkpre n v l2.length l3.length = false) :
  Calls Tryd.prog 23 #[.agg #[.int .i64 n, .int .i64 v, .slice A2 l2.length c2, .slice A3 l3.length c3]] w fun e w' => e = .returned (.bool false) ∧ Below w.heap.size w w' := by
 have HB := Aside0.mk (Below.refl w.heap.size w)
 have hx : ¬ 1 ≤ n ∨ (1 ≤ n ∧ ¬ n ≤ 4) ∨ ((1 ≤ n ∧ n ≤ 4) ∧ ¬ 1 ≤ v) ∨ ((1 ≤ n ∧ n ≤ 4) ∧ 1 ≤ v ∧ ¬ v ≤ 5) ∨ ((1 ≤ n ∧ n ≤ 4) ∧ (1 ≤ v ∧ v ≤ 5) ∧ 2 < (l2.length : Int)) ∨ ((1 ≤ n ∧ n ≤ 4) ∧ (1 ≤ v ∧ v ≤ 5) ∧ ¬ 2 < (l2.length : Int) ∧ 2 < (l3.length : Int)) := by
  by_cases h1 : 1 ≤ n
  ·by_cases h2 : n ≤ 4
   ·by_cases h3 : 1 ≤ v
    ·by_cases h4 : v ≤ 5
     ·by_cases h5 : 2 < (l2.length : Int)
      ·exact .inr (.inr (.inr (.inr (.inl ⟨⟨h1, h2⟩, ⟨h3, h4⟩, h5⟩))))
      ·refine .inr (.inr (.inr (.inr (.inr ⟨⟨h1, h2⟩, ⟨h3, h4⟩, h5, Decidable.byContradiction fun h6 => ?_⟩))))
       simp only [pkpre, inB_, decide_eq_true h1, decide_eq_true h2, decide_eq_true h3, decide_eq_true h4, decide_eq_true (show l2.length ≤ 2 by omega), decide_eq_true (show l3.length ≤ 2 by omega), Bool.and_true] at hno
       cases hno
     ·exact .inr (.inr (.inr (.inl ⟨⟨h1, h2⟩, h3, h4⟩)))
    ·exact .inr (.inr (.inl ⟨⟨h1, h2⟩, h3⟩))
   ·exact .inr (.inl ⟨h1, h2⟩)
  ·exact .inl h1
 clear hno
 go_enter Tryd.func23, Tryd.ntmps23
 rcases hx with h1 | ⟨h1, h2⟩ | ⟨⟨h1, h2⟩, h3⟩ | ⟨⟨h1, h2⟩, h3, h4⟩ | ⟨⟨h1, h2⟩, ⟨h3, h4⟩, h5⟩ | ⟨⟨h1, h2⟩, ⟨h3, h4⟩, h5, h6⟩
 all_goals
  go_wp2
  go_ret
  exact ⟨by first | rfl | simp [*], below_alloc HB.out _⟩
set_option maxHeartbeats 8000000 in
set_option maxRecDepth 100000 in
theorem pko_yes (n v : Int) (A2 : Option Addr) (c2 : Nat) (l2 : List S67) (A3 : Option Addr) (c3 : Nat) (l3 : List S69) (w : World) (hr2 : Kd.C k67 w A2 l2.length l2) (hr3 : Kd.C k69 w A3 l3.length l3) (hyes : pkpre n v l2.length l3.length = true) :
  Calls Tryd.prog 23 #[.agg #[.int .i64 n, .int .i64 v, .slice A2 l2.length c2, .slice A3 l3.length c3]] w fun e w' => e = .returned (.bool (pkB n v l2 l3)) ∧ Below w.heap.size w w' := by
 have HR2 := Aside0.mk hr2
 have HR3 := Aside0.mk hr3
 have HL2 := Aside0.mk hr2.2.1
 have HL3 := Aside0.mk hr3.2.1
 clear hr2 hr3
 have HE : Aside0 (pkB n v l2 l3 = (okFrom (pkf1 l2) (l2.length - (0 : Int).toNat) (0 : Int).toNat && okFrom (pkd1 n l3) l3.length 0)) := ⟨by unfold pkB; rw [hyes]; rfl⟩
 have hx : (1 ≤ n ∧ n ≤ 4) ∧ (1 ≤ v ∧ v ≤ 5) ∧ ¬ 2 < (l2.length : Int) ∧ ¬ 2 < (l3.length : Int) := by
  simp only [pkpre, inB_, Bool.and_eq_true, decide_eq_true_eq] at hyes
  obtain ⟨h1, h2, h3, h4⟩ := hyes
  exact ⟨h1, h2, by omega, by omega⟩
 clear hyes
 obtain ⟨⟨h1, h2⟩, ⟨h3, h4⟩, h5, h6⟩ := hx
 go_enter Tryd.func23, Tryd.ntmps23
 go_wp2
 clear h1 h2 h3 h4 h5 h6
 have n0_ := Aside0.mk (below_alloc (Below.refl w.heap.size w) (Obj.cells #[.int .i64 n, .int .i64 v, .slice A2 l2.length c2, .slice A3 l3.length c3] 31))
 have n1_ := Aside0.mk (blk_new w (Obj.cells #[.int .i64 n, .int .i64 v, .slice A2 l2.length c2, .slice A3 l3.length c3] 31))
 generalize w.alloc (Obj.cells #[.int .i64 n, .int .i64 v, .slice A2 l2.length c2, .slice A3 l3.length c3] 31) = W0 at n0_ n1_ ⊢
 obtain ⟨gb, hgb⟩ : ∃ g, g = w.heap.size := ⟨_, rfl⟩
 rw [← hgb] at n1_ ⊢
 have HB := n0_
 have BK := n1_
 clear n0_ n1_ hgb
 have k0 : W0.cell? ⟨gb, 0, none⟩ = some (.int .i64 n) := (blk_cell BK.out 0).trans rfl
 have k1 : W0.cell? ⟨gb, 1, none⟩ = some (.int .i64 v) := (blk_cell BK.out 1).trans rfl
 have k2 : W0.cell? ⟨gb, 2, none⟩ = some (.slice A2 l2.length c2) := (blk_cell BK.out 2).trans rfl
 have k3 : W0.cell? ⟨gb, 3, none⟩ = some (.slice A3 l3.length c3) := (blk_cell BK.out 3).trans rfl
 go_loopw [32] (fun v5 w' => ∃ x : Int, 0 ≤ x ∧ x ≤ (l2.length : Int) ∧ v5 = .int .i64 x ∧ Aside0 (pkB n v l2 l3 = (okFrom (pkf1 l2) (l2.length - x.toNat) x.toNat && okFrom (pkd1 n l3) l3.length 0)) ∧ Aside0 (w'.heap[gb]? = some (.cells #[.int .i64 n, .int .i64 v, .slice A2 l2.length c2, .slice A3 l3.length c3] 31 (0, 0))) ∧ Aside0 (Below w.heap.size w w')) (fun v5 _ => l2.length - (intOf v5).toNat)
 case atStart => exact ⟨0, by omega, by omega, rfl, HE, BK, HB⟩
 case round =>
  clear HE HB BK k0 k1 k2 k3
  obtain ⟨x, hx0, hx1, rfl, HE, BK, HB⟩ := hrel
  have k0 : wr.cell? ⟨gb, 0, none⟩ = some (.int .i64 n) := (blk_cell BK.out 0).trans rfl
  have k1 : wr.cell? ⟨gb, 1, none⟩ = some (.int .i64 v) := (blk_cell BK.out 1).trans rfl
  have k2 : wr.cell? ⟨gb, 2, none⟩ = some (.slice A2 l2.length c2) := (blk_cell BK.out 2).trans rfl
  have k3 : wr.cell? ⟨gb, 3, none⟩ = some (.slice A3 l3.length c3) := (blk_cell BK.out 3).trans rfl
  have HL2 := HL2.out
  by_cases hlt : x < (l2.length : Int)
  ·obtain ⟨ad, e, m0, m1⟩ := at_T67 HR2.out x hx0 hlt
   cases e
   replace m0 := (HB.out.cell (World.block_lt_of_cell? w _ m0)).trans m0
   replace m1 := (HB.out.cell (World.block_lt_of_cell? w _ m1)).trans m1
   obtain ⟨F0, hF0⟩ : ∃ F0, F0 = (rd_T67 l2 x).f0 := ⟨_, rfl⟩
   obtain ⟨F1, hF1⟩ : ∃ F1, F1 = (rd_T67 l2 x).f1 := ⟨_, rfl⟩
   rw [← hF0] at m0
   rw [← hF1] at m1
   have HF := Aside0.mk (And.intro hF0 hF1)
   clear hF0 hF1
   have q1 : decide (x < (l2.length : Int)) = true := decide_eq_true hlt
   have q2 : 0 ≤ x := hx0
   obtain ⟨b1, hb1⟩ : ∃ b, inB_ F0 0 5 = b := ⟨_, rfl⟩
   obtain ⟨b2, hb2⟩ : ∃ b, inB_ F1 0 9 = b := ⟨_, rfl⟩
   have C1 := Aside0.mk (fun W => impl_in_b W F0 0 5 b1 hb1)
   have C2 := Aside0.mk (fun W => impl_in_b W F1 0 9 b2 hb2)
   have B1 := Aside0.mk hb1
   have B2 := Aside0.mk hb2
   clear hb1 hb2
   have HN := Aside0.mk (okFrom_at (p := pkf1 l2) hx0 hlt)
   have no : Aside0 (pkf1 l2 x.toNat = false → pkB n v l2 l3 = false) := ⟨fun h_ => by rw [HE.out, HN.out, h_]; rfl⟩
   have yes : Aside0 (pkf1 l2 x.toNat = true → pkB n v l2 l3 = (okFrom (pkf1 l2) (l2.length - (x + 1).toNat) (x + 1).toNat && okFrom (pkd1 n l3) l3.length 0)) := ⟨fun h_ => by rw [HE.out, HN.out, h_]; rfl⟩
   have D : Aside0 (pkf1 l2 x.toNat = (b1 && (b2 && (x.toNat == 0 || decide ((l2.getD (x.toNat - 1) z67).f0 < F0))))) := ⟨by
    unfold pkf1
    rw [← show _ = (l2.getD x.toNat z67).f0 from HF.out.1, ← show _ = (l2.getD x.toNat z67).f1 from HF.out.2, B1.out, B2.out]⟩
   clear HE HN HF B1 B2
   go_wp2
   have n0_ := Aside0.mk (below_alloc HB.out (Obj.cells #[.int .i64 F0, .int .i64 F1] 67))
   have n1_ := Aside0.mk (blk_alloc BK.out (Obj.cells #[.int .i64 F0, .int .i64 F1] 67))
   have f0 : (wr.alloc (Obj.cells #[.int .i64 F0, .int .i64 F1] 67)).cell? ⟨wr.heap.size, 0, none⟩ = some (.int .i64 F0) := by simp
   have f1 : (wr.alloc (Obj.cells #[.int .i64 F0, .int .i64 F1] 67)).cell? ⟨wr.heap.size, 1, none⟩ = some (.int .i64 F1) := by simp
   clear HB BK m0 m1 k0 k1 k2 k3
   generalize wr.alloc (Obj.cells #[.int .i64 F0, .int .i64 F1] 67) = W at n0_ n1_ f0 f1 ⊢
   generalize wr.heap.size = gf at f0 f1 ⊢
   have HB := n0_
   have BK := n1_
   clear n0_ n1_
   have k0 : W.cell? ⟨gb, 0, none⟩ = some (.int .i64 n) := (blk_cell BK.out 0).trans rfl
   have k1 : W.cell? ⟨gb, 1, none⟩ = some (.int .i64 v) := (blk_cell BK.out 1).trans rfl
   have k2 : W.cell? ⟨gb, 2, none⟩ = some (.slice (some ad) l2.length c2) := (blk_cell BK.out 2).trans rfl
   have k3 : W.cell? ⟨gb, 3, none⟩ = some (.slice A3 l3.length c3) := (blk_cell BK.out 3).trans rfl
   cases b1 with
   | false =>
    go_quiet ((first | (go_at_call 65; (first | with_reducible refine (C1.out _).mono ?_ | with_reducible refine (C2.out _).mono ?_); exact fun _ _ h_ => ⟨h_.1, _, h_.2⟩)))
    go_wp2
    go_ret
    rw [no.out (by rw [D.out]; rfl)]
    exact ⟨by first | rfl | simp [*], by repeat (first | exact HB.out | apply pw_below_drewN)⟩
   | true =>
    cases b2 with
    | false =>
     go_quiet ((first | (go_at_call 65; (first | with_reducible refine (C1.out _).mono ?_ | with_reducible refine (C2.out _).mono ?_); exact fun _ _ h_ => ⟨h_.1, _, h_.2⟩)))
     go_wp2
     go_ret
     rw [no.out (by rw [D.out]; rfl)]
     exact ⟨by first | rfl | simp [*], by repeat (first | exact HB.out | apply pw_below_drewN)⟩
    | true =>
     by_cases hz : x ≤ 0
     ·have hx4 : decide (0 < x) = false := decide_eq_false (by omega)
      have Y := Aside0.mk (yes.out (by rw [D.out, show (x.toNat == 0) = true by rw [beq_iff_eq]; omega]; rfl))
      clear yes no D hz
      go_quiet ((first | (go_at_call 65; (first | with_reducible refine (C1.out _).mono ?_ | with_reducible refine (C2.out _).mono ?_); exact fun _ _ h_ => ⟨h_.1, _, h_.2⟩)))
      go_wp2
      go_roundw
      case rel => exact ⟨x + 1, by omega, by omega, by first | rfl | simp, Y, ⟨by (with_reducible repeat (first | refine blk_drewN ?_ _)); exact BK.out⟩, ⟨by repeat (first | exact HB.out | apply pw_below_drewN)⟩⟩
      case measure => simp [intOf]; omega
     ·have g0 : 0 < x := by omega
      clear hz
      obtain ⟨y, hy⟩ : ∃ y, y = x - 1 := ⟨_, rfl⟩
      have hw : IntKind.i64.wrap (x - 1) = y := by rw [i64_w, hy]; unfold wrap64; omega
      obtain ⟨ad2, e2, d0, d1⟩ := at_T67 HR2.out y (by omega) (by omega)
      obtain ⟨G0, hG0⟩ : ∃ G0, G0 = (rd_T67 l2 y).f0 := ⟨_, rfl⟩
      obtain ⟨G1, hG1⟩ : ∃ G1, G1 = (rd_T67 l2 y).f1 := ⟨_, rfl⟩
      rw [← hG0] at d0
      rw [← hG1] at d1
      cases e2
      replace d0 := (HB.out.cell (World.block_lt_of_cell? w _ d0)).trans d0
      replace d1 := (HB.out.cell (World.block_lt_of_cell? w _ d1)).trans d1
      have HG := Aside0.mk hG0
      clear hG0 hG1
      have hx2 : 0 ≤ y := by omega
      have hx3 : decide (y < (l2.length : Int)) = true := decide_eq_true (by omega)
      have hx4 : decide (0 < x) = true := decide_eq_true g0
      have hx5 : y < (l2.length : Int) := by omega
      have HY := Aside0.mk hy
      clear hy
      have FD : Aside0 (pkf1 l2 x.toNat = decide (G0 < F0)) := ⟨by
       rw [D.out, show (x.toNat == 0) = false by rw [beq_eq_false_iff_ne]; omega, show x.toNat - 1 = y.toNat by have := HY.out; omega, ← show _ = (l2.getD y.toNat z67).f0 from HG.out]; rfl⟩
      by_cases hc : F0 ≤ G0
      ·have cb : decide (F0 ≤ G0) = true := decide_eq_true hc
       have N := Aside0.mk (no.out (by rw [FD.out, decide_eq_false (by omega)]))
       clear yes no hc D
       go_quiet ((first | (go_at_call 65; (first | with_reducible refine (C1.out _).mono ?_ | with_reducible refine (C2.out _).mono ?_); exact fun _ _ h_ => ⟨h_.1, _, h_.2⟩)))
       go_wp2
       go_ret
       rw [N.out]
       exact ⟨by first | rfl | simp [*], by repeat (first | exact HB.out | apply pw_below_drewN)⟩
      ·have cb : decide (F0 ≤ G0) = false := decide_eq_false hc
       have Y := Aside0.mk (yes.out (by rw [FD.out, decide_eq_true (by omega)]))
       clear yes no hc D
       go_quiet ((first | (go_at_call 65; (first | with_reducible refine (C1.out _).mono ?_ | with_reducible refine (C2.out _).mono ?_); exact fun _ _ h_ => ⟨h_.1, _, h_.2⟩)))
       go_wp2
       go_roundw
       case rel => exact ⟨x + 1, by omega, by omega, by first | rfl | simp, Y, ⟨by (with_reducible repeat (first | refine blk_drewN ?_ _)); exact BK.out⟩, ⟨by repeat (first | exact HB.out | apply pw_below_drewN)⟩⟩
       case measure => simp [intOf]; omega
  ·have hxe : x = (l2.length : Int) := by omega
   have q1 : decide (x < (l2.length : Int)) = false := decide_eq_false hlt
   have E := Aside0.mk (show pkB n v l2 l3 = (okFrom (pkd1 n l3) (l3.length - (0 : Int).toNat) (0 : Int).toNat) by
    rw [HE.out, hxe, Int.toNat_natCast, Nat.sub_self]
    rfl)
   clear hxe HE hx0 hx1 hlt
   have HE := E
   clear E
   go_wp2
   clear q1
   obtain ⟨W0, hW0⟩ : ∃ W, W = wr := ⟨_, rfl⟩
   rw [← hW0] at HB BK k0 k1 k2 k3 ⊢
   clear hW0
   go_loopw [67] (fun v5 w' => ∃ x : Int, 0 ≤ x ∧ x ≤ (l3.length : Int) ∧ v5 = .int .i64 x ∧ Aside0 (pkB n v l2 l3 = (okFrom (pkd1 n l3) (l3.length - x.toNat) x.toNat)) ∧ Aside0 (w'.heap[gb]? = some (.cells #[.int .i64 n, .int .i64 v, .slice A2 l2.length c2, .slice A3 l3.length c3] 31 (0, 0))) ∧ Aside0 (Below w.heap.size w w')) (fun v5 _ => l3.length - (intOf v5).toNat)
   case atStart => exact ⟨0, by omega, by omega, rfl, HE, BK, HB⟩
   case round =>
    clear HE HB BK k0 k1 k2 k3
    obtain ⟨x, hx0, hx1, rfl, HE, BK, HB⟩ := hrel
    have k0 : wr.cell? ⟨gb, 0, none⟩ = some (.int .i64 n) := (blk_cell BK.out 0).trans rfl
    have k1 : wr.cell? ⟨gb, 1, none⟩ = some (.int .i64 v) := (blk_cell BK.out 1).trans rfl
    have k2 : wr.cell? ⟨gb, 2, none⟩ = some (.slice A2 l2.length c2) := (blk_cell BK.out 2).trans rfl
    have k3 : wr.cell? ⟨gb, 3, none⟩ = some (.slice A3 l3.length c3) := (blk_cell BK.out 3).trans rfl
    have HL2 := HL3.out
    by_cases hlt : x < (l3.length : Int)
    ·obtain ⟨ad, e, m0, m1⟩ := at_T69 HR3.out x hx0 hlt
     cases e
     replace m0 := (HB.out.cell (World.block_lt_of_cell? w _ m0)).trans m0
     replace m1 := (HB.out.cell (World.block_lt_of_cell? w _ m1)).trans m1
     obtain ⟨F0, hF0⟩ : ∃ F0, F0 = (rd_T69 l3 x).f0 := ⟨_, rfl⟩
     obtain ⟨F1, hF1⟩ : ∃ F1, F1 = (rd_T69 l3 x).f1 := ⟨_, rfl⟩
     rw [← hF0] at m0
     rw [← hF1] at m1
     have HF := Aside0.mk (And.intro hF0 hF1)
     clear hF0 hF1
     have q1 : decide (x < (l3.length : Int)) = true := decide_eq_true hlt
     have q2 : 0 ≤ x := hx0
     obtain ⟨b1, hb1⟩ : ∃ b, inB_ F0 1 4 = b := ⟨_, rfl⟩
     obtain ⟨b2, hb2⟩ : ∃ b, inB_ F1 1 5 = b := ⟨_, rfl⟩
     have C1 := Aside0.mk (fun W => impl_isName_b W F0 b1 hb1)
     have C2 := Aside0.mk (fun W => impl_isVer_b W F1 b2 hb2)
     have B1 := Aside0.mk hb1
     have B2 := Aside0.mk hb2
     clear hb1 hb2
     have HN := Aside0.mk (okFrom_at (p := pkd1 n l3) hx0 hlt)
     have no : Aside0 (pkd1 n l3 x.toNat = false → pkB n v l2 l3 = false) := ⟨fun h_ => by rw [HE.out, HN.out, h_]; rfl⟩
     have yes : Aside0 (pkd1 n l3 x.toNat = true → pkB n v l2 l3 = (okFrom (pkd1 n l3) (l3.length - (x + 1).toNat) (x + 1).toNat)) := ⟨fun h_ => by rw [HE.out, HN.out, h_]; rfl⟩
     have D : Aside0 (pkd1 n l3 x.toNat = (b1 && (!decide (F0 = n) && (b2 && (x.toNat == 0 || decide ((l3.getD (x.toNat - 1) z69).f0 < F0)))))) := ⟨by
      unfold pkd1
      rw [← show _ = (l3.getD x.toNat z69).f0 from HF.out.1, ← show _ = (l3.getD x.toNat z69).f1 from HF.out.2, B1.out, B2.out]⟩
     clear HE HN HF B1 B2
     go_wp2
     have n0_ := Aside0.mk (below_alloc HB.out (Obj.cells #[.int .i64 F0, .int .i64 F1] 69))
     have n1_ := Aside0.mk (blk_alloc BK.out (Obj.cells #[.int .i64 F0, .int .i64 F1] 69))
     have f0 : (wr.alloc (Obj.cells #[.int .i64 F0, .int .i64 F1] 69)).cell? ⟨wr.heap.size, 0, none⟩ = some (.int .i64 F0) := by simp
     have f1 : (wr.alloc (Obj.cells #[.int .i64 F0, .int .i64 F1] 69)).cell? ⟨wr.heap.size, 1, none⟩ = some (.int .i64 F1) := by simp
     clear HB BK m0 m1 k0 k1 k2 k3
     generalize wr.alloc (Obj.cells #[.int .i64 F0, .int .i64 F1] 69) = W at n0_ n1_ f0 f1 ⊢
     generalize wr.heap.size = gf at f0 f1 ⊢
     have HB := n0_
     have BK := n1_
     clear n0_ n1_
     have k0 : W.cell? ⟨gb, 0, none⟩ = some (.int .i64 n) := (blk_cell BK.out 0).trans rfl
     have k1 : W.cell? ⟨gb, 1, none⟩ = some (.int .i64 v) := (blk_cell BK.out 1).trans rfl
     have k2 : W.cell? ⟨gb, 2, none⟩ = some (.slice A2 l2.length c2) := (blk_cell BK.out 2).trans rfl
     have k3 : W.cell? ⟨gb, 3, none⟩ = some (.slice (some ad) l3.length c3) := (blk_cell BK.out 3).trans rfl
     cases b1 with
     | false =>
      go_quiet ((first | (go_at_call 63; with_reducible refine (C1.out _).mono ?_; exact fun _ _ h_ => ⟨h_.1, _, h_.2⟩) | (go_at_call 64; with_reducible refine (C2.out _).mono ?_; exact fun _ _ h_ => ⟨h_.1, _, h_.2⟩)))
      go_wp2
      go_ret
      rw [no.out (by rw [D.out]; rfl)]
      exact ⟨by first | rfl | simp [*], by repeat (first | exact HB.out | apply pw_below_drewN)⟩
     | true =>
      by_cases he : F0 = n
      ·have N := Aside0.mk (no.out (by rw [D.out, decide_eq_true he]; rfl))
       have e1 : (F0 == n) = true := beq_iff_eq.mpr he
       clear yes no D he
       go_quiet ((first | (go_at_call 63; with_reducible refine (C1.out _).mono ?_; exact fun _ _ h_ => ⟨h_.1, _, h_.2⟩) | (go_at_call 64; with_reducible refine (C2.out _).mono ?_; exact fun _ _ h_ => ⟨h_.1, _, h_.2⟩)))
       go_wp2
       go_ret
       rw [N.out]
       exact ⟨by first | rfl | simp [*], by repeat (first | exact HB.out | apply pw_below_drewN)⟩
      ·have e1 : (F0 == n) = false := beq_eq_false_iff_ne.mpr he
       replace D := Aside0.mk (D.out.trans (by rw [decide_eq_false he]))
       clear he
       cases b2 with
       | false =>
        go_quiet ((first | (go_at_call 63; with_reducible refine (C1.out _).mono ?_; exact fun _ _ h_ => ⟨h_.1, _, h_.2⟩) | (go_at_call 64; with_reducible refine (C2.out _).mono ?_; exact fun _ _ h_ => ⟨h_.1, _, h_.2⟩)))
        go_wp2
        go_ret
        rw [no.out (by rw [D.out]; rfl)]
        exact ⟨by first | rfl | simp [*], by repeat (first | exact HB.out | apply pw_below_drewN)⟩
       | true =>
        by_cases hz : x ≤ 0
        ·have hx4 : decide (0 < x) = false := decide_eq_false (by omega)
         have Y := Aside0.mk (yes.out (by rw [D.out, show (x.toNat == 0) = true by rw [beq_iff_eq]; omega]; rfl))
         clear yes no D hz
         go_quiet ((first | (go_at_call 63; with_reducible refine (C1.out _).mono ?_; exact fun _ _ h_ => ⟨h_.1, _, h_.2⟩) | (go_at_call 64; with_reducible refine (C2.out _).mono ?_; exact fun _ _ h_ => ⟨h_.1, _, h_.2⟩)))
         go_wp2
         go_roundw
         case rel => exact ⟨x + 1, by omega, by omega, by first | rfl | simp, Y, ⟨by (with_reducible repeat (first | refine blk_drewN ?_ _)); exact BK.out⟩, ⟨by repeat (first | exact HB.out | apply pw_below_drewN)⟩⟩
         case measure => simp [intOf]; omega
        ·have g0 : 0 < x := by omega
         clear hz
         obtain ⟨y, hy⟩ : ∃ y, y = x - 1 := ⟨_, rfl⟩
         have hw : IntKind.i64.wrap (x - 1) = y := by rw [i64_w, hy]; unfold wrap64; omega
         obtain ⟨ad2, e2, d0, d1⟩ := at_T69 HR3.out y (by omega) (by omega)
         obtain ⟨G0, hG0⟩ : ∃ G0, G0 = (rd_T69 l3 y).f0 := ⟨_, rfl⟩
         obtain ⟨G1, hG1⟩ : ∃ G1, G1 = (rd_T69 l3 y).f1 := ⟨_, rfl⟩
         rw [← hG0] at d0
         rw [← hG1] at d1
         cases e2
         replace d0 := (HB.out.cell (World.block_lt_of_cell? w _ d0)).trans d0
         replace d1 := (HB.out.cell (World.block_lt_of_cell? w _ d1)).trans d1
         have HG := Aside0.mk hG0
         clear hG0 hG1
         have hx2 : 0 ≤ y := by omega
         have hx3 : decide (y < (l3.length : Int)) = true := decide_eq_true (by omega)
         have hx4 : decide (0 < x) = true := decide_eq_true g0
         have hx5 : y < (l3.length : Int) := by omega
         have HY := Aside0.mk hy
         clear hy
         have FD : Aside0 (pkd1 n l3 x.toNat = decide (G0 < F0)) := ⟨by
          rw [D.out, show (x.toNat == 0) = false by rw [beq_eq_false_iff_ne]; omega, show x.toNat - 1 = y.toNat by have := HY.out; omega, ← show _ = (l3.getD y.toNat z69).f0 from HG.out]; rfl⟩
         by_cases hc : F0 ≤ G0
         ·have cb : decide (F0 ≤ G0) = true := decide_eq_true hc
          have N := Aside0.mk (no.out (by rw [FD.out, decide_eq_false (by omega)]))
          clear yes no hc D
          go_quiet ((first | (go_at_call 63; with_reducible refine (C1.out _).mono ?_; exact fun _ _ h_ => ⟨h_.1, _, h_.2⟩) | (go_at_call 64; with_reducible refine (C2.out _).mono ?_; exact fun _ _ h_ => ⟨h_.1, _, h_.2⟩)))
          go_wp2
          go_ret
          rw [N.out]
          exact ⟨by first | rfl | simp [*], by repeat (first | exact HB.out | apply pw_below_drewN)⟩
         ·have cb : decide (F0 ≤ G0) = false := decide_eq_false hc
          have Y := Aside0.mk (yes.out (by rw [FD.out, decide_eq_true (by omega)]))
          clear yes no hc D
          go_quiet ((first | (go_at_call 63; with_reducible refine (C1.out _).mono ?_; exact fun _ _ h_ => ⟨h_.1, _, h_.2⟩) | (go_at_call 64; with_reducible refine (C2.out _).mono ?_; exact fun _ _ h_ => ⟨h_.1, _, h_.2⟩)))
          go_wp2
          go_roundw
          case rel => exact ⟨x + 1, by omega, by omega, by first | rfl | simp, Y, ⟨by (with_reducible repeat (first | refine blk_drewN ?_ _)); exact BK.out⟩, ⟨by repeat (first | exact HB.out | apply pw_below_drewN)⟩⟩
          case measure => simp [intOf]; omega
    ·have hxe : x = (l3.length : Int) := by omega
     have q1 : decide (x < (l3.length : Int)) = false := decide_eq_false hlt
     have E := Aside0.mk (show pkB n v l2 l3 = true by
      rw [HE.out, hxe, Int.toNat_natCast, Nat.sub_self]
      rfl)
     clear hxe HE
     go_wp2
     go_ret
     rw [E.out]
     exact ⟨by first | rfl | simp [*], by repeat (first | exact HB.out | apply pw_below_drewN)⟩
def impl_PkgOk.f (_k : Nat) (n v : Int) (l2 : List S67) (l3 : List S69) : Option Bool := some (pkB n v l2 l3)
theorem impl_PkgOk.mono : ∀ a0 a1 a2 a3 k, LeO (impl_PkgOk.f k a0 a1 a2 a3) (impl_PkgOk.f (k + 1) a0 a1 a2 a3) := fun _ _ _ _ _ _ h => h
theorem impl_PkgOk.calls (k : Nat) (a0_0 : Int) (a0_1 : Int) (A0_2 : Option Addr) (c0_2 : Nat) (l0_2 : List S67) (A0_3 : Option Addr) (c0_3 : Nat) (l0_3 : List S69) (r : Bool) (w : World) (hr0_2 : Kd.C k67 w A0_2 l0_2.length l0_2) (hc0_2 : l0_2.length ≤ c0_2) (hr0_3 : Kd.C k69 w A0_3 l0_3.length l0_3) (hc0_3 : l0_3.length ≤ c0_3) (h : impl_PkgOk.f k a0_0 a0_1 l0_2 l0_3 = some r) :
  Calls Tryd.prog 23 #[.agg #[.int .i64 a0_0, .int .i64 a0_1, .slice A0_2 l0_2.length c0_2, .slice A0_3 l0_3.length c0_3]] w fun e w' => e = .returned (.bool r) ∧ Below w.heap.size w w' := by
 obtain rfl := Option.some.inj h
 cases hp : pkpre a0_0 a0_1 l0_2.length l0_3.length with
 | true => exact pko_yes a0_0 a0_1 A0_2 c0_2 l0_2 A0_3 c0_3 l0_3 w hr0_2 hr0_3 hp
 | false =>
  have e : pkB a0_0 a0_1 l0_2 l0_3 = false := by unfold pkB; rw [hp]; rfl
  rw [e]
  exact pko_no a0_0 a0_1 A0_2 c0_2 l0_2 A0_3 c0_3 l0_3 w hp

/-! ### impl_PkgText: function 17 -/
def ptF (f : S67) : List Int := [32, 48 + f.f0, 58, 48 + f.f1]
def ptD (d : S69) : List Int := [32, 96 + d.f0, 48 + d.f1]
def ptL (n v : Int) (l2 : List S67) (l3 : List S69) : List Int := [96 + n, 48 + v] ++ (l2.flatMap ptF ++ l3.flatMap ptD)
def ptS (n v : Int) (l2 : List S67) (l3 : List S69) : ByteArray := if pkB n v l2 l3 = true then strOfNums (ptL n v l2 l3) else strOfNums []
set_option maxHeartbeats 8000000 in
set_option maxRecDepth 100000 in
theorem pt_no (n v : Int) (A2 : Option Addr) (c2 : Nat) (l2 : List S67) (A3 : Option Addr) (c3 : Nat) (l3 : List S69) (w : World) (hr2 : Kd.C k67 w A2 l2.length l2) (hc2 : l2.length ≤ c2) (hr3 : Kd.C k69 w A3 l3.length l3) (hc3 : l3.length ≤ c3) (hno : pkB n v l2 l3 = false) :
  Calls Tryd.prog 17 #[.agg #[.int .i64 n, .int .i64 v, .slice A2 l2.length c2, .slice A3 l3.length c3]] w fun e w' => e = .returned (.string ⟨#[]⟩) ∧ Below w.heap.size w w' := by
 have HR2 := Aside0.mk hr2
 have HR3 := Aside0.mk hr3
 have HC2 := Aside0.mk hc2
 have HC3 := Aside0.mk hc3
 have HN := Aside0.mk (show impl_PkgOk.f 0 n v l2 l3 = some false from congrArg some hno)
 clear hr2 hr3 hc2 hc3 hno
 go_enter Tryd.func17, Tryd.ntmps17
 go_wp2_with (go_at_call 23; with_reducible refine (impl_PkgOk.calls 0 n v A2 c2 l2 A3 c3 l3 false _ ?h1 HC2.out ?h2 HC3.out HN.out).mono ?_; (case h1 => exact zC HR2.out); (case h2 => exact zC HR3.out); rintro e w' ⟨rfl, hb⟩)
 go_wp2
 go_ret
 exact ⟨rfl, below_then (below_alloc (Below.refl _ _) _) (by simp) hb⟩
theorem pt_file (F0 F1 : Nat) : (⟨#[32]⟩ ++ ⟨#[UInt8.ofNat (48 + F0)]⟩ ++ ⟨#[58]⟩ ++ ⟨#[UInt8.ofNat (48 + F1)]⟩ : ByteArray) = strOfNums [32, 48 + (F0 : Int), 58, 48 + (F1 : Int)] := by
 rw [one_str, one_str, show (⟨#[32]⟩ : ByteArray) = strOfNums [32] from rfl, show (⟨#[58]⟩ : ByteArray) = strOfNums [58] from rfl, str_cat, str_cat, str_cat]
 rfl
theorem pt_dep (F0 F1 : Nat) : (⟨#[32]⟩ ++ (⟨#[UInt8.ofNat (96 + F0)]⟩ ++ ⟨#[UInt8.ofNat (48 + F1)]⟩) : ByteArray) = strOfNums [32, 96 + (F0 : Int), 48 + (F1 : Int)] := by
 rw [one_str, one_str, show (⟨#[32]⟩ : ByteArray) = strOfNums [32] from rfl, str_cat, str_cat]
 rfl
theorem pkB_nums {n v : Int} {l2 : List S67} {l3 : List S69} (h : pkB n v l2 l3 = true) :
  (1 ≤ n ∧ n ≤ 4) ∧ (1 ≤ v ∧ v ≤ 5) ∧ l2.length ≤ 2 ∧ l3.length ≤ 2 ∧ (∀ x : Int, 0 ≤ x → x < l2.length → (0 ≤ (rd_T67 l2 x).f0 ∧ (rd_T67 l2 x).f0 ≤ 5) ∧ (0 ≤ (rd_T67 l2 x).f1 ∧ (rd_T67 l2 x).f1 ≤ 9)) ∧
  (∀ x : Int, 0 ≤ x → x < l3.length → (1 ≤ (rd_T69 l3 x).f0 ∧ (rd_T69 l3 x).f0 ≤ 4) ∧ (1 ≤ (rd_T69 l3 x).f1 ∧ (rd_T69 l3 x).f1 ≤ 5)) := by
 unfold pkB pkpre at h
 simp only [Bool.and_eq_true, decide_eq_true_eq] at h
 obtain ⟨⟨h1, h2, h3, h4⟩, h5, h6⟩ := h
 refine ⟨inB_b h1, inB_b h2, h3, h4, fun x h0 hx => ?_, fun x h0 hx => ?_⟩
 ·have := okFrom_all _ _ h5 x.toNat (by omega) (by omega)
  unfold pkf1 at this
  simp only [Bool.and_eq_true] at this
  exact ⟨inB_b this.1, inB_b this.2.1⟩
 ·have := okFrom_all _ _ h6 x.toNat (by omega) (by omega)
  unfold pkd1 at this
  simp only [Bool.and_eq_true] at this
  exact ⟨inB_b this.1, inB_b this.2.2.1⟩
set_option maxHeartbeats 8000000 in
set_option maxRecDepth 100000 in
theorem pt_yes (n v : Nat) (A2 : Option Addr) (c2 : Nat) (l2 : List S67) (A3 : Option Addr) (c3 : Nat) (l3 : List S69) (w : World) (hr2 : Kd.C k67 w A2 l2.length l2) (hc2 : l2.length ≤ c2) (hr3 : Kd.C k69 w A3 l3.length l3) (hc3 : l3.length ≤ c3) (hyes : pkB n v l2 l3 = true) :
  Calls Tryd.prog 17 #[.agg #[.int .i64 n, .int .i64 v, .slice A2 l2.length c2, .slice A3 l3.length c3]] w fun e w' => e = .returned (.string (strOfNums (ptL n v l2 l3))) ∧ Below w.heap.size w w' := by
 have HR2 := Aside0.mk hr2
 have HR3 := Aside0.mk hr3
 have HC2 := Aside0.mk hc2
 have HC3 := Aside0.mk hc3
 obtain ⟨hn, hv, hl2, hl3, hf2, hf3⟩ := pkB_nums hyes
 have HN := Aside0.mk (show impl_PkgOk.f 0 n v l2 l3 = some true from congrArg some hyes)
 have HD := Aside0.mk (fun W => named_b n v (by omega) (by omega) (by omega) W)
 have HL2 := Aside0.mk hl2
 have HL3 := Aside0.mk hl3
 have HF2 := Aside0.mk hf2
 have HF3 := Aside0.mk hf3
 clear hr2 hr3 hc2 hc3 hyes hn hv hl2 hl3 hf2 hf3
 go_enter Tryd.func17, Tryd.ntmps17
 go_wp2_with (go_at_call 23; with_reducible refine (impl_PkgOk.calls 0 n v A2 c2 l2 A3 c3 l3 true _ ?h1 HC2.out ?h2 HC3.out HN.out).mono ?_; (case h1 => exact zC HR2.out); (case h2 => exact zC HR3.out); rintro e w1 ⟨rfl, hb⟩; refine Go.RowKit.Hid.out ?_)
 refine Go.Lib.hid ?_
 have HB := Aside0.mk (below_then (below_alloc (Below.refl w.heap.size w) _) (by simp) hb)
 have BK := Aside0.mk (blk_below (blk_new w _) hb)
 clear hb
 obtain ⟨gb, hgb⟩ : ∃ g, g = w.heap.size := ⟨_, rfl⟩
 rw [← hgb] at BK ⊢
 clear hgb
 have k0 : w1.cell? ⟨gb, 0, none⟩ = some (.int .i64 n) := (blk_cell BK.out 0).trans rfl
 have k1 : w1.cell? ⟨gb, 1, none⟩ = some (.int .i64 v) := (blk_cell BK.out 1).trans rfl
 have k2 : w1.cell? ⟨gb, 2, none⟩ = some (.slice A2 l2.length c2) := (blk_cell BK.out 2).trans rfl
 have k3 : w1.cell? ⟨gb, 3, none⟩ = some (.slice A3 l3.length c3) := (blk_cell BK.out 3).trans rfl
 go_wp2_with ((with_reducible refine gate_dst (N := 3) rfl ?_); refine box_event ?hg (N := 3) ?hd (cs := #[.pointer none, .slice none 0 0]) (t := 72) ?hr ?_; (case hd => rfl); (case hg => rfl); (case hr => first | (go_simp; done) | (go_simp; rfl)); intro b hbb w2 hbox hb; have HBB := Aside0.mk hbb; clear hbb; have HBX := Aside0.mk hbox; clear hbox; refine Go.RowKit.Hid.out ?_)
 refine Go.Lib.hid ?_
 have hbb := HBB.out
 have hbox := HBX.out
 clear HBB HBX
 have HI := Aside0.mk (show Lib.IsBuilder 72 5 b b [] w2 from .inl ⟨Nat.le_refl _, _, hbox, own_nil w2 b 5 1, by simp [Value.ownBlock]⟩)
 have n0_ := Aside0.mk (below_step HB.out hb)
 have n1_ := Aside0.mk (blk_below BK.out hb)
 have HG := Aside0.mk (show gb < b by rw [hbb]; exact blk_lt BK.out)
 have HS := Aside0.mk (show w.heap.size ≤ b by rw [hbb]; exact HB.out.size)
 have HT := Aside0.mk (blk_lt hbox)
 clear HB BK k0 k1 k2 k3 hbox hb hbb
 have HB := n0_
 have BK := n1_
 clear n0_ n1_
 have k0 : w2.cell? ⟨gb, 0, none⟩ = some (.int .i64 n) := (blk_cell BK.out 0).trans rfl
 have k1 : w2.cell? ⟨gb, 1, none⟩ = some (.int .i64 v) := (blk_cell BK.out 1).trans rfl
 have k2 : w2.cell? ⟨gb, 2, none⟩ = some (.slice A2 l2.length c2) := (blk_cell BK.out 2).trans rfl
 have k3 : w2.cell? ⟨gb, 3, none⟩ = some (.slice A3 l3.length c3) := (blk_cell BK.out 3).trans rfl
 obtain ⟨s0, hs0⟩ : ∃ s : ByteArray, s = (⟨#[UInt8.ofNat (96 + n)]⟩ ++ ⟨#[UInt8.ofNat (48 + v)]⟩) := ⟨_, rfl⟩
 rw [← hs0] at HD
 have HS0 := Aside0.mk hs0
 have hz0 : s0.size = 2 := by rw [hs0]; rfl
 have HZ0 := Aside0.mk hz0
 clear hs0 hz0
 go_wp2_with (first | (go_at_call 51; with_reducible refine (HD.out _).mono ?_; rintro e w' ⟨rfl, rfl⟩) | (go_at_call 50; with_reducible refine (bld_WriteString b b [] s0 _ HI.out ?h1 ?h2).mono ?_; (case h1 => rw [HZ0.out]; simp); (case h2 => exact Nat.le_of_lt HT.out); rintro e w3 ⟨rfl, hi, hb⟩; refine Go.RowKit.Hid.out ?_))
 refine Go.Lib.hid ?_
 have HI := Aside0.mk (show Lib.IsBuilder 72 5 b b (Lib.strCells (strOfNums ([96 + (n : Int), 48 + (v : Int)] ++ (l2.take (0 : Int).toNat).flatMap ptF))) w3 from .inr (by
  rw [show strOfNums ([96 + (n : Int), 48 + (v : Int)] ++ (l2.take (0 : Int).toNat).flatMap ptF) = s0 by rw [HS0.out]; rfl]
  exact hi))
 have n0_ := Aside0.mk (below_far HB.out HS.out hb)
 have n1_ := Aside0.mk ((hb.block gb HG.out).trans BK.out)
 have n2_ := Aside0.mk (Nat.lt_of_lt_of_le HT.out hb.size)
 clear HB BK k0 k1 k2 k3 hi hb HT HS0 HZ0 HD
 have HB := n0_
 have BK := n1_
 have HT := n2_
 clear n0_ n1_ n2_
 have k0 : w3.cell? ⟨gb, 0, none⟩ = some (.int .i64 n) := (blk_cell BK.out 0).trans rfl
 have k1 : w3.cell? ⟨gb, 1, none⟩ = some (.int .i64 v) := (blk_cell BK.out 1).trans rfl
 have k2 : w3.cell? ⟨gb, 2, none⟩ = some (.slice A2 l2.length c2) := (blk_cell BK.out 2).trans rfl
 have k3 : w3.cell? ⟨gb, 3, none⟩ = some (.slice A3 l3.length c3) := (blk_cell BK.out 3).trans rfl
 go_wp2
 go_loopw [20] (fun v5 w' => ∃ x : Int, 0 ≤ x ∧ x ≤ (l2.length : Int) ∧ v5 = .int .i64 x ∧ Aside0 (Lib.IsBuilder 72 5 b b (Lib.strCells (strOfNums ([96 + (n : Int), 48 + (v : Int)] ++ (l2.take x.toNat).flatMap ptF))) w') ∧ Aside0 (w'.heap[gb]? = some (.cells #[.int .i64 n, .int .i64 v, .slice A2 l2.length c2, .slice A3 l3.length c3] 31 (0, 0))) ∧ Aside0 (Below w.heap.size w w') ∧ Aside0 (b < w'.heap.size)) (fun v5 _ => l2.length - (intOf v5).toNat)
 case atStart => exact ⟨0, by omega, by omega, rfl, HI, BK, HB, HT⟩
 case round =>
  clear HI HB BK k0 k1 k2 k3 HT
  obtain ⟨x, hx0, hx1, rfl, HI, BK, HB, HT⟩ := hrel
  have k0 : wr.cell? ⟨gb, 0, none⟩ = some (.int .i64 n) := (blk_cell BK.out 0).trans rfl
  have k1 : wr.cell? ⟨gb, 1, none⟩ = some (.int .i64 v) := (blk_cell BK.out 1).trans rfl
  have k2 : wr.cell? ⟨gb, 2, none⟩ = some (.slice A2 l2.length c2) := (blk_cell BK.out 2).trans rfl
  have k3 : wr.cell? ⟨gb, 3, none⟩ = some (.slice A3 l3.length c3) := (blk_cell BK.out 3).trans rfl
  have hl2 := HL2.out
  by_cases hlt : x < (l2.length : Int)
  ·obtain ⟨ad, e, m0, m1⟩ := at_T67 HR2.out x hx0 hlt
   cases e
   replace m0 := (HB.out.cell (World.block_lt_of_cell? w _ m0)).trans m0
   replace m1 := (HB.out.cell (World.block_lt_of_cell? w _ m1)).trans m1
   obtain ⟨⟨r0, r1⟩, r2, r3⟩ := HF2.out x hx0 hlt
   obtain ⟨F0, hF0⟩ : ∃ F0 : Nat, (F0 : Int) = (rd_T67 l2 x).f0 := ⟨(rd_T67 l2 x).f0.toNat, by omega⟩
   obtain ⟨F1, hF1⟩ : ∃ F1 : Nat, (F1 : Int) = (rd_T67 l2 x).f1 := ⟨(rd_T67 l2 x).f1.toNat, by omega⟩
   rw [← hF0] at m0 r0 r1
   rw [← hF1] at m1 r2 r3
   have HF := Aside0.mk (And.intro hF0 hF1)
   clear hF0 hF1
   have q1 : decide (x < (l2.length : Int)) = true := decide_eq_true hlt
   have q2 : 0 ≤ x := hx0
   have I0 := fun W => Tryd.strconv_Itoa_small F0 (by omega) W
   have I1 := fun W => Tryd.strconv_Itoa_small F1 (by omega) W
   rw [one_digit F0 (by omega)] at I0
   rw [one_digit F1 (by omega)] at I1
   obtain ⟨d0, hd0⟩ : ∃ s : ByteArray, s = ⟨#[UInt8.ofNat (48 + F0)]⟩ := ⟨_, rfl⟩
   obtain ⟨d1, hd1⟩ : ∃ s : ByteArray, s = ⟨#[UInt8.ofNat (48 + F1)]⟩ := ⟨_, rfl⟩
   rw [← hd0] at I0
   rw [← hd1] at I1
   have z0 : d0.size = 1 := by rw [hd0]; rfl
   have z1 : d1.size = 1 := by rw [hd1]; rfl
   have HD := Aside0.mk (And.intro hd0 hd1)
   have J0 := Aside0.mk I0
   have J1 := Aside0.mk I1
   clear hd0 hd1 I0 I1 r0 r1 r2 r3
   go_wp2
   have n0_ := Aside0.mk (below_alloc HB.out (Obj.cells #[.int .i64 (F0 : Int), .int .i64 (F1 : Int)] 67))
   have n1_ := Aside0.mk (blk_alloc BK.out (Obj.cells #[.int .i64 (F0 : Int), .int .i64 (F1 : Int)] 67))
   have n2_ := Aside0.mk (ib_below HI.out (below_alloc (Below.refl _ wr) (Obj.cells #[.int .i64 (F0 : Int), .int .i64 (F1 : Int)] 67)))
   have n3_ := Aside0.mk (Nat.lt_of_lt_of_le HT.out (below_alloc (Below.refl _ wr) (Obj.cells #[.int .i64 (F0 : Int), .int .i64 (F1 : Int)] 67)).size)
   have f0 : (wr.alloc (Obj.cells #[.int .i64 (F0 : Int), .int .i64 (F1 : Int)] 67)).cell? ⟨wr.heap.size, 0, none⟩ = some (.int .i64 F0) := by simp
   have f1 : (wr.alloc (Obj.cells #[.int .i64 (F0 : Int), .int .i64 (F1 : Int)] 67)).cell? ⟨wr.heap.size, 1, none⟩ = some (.int .i64 F1) := by simp
   clear HB BK m0 m1 k0 k1 k2 k3 HI HT
   generalize wr.alloc (Obj.cells #[.int .i64 (F0 : Int), .int .i64 (F1 : Int)] 67) = W at n0_ n1_ n2_ n3_ f0 f1 ⊢
   generalize wr.heap.size = gf at f0 f1 ⊢
   have HB := n0_
   have BK := n1_
   have HI := n2_
   have HT := n3_
   clear n0_ n1_ n2_ n3_
   refine wp_region_still_tail 9 (by kernel_rfl) (by kernel_rfl) ?_
   simp only [List.take_succ_cons, List.take_zero, List.drop_succ_cons, List.drop_zero]
   repeat still_step
   still_call (J0.out _)
   repeat still_step
   still_call (J1.out _)
   repeat still_step
   refine wpStill_nil ?_
   have n0_ := Aside0.mk (below_drew HB.out)
   have n1_ := Aside0.mk (blk_drew BK.out)
   have n2_ := Aside0.mk (ib_below HI.out (below_drew (Below.refl _ W)))
   have n3_ := Aside0.mk (show b < W.drew.heap.size from HT.out)
   clear HB BK HI HT f0 f1
   have HB := n0_
   have BK := n1_
   have HI := n2_
   have HT := n3_
   clear n0_ n1_ n2_ n3_
   have HLN := Aside0.mk (show (Lib.strCells (strOfNums ([96 + (n : Int), 48 + (v : Int)] ++ (l2.take x.toNat).flatMap ptF))).length + (⟨#[32]⟩ ++ d0 ++ ⟨#[58]⟩ ++ d1 : ByteArray).size ≤ 140737488355328 by
    have h1 := flat_le ptF 4 (l2.take x.toNat) (fun _ _ => Nat.le_refl _)
    have h2 : (l2.take x.toNat).length ≤ l2.length := by rw [List.length_take]; omega
    simp only [Lib.strCells_length, strOfNums_size, List.length_append, List.length_cons, List.length_nil, ByteArray.size_append, z0, z1, show (⟨#[32]⟩ : ByteArray).size = 1 from rfl, show (⟨#[58]⟩ : ByteArray).size = 1 from rfl]
    omega)
   have HE := Aside0.mk (show Lib.strCells (strOfNums ([96 + (n : Int), 48 + (v : Int)] ++ (l2.take x.toNat).flatMap ptF)) ++ Lib.strCells (⟨#[32]⟩ ++ d0 ++ ⟨#[58]⟩ ++ d1) = Lib.strCells (strOfNums ([96 + (n : Int), 48 + (v : Int)] ++ (l2.take (x + 1).toNat).flatMap ptF)) by
    rw [HD.out.1, HD.out.2, pt_file, take_next ptF z67 l2 x hx0 hlt, ← str_cells, str_cat, List.append_assoc]
    congr 4
    rw [HF.out.1, HF.out.2]
    rfl)
   clear z0 z1
   go_wp2_with (go_at_call 50; with_reducible refine (bld_WriteString b b _ _ _ HI.out HLN.out (Nat.le_of_lt HT.out)).mono ?_; rintro e w4 ⟨rfl, hi, hb⟩; refine Go.RowKit.Hid.out ?_)
   refine Go.Lib.hid ?_
   rw [HE.out] at hi
   have n0_ := Aside0.mk (below_far HB.out HS.out hb)
   have n1_ := Aside0.mk ((hb.block gb HG.out).trans BK.out)
   have n2_ := Aside0.mk (Nat.lt_of_lt_of_le HT.out hb.size)
   have HI2 := Aside0.mk hi
   clear HB BK hi hb HT HE HLN HI
   go_wp2
   go_roundw
   case rel => exact ⟨x + 1, by omega, by omega, by first | rfl | simp, ⟨.inr HI2.out⟩, n1_, n0_, n2_⟩
   case measure => simp [intOf]; omega
  ·have hxe : x = (l2.length : Int) := by omega
   have q1 : decide (x < (l2.length : Int)) = false := decide_eq_false hlt
   replace HI := Aside0.mk (show Lib.IsBuilder 72 5 b b (Lib.strCells (strOfNums (([96 + (n : Int), 48 + (v : Int)] ++ l2.flatMap ptF) ++ (l3.take (0 : Int).toNat).flatMap ptD))) wr by
    have h_ := HI.out
    rw [hxe, Int.toNat_natCast, List.take_length] at h_
    simpa using h_)
   clear hxe hx0 hx1 hlt hl2
   go_wp2
   clear q1 k0 k1 k2 k3
   obtain ⟨W0, hW0⟩ : ∃ W, W = wr := ⟨_, rfl⟩
   rw [← hW0] at HB BK HI HT ⊢
   clear hW0
   go_loopw [38] (fun v5 w' => ∃ x : Int, 0 ≤ x ∧ x ≤ (l3.length : Int) ∧ v5 = .int .i64 x ∧ Aside0 (Lib.IsBuilder 72 5 b b (Lib.strCells (strOfNums (([96 + (n : Int), 48 + (v : Int)] ++ l2.flatMap ptF) ++ (l3.take x.toNat).flatMap ptD))) w') ∧ Aside0 (w'.heap[gb]? = some (.cells #[.int .i64 n, .int .i64 v, .slice A2 l2.length c2, .slice A3 l3.length c3] 31 (0, 0))) ∧ Aside0 (Below w.heap.size w w') ∧ Aside0 (b < w'.heap.size)) (fun v5 _ => l3.length - (intOf v5).toNat)
   case atStart => exact ⟨0, by omega, by omega, rfl, HI, BK, HB, HT⟩
   case round =>
    clear HI HB BK HT
    obtain ⟨x, hx0, hx1, rfl, HI, BK, HB, HT⟩ := hrel
    have hl3 := HL3.out
    by_cases hlt : x < (l3.length : Int)
    ·obtain ⟨ad, e, m0, m1⟩ := at_T69 HR3.out x hx0 hlt
     cases e
     replace m0 := (HB.out.cell (World.block_lt_of_cell? w _ m0)).trans m0
     replace m1 := (HB.out.cell (World.block_lt_of_cell? w _ m1)).trans m1
     obtain ⟨⟨r0, r1⟩, r2, r3⟩ := HF3.out x hx0 hlt
     obtain ⟨F0, hF0⟩ : ∃ F0 : Nat, (F0 : Int) = (rd_T69 l3 x).f0 := ⟨(rd_T69 l3 x).f0.toNat, by omega⟩
     obtain ⟨F1, hF1⟩ : ∃ F1 : Nat, (F1 : Int) = (rd_T69 l3 x).f1 := ⟨(rd_T69 l3 x).f1.toNat, by omega⟩
     rw [← hF0] at m0 r0 r1
     rw [← hF1] at m1 r2 r3
     have HF := Aside0.mk (And.intro hF0 hF1)
     clear hF0 hF1
     have q1 : decide (x < (l3.length : Int)) = true := decide_eq_true hlt
     have q2 : 0 ≤ x := hx0
     have I0 := fun W => named_b F0 F1 (by omega) (by omega) (by omega) W
     obtain ⟨d0, hd0⟩ : ∃ s : ByteArray, s = (⟨#[UInt8.ofNat (96 + F0)]⟩ ++ ⟨#[UInt8.ofNat (48 + F1)]⟩) := ⟨_, rfl⟩
     rw [← hd0] at I0
     have z0 : d0.size = 2 := by rw [hd0]; rfl
     have HD := Aside0.mk hd0
     have J0 := Aside0.mk I0
     clear hd0 I0 r0 r1 r2 r3
     go_wp2_with (go_at_call 51; with_reducible refine (J0.out _).mono ?_; rintro e wx ⟨rfl, hwx⟩; have HWX := Aside0.mk hwx; clear hwx; refine Go.RowKit.Hid.out ?_)
     refine Go.Lib.hid ?_
     have hwx := HWX.out
     have HBX : Below wr.heap.size wr wx := by rw [hwx]; exact below_alloc (Below.refl _ wr) _
     clear HWX hwx
     have n0_ := Aside0.mk (below_step HB.out HBX)
     have n1_ := Aside0.mk (blk_below BK.out HBX)
     have n2_ := Aside0.mk (ib_below HI.out HBX)
     have n3_ := Aside0.mk (Nat.lt_of_lt_of_le HT.out HBX.size)
     clear HB BK m0 m1 HI HT HBX
     have HB := n0_
     have BK := n1_
     have HI := n2_
     have HT := n3_
     clear n0_ n1_ n2_ n3_
     have HLN := Aside0.mk (show (Lib.strCells (strOfNums (([96 + (n : Int), 48 + (v : Int)] ++ l2.flatMap ptF) ++ (l3.take x.toNat).flatMap ptD))).length + (⟨#[32]⟩ ++ d0 : ByteArray).size ≤ 140737488355328 by
      have h1 := flat_le ptD 3 (l3.take x.toNat) (fun _ _ => Nat.le_refl _)
      have h2 : (l3.take x.toNat).length ≤ l3.length := by rw [List.length_take]; omega
      have h3 := flat_le ptF 4 l2 (fun _ _ => Nat.le_refl _)
      have h4 := HL2.out
      simp only [Lib.strCells_length, strOfNums_size, List.length_append, List.length_cons, List.length_nil, ByteArray.size_append, z0, show (⟨#[32]⟩ : ByteArray).size = 1 from rfl]
      omega)
     have HE := Aside0.mk (show Lib.strCells (strOfNums (([96 + (n : Int), 48 + (v : Int)] ++ l2.flatMap ptF) ++ (l3.take x.toNat).flatMap ptD)) ++ Lib.strCells (⟨#[32]⟩ ++ d0) = Lib.strCells (strOfNums (([96 + (n : Int), 48 + (v : Int)] ++ l2.flatMap ptF) ++ (l3.take (x + 1).toNat).flatMap ptD)) by
      rw [HD.out, pt_dep, take_next ptD z69 l3 x hx0 hlt, ← str_cells, str_cat, List.append_assoc]
      congr 4
      rw [HF.out.1, HF.out.2]
      rfl)
     go_wp2_with (go_at_call 50; with_reducible refine (bld_WriteString b b _ _ _ HI.out HLN.out (Nat.le_of_lt HT.out)).mono ?_; rintro e w4 ⟨rfl, hi, hb⟩; refine Go.RowKit.Hid.out ?_)
     refine Go.Lib.hid ?_
     rw [HE.out] at hi
     have n0_ := Aside0.mk (below_far HB.out HS.out hb)
     have n1_ := Aside0.mk ((hb.block gb HG.out).trans BK.out)
     have n2_ := Aside0.mk (Nat.lt_of_lt_of_le HT.out hb.size)
     have HI2 := Aside0.mk hi
     clear HB BK hi hb HT HE HLN HI z0
     go_wp2
     go_roundw
     case rel => exact ⟨x + 1, by omega, by omega, by first | rfl | simp, ⟨.inr HI2.out⟩, n1_, n0_, n2_⟩
     case measure => simp [intOf]; omega
    ·have hxe : x = (l3.length : Int) := by omega
     have q1 : decide (x < (l3.length : Int)) = false := decide_eq_false hlt
     replace HI := Aside0.mk (show Lib.IsBuilder 72 5 b b (Lib.byteCells (strOfNums (ptL n v l2 l3)).data.toList) wr by
      have h_ := HI.out
      rw [hxe, Int.toNat_natCast, List.take_length] at h_
      unfold ptL
      rw [← List.append_assoc]
      exact h_)
     clear hxe hx0 hx1 hlt hl3
     go_wp2_with (go_at_call 53; with_reducible refine (Tryd.Builder_String_any b b _ _ HI.out (Nat.le_of_lt HT.out)).mono ?_; rintro e w5 ⟨rfl, hb⟩)
     go_ret
     exact ⟨by first | rfl | simp [*], below_far HB.out HS.out hb⟩
def impl_PkgText.f (_k : Nat) (n v : Int) (l2 : List S67) (l3 : List S69) : Option ByteArray := some (ptS n v l2 l3)
theorem impl_PkgText.mono : ∀ a0 a1 a2 a3 k, LeO (impl_PkgText.f k a0 a1 a2 a3) (impl_PkgText.f (k + 1) a0 a1 a2 a3) := fun _ _ _ _ _ _ h => h
theorem impl_PkgText.calls (k : Nat) (a0_0 : Int) (a0_1 : Int) (A0_2 : Option Addr) (c0_2 : Nat) (l0_2 : List S67) (A0_3 : Option Addr) (c0_3 : Nat) (l0_3 : List S69) (r : ByteArray) (w : World) (hr0_2 : Kd.C k67 w A0_2 l0_2.length l0_2) (hc0_2 : l0_2.length ≤ c0_2) (hr0_3 : Kd.C k69 w A0_3 l0_3.length l0_3) (hc0_3 : l0_3.length ≤ c0_3) (h : impl_PkgText.f k a0_0 a0_1 l0_2 l0_3 = some r) :
  Calls Tryd.prog 17 #[.agg #[.int .i64 a0_0, .int .i64 a0_1, .slice A0_2 l0_2.length c0_2, .slice A0_3 l0_3.length c0_3]] w fun e w' => e = .returned (.string r) ∧ Below w.heap.size w w' := by
 obtain rfl := Option.some.inj h
 cases hp : pkB a0_0 a0_1 l0_2 l0_3 with
 | true =>
  obtain ⟨⟨h1, _⟩, ⟨h2, _⟩, _⟩ := pkB_nums hp
  obtain ⟨n, rfl⟩ : ∃ n : Nat, (n : Int) = a0_0 := ⟨a0_0.toNat, by omega⟩
  obtain ⟨v, rfl⟩ : ∃ n : Nat, (n : Int) = a0_1 := ⟨a0_1.toNat, by omega⟩
  rw [ptS, if_pos hp]
  exact pt_yes n v A0_2 c0_2 l0_2 A0_3 c0_3 l0_3 w hr0_2 hc0_2 hr0_3 hc0_3 hp
 | false =>
  rw [ptS, if_neg (by rw [hp]; decide)]
  exact pt_no a0_0 a0_1 A0_2 c0_2 l0_2 A0_3 c0_3 l0_3 w hr0_2 hc0_2 hr0_3 hc0_3 hp

/-! ### strings_Split: function 56 -/
def strings_Split.f (s sep : ByteArray) : Option (List ByteArray) := if s.size < 4294967281 ∧ 1 ≤ sep.size then some (Lib.splitB sep 0 (Lib.countB s sep) s) else none
theorem strings_Split.calls (a0 a1 : ByteArray) (r : List ByteArray) (w : World) (hLD : LaidW w) (h : strings_Split.f a0 a1 = some r) :
  Calls Tryd.prog 56 #[.string a0, .string a1] w fun e w' => ∃ v0_ : Value, e = .returned v0_ ∧ Kd.R Kd.string 9 w' w.heap.size (fun _ => True) v0_ r ∧ Below w.heap.size w w' := by
 unfold strings_Split.f at h
 split at h
 ·rename_i hc
  obtain rfl := Option.some.inj h
  obtain ⟨m, hm⟩ := hLD.len
  refine (Tryd.strings_Split a0 a1 m w hc.1 hm hc.2).mono ?_
  rintro e w' ⟨rfl, rfl⟩
  have hl := Lib.splitB_all a1 hc.2 0 (Lib.countB a0 a1) a0 rfl
  have hb := Lib.countB_le a1 hc.2 a0.size a0 (Nat.le_refl _)
  refine ⟨_, rfl, Kd.R_of_own ?_ (fun _ _ => trivial), below_alloc (Below.refl _ _) _⟩
  rw [← hl]
  exact own_lit_of w w.heap.size 9 _ (Nat.le_refl _) (by omega)
 ·cases h

/-! ### strconv_Atoi: function 59 -/
def atV (s : ByteArray) : Int := match Lib.atoiAll s.data.toList with
 | .ok v => v
 | .range => Lib.atoiSat s.data.toList
 | _ => 0
def strconv_Atoi.f (s : ByteArray) : Option (Int × Option Int) := if s.size ≤ 281474976710656 then some (atV s, none) else none
theorem strconv_Atoi.calls (a0 : ByteArray) (r1 : Int) (r2 : Option Int) (w : World) (hLD : LaidW w) (h : strconv_Atoi.f a0 = some (r1, r2)) :
  Calls Tryd.prog 59 #[.string a0] w fun e w' => ∃ ev : Value, e = .returned (.tuple #[.int .i64 r1, ev]) ∧ Below w.heap.size w w' := by
 unfold strconv_Atoi.f at h
 split at h
 ·rename_i hc
  obtain ⟨rfl, _⟩ := Prod.mk.inj (Option.some.inj h)
  unfold atV
  cases ha : Lib.atoiAll a0.data.toList with
  | ok v =>
   refine (Tryd.strconv_Atoi_ok a0 (by omega) v ha w).mono ?_
   rintro e w' ⟨rfl, hw⟩
   refine ⟨_, rfl, ?_⟩
   rcases hw with rfl | ⟨t, rfl⟩
   ·exact Below.refl _ _
   ·exact Lib.bytesWorld_below w _ t
  | range =>
   obtain ⟨ev, hv, hev⟩ := hLD.ran
   refine (Tryd.strconv_Atoi_range a0 hc ha ev w hv hev).mono ?_
   rintro e w' ⟨N, rfl, _, _, hb⟩
   exact ⟨_, rfl, hb⟩
  | _ =>
   obtain ⟨ev, hv, hev⟩ := hLD.syn
   refine (Tryd.strconv_Atoi_syntax a0 hc ha ev w hv hev).mono ?_
   rintro e w' ⟨N, rfl, _, _, hb⟩
   exact ⟨_, rfl, hb⟩
 ·cases h

/-! ### impl_nameRead: function 57 -/
def impl_nameRead.f (a0 : ByteArray) : Option (Int × Int) := if a0.toList = ([] : List UInt8) then (some (0, 0)) else (if 1 ≤ (a0.size : Int) then ((strconv_Atoi.f (a0.extract 1 a0.size)).bind fun bt107 => (if 0 < (a0.size : Int) then (some (wrap64 ((wrap64 ((wrap64 (bt a0 0)) - 97)) + 1), bt107.1)) else (none))) else (none))
set_option maxHeartbeats 8000000 in
set_option maxRecDepth 100000 in
theorem impl_nameRead.calls (a0 : ByteArray) (r1 : Int) (r2 : Int) (w : World) (hLD : LaidW w) (h : impl_nameRead.f a0 = some (r1, r2)) :
  Calls Tryd.prog 57 #[.string a0] w fun e w' => e = .returned (.tuple #[.int .i64 r1, .int .i64 r2]) ∧ Below w.heap.size w w' := by
 have HB := Aside0.mk (Below.refl w.heap.size w)
 have HLD := Aside0.mk hLD
 clear hLD
 have H : (if a0.toList = ([] : List UInt8) then (some (0, 0)) else (if 1 ≤ (a0.size : Int) then ((strconv_Atoi.f (a0.extract 1 a0.size)).bind fun bt107 => (if 0 < (a0.size : Int) then (some (wrap64 ((wrap64 ((wrap64 (bt a0 0)) - 97)) + 1), bt107.1)) else (none))) else (none))) = some (r1, r2) := h
 clear h
 by_cases c2 : a0.toList = ([] : List UInt8)
 ·rw [if_pos c2] at H
  have c2b0 : (a0.toList == ([] : List UInt8)) = true := beq_iff_eq.mpr c2
  have c2b1 : (a0.toList != ([] : List UInt8)) = false := bne_eq_false_iff_eq.mpr c2
  clear c2
  simp only [Option.some.injEq, Prod.mk.injEq] at H
  obtain ⟨rfl, rfl⟩ := H
  go_enter Tryd.func57, Tryd.ntmps57
  go_wp2
  go_ret2
  exact ⟨by first | rfl | (simp [errW_none, errW_some] <;> rfl) | (simp [*, errW_none, errW_some] <;> rfl), by exact zB HB.out⟩
 ·rw [if_neg c2] at H
  have c2b0 : (a0.toList == ([] : List UInt8)) = false := beq_eq_false_iff_ne.mpr c2
  have c2b1 : (a0.toList != ([] : List UInt8)) = true := bne_iff_ne.mpr c2
  by_cases c3 : 1 ≤ (a0.size : Int)
  ·rw [if_pos c3] at H
   have c3b0 := eq_true c3
   have c3b1 : decide (1 ≤ (a0.size : Int)) = true := decide_eq_true c3
   clear c3
   replace H := Option.bind_eq_some_iff.mp H
   obtain ⟨⟨t107, t108⟩, A40, H⟩ := H
   replace H : (if 0 < (a0.size : Int) then (some (wrap64 ((wrap64 ((wrap64 (bt a0 0)) - 97)) + 1), t107)) else (none)) = some (r1, r2) := H
   have A4 := Aside0.mk A40
   clear A40
   by_cases c5 : 0 < (a0.size : Int)
   ·rw [if_pos c5] at H
    have c5b0 : decide (0 < (a0.size : Int)) = true := decide_eq_true c5
    have c5b1 : decide (0 < a0.size) = true := decide_eq_true (by omega)
    clear c5
    simp only [Option.some.injEq, Prod.mk.injEq] at H
    obtain ⟨rfl, rfl⟩ := H
    go_enter Tryd.func57, Tryd.ntmps57
    go_wp2_with (first | ((with_reducible refine gate_callee (f := 59) rfl ?_); refine goesL_ (some 11) rfl rfl Tryd.func59 (by kernel_rfl) rfl #[.string (a0.extract 1 a0.size)] rfl (by (try simp only [zm1, zm2, zm3]); first | done | rfl | (simp only [List.length_drop, List.length_take]; rfl)) ?_; (with_reducible refine (strconv_Atoi.calls (a0.extract 1 a0.size) t107 t108 _ ?sideL A4.out).mono ?_); (case sideL => exact HLD.out.on (by exact zB HB.out)); rintro e w7 ⟨ev_, rfl, hb⟩; refine ⟨_, rfl, ?_⟩; have n0_ := Aside0.mk (below_step (by exact zB HB.out) hb); clear HB; have HB := n0_; clear n0_; (try clear hb); (try clear hb2); (try clear hk); (try clear hi); (try simp only [errW_none, errW_some]); have p6 : 0 ≤ (0 : Int) := (by omega); have q6 : 0 < a0.size := (by have : (0 : Int) < (a0.size : Int) := of_decide_eq_true (by first | (with_reducible assumption) | assumption); omega); have hx6 : ∀ h : 0 < a0.size, ((a0[0]'h).toNat : Int) = bt a0 0 := bt_at a0 0; clear p6; have qi6 : (0 < (a0.size : Int)) = True := eq_true (of_decide_eq_true (by first | (with_reducible assumption) | assumption)); replace q6 := eq_true q6))
    go_ret2
    exact ⟨by first | rfl | (simp [errW_none, errW_some] <;> rfl) | (simp [*, errW_none, errW_some] <;> rfl), by exact zB HB.out⟩
   ·rw [if_neg c5] at H
    exact absurd H (by simp)
  ·rw [if_neg c3] at H
   exact absurd H (by simp)

/-! ### strings_Cut: function 58 -/
def strings_Cut.f (s sep : ByteArray) : Option (ByteArray × ByteArray × Bool) := if s.size < 4294967281 then some (⟨(Lib.cut s.data.toList sep.data.toList).1.toArray⟩, ⟨(Lib.cut s.data.toList sep.data.toList).2.1.toArray⟩, (Lib.cut s.data.toList sep.data.toList).2.2) else none
theorem strings_Cut.calls (a0 a1 : ByteArray) (r1 r2 : ByteArray) (r3 : Bool) (w : World) (hLD : LaidW w) (h : strings_Cut.f a0 a1 = some (r1, r2, r3)) :
  Calls Tryd.prog 58 #[.string a0, .string a1] w fun e w' => e = .returned (.tuple #[.string r1, .string r2, .bool r3]) ∧ Below w.heap.size w w' := by
 unfold strings_Cut.f at h
 split at h
 ·rename_i hc
  obtain ⟨e1, e2⟩ := Prod.mk.inj (Option.some.inj h)
  obtain ⟨e3, e4⟩ := Prod.mk.inj e2
  subst e1 e3 e4
  obtain ⟨m, hm⟩ := hLD.len
  refine (Tryd.strings_Cut a0 a1 m w hc hm).mono ?_
  rintro e w' ⟨rfl, n, rfl⟩
  exact ⟨rfl, pw_below_drewN (Below.refl _ _) n⟩
 ·cases h

/-! ### impl_PkgRead: function 19 -/
def impl_PkgRead.l0 : Nat → ByteArray → List ByteArray → Int → Int → Int → Int → List (S67) → List (S69) → Option (Int × Int × (List (S67)) × (List (S69)) × Bool)
 | 0, _, _, _, _, _, _, _, _ => none
 | k + 1, x0, x33, x34, x35, x114000, x114001, x114002, x114003 => if x35 < x34 then (if 0 ≤ x35 then (if x35 < (x33.length : Int) then ((strings_Cut.f (rdOf ByteArray.empty x33 x35) (⟨#[58]⟩ : ByteArray)).bind fun bt122 => (if bt122.2.2 = true then ((strconv_Atoi.f bt122.1).bind fun bt125 => ((strconv_Atoi.f bt122.2.1).bind fun bt127 => (if x114002.length < 8796093022208 then (impl_PkgRead.l0 k x0 x33 x34 (wrap64 (x35 + 1)) x114000 x114001 (x114002 ++ [(⟨bt125.1, bt127.1⟩ : S67)]) x114003) else (none)))) else ((impl_nameRead.f (rdOf ByteArray.empty x33 x35)).bind fun bt132 => (if x114003.length < 8796093022208 then (impl_PkgRead.l0 k x0 x33 x34 (wrap64 (x35 + 1)) x114000 x114001 x114002 (x114003 ++ [(⟨bt132.1, bt132.2⟩ : S69)])) else (none))))) else (none)) else (none)) else ((impl_PkgOk.f k x114000 x114001 x114002 x114003).bind fun t137 => (if t137 = true then ((impl_PkgText.f k x114000 x114001 x114002 x114003).bind fun t138 => (if t138.toList = x0.toList then (some (x114000, x114001, x114002, x114003, true)) else (some (0, 0, ([] : List (S67)), ([] : List (S69)), false)))) else (some (0, 0, ([] : List (S67)), ([] : List (S69)), false))))
def impl_PkgRead.f (k : Nat) (a0 : ByteArray) : Option (Int × Int × (List (S67)) × (List (S69)) × Bool) := if (a0.size : Int) > 30 then (some (0, 0, ([] : List (S67)), ([] : List (S69)), false)) else ((strings_Split.f a0 (⟨#[32]⟩ : ByteArray)).bind fun t110 => (if 0 < (t110.length : Int) then ((impl_nameRead.f (rdOf ByteArray.empty t110 0)).bind fun bt115 => (if 1 ≤ (t110.length : Int) then ((some (t110.drop 1 : List ByteArray)).bind fun y117 => (impl_PkgRead.l0 k a0 y117 (y117.length : Int) 0 bt115.1 bt115.2 ([] : List (S67)) ([] : List (S69)))) else (none))) else (none)))
theorem impl_PkgRead.mono_l : ∀ k, (∀ y0 y1 y2 y3 y4 y5 y6 y7, LeO (impl_PkgRead.l0 k y0 y1 y2 y3 y4 y5 y6 y7) (impl_PkgRead.l0 (k + 1) y0 y1 y2 y3 y4 y5 y6 y7))
 | 0 => fun _ _ _ _ _ _ _ _ r h => by simp [impl_PkgRead.l0] at h
 | k + 1 => by
  have ih0 := impl_PkgRead.mono_l k
  ·intro y0 y1 y2 y3 y4 y5 y6 y7
   unfold impl_PkgRead.l0
   repeat' first
   | (with_reducible exact ih0 _ _ _ _ _ _ _ _)
   | (with_reducible exact impl_PkgOk.mono _ _ _ _ _)
   | (with_reducible exact impl_PkgText.mono _ _ _ _ _)
   | (with_reducible exact LeO.refl _)
   | (with_reducible exact LeO.none _)
   | (with_reducible refine LeO.ite ?_ ?_)
   | (with_reducible refine LeO.bind ?_ (fun _ => ?_))
   | exact ih0 _ _ _ _ _ _ _ _
   | exact impl_PkgOk.mono _ _ _ _ _
   | exact impl_PkgText.mono _ _ _ _ _
   | exact LeO.none _
   | refine LeO.ite ?_ ?_
   | refine LeO.bind ?_ (fun _ => ?_)
theorem impl_PkgRead.mono : ∀ a0 k, LeO (impl_PkgRead.f k a0) (impl_PkgRead.f (k + 1) a0) := by
 intro a0 k
 have ih0 := impl_PkgRead.mono_l k
 unfold impl_PkgRead.f
 repeat' first
   | (with_reducible exact ih0 _ _ _ _ _ _ _ _)
   | (with_reducible exact impl_PkgOk.mono _ _ _ _ _)
   | (with_reducible exact impl_PkgText.mono _ _ _ _ _)
   | (with_reducible exact LeO.refl _)
   | (with_reducible exact LeO.none _)
   | (with_reducible refine LeO.ite ?_ ?_)
   | (with_reducible refine LeO.bind ?_ (fun _ => ?_))
   | exact ih0 _ _ _ _ _ _ _ _
   | exact impl_PkgOk.mono _ _ _ _ _
   | exact impl_PkgText.mono _ _ _ _ _
   | exact LeO.none _
   | refine LeO.ite ?_ ?_
   | refine LeO.bind ?_ (fun _ => ?_)
theorem zcell {w w1 : World} {a : Addr} (h : w1.heap[a.block]? = w.heap[a.block]?) : w1.cell? a = w.cell? a := by unfold World.cell?; rw [h]
theorem zadd (a : Addr) (n : Nat) : (a.add n).block = a.block := by unfold Addr.add; split <;> rfl
theorem zdrop {a b : Addr} {c : Prop} {d : Decidable c} {n : Nat} (h : some a = (if c then some b else (some b : Option Addr).map (·.add n))) : a.block = b.block := by
 split at h
 ·rw [Option.some.inj h]
 ·rw [Option.some.inj h, zadd]
set_option maxHeartbeats 8000000 in
set_option maxRecDepth 100000 in
theorem impl_PkgRead.calls (k : Nat) (a0 : ByteArray) (r1 : Int) (r2 : Int) (r3 : List (S67)) (r4 : List (S69)) (r5 : Bool) (w : World) (hLD : LaidW w) (h : impl_PkgRead.f k a0 = some (r1, r2, r3, r4, r5)) :
  Calls Tryd.prog 19 #[.string a0] w fun e w' => ∃ v2_ v3_ : Value, e = .returned (.tuple #[.agg #[.int .i64 r1, .int .i64 r2, v2_, v3_], .bool r5]) ∧ Kd.R k67 67 w' w.heap.size (fun _ => True) v2_ r3 ∧ Kd.R k69 69 w' w.heap.size (fun _ => True) v3_ r4 ∧ Below w.heap.size w w' := by
 have hu31 := Tryd.underlying31
 have hu67 := Tryd.underlying67
 have hu69 := Tryd.underlying69
 have HB := Aside0.mk (Below.refl w.heap.size w)
 have HLD := Aside0.mk hLD
 clear hLD
 have H : (if (a0.size : Int) > 30 then (some (0, 0, ([] : List (S67)), ([] : List (S69)), false)) else ((strings_Split.f a0 (⟨#[32]⟩ : ByteArray)).bind fun t110 => (if 0 < (t110.length : Int) then ((impl_nameRead.f (rdOf ByteArray.empty t110 0)).bind fun bt115 => (if 1 ≤ (t110.length : Int) then ((some (t110.drop 1 : List ByteArray)).bind fun y117 => (impl_PkgRead.l0 k a0 y117 (y117.length : Int) 0 bt115.1 bt115.2 ([] : List (S67)) ([] : List (S69)))) else (none))) else (none)))) = some (r1, r2, r3, r4, r5) := h
 clear h
 by_cases c2 : (a0.size : Int) > 30
 ·rw [if_pos c2] at H
  have c2b0 : decide (30 < (a0.size : Int)) = true := decide_eq_true c2
  have c2b1 : decide (30 < a0.size) = true := decide_eq_true (by omega)
  clear c2
  simp only [Option.some.injEq, Prod.mk.injEq] at H
  obtain ⟨rfl, rfl, rfl, rfl, rfl⟩ := H
  go_enter Tryd.func19, Tryd.ntmps19
  go_wp2_with (first | ((with_reducible refine gate_dst (N := 2) rfl ?_); refine box_event ?hg (N := 2) ?hd (cs := #[.int .i64 0, .int .i64 0, .slice none 0 0, .slice none 0 0]) (t := 31) ?hr ?_; (case hd => rfl); (case hg => rfl); (case hr => first | (go_simp; done) | (go_simp; rfl)); intro gb109 hg w3 hbox hb; have n0_ := Aside0.mk (below_step (by exact zB HB.out) hb); have n1_ := Aside0.mk (hbox); have n2_ := Aside0.mk ((by rw [hg]; exact (below_size (by exact zB HB.out)) : w.heap.size ≤ gb109)); have n3_ := Aside0.mk ((by rw [hg]; exact (below_size (by exact zB HB.out)) : w.heap.size ≤ gb109)); clear HB; have HB := n0_; have BK109 := n1_; have GW109 := n2_; have GE109 := n3_; clear n0_ n1_ n2_ n3_; clear hb hbox hg; obtain ⟨hcz4_0, hcz4_1, hcz4_2, hcz4_3, hfz4_0, hfz4_1, hfz4_2, hfz4_3⟩ := zc4f BK109.out))
  refine bodyPost_ret (results_ct rfl _ _ gb109 31 #[.int .i64 0, .int .i64 0, .slice none 0 0, .slice none 0 0] (0, 0) _ rfl (by (with_reducible repeat (first | refine blk_drewN ?_ _ | refine blk_drew ?_ | refine blk_alloc ?_ _)); refine blk_put (cs := #[.int .i64 0, .int .i64 0, .slice none 0 0, .slice none 0 0]) ?_ 3 _ rfl; (with_reducible repeat (first | refine blk_drewN ?_ _ | refine blk_drew ?_ | refine blk_alloc ?_ _)); refine blk_put (cs := #[.int .i64 0, .int .i64 0, .slice none 0 0, .slice none 0 0]) ?_ 2 _ rfl; (with_reducible repeat (first | refine blk_drewN ?_ _ | refine blk_drew ?_ | refine blk_alloc ?_ _)); refine blk_put (cs := #[.int .i64 0, .int .i64 0, .slice none 0 0, .slice none 0 0]) ?_ 1 _ rfl; (with_reducible repeat (first | refine blk_drewN ?_ _ | refine blk_drew ?_ | refine blk_alloc ?_ _)); refine blk_put (cs := #[.int .i64 0, .int .i64 0, .slice none 0 0, .slice none 0 0]) ?_ 0 _ rfl; exact zK BK109.out) Tryd.underlying31 rfl (by kernel_rfl)) rfl ?_
  exact ⟨_, _, by first | rfl | (simp [errW_none, errW_some] <;> rfl) | (simp [*, errW_none, errW_some] <;> rfl), by first | exact Kd.R_nil _ _ _ _ _ | exact Kd.N_nil _ _ _ _ _ | exact Kd.V_nil _ _ _ _ _ | exact Kd.Q_nil _ _ _ _ _ | exact Kd.S_nil _ _ _ _ _, by first | exact Kd.R_nil _ _ _ _ _ | exact Kd.N_nil _ _ _ _ _ | exact Kd.V_nil _ _ _ _ _ | exact Kd.Q_nil _ _ _ _ _ | exact Kd.S_nil _ _ _ _ _, by exact zB1 HB.out GE109.out⟩
 ·rw [if_neg c2] at H
  have c2b0 : decide (30 < (a0.size : Int)) = false := decide_eq_false c2
  have c2b1 : decide (30 < a0.size) = false := decide_eq_false (by omega)
  clear c2
  replace H := Option.bind_eq_some_iff.mp H
  obtain ⟨t110, A50, H⟩ := H
  replace H : (if 0 < (t110.length : Int) then ((impl_nameRead.f (rdOf ByteArray.empty t110 0)).bind fun bt115 => (if 1 ≤ (t110.length : Int) then ((some (t110.drop 1 : List ByteArray)).bind fun y117 => (impl_PkgRead.l0 k a0 y117 (y117.length : Int) 0 bt115.1 bt115.2 ([] : List (S67)) ([] : List (S69)))) else (none))) else (none)) = some (r1, r2, r3, r4, r5) := H
  have A5 := Aside0.mk A50
  clear A50
  by_cases c6 : 0 < (t110.length : Int)
  ·rw [if_pos c6] at H
   have c6b0 : decide (0 < (t110.length : Int)) = true := decide_eq_true c6
   have c6b1 : decide (0 < t110.length) = true := decide_eq_true (by omega)
   clear c6
   replace H := Option.bind_eq_some_iff.mp H
   obtain ⟨⟨t115, t116⟩, A70, H⟩ := H
   replace H : (if 1 ≤ (t110.length : Int) then ((some (t110.drop 1 : List ByteArray)).bind fun y117 => (impl_PkgRead.l0 k a0 y117 (y117.length : Int) 0 t115 t116 ([] : List (S67)) ([] : List (S69)))) else (none)) = some (r1, r2, r3, r4, r5) := H
   have A7 := Aside0.mk A70
   clear A70
   by_cases c8 : 1 ≤ (t110.length : Int)
   ·rw [if_pos c8] at H
    have c8b0 := eq_true c8
    have c8b1 : decide (1 ≤ (t110.length : Int)) = true := decide_eq_true c8
    clear c8
    obtain ⟨y117, hy117⟩ : ∃ y_ : List ByteArray, y_ = (t110.drop 1) := ⟨_, rfl⟩
    replace H : (impl_PkgRead.l0 k a0 y117 (y117.length : Int) 0 t115 t116 ([] : List (S67)) ([] : List (S69))) = some (r1, r2, r3, r4, r5) := by first | (rw [hy117]; with_reducible exact H) | (have H2_ := (Option.bind_some _ _).symm.trans H; rw [hy117]; with_reducible exact H2_) | (have H2_ := (Option.bind_some _ _).symm.trans H; with_reducible exact H2_) | with_reducible exact H | (rw [hy117]; exact H) | exact H
    have Ny117 := Aside0.mk hy117
    clear hy117
    have H' := Aside0.mk H
    clear H
    go_enter Tryd.func19, Tryd.ntmps19
    go_wp2_with (first | ((with_reducible refine gate_dst (N := 2) rfl ?_); refine box_event ?hg (N := 2) ?hd (cs := #[.int .i64 0, .int .i64 0, .slice none 0 0, .slice none 0 0]) (t := 31) ?hr ?_; (case hd => rfl); (case hg => rfl); (case hr => first | (go_simp; done) | (go_simp; rfl)); intro gb109 hg w9 hbox hb; have n0_ := Aside0.mk (below_step (by exact zB HB.out) hb); have n1_ := Aside0.mk (hbox); have n2_ := Aside0.mk ((by rw [hg]; exact (below_size (by exact zB HB.out)) : w.heap.size ≤ gb109)); have n3_ := Aside0.mk ((by rw [hg]; exact (below_size (by exact zB HB.out)) : w.heap.size ≤ gb109)); clear HB; have HB := n0_; have BK109 := n1_; have GW109 := n2_; have GE109 := n3_; clear n0_ n1_ n2_ n3_; clear hb hbox hg) | ((with_reducible refine gate_callee (f := 56) rfl ?_); refine goesL_ (some 22) rfl rfl Tryd.func56 (by kernel_rfl) rfl #[.string a0, .string (⟨#[32]⟩ : ByteArray)] rfl (by (try simp only [zm1, zm2, zm3]); first | done | rfl | (simp only [List.length_drop, List.length_take]; rfl)) ?_; (with_reducible refine (strings_Split.calls a0 (⟨#[32]⟩ : ByteArray) t110 _ ?sideL A5.out).mono ?_); (case sideL => exact HLD.out.on (by exact zB1 HB.out GE109.out)); rintro e w10 ⟨v111, rfl, ho0, hb⟩; refine ⟨_, rfl, ?_⟩; have n0_ := Aside0.mk (Kd.R_lower ho0 (below_size (by exact zB1 HB.out GE109.out))); have n1_ := Aside0.mk (blk_below (g := gb109) (o := .cells #[.int .i64 0, .int .i64 0, .slice none 0 0, .slice none 0 0] 31 (0, 0)) (by exact zK BK109.out) hb); have n2_ := Aside0.mk (below_step (by exact zB1 HB.out GE109.out) hb); clear BK109; clear HB; have HO112 := n0_; have BK109 := n1_; have HB := n2_; clear n0_ n1_ n2_; (try clear hb); (try clear hb2); (try clear hk); (try clear hi); (try clear ho0)) | ((with_reducible refine gate_dst (N := 5) rfl ?_); refine box_event ?hg (N := 5) ?hd (cs := #[.int .i64 0, .int .i64 0, .slice none 0 0, .slice none 0 0]) (t := 31) ?hr ?_; (case hd => rfl); (case hg => rfl); (case hr => first | (go_simp; done) | (go_simp; rfl)); intro gb113 hg w11 hbox hb; have n0_ := Aside0.mk (Kd.R_below (by exact zR HO112.out) hb); have n1_ := Aside0.mk (blk_below (g := gb109) (o := .cells #[.int .i64 0, .int .i64 0, .slice none 0 0, .slice none 0 0] 31 (0, 0)) (by exact zK BK109.out) hb); have n2_ := Aside0.mk (below_step (by exact zB1 HB.out GE109.out) hb); have n3_ := Aside0.mk (hbox); have n4_ := Aside0.mk ((by rw [hg]; exact (below_size (by exact zB1 HB.out GE109.out)) : w.heap.size ≤ gb113)); have n5_ := Aside0.mk ((by rw [hg]; exact (below_size (by exact zB1 HB.out GE109.out)) : w.heap.size ≤ gb113)); have n6_ := Aside0.mk ((by rw [hg]; exact Nat.ne_of_lt (blk_lt (g := gb109) (o := .cells #[.int .i64 0, .int .i64 0, .slice none 0 0, .slice none 0 0] 31 (0, 0)) (by exact zK BK109.out)) : gb109 ≠ gb113)); have n7_ := Aside0.mk ((by rw [hg]; exact Nat.ne_of_gt (blk_lt (g := gb109) (o := .cells #[.int .i64 0, .int .i64 0, .slice none 0 0, .slice none 0 0] 31 (0, 0)) (by exact zK BK109.out)) : gb113 ≠ gb109)); clear HO112; clear BK109; clear HB; have HO112 := n0_; have BK109 := n1_; have HB := n2_; have BK113 := n3_; have GW113 := n4_; have GE113 := n5_; have NB109_113 := n6_; have NB113_109 := n7_; clear n0_ n1_ n2_ n3_ n4_ n5_ n6_ n7_; clear hb hbox hg; obtain ⟨Ao12, co12, eo12⟩ := Kd.R_slice HO112.out; subst eo12; have p114 : 0 ≤ (0 : Int) := (by omega); have q114 : 0 < (t110.length : Int) := of_decide_eq_true (by first | (with_reducible assumption) | assumption); obtain ⟨ad114, e114, hx114_0⟩ := Kd.at_string (Kd.R_reads' HO112.out).2.2 0 p114 q114; cases e114; have qi114 : (0 < t110.length) = True := eq_true (by omega); (try rw [show ((0 : Int)).toNat = 0 from rfl] at hx114_0); (try rw [Addr.add_zero'] at hx114_0); replace p114 := eq_true p114; replace q114 := eq_true q114) | ((with_reducible refine gate_callee (f := 57) rfl ?_); refine goesL_ (some 27) rfl rfl Tryd.func57 (by kernel_rfl) rfl #[.string (rdOf ByteArray.empty t110 0)] rfl (by (try simp only [zm1, zm2, zm3]); first | done | rfl | (simp only [List.length_drop, List.length_take]; rfl)) ?_; (with_reducible refine (impl_nameRead.calls (rdOf ByteArray.empty t110 0) t115 t116 _ ?sideL A7.out).mono ?_); (case sideL => exact HLD.out.on (by exact zB2 HB.out GE109.out GE113.out)); rintro e w13 ⟨rfl, hb⟩; refine ⟨_, rfl, ?_⟩; have n0_ := Aside0.mk (Kd.R_below (by exact zR HO112.out) hb); have n1_ := Aside0.mk (blk_below (g := gb109) (o := .cells #[.int .i64 0, .int .i64 0, .slice none 0 0, .slice none 0 0] 31 (0, 0)) (by exact zK BK109.out) hb); have n2_ := Aside0.mk (blk_below (g := gb113) (o := .cells #[.int .i64 0, .int .i64 0, .slice none 0 0, .slice none 0 0] 31 (0, 0)) (by exact zK BK113.out) hb); have n3_ := Aside0.mk (below_step (by exact zB2 HB.out GE109.out GE113.out) hb); clear HO112; clear BK109; clear BK113; clear HB; have HO112 := n0_; have BK109 := n1_; have BK113 := n2_; have HB := n3_; clear n0_ n1_ n2_ n3_; (try clear hb); (try clear hb2); (try clear hk); (try clear hi); have hnb14 := NB113_109.out; have hnc14 := NB109_113.out; obtain ⟨hcz15_0, hcz15_1, hcz15_2, hcz15_3, hfz15_0, hfz15_1, hfz15_2, hfz15_3⟩ := zc4f BK113.out) | ((with_reducible refine gate_store (t := 3) (p := 30) rfl ?_); refine store_event (t := 3) (p := 30) (v := ?vo_w16) (w1 := (w13.setCell ⟨gb113, 0, none⟩ (.int .i64 t115))) ?hg ?ho ?hn ?hr ?_; (case ho => rfl); (case hg => rfl); (case hn => rfl); (case hr => first | (go_simp; done) | (go_simp; rfl)); intro w16 hw; have n0_ : Aside0 (Kd.R Kd.string 9 w16 w.heap.size (fun _ => True) (.slice (some ad114) t110.length co12) t110) := ⟨(by rw [hw]; exact (by exact zR (Kd.R_mono (Kd.R_far (p := ⟨gb113, 0, none⟩) (Kd.R_types HO112.out BK113.out (by decide)) (fun _ hk => hk.2) (.int .i64 t115)) (fun _ hk => trivial))))⟩; have n1_ : Aside0 (w16.heap[gb109]? = some (.cells #[.int .i64 0, .int .i64 0, .slice none 0 0, .slice none 0 0] 31 (0, 0))) := ⟨(by rw [hw]; exact (by (with_reducible repeat (first | refine blk_drewN ?_ _ | refine blk_drew ?_ | refine blk_alloc ?_ _)); refine blk_far ?_ NB109_113.out _; exact zK BK109.out))⟩; have n2_ : Aside0 (w16.heap[gb113]? = some (.cells #[.int .i64 t115, .int .i64 0, .slice none 0 0, .slice none 0 0] 31 (0, 0))) := ⟨(by rw [hw]; exact (by (with_reducible repeat (first | refine blk_drewN ?_ _ | refine blk_drew ?_ | refine blk_alloc ?_ _)); refine blk_put (cs := #[.int .i64 0, .int .i64 0, .slice none 0 0, .slice none 0 0]) ?_ 0 _ rfl; exact zK BK113.out))⟩; have n3_ : Aside0 (Below w.heap.size w w16) := ⟨(by rw [hw]; exact (by exact zB2 HB.out GE109.out GE113.out))⟩; clear hw; clear HO112; clear BK109; clear BK113; clear HB; have HO112 := n0_; have BK109 := n1_; have BK113 := n2_; have HB := n3_; clear n0_ n1_ n2_ n3_; obtain ⟨hcz17_0, hcz17_1, hcz17_2, hcz17_3, hfz17_0, hfz17_1, hfz17_2, hfz17_3⟩ := zc4f BK113.out) | ((with_reducible refine gate_store (t := 3) (p := 31) rfl ?_); refine store_event (t := 3) (p := 31) (v := ?vo_w18) (w1 := (w16.setCell ⟨gb113, 1, none⟩ (.int .i64 t116))) ?hg ?ho ?hn ?hr ?_; (case ho => rfl); (case hg => rfl); (case hn => rfl); (case hr => first | (go_simp; done) | (go_simp; rfl)); intro w18 hw; have n0_ : Aside0 (Kd.R Kd.string 9 w18 w.heap.size (fun _ => True) (.slice (some ad114) t110.length co12) t110) := ⟨(by rw [hw]; exact (by exact zR (Kd.R_mono (Kd.R_far (p := ⟨gb113, 1, none⟩) (Kd.R_types HO112.out BK113.out (by decide)) (fun _ hk => hk.2) (.int .i64 t116)) (fun _ hk => trivial))))⟩; have n1_ : Aside0 (w18.heap[gb109]? = some (.cells #[.int .i64 0, .int .i64 0, .slice none 0 0, .slice none 0 0] 31 (0, 0))) := ⟨(by rw [hw]; exact (by (with_reducible repeat (first | refine blk_drewN ?_ _ | refine blk_drew ?_ | refine blk_alloc ?_ _)); refine blk_far ?_ NB109_113.out _; exact zK BK109.out))⟩; have n2_ : Aside0 (w18.heap[gb113]? = some (.cells #[.int .i64 t115, .int .i64 t116, .slice none 0 0, .slice none 0 0] 31 (0, 0))) := ⟨(by rw [hw]; exact (by (with_reducible repeat (first | refine blk_drewN ?_ _ | refine blk_drew ?_ | refine blk_alloc ?_ _)); refine blk_put (cs := #[.int .i64 t115, .int .i64 0, .slice none 0 0, .slice none 0 0]) ?_ 1 _ rfl; exact zK BK113.out))⟩; have n3_ : Aside0 (Below w.heap.size w w18) := ⟨(by rw [hw]; exact (by exact zB2 HB.out GE109.out GE113.out))⟩; clear hw; clear HO112; clear BK109; clear BK113; clear HB; have HO112 := n0_; have BK109 := n1_; have BK113 := n2_; have HB := n3_; clear n0_ n1_ n2_ n3_; have q19 : (1 : Int) ≤ ((t110.length : Int) : Int) := of_decide_eq_true (by first | (with_reducible assumption) | assumption); obtain ⟨i019, hi019, _, hsz19, _⟩ := info_parts info9; have hroom19 : t110.length ≤ co12 := (Kd.R_reads' HO112.out).2.1; have hC19 : Kd.C Kd.string _ (some ad114) t110.length t110 := (Kd.R_reads' HO112.out).2.2; have hcut19 := cut_from (P := Tryd.prog) 63 9 .i64 Tryd.underlying63 hi019 1 hsz19 (some ad114) t110.length co12 1 (by omega) q19; have hr19 := Kd.C_drop (m := (1 : Int).toNat) (c := co12) hC19 (by omega) hroom19; obtain ⟨A19, hA19⟩ : ∃ A1, A1 = (if co12 = (1 : Int).toNat then (some ad114) else ((some ad114) : Option Addr).map (·.add ((1 : Int).toNat * 1))) := ⟨_, rfl⟩; obtain ⟨c19, hc19⟩ : ∃ c1, c1 = co12 - (1 : Int).toNat := ⟨_, rfl⟩; have hy19 : y117.length = t110.length - (1 : Int).toNat := (by rw [Ny117.out, List.length_drop] <;> omega); rw [show (t110).drop (1 : Int).toNat = y117 from Ny117.out.symm] at hr19; replace hr19 : Kd.C Kd.string _ A19 y117.length y117 := (by rw [hA19]; exact hr19); rw [← hy19, ← hA19, ← hc19] at hcut19; have HR120 := Aside0.mk hr19; have HC120 := Aside0.mk (show y117.length ≤ c19 from by rw [hy19, hc19]; exact Nat.sub_le_sub_right hroom19 _); clear hr19 hC19 hroom19 hi019 hsz19 hc19; have KY19 := Aside0.mk hy19; have KA19 := Aside0.mk hA19; clear hy19 hA19; have KL19 := Aside0.mk (show 1 ≤ t110.length from by omega); replace q19 := eq_true q19))
    have hp_ : 0 < t110.length := of_decide_eq_true c6b1
    obtain ⟨gS_, cS_, eS_, _, _, CS, hS_⟩ := Kd.R_form HO112.out hp_
    have hB_ : ad114.block = gS_ := by injection eS_ with e1; injection e1 with e1; rw [e1]
    rw [← hB_] at hS_
    have BKS0 := Aside0.mk hS_
    have BKS := Aside0.mk hS_
    have NBS := Aside0.mk (blk_ne hS_ BK113.out (by decide))
    clear hS_ hp_ hB_ eS_
    go_loopg [35] k (fun kq v35 w' => ∃ (x35_1 : Int) (x114002_1 : List (S67)) (x114003_1 : List (S69)) (u114002 : Value) (u114003 : Value), v35 = .int .i64 x35_1 ∧ Aside0 (impl_PkgRead.l0 kq a0 y117 (y117.length : Int) x35_1 t115 t116 x114002_1 x114003_1 = some (r1, r2, r3, r4, r5)) ∧ Aside0 (kq ≤ k) ∧ Aside0 (Kd.R k67 67 w' w.heap.size (fun _ => True) u114002 x114002_1) ∧ Aside0 (Kd.R k69 69 w' w.heap.size (fun _ => True) u114003 x114003_1) ∧ Aside0 (w'.heap[gb109]? = some (.cells #[.int .i64 0, .int .i64 0, (.slice none 0 0), (.slice none 0 0)] 31 (0, 0))) ∧ Aside0 (w'.heap[gb113]? = some (.cells #[.int .i64 t115, .int .i64 t116, u114002, u114003] 31 (0, 0))) ∧ Aside0 (Below w.heap.size w w') ∧ Aside0 (w'.heap[ad114.block]? = some (.cells CS 9 (0, 0))))
    case atStart => exact ⟨(0), (([] : List (S67))), (([] : List (S69))), (.slice none 0 0), (.slice none 0 0), (by first | rfl | (simp; done) | (simp [*]; done)), H', ⟨Nat.le_refl _⟩, ⟨by first | exact Kd.R_nil _ _ _ _ _ | exact Kd.N_nil _ _ _ _ _ | exact Kd.V_nil _ _ _ _ _ | exact Kd.Q_nil _ _ _ _ _ | exact Kd.S_nil _ _ _ _ _⟩, ⟨by first | exact Kd.R_nil _ _ _ _ _ | exact Kd.N_nil _ _ _ _ _ | exact Kd.V_nil _ _ _ _ _ | exact Kd.Q_nil _ _ _ _ _ | exact Kd.S_nil _ _ _ _ _⟩, ⟨by exact zK BK109.out⟩, ⟨by exact zK BK113.out⟩, ⟨by exact zB2 HB.out GE109.out GE113.out⟩, ⟨by exact zK BKS.out⟩⟩
    case round =>
     clear H'
     try clear c1
     try clear p1
     try clear q1
     try clear hx1
     try clear qi1
     try clear c2
     try clear c2b0
     try clear c2b1
     try clear p2
     try clear c5
     try clear c6
     try clear c6b0
     try clear c6b1
     try clear c8
     try clear c8b0
     try clear c8b1
     try clear p11
     try clear q11
     try clear hx11
     try clear qi11
     try clear c14
     try clear c19
     try clear q19
     try clear hcz15_0
     try clear hcz15_1
     try clear hcz15_2
     try clear hcz15_3
     try clear hcz17_0
     try clear hcz17_1
     try clear hcz17_2
     try clear hcz17_3
     try clear hcz4_0
     try clear hcz4_1
     try clear hcz4_2
     try clear hcz4_3
     try clear hfz15_0
     try clear hfz15_1
     try clear hfz15_2
     try clear hfz15_3
     try clear hfz17_0
     try clear hfz17_1
     try clear hfz17_2
     try clear hfz17_3
     try clear hfz4_0
     try clear hfz4_1
     try clear hfz4_2
     try clear hfz4_3
     try clear hx114_0
     try clear p114
     try clear q114
     try clear q19
     obtain ⟨x35_1, x114002_1, x114003_1, u114002, u114003, rfl, HA, HK1, HO_114002, HO_114003, BK109, BK113, HB, BKS⟩ := hrel
     cases gk with
     | zero => exact absurd HA.out (by simp [impl_PkgRead.l0])
     | succ k1 =>
      have H := HA.out
      clear HA
      simp only [impl_PkgRead.l0] at H
      by_cases c20 : x35_1 < (y117.length : Int)
      ·rw [if_pos c20] at H
       have c20b0 : decide (x35_1 < (y117.length : Int)) = true := decide_eq_true c20
       clear c20
       by_cases c21 : 0 ≤ x35_1
       ·rw [if_pos c21] at H
        have c21b0 : decide (0 ≤ x35_1) = true := decide_eq_true c21
        clear c21
        by_cases c22 : x35_1 < (y117.length : Int)
        ·rw [if_pos c22] at H
         have c22b0 : decide (x35_1 < (y117.length : Int)) = true := decide_eq_true c22
         clear c22
         replace H := Option.bind_eq_some_iff.mp H
         obtain ⟨⟨t122, t123, t124⟩, A230, H⟩ := H
         replace H : (if t124 = true then ((strconv_Atoi.f t122).bind fun bt125 => ((strconv_Atoi.f t123).bind fun bt127 => (if x114002_1.length < 8796093022208 then (impl_PkgRead.l0 k1 a0 y117 (y117.length : Int) (wrap64 (x35_1 + 1)) t115 t116 (x114002_1 ++ [(⟨bt125.1, bt127.1⟩ : S67)]) x114003_1) else (none)))) else ((impl_nameRead.f (rdOf ByteArray.empty y117 x35_1)).bind fun bt132 => (if x114003_1.length < 8796093022208 then (impl_PkgRead.l0 k1 a0 y117 (y117.length : Int) (wrap64 (x35_1 + 1)) t115 t116 x114002_1 (x114003_1 ++ [(⟨bt132.1, bt132.2⟩ : S69)])) else (none)))) = some (r1, r2, r3, r4, r5) := H
         have A23 := Aside0.mk A230
         clear A230
         by_cases c24 : t124 = true
         ·subst c24
          have H1 : ((strconv_Atoi.f t122).bind fun bt125 => ((strconv_Atoi.f t123).bind fun bt127 => (if x114002_1.length < 8796093022208 then (impl_PkgRead.l0 k1 a0 y117 (y117.length : Int) (wrap64 (x35_1 + 1)) t115 t116 (x114002_1 ++ [(⟨bt125.1, bt127.1⟩ : S67)]) x114003_1) else (none)))) = some (r1, r2, r3, r4, r5) := by rw [if_pos rfl] at H; exact H
          clear H
          have H := H1
          clear H1
          replace H := Option.bind_eq_some_iff.mp H
          obtain ⟨⟨t125, t126⟩, A250, H⟩ := H
          replace H : ((strconv_Atoi.f t123).bind fun bt127 => (if x114002_1.length < 8796093022208 then (impl_PkgRead.l0 k1 a0 y117 (y117.length : Int) (wrap64 (x35_1 + 1)) t115 t116 (x114002_1 ++ [(⟨t125, bt127.1⟩ : S67)]) x114003_1) else (none))) = some (r1, r2, r3, r4, r5) := H
          have A25 := Aside0.mk A250
          clear A250
          replace H := Option.bind_eq_some_iff.mp H
          obtain ⟨⟨t127, t128⟩, A260, H⟩ := H
          replace H : (if x114002_1.length < 8796093022208 then (impl_PkgRead.l0 k1 a0 y117 (y117.length : Int) (wrap64 (x35_1 + 1)) t115 t116 (x114002_1 ++ [(⟨t125, t127⟩ : S67)]) x114003_1) else (none)) = some (r1, r2, r3, r4, r5) := H
          have A26 := Aside0.mk A260
          clear A260
          by_cases c27 : x114002_1.length < 8796093022208
          ·rw [if_pos c27] at H
           have LMc27 := Aside0.mk c27
           clear c27
           obtain ⟨y129, hy129⟩ : ∃ y_ : List (S67), y_ = (x114002_1 ++ [(⟨t125, t127⟩ : S67)]) := ⟨_, rfl⟩
           replace H : (impl_PkgRead.l0 k1 a0 y117 (y117.length : Int) (wrap64 (x35_1 + 1)) t115 t116 y129 x114003_1) = some (r1, r2, r3, r4, r5) := by first | (rw [hy129]; with_reducible exact H) | (have H2_ := (Option.bind_some _ _).symm.trans H; rw [hy129]; with_reducible exact H2_) | (have H2_ := (Option.bind_some _ _).symm.trans H; with_reducible exact H2_) | with_reducible exact H | (rw [hy129]; exact H) | exact H
           have Ny129 := Aside0.mk hy129
           clear hy129
           have H' := Aside0.mk H
           clear H
           have p121 : 0 ≤ (x35_1 : Int) := of_decide_eq_true (by first | (with_reducible assumption) | assumption)
           have q121 : x35_1 < (y117.length : Int) := of_decide_eq_true (by first | (with_reducible assumption) | assumption)
           obtain ⟨ad121, e121, hx121_0⟩ := Kd.at_string HR120.out x35_1 p121 q121
           cases e121
           replace hx121_0 := (zcell (w := w18) (w1 := wr) (by rw [zadd, zdrop KA19.out]; exact BKS.out.trans BKS0.out.symm)).trans hx121_0
           replace p121 := eq_true p121
           replace q121 := eq_true q121
           go_wp2_with (first | ((with_reducible refine gate_callee (f := 58) rfl ?_); refine goesL_ (some 41) rfl rfl Tryd.func58 (by kernel_rfl) rfl #[.string (rdOf ByteArray.empty y117 x35_1), .string (⟨#[58]⟩ : ByteArray)] rfl (by (try simp only [zm1, zm2, zm3]); first | done | rfl | (simp only [List.length_drop, List.length_take]; rfl)) ?_; (with_reducible refine (strings_Cut.calls (rdOf ByteArray.empty y117 x35_1) (⟨#[58]⟩ : ByteArray) t122 t123 true _ ?sideL A23.out).mono ?_); (case sideL => exact HLD.out.on (by exact zB2 HB.out GE109.out GE113.out)); rintro e w28 ⟨rfl, hb⟩; refine ⟨_, rfl, ?_⟩; have n0_ := Aside0.mk (Kd.R_below (by exact zR HO_114002.out) hb); have n1_ := Aside0.mk (Kd.R_below (by exact zR HO_114003.out) hb); have n2_ := Aside0.mk (blk_below (g := gb109) (o := .cells #[.int .i64 0, .int .i64 0, .slice none 0 0, .slice none 0 0] 31 (0, 0)) (by exact zK BK109.out) hb); have mS_ := Aside0.mk (blk_below (g := ad114.block) (o := .cells CS 9 (0, 0)) (by exact zK BKS.out) hb); have n3_ := Aside0.mk (blk_below (g := gb113) (o := .cells #[.int .i64 t115, .int .i64 t116, u114002, u114003] 31 (0, 0)) (by exact zK BK113.out) hb); have n4_ := Aside0.mk (below_step (by exact zB2 HB.out GE109.out GE113.out) hb); clear HO_114002; clear HO_114003; clear BK109; clear BKS; clear BK113; clear HB; have HO_114002 := n0_; have HO_114003 := n1_; have BK109 := n2_; have BKS := mS_; clear mS_; have BK113 := n3_; have HB := n4_; clear n0_ n1_ n2_ n3_ n4_; (try clear hb); (try clear hb2); (try clear hk); (try clear hi)) | ((with_reducible refine gate_callee (f := 59) rfl ?_); refine goesL_ (some 48) rfl rfl Tryd.func59 (by kernel_rfl) rfl #[.string t122] rfl (by (try simp only [zm1, zm2, zm3]); first | done | rfl | (simp only [List.length_drop, List.length_take]; rfl)) ?_; (with_reducible refine (strconv_Atoi.calls t122 t125 t126 _ ?sideL A25.out).mono ?_); (case sideL => exact HLD.out.on (by exact zB2 HB.out GE109.out GE113.out)); rintro e w29 ⟨ev_, rfl, hb⟩; refine ⟨_, rfl, ?_⟩; have n0_ := Aside0.mk (Kd.R_below (by exact zR HO_114002.out) hb); have n1_ := Aside0.mk (Kd.R_below (by exact zR HO_114003.out) hb); have n2_ := Aside0.mk (blk_below (g := gb109) (o := .cells #[.int .i64 0, .int .i64 0, .slice none 0 0, .slice none 0 0] 31 (0, 0)) (by exact zK BK109.out) hb); have mS_ := Aside0.mk (blk_below (g := ad114.block) (o := .cells CS 9 (0, 0)) (by exact zK BKS.out) hb); have n3_ := Aside0.mk (blk_below (g := gb113) (o := .cells #[.int .i64 t115, .int .i64 t116, u114002, u114003] 31 (0, 0)) (by exact zK BK113.out) hb); have n4_ := Aside0.mk (below_step (by exact zB2 HB.out GE109.out GE113.out) hb); clear HO_114002; clear HO_114003; clear BK109; clear BKS; clear BK113; clear HB; have HO_114002 := n0_; have HO_114003 := n1_; have BK109 := n2_; have BKS := mS_; clear mS_; have BK113 := n3_; have HB := n4_; clear n0_ n1_ n2_ n3_ n4_; (try clear hb); (try clear hb2); (try clear hk); (try clear hi); (try simp only [errW_none, errW_some])) | ((with_reducible refine gate_callee (f := 59) rfl ?_); refine goesL_ (some 53) rfl rfl Tryd.func59 (by kernel_rfl) rfl #[.string t123] rfl (by (try simp only [zm1, zm2, zm3]); first | done | rfl | (simp only [List.length_drop, List.length_take]; rfl)) ?_; (with_reducible refine (strconv_Atoi.calls t123 t127 t128 _ ?sideL A26.out).mono ?_); (case sideL => exact HLD.out.on (by exact zB2 HB.out GE109.out GE113.out)); rintro e w30 ⟨ev_, rfl, hb⟩; refine ⟨_, rfl, ?_⟩; have n0_ := Aside0.mk (Kd.R_below (by exact zR HO_114002.out) hb); have n1_ := Aside0.mk (Kd.R_below (by exact zR HO_114003.out) hb); have n2_ := Aside0.mk (blk_below (g := gb109) (o := .cells #[.int .i64 0, .int .i64 0, .slice none 0 0, .slice none 0 0] 31 (0, 0)) (by exact zK BK109.out) hb); have mS_ := Aside0.mk (blk_below (g := ad114.block) (o := .cells CS 9 (0, 0)) (by exact zK BKS.out) hb); have n3_ := Aside0.mk (blk_below (g := gb113) (o := .cells #[.int .i64 t115, .int .i64 t116, u114002, u114003] 31 (0, 0)) (by exact zK BK113.out) hb); have n4_ := Aside0.mk (below_step (by exact zB2 HB.out GE109.out GE113.out) hb); clear HO_114002; clear HO_114003; clear BK109; clear BKS; clear BK113; clear HB; have HO_114002 := n0_; have HO_114003 := n1_; have BK109 := n2_; have BKS := mS_; clear mS_; have BK113 := n3_; have HB := n4_; clear n0_ n1_ n2_ n3_ n4_; (try clear hb); (try clear hb2); (try clear hk); (try clear hi); (try simp only [errW_none, errW_some]); have hnb31 := NB113_109.out; have hnc31 := NB109_113.out; obtain ⟨hcz32_0, hcz32_1, hcz32_2, hcz32_3, hfz32_0, hfz32_1, hfz32_2, hfz32_3⟩ := zc4f BK113.out) | ((with_reducible refine gate_builtin (b := .append) (xs := #[.tmp 57, .tmp 61]) rfl ?_); at_builtin; refine Kd.R_append k67 (w0 := w) w.heap.size rfl (.tmp 57) (.tmp 61) 28 67 (.agg #[(.int .i64 0), (.int .i64 0)]) 16 rfl Tryd.underlying28 info67 rfl (by decide) (by omega) u114002 x114002_1 (⟨t125, t127⟩ : S67) [.int .i64 t125, .int .i64 t127] (fun _ => True) (fun _ => False) rfl rfl ?aP (fun _ hk => hk.elim) ?aF ?aO ?aB ?aS ?aL ?_; (case aP => exact k67_mkM _ _ _ (⟨t125, t127⟩ : S67)); (case aB => exact (by exact zB2 HB.out GE109.out GE113.out)); (case aF => exact (fun _ _ => trivial)); (case aO => exact (by exact zR HO_114002.out)); (case aS => exact (below_size (by exact zB2 HB.out GE109.out GE113.out))); (case aL => have := LMc27.out; omega); intro v130 w33 ho hb hg hat; rw [← Ny129.out] at ho; have n0_ := Aside0.mk (Kd.R_over' (by exact zR HO_114003.out) (Kd.R_typed (by exact zR HO_114002.out)) (by decide) hg); have n1_ := Aside0.mk (blk_grown (g := gb109) (o := .cells #[.int .i64 0, .int .i64 0, .slice none 0 0, .slice none 0 0] 31 (0, 0)) (by exact zK BK109.out) hg (Kd.R_ne HO_114002.out BK109.out (by decide))); have mS_ := Aside0.mk (blk_grown (g := ad114.block) (o := .cells CS 9 (0, 0)) (by exact zK BKS.out) hg (Kd.R_ne HO_114002.out BKS.out (by decide))); have n2_ := Aside0.mk (blk_grown (g := gb113) (o := .cells #[.int .i64 t115, .int .i64 t116, u114002, u114003] 31 (0, 0)) (by exact zK BK113.out) hg (Kd.R_ne HO_114002.out BK113.out (by decide))); have n3_ := Aside0.mk (hb); have n4_ := Aside0.mk (ho); clear HO_114003; clear BK109; clear BKS; clear BK113; clear HB; clear HO_114002; have HO_114003 := n0_; have BK109 := n1_; have BKS := mS_; clear mS_; have BK113 := n2_; have HB := n3_; have HO131 := n4_; clear n0_ n1_ n2_ n3_ n4_; clear ho hb hg hat; obtain ⟨Ao34, co34, eo34⟩ := Kd.R_slice HO131.out; subst eo34; obtain ⟨hcz35_0, hcz35_1, hcz35_2, hcz35_3, hfz35_0, hfz35_1, hfz35_2, hfz35_3⟩ := zc4f BK113.out))
           go_roundg k1
           case measure => have := HK1.out; omega
           case rel => exact ⟨(wrap64 (x35_1 + 1)), (y129), (x114003_1), (.slice Ao34 y129.length co34), (u114003), (by first | rfl | (simp; done) | (simp [*]; done)), H', ⟨by have := HK1.out; omega⟩, ⟨by exact zR (Kd.R_mono (Kd.R_far (p := ⟨gb113, 2, none⟩) (Kd.R_types HO131.out BK113.out (by decide)) (fun _ hk => hk.2) (.slice Ao34 y129.length co34)) (fun _ hk => trivial))⟩, ⟨by exact zR (Kd.R_mono (Kd.R_far (p := ⟨gb113, 2, none⟩) (Kd.R_types HO_114003.out BK113.out (by decide)) (fun _ hk => hk.2) (.slice Ao34 y129.length co34)) (fun _ hk => trivial))⟩, ⟨by (with_reducible repeat (first | refine blk_drewN ?_ _ | refine blk_drew ?_ | refine blk_alloc ?_ _)); refine blk_far ?_ NB109_113.out _; exact zK BK109.out⟩, ⟨by (with_reducible repeat (first | refine blk_drewN ?_ _ | refine blk_drew ?_ | refine blk_alloc ?_ _)); refine blk_put (cs := #[.int .i64 t115, .int .i64 t116, u114002, u114003]) ?_ 2 _ rfl; exact zK BK113.out⟩, ⟨by exact zB2 HB.out GE109.out GE113.out⟩, ⟨by (with_reducible repeat (first | refine blk_drewN ?_ _ | refine blk_drew ?_ | refine blk_alloc ?_ _)); refine blk_far ?_ NBS.out _; exact zK BKS.out⟩⟩
          ·rw [if_neg c27] at H
           exact absurd H (by simp)
         ·replace c24 := Bool.eq_false_iff.mpr c24
          subst c24
          have H1 : ((impl_nameRead.f (rdOf ByteArray.empty y117 x35_1)).bind fun bt132 => (if x114003_1.length < 8796093022208 then (impl_PkgRead.l0 k1 a0 y117 (y117.length : Int) (wrap64 (x35_1 + 1)) t115 t116 x114002_1 (x114003_1 ++ [(⟨bt132.1, bt132.2⟩ : S69)])) else (none))) = some (r1, r2, r3, r4, r5) := by rw [if_neg (show ¬ (false = true) by decide)] at H; exact H
          clear H
          have H := H1
          clear H1
          replace H := Option.bind_eq_some_iff.mp H
          obtain ⟨⟨t132, t133⟩, A360, H⟩ := H
          replace H : (if x114003_1.length < 8796093022208 then (impl_PkgRead.l0 k1 a0 y117 (y117.length : Int) (wrap64 (x35_1 + 1)) t115 t116 x114002_1 (x114003_1 ++ [(⟨t132, t133⟩ : S69)])) else (none)) = some (r1, r2, r3, r4, r5) := H
          have A36 := Aside0.mk A360
          clear A360
          by_cases c37 : x114003_1.length < 8796093022208
          ·rw [if_pos c37] at H
           have LMc37 := Aside0.mk c37
           clear c37
           obtain ⟨y134, hy134⟩ : ∃ y_ : List (S69), y_ = (x114003_1 ++ [(⟨t132, t133⟩ : S69)]) := ⟨_, rfl⟩
           replace H : (impl_PkgRead.l0 k1 a0 y117 (y117.length : Int) (wrap64 (x35_1 + 1)) t115 t116 x114002_1 y134) = some (r1, r2, r3, r4, r5) := by first | (rw [hy134]; with_reducible exact H) | (have H2_ := (Option.bind_some _ _).symm.trans H; rw [hy134]; with_reducible exact H2_) | (have H2_ := (Option.bind_some _ _).symm.trans H; with_reducible exact H2_) | with_reducible exact H | (rw [hy134]; exact H) | exact H
           have Ny134 := Aside0.mk hy134
           clear hy134
           have H' := Aside0.mk H
           clear H
           have p121 : 0 ≤ (x35_1 : Int) := of_decide_eq_true (by first | (with_reducible assumption) | assumption)
           have q121 : x35_1 < (y117.length : Int) := of_decide_eq_true (by first | (with_reducible assumption) | assumption)
           obtain ⟨ad121, e121, hx121_0⟩ := Kd.at_string HR120.out x35_1 p121 q121
           cases e121
           replace hx121_0 := (zcell (w := w18) (w1 := wr) (by rw [zadd, zdrop KA19.out]; exact BKS.out.trans BKS0.out.symm)).trans hx121_0
           replace p121 := eq_true p121
           replace q121 := eq_true q121
           go_wp2_with (first | ((with_reducible refine gate_callee (f := 58) rfl ?_); refine goesL_ (some 41) rfl rfl Tryd.func58 (by kernel_rfl) rfl #[.string (rdOf ByteArray.empty y117 x35_1), .string (⟨#[58]⟩ : ByteArray)] rfl (by (try simp only [zm1, zm2, zm3]); first | done | rfl | (simp only [List.length_drop, List.length_take]; rfl)) ?_; (with_reducible refine (strings_Cut.calls (rdOf ByteArray.empty y117 x35_1) (⟨#[58]⟩ : ByteArray) t122 t123 false _ ?sideL A23.out).mono ?_); (case sideL => exact HLD.out.on (by exact zB2 HB.out GE109.out GE113.out)); rintro e w38 ⟨rfl, hb⟩; refine ⟨_, rfl, ?_⟩; have n0_ := Aside0.mk (Kd.R_below (by exact zR HO_114002.out) hb); have n1_ := Aside0.mk (Kd.R_below (by exact zR HO_114003.out) hb); have n2_ := Aside0.mk (blk_below (g := gb109) (o := .cells #[.int .i64 0, .int .i64 0, .slice none 0 0, .slice none 0 0] 31 (0, 0)) (by exact zK BK109.out) hb); have mS_ := Aside0.mk (blk_below (g := ad114.block) (o := .cells CS 9 (0, 0)) (by exact zK BKS.out) hb); have n3_ := Aside0.mk (blk_below (g := gb113) (o := .cells #[.int .i64 t115, .int .i64 t116, u114002, u114003] 31 (0, 0)) (by exact zK BK113.out) hb); have n4_ := Aside0.mk (below_step (by exact zB2 HB.out GE109.out GE113.out) hb); clear HO_114002; clear HO_114003; clear BK109; clear BKS; clear BK113; clear HB; have HO_114002 := n0_; have HO_114003 := n1_; have BK109 := n2_; have BKS := mS_; clear mS_; have BK113 := n3_; have HB := n4_; clear n0_ n1_ n2_ n3_ n4_; (try clear hb); (try clear hb2); (try clear hk); (try clear hi)) | ((with_reducible refine gate_callee (f := 57) rfl ?_); refine goesL_ (some 66) rfl rfl Tryd.func57 (by kernel_rfl) rfl #[.string (rdOf ByteArray.empty y117 x35_1)] rfl (by (try simp only [zm1, zm2, zm3]); first | done | rfl | (simp only [List.length_drop, List.length_take]; rfl)) ?_; (with_reducible refine (impl_nameRead.calls (rdOf ByteArray.empty y117 x35_1) t132 t133 _ ?sideL A36.out).mono ?_); (case sideL => exact HLD.out.on (by exact zB2 HB.out GE109.out GE113.out)); rintro e w39 ⟨rfl, hb⟩; refine ⟨_, rfl, ?_⟩; have n0_ := Aside0.mk (Kd.R_below (by exact zR HO_114002.out) hb); have n1_ := Aside0.mk (Kd.R_below (by exact zR HO_114003.out) hb); have n2_ := Aside0.mk (blk_below (g := gb109) (o := .cells #[.int .i64 0, .int .i64 0, .slice none 0 0, .slice none 0 0] 31 (0, 0)) (by exact zK BK109.out) hb); have mS_ := Aside0.mk (blk_below (g := ad114.block) (o := .cells CS 9 (0, 0)) (by exact zK BKS.out) hb); have n3_ := Aside0.mk (blk_below (g := gb113) (o := .cells #[.int .i64 t115, .int .i64 t116, u114002, u114003] 31 (0, 0)) (by exact zK BK113.out) hb); have n4_ := Aside0.mk (below_step (by exact zB2 HB.out GE109.out GE113.out) hb); clear HO_114002; clear HO_114003; clear BK109; clear BKS; clear BK113; clear HB; have HO_114002 := n0_; have HO_114003 := n1_; have BK109 := n2_; have BKS := mS_; clear mS_; have BK113 := n3_; have HB := n4_; clear n0_ n1_ n2_ n3_ n4_; (try clear hb); (try clear hb2); (try clear hk); (try clear hi); have hnb40 := NB113_109.out; have hnc40 := NB109_113.out; obtain ⟨hcz41_0, hcz41_1, hcz41_2, hcz41_3, hfz41_0, hfz41_1, hfz41_2, hfz41_3⟩ := zc4f BK113.out) | ((with_reducible refine gate_builtin (b := .append) (xs := #[.tmp 70, .tmp 74]) rfl ?_); at_builtin; refine Kd.R_append k69 (w0 := w) w.heap.size rfl (.tmp 70) (.tmp 74) 29 69 (.agg #[(.int .i64 0), (.int .i64 0)]) 16 rfl Tryd.underlying29 info69 rfl (by decide) (by omega) u114003 x114003_1 (⟨t132, t133⟩ : S69) [.int .i64 t132, .int .i64 t133] (fun _ => True) (fun _ => False) rfl rfl ?aP (fun _ hk => hk.elim) ?aF ?aO ?aB ?aS ?aL ?_; (case aP => exact k69_mkM _ _ _ (⟨t132, t133⟩ : S69)); (case aB => exact (by exact zB2 HB.out GE109.out GE113.out)); (case aF => exact (fun _ _ => trivial)); (case aO => exact (by exact zR HO_114003.out)); (case aS => exact (below_size (by exact zB2 HB.out GE109.out GE113.out))); (case aL => have := LMc37.out; omega); intro v135 w42 ho hb hg hat; rw [← Ny134.out] at ho; have n0_ := Aside0.mk (Kd.R_over' (by exact zR HO_114002.out) (Kd.R_typed (by exact zR HO_114003.out)) (by decide) hg); have n1_ := Aside0.mk (blk_grown (g := gb109) (o := .cells #[.int .i64 0, .int .i64 0, .slice none 0 0, .slice none 0 0] 31 (0, 0)) (by exact zK BK109.out) hg (Kd.R_ne HO_114003.out BK109.out (by decide))); have mS_ := Aside0.mk (blk_grown (g := ad114.block) (o := .cells CS 9 (0, 0)) (by exact zK BKS.out) hg (Kd.R_ne HO_114003.out BKS.out (by decide))); have n2_ := Aside0.mk (blk_grown (g := gb113) (o := .cells #[.int .i64 t115, .int .i64 t116, u114002, u114003] 31 (0, 0)) (by exact zK BK113.out) hg (Kd.R_ne HO_114003.out BK113.out (by decide))); have n3_ := Aside0.mk (hb); have n4_ := Aside0.mk (ho); clear HO_114002; clear BK109; clear BKS; clear BK113; clear HB; clear HO_114003; have HO_114002 := n0_; have BK109 := n1_; have BKS := mS_; clear mS_; have BK113 := n2_; have HB := n3_; have HO136 := n4_; clear n0_ n1_ n2_ n3_ n4_; clear ho hb hg hat; obtain ⟨Ao43, co43, eo43⟩ := Kd.R_slice HO136.out; subst eo43; obtain ⟨hcz44_0, hcz44_1, hcz44_2, hcz44_3, hfz44_0, hfz44_1, hfz44_2, hfz44_3⟩ := zc4f BK113.out))
           go_roundg k1
           case measure => have := HK1.out; omega
           case rel => exact ⟨(wrap64 (x35_1 + 1)), (x114002_1), (y134), (u114002), (.slice Ao43 y134.length co43), (by first | rfl | (simp; done) | (simp [*]; done)), H', ⟨by have := HK1.out; omega⟩, ⟨by exact zR (Kd.R_mono (Kd.R_far (p := ⟨gb113, 3, none⟩) (Kd.R_types HO_114002.out BK113.out (by decide)) (fun _ hk => hk.2) (.slice Ao43 y134.length co43)) (fun _ hk => trivial))⟩, ⟨by exact zR (Kd.R_mono (Kd.R_far (p := ⟨gb113, 3, none⟩) (Kd.R_types HO136.out BK113.out (by decide)) (fun _ hk => hk.2) (.slice Ao43 y134.length co43)) (fun _ hk => trivial))⟩, ⟨by (with_reducible repeat (first | refine blk_drewN ?_ _ | refine blk_drew ?_ | refine blk_alloc ?_ _)); refine blk_far ?_ NB109_113.out _; exact zK BK109.out⟩, ⟨by (with_reducible repeat (first | refine blk_drewN ?_ _ | refine blk_drew ?_ | refine blk_alloc ?_ _)); refine blk_put (cs := #[.int .i64 t115, .int .i64 t116, u114002, u114003]) ?_ 3 _ rfl; exact zK BK113.out⟩, ⟨by exact zB2 HB.out GE109.out GE113.out⟩, ⟨by (with_reducible repeat (first | refine blk_drewN ?_ _ | refine blk_drew ?_ | refine blk_alloc ?_ _)); refine blk_far ?_ NBS.out _; exact zK BKS.out⟩⟩
          ·rw [if_neg c37] at H
           exact absurd H (by simp)
        ·rw [if_neg c22] at H
         exact absurd H (by simp)
       ·rw [if_neg c21] at H
        exact absurd H (by simp)
      ·rw [if_neg c20] at H
       have c20b0 : decide (x35_1 < (y117.length : Int)) = false := decide_eq_false c20
       clear c20
       replace H := Option.bind_eq_some_iff.mp H
       obtain ⟨t137, A450, H⟩ := H
       replace H : (if t137 = true then ((impl_PkgText.f k1 t115 t116 x114002_1 x114003_1).bind fun t138 => (if t138.toList = a0.toList then (some (t115, t116, x114002_1, x114003_1, true)) else (some (0, 0, ([] : List (S67)), ([] : List (S69)), false)))) else (some (0, 0, ([] : List (S67)), ([] : List (S69)), false))) = some (r1, r2, r3, r4, r5) := H
       have A45 := Aside0.mk A450
       clear A450
       by_cases c46 : t137 = true
       ·subst c46
        have H1 : ((impl_PkgText.f k1 t115 t116 x114002_1 x114003_1).bind fun t138 => (if t138.toList = a0.toList then (some (t115, t116, x114002_1, x114003_1, true)) else (some (0, 0, ([] : List (S67)), ([] : List (S69)), false)))) = some (r1, r2, r3, r4, r5) := by rw [if_pos rfl] at H; exact H
        clear H
        have H := H1
        clear H1
        replace H := Option.bind_eq_some_iff.mp H
        obtain ⟨t138, A470, H⟩ := H
        replace H : (if t138.toList = a0.toList then (some (t115, t116, x114002_1, x114003_1, true)) else (some (0, 0, ([] : List (S67)), ([] : List (S69)), false))) = some (r1, r2, r3, r4, r5) := H
        have A47 := Aside0.mk A470
        clear A470
        by_cases c48 : t138.toList = a0.toList
        ·rw [if_pos c48] at H
         have c48b0 : (t138.toList == a0.toList) = true := beq_iff_eq.mpr c48
         have c48b1 : (t138.toList != a0.toList) = false := bne_eq_false_iff_eq.mpr c48
         clear c48
         simp only [Option.some.injEq, Prod.mk.injEq] at H
         obtain ⟨rfl, rfl, rfl, rfl, rfl⟩ := H
         have hnb49 := NB113_109.out
         have hnc49 := NB109_113.out
         obtain ⟨hcz50_0, hcz50_1, hcz50_2, hcz50_3, hfz50_0, hfz50_1, hfz50_2, hfz50_3⟩ := zc4f BK113.out
         obtain ⟨Ao51, co51, eo51⟩ := Kd.R_slice HO_114002.out
         subst eo51
         obtain ⟨Ao52, co52, eo52⟩ := Kd.R_slice HO_114003.out
         subst eo52
         go_wp2_with (first | ((with_reducible refine gate_callee (f := 23) rfl ?_); refine goesL_ (some 79) rfl rfl Tryd.func23 (by kernel_rfl) rfl #[.agg #[.int .i64 t115, .int .i64 t116, .slice Ao51 x114002_1.length co51, .slice Ao52 x114003_1.length co52]] rfl (by (try simp only [zm1, zm2, zm3]); first | done | rfl | (simp only [List.length_drop, List.length_take]; rfl)) ?_; (with_reducible refine (impl_PkgOk.calls k1 t115 t116 _ _ x114002_1 _ _ x114003_1 true _ ?side1 ?side2 ?side3 ?side4 A45.out).mono ?_); (case side1 => exact zC (Kd.R_reads' HO_114002.out).2.2); (case side2 => exact (Kd.R_reads' HO_114002.out).2.1); (case side3 => exact zC (Kd.R_reads' HO_114003.out).2.2); (case side4 => exact (Kd.R_reads' HO_114003.out).2.1); rintro e w53 ⟨rfl, hb⟩; refine ⟨_, rfl, ?_⟩; have n0_ := Aside0.mk (Kd.R_below (by exact zR HO_114002.out) hb); have n1_ := Aside0.mk (Kd.R_below (by exact zR HO_114003.out) hb); have n2_ := Aside0.mk (blk_below (g := gb109) (o := .cells #[.int .i64 0, .int .i64 0, .slice none 0 0, .slice none 0 0] 31 (0, 0)) (by exact zK BK109.out) hb); have mS_ := Aside0.mk (blk_below (g := ad114.block) (o := .cells CS 9 (0, 0)) (by exact zK BKS.out) hb); have n3_ := Aside0.mk (blk_below (g := gb113) (o := .cells #[.int .i64 t115, .int .i64 t116, .slice Ao51 x114002_1.length co51, .slice Ao52 x114003_1.length co52] 31 (0, 0)) (by exact zK BK113.out) hb); have n4_ := Aside0.mk (below_step (by exact zB2 HB.out GE109.out GE113.out) hb); clear HO_114002; clear HO_114003; clear BK109; clear BKS; clear BK113; clear HB; have HO_114002 := n0_; have HO_114003 := n1_; have BK109 := n2_; have BKS := mS_; clear mS_; have BK113 := n3_; have HB := n4_; clear n0_ n1_ n2_ n3_ n4_; (try clear hb); (try clear hb2); (try clear hk); (try clear hi); obtain ⟨hcz54_0, hcz54_1, hcz54_2, hcz54_3, hfz54_0, hfz54_1, hfz54_2, hfz54_3⟩ := zc4f BK113.out) | (go_at_call 17; (with_reducible refine (impl_PkgText.calls k1 t115 t116 _ _ x114002_1 _ _ x114003_1 t138 _ ?side1 ?side2 ?side3 ?side4 A47.out).mono ?_); (case side1 => exact zC (Kd.R_reads' HO_114002.out).2.2); (case side2 => exact (Kd.R_reads' HO_114002.out).2.1); (case side3 => exact zC (Kd.R_reads' HO_114003.out).2.2); (case side4 => exact (Kd.R_reads' HO_114003.out).2.1); rintro e w55 ⟨rfl, hb⟩; have n0_ := Aside0.mk (Kd.R_below (by exact zR HO_114002.out) hb); have n1_ := Aside0.mk (Kd.R_below (by exact zR HO_114003.out) hb); have n2_ := Aside0.mk (blk_below (g := gb109) (o := .cells #[.int .i64 0, .int .i64 0, .slice none 0 0, .slice none 0 0] 31 (0, 0)) (by exact zK BK109.out) hb); have mS_ := Aside0.mk (blk_below (g := ad114.block) (o := .cells CS 9 (0, 0)) (by exact zK BKS.out) hb); have n3_ := Aside0.mk (blk_below (g := gb113) (o := .cells #[.int .i64 t115, .int .i64 t116, .slice Ao51 x114002_1.length co51, .slice Ao52 x114003_1.length co52] 31 (0, 0)) (by exact zK BK113.out) hb); have n4_ := Aside0.mk (below_step (by exact zB2 HB.out GE109.out GE113.out) hb); clear HO_114002; clear HO_114003; clear BK109; clear BKS; clear BK113; clear HB; have HO_114002 := n0_; have HO_114003 := n1_; have BK109 := n2_; have BKS := mS_; clear mS_; have BK113 := n3_; have HB := n4_; clear n0_ n1_ n2_ n3_ n4_; (try clear hb); (try clear hb2); (try clear hk); (try clear hi); obtain ⟨hcz56_0, hcz56_1, hcz56_2, hcz56_3, hfz56_0, hfz56_1, hfz56_2, hfz56_3⟩ := zc4f BK113.out; obtain ⟨hcz57_0, hcz57_1, hcz57_2, hcz57_3, hfz57_0, hfz57_1, hfz57_2, hfz57_3⟩ := zc4f BK109.out))
         refine bodyPost_ret (results_ct rfl _ _ gb109 31 #[.int .i64 t115, .int .i64 t116, .slice Ao51 x114002_1.length co51, .slice Ao52 x114003_1.length co52] (0, 0) _ rfl (by (with_reducible repeat (first | refine blk_drewN ?_ _ | refine blk_drew ?_ | refine blk_alloc ?_ _)); refine blk_put (cs := #[.int .i64 t115, .int .i64 t116, .slice Ao51 x114002_1.length co51, .slice none 0 0]) ?_ 3 _ rfl; (with_reducible repeat (first | refine blk_drewN ?_ _ | refine blk_drew ?_ | refine blk_alloc ?_ _)); refine blk_put (cs := #[.int .i64 t115, .int .i64 t116, .slice none 0 0, .slice none 0 0]) ?_ 2 _ rfl; (with_reducible repeat (first | refine blk_drewN ?_ _ | refine blk_drew ?_ | refine blk_alloc ?_ _)); refine blk_put (cs := #[.int .i64 t115, .int .i64 0, .slice none 0 0, .slice none 0 0]) ?_ 1 _ rfl; (with_reducible repeat (first | refine blk_drewN ?_ _ | refine blk_drew ?_ | refine blk_alloc ?_ _)); refine blk_put (cs := #[.int .i64 0, .int .i64 0, .slice none 0 0, .slice none 0 0]) ?_ 0 _ rfl; exact zK BK109.out) Tryd.underlying31 rfl (by kernel_rfl)) rfl ?_
         exact ⟨_, _, by first | rfl | (simp [errW_none, errW_some] <;> rfl) | (simp [*, errW_none, errW_some] <;> rfl), by exact zR (Kd.R_mono (Kd.R_far (p := ⟨gb109, 3, none⟩) (Kd.R_far (p := ⟨gb109, 2, none⟩) (Kd.R_far (p := ⟨gb109, 1, none⟩) (Kd.R_far (p := ⟨gb109, 0, none⟩) (Kd.R_types HO_114002.out BK109.out (by decide)) (fun _ hk => hk.2) (.int .i64 t115)) (fun _ hk => hk.2) (.int .i64 t116)) (fun _ hk => hk.2) (.slice Ao51 x114002_1.length co51)) (fun _ hk => hk.2) (.slice Ao52 x114003_1.length co52)) (fun _ hk => trivial)), by exact zR (Kd.R_mono (Kd.R_far (p := ⟨gb109, 3, none⟩) (Kd.R_far (p := ⟨gb109, 2, none⟩) (Kd.R_far (p := ⟨gb109, 1, none⟩) (Kd.R_far (p := ⟨gb109, 0, none⟩) (Kd.R_types HO_114003.out BK109.out (by decide)) (fun _ hk => hk.2) (.int .i64 t115)) (fun _ hk => hk.2) (.int .i64 t116)) (fun _ hk => hk.2) (.slice Ao51 x114002_1.length co51)) (fun _ hk => hk.2) (.slice Ao52 x114003_1.length co52)) (fun _ hk => trivial)), by exact zB2 HB.out GE109.out GE113.out⟩
        ·rw [if_neg c48] at H
         have c48b0 : (t138.toList == a0.toList) = false := beq_eq_false_iff_ne.mpr c48
         have c48b1 : (t138.toList != a0.toList) = true := bne_iff_ne.mpr c48
         simp only [Option.some.injEq, Prod.mk.injEq] at H
         obtain ⟨rfl, rfl, rfl, rfl, rfl⟩ := H
         have hnb58 := NB113_109.out
         have hnc58 := NB109_113.out
         obtain ⟨hcz59_0, hcz59_1, hcz59_2, hcz59_3, hfz59_0, hfz59_1, hfz59_2, hfz59_3⟩ := zc4f BK113.out
         obtain ⟨Ao60, co60, eo60⟩ := Kd.R_slice HO_114002.out
         subst eo60
         obtain ⟨Ao61, co61, eo61⟩ := Kd.R_slice HO_114003.out
         subst eo61
         go_wp2_with (first | ((with_reducible refine gate_callee (f := 23) rfl ?_); refine goesL_ (some 79) rfl rfl Tryd.func23 (by kernel_rfl) rfl #[.agg #[.int .i64 t115, .int .i64 t116, .slice Ao60 x114002_1.length co60, .slice Ao61 x114003_1.length co61]] rfl (by (try simp only [zm1, zm2, zm3]); first | done | rfl | (simp only [List.length_drop, List.length_take]; rfl)) ?_; (with_reducible refine (impl_PkgOk.calls k1 t115 t116 _ _ x114002_1 _ _ x114003_1 true _ ?side1 ?side2 ?side3 ?side4 A45.out).mono ?_); (case side1 => exact zC (Kd.R_reads' HO_114002.out).2.2); (case side2 => exact (Kd.R_reads' HO_114002.out).2.1); (case side3 => exact zC (Kd.R_reads' HO_114003.out).2.2); (case side4 => exact (Kd.R_reads' HO_114003.out).2.1); rintro e w62 ⟨rfl, hb⟩; refine ⟨_, rfl, ?_⟩; have n0_ := Aside0.mk (Kd.R_below (by exact zR HO_114002.out) hb); have n1_ := Aside0.mk (Kd.R_below (by exact zR HO_114003.out) hb); have n2_ := Aside0.mk (blk_below (g := gb109) (o := .cells #[.int .i64 0, .int .i64 0, .slice none 0 0, .slice none 0 0] 31 (0, 0)) (by exact zK BK109.out) hb); have mS_ := Aside0.mk (blk_below (g := ad114.block) (o := .cells CS 9 (0, 0)) (by exact zK BKS.out) hb); have n3_ := Aside0.mk (blk_below (g := gb113) (o := .cells #[.int .i64 t115, .int .i64 t116, .slice Ao60 x114002_1.length co60, .slice Ao61 x114003_1.length co61] 31 (0, 0)) (by exact zK BK113.out) hb); have n4_ := Aside0.mk (below_step (by exact zB2 HB.out GE109.out GE113.out) hb); clear HO_114002; clear HO_114003; clear BK109; clear BKS; clear BK113; clear HB; have HO_114002 := n0_; have HO_114003 := n1_; have BK109 := n2_; have BKS := mS_; clear mS_; have BK113 := n3_; have HB := n4_; clear n0_ n1_ n2_ n3_ n4_; (try clear hb); (try clear hb2); (try clear hk); (try clear hi); obtain ⟨hcz63_0, hcz63_1, hcz63_2, hcz63_3, hfz63_0, hfz63_1, hfz63_2, hfz63_3⟩ := zc4f BK113.out) | (go_at_call 17; (with_reducible refine (impl_PkgText.calls k1 t115 t116 _ _ x114002_1 _ _ x114003_1 t138 _ ?side1 ?side2 ?side3 ?side4 A47.out).mono ?_); (case side1 => exact zC (Kd.R_reads' HO_114002.out).2.2); (case side2 => exact (Kd.R_reads' HO_114002.out).2.1); (case side3 => exact zC (Kd.R_reads' HO_114003.out).2.2); (case side4 => exact (Kd.R_reads' HO_114003.out).2.1); rintro e w64 ⟨rfl, hb⟩; have n0_ := Aside0.mk (Kd.R_below (by exact zR HO_114002.out) hb); have n1_ := Aside0.mk (Kd.R_below (by exact zR HO_114003.out) hb); have n2_ := Aside0.mk (blk_below (g := gb109) (o := .cells #[.int .i64 0, .int .i64 0, .slice none 0 0, .slice none 0 0] 31 (0, 0)) (by exact zK BK109.out) hb); have mS_ := Aside0.mk (blk_below (g := ad114.block) (o := .cells CS 9 (0, 0)) (by exact zK BKS.out) hb); have n3_ := Aside0.mk (blk_below (g := gb113) (o := .cells #[.int .i64 t115, .int .i64 t116, .slice Ao60 x114002_1.length co60, .slice Ao61 x114003_1.length co61] 31 (0, 0)) (by exact zK BK113.out) hb); have n4_ := Aside0.mk (below_step (by exact zB2 HB.out GE109.out GE113.out) hb); clear HO_114002; clear HO_114003; clear BK109; clear BKS; clear BK113; clear HB; have HO_114002 := n0_; have HO_114003 := n1_; have BK109 := n2_; have BKS := mS_; clear mS_; have BK113 := n3_; have HB := n4_; clear n0_ n1_ n2_ n3_ n4_; (try clear hb); (try clear hb2); (try clear hk); (try clear hi); obtain ⟨hcz65_0, hcz65_1, hcz65_2, hcz65_3, hfz65_0, hfz65_1, hfz65_2, hfz65_3⟩ := zc4f BK109.out))
         refine bodyPost_ret (results_ct rfl _ _ gb109 31 #[.int .i64 0, .int .i64 0, .slice none 0 0, .slice none 0 0] (0, 0) _ rfl (by (with_reducible repeat (first | refine blk_drewN ?_ _ | refine blk_drew ?_ | refine blk_alloc ?_ _)); refine blk_put (cs := #[.int .i64 0, .int .i64 0, .slice none 0 0, .slice none 0 0]) ?_ 3 _ rfl; (with_reducible repeat (first | refine blk_drewN ?_ _ | refine blk_drew ?_ | refine blk_alloc ?_ _)); refine blk_put (cs := #[.int .i64 0, .int .i64 0, .slice none 0 0, .slice none 0 0]) ?_ 2 _ rfl; (with_reducible repeat (first | refine blk_drewN ?_ _ | refine blk_drew ?_ | refine blk_alloc ?_ _)); refine blk_put (cs := #[.int .i64 0, .int .i64 0, .slice none 0 0, .slice none 0 0]) ?_ 1 _ rfl; (with_reducible repeat (first | refine blk_drewN ?_ _ | refine blk_drew ?_ | refine blk_alloc ?_ _)); refine blk_put (cs := #[.int .i64 0, .int .i64 0, .slice none 0 0, .slice none 0 0]) ?_ 0 _ rfl; exact zK BK109.out) Tryd.underlying31 rfl (by kernel_rfl)) rfl ?_
         exact ⟨_, _, by first | rfl | (simp [errW_none, errW_some] <;> rfl) | (simp [*, errW_none, errW_some] <;> rfl), by first | exact Kd.R_nil _ _ _ _ _ | exact Kd.N_nil _ _ _ _ _ | exact Kd.V_nil _ _ _ _ _ | exact Kd.Q_nil _ _ _ _ _ | exact Kd.S_nil _ _ _ _ _, by first | exact Kd.R_nil _ _ _ _ _ | exact Kd.N_nil _ _ _ _ _ | exact Kd.V_nil _ _ _ _ _ | exact Kd.Q_nil _ _ _ _ _ | exact Kd.S_nil _ _ _ _ _, by exact zB2 HB.out GE109.out GE113.out⟩
       ·replace c46 := Bool.eq_false_iff.mpr c46
        subst c46
        have H1 : (some (0, 0, ([] : List (S67)), ([] : List (S69)), false)) = some (r1, r2, r3, r4, r5) := by rw [if_neg (show ¬ (false = true) by decide)] at H; exact H
        clear H
        have H := H1
        clear H1
        simp only [Option.some.injEq, Prod.mk.injEq] at H
        obtain ⟨rfl, rfl, rfl, rfl, rfl⟩ := H
        have hnb66 := NB113_109.out
        have hnc66 := NB109_113.out
        obtain ⟨hcz67_0, hcz67_1, hcz67_2, hcz67_3, hfz67_0, hfz67_1, hfz67_2, hfz67_3⟩ := zc4f BK113.out
        obtain ⟨Ao68, co68, eo68⟩ := Kd.R_slice HO_114002.out
        subst eo68
        obtain ⟨Ao69, co69, eo69⟩ := Kd.R_slice HO_114003.out
        subst eo69
        go_wp2_with (first | ((with_reducible refine gate_callee (f := 23) rfl ?_); refine goesL_ (some 79) rfl rfl Tryd.func23 (by kernel_rfl) rfl #[.agg #[.int .i64 t115, .int .i64 t116, .slice Ao68 x114002_1.length co68, .slice Ao69 x114003_1.length co69]] rfl (by (try simp only [zm1, zm2, zm3]); first | done | rfl | (simp only [List.length_drop, List.length_take]; rfl)) ?_; (with_reducible refine (impl_PkgOk.calls k1 t115 t116 _ _ x114002_1 _ _ x114003_1 false _ ?side1 ?side2 ?side3 ?side4 A45.out).mono ?_); (case side1 => exact zC (Kd.R_reads' HO_114002.out).2.2); (case side2 => exact (Kd.R_reads' HO_114002.out).2.1); (case side3 => exact zC (Kd.R_reads' HO_114003.out).2.2); (case side4 => exact (Kd.R_reads' HO_114003.out).2.1); rintro e w70 ⟨rfl, hb⟩; refine ⟨_, rfl, ?_⟩; have n0_ := Aside0.mk (Kd.R_below (by exact zR HO_114002.out) hb); have n1_ := Aside0.mk (Kd.R_below (by exact zR HO_114003.out) hb); have n2_ := Aside0.mk (blk_below (g := gb109) (o := .cells #[.int .i64 0, .int .i64 0, .slice none 0 0, .slice none 0 0] 31 (0, 0)) (by exact zK BK109.out) hb); have mS_ := Aside0.mk (blk_below (g := ad114.block) (o := .cells CS 9 (0, 0)) (by exact zK BKS.out) hb); have n3_ := Aside0.mk (blk_below (g := gb113) (o := .cells #[.int .i64 t115, .int .i64 t116, .slice Ao68 x114002_1.length co68, .slice Ao69 x114003_1.length co69] 31 (0, 0)) (by exact zK BK113.out) hb); have n4_ := Aside0.mk (below_step (by exact zB2 HB.out GE109.out GE113.out) hb); clear HO_114002; clear HO_114003; clear BK109; clear BKS; clear BK113; clear HB; have HO_114002 := n0_; have HO_114003 := n1_; have BK109 := n2_; have BKS := mS_; clear mS_; have BK113 := n3_; have HB := n4_; clear n0_ n1_ n2_ n3_ n4_; (try clear hb); (try clear hb2); (try clear hk); (try clear hi); obtain ⟨hcz71_0, hcz71_1, hcz71_2, hcz71_3, hfz71_0, hfz71_1, hfz71_2, hfz71_3⟩ := zc4f BK109.out))
        refine bodyPost_ret (results_ct rfl _ _ gb109 31 #[.int .i64 0, .int .i64 0, .slice none 0 0, .slice none 0 0] (0, 0) _ rfl (by (with_reducible repeat (first | refine blk_drewN ?_ _ | refine blk_drew ?_ | refine blk_alloc ?_ _)); refine blk_put (cs := #[.int .i64 0, .int .i64 0, .slice none 0 0, .slice none 0 0]) ?_ 3 _ rfl; (with_reducible repeat (first | refine blk_drewN ?_ _ | refine blk_drew ?_ | refine blk_alloc ?_ _)); refine blk_put (cs := #[.int .i64 0, .int .i64 0, .slice none 0 0, .slice none 0 0]) ?_ 2 _ rfl; (with_reducible repeat (first | refine blk_drewN ?_ _ | refine blk_drew ?_ | refine blk_alloc ?_ _)); refine blk_put (cs := #[.int .i64 0, .int .i64 0, .slice none 0 0, .slice none 0 0]) ?_ 1 _ rfl; (with_reducible repeat (first | refine blk_drewN ?_ _ | refine blk_drew ?_ | refine blk_alloc ?_ _)); refine blk_put (cs := #[.int .i64 0, .int .i64 0, .slice none 0 0, .slice none 0 0]) ?_ 0 _ rfl; exact zK BK109.out) Tryd.underlying31 rfl (by kernel_rfl)) rfl ?_
        exact ⟨_, _, by first | rfl | (simp [errW_none, errW_some] <;> rfl) | (simp [*, errW_none, errW_some] <;> rfl), by first | exact Kd.R_nil _ _ _ _ _ | exact Kd.N_nil _ _ _ _ _ | exact Kd.V_nil _ _ _ _ _ | exact Kd.Q_nil _ _ _ _ _ | exact Kd.S_nil _ _ _ _ _, by first | exact Kd.R_nil _ _ _ _ _ | exact Kd.N_nil _ _ _ _ _ | exact Kd.V_nil _ _ _ _ _ | exact Kd.Q_nil _ _ _ _ _ | exact Kd.S_nil _ _ _ _ _, by exact zB2 HB.out GE109.out GE113.out⟩
   ·rw [if_neg c8] at H
    exact absurd H (by simp)
  ·rw [if_neg c6] at H
   exact absurd H (by simp)

/-! ### spec_l6In: function 54 -/
theorem spec_l6In_b (w : World) (n a b : Int) (v : Bool) (h : inB_ n a b = v) : Calls Tryd.prog 54 #[.int .i64 n, .int .i64 a, .int .i64 b] w fun e w' => e = .returned (.bool v) ∧ w' = w := by
 subst h
 go_enter Tryd.func54, Tryd.ntmps54
 by_cases h1 : a ≤ n
 ·by_cases h2 : n ≤ b
  ·have e1 : inB_ n a b = true := by unfold inB_; rw [decide_eq_true h1, decide_eq_true h2]; rfl
   have d1 : decide (a ≤ n) = true := decide_eq_true h1
   have d2 : decide (n ≤ b) = true := decide_eq_true h2
   rw [e1]
   clear h1 h2 e1
   go_wp2
   go_ret
   exact ⟨by first | rfl | simp [*], rfl⟩
  ·have e1 : inB_ n a b = false := by unfold inB_; rw [decide_eq_false h2, Bool.and_false]
   have d1 : decide (a ≤ n) = true := decide_eq_true h1
   have d2 : decide (n ≤ b) = false := decide_eq_false h2
   rw [e1]
   clear h1 h2 e1
   go_wp2
   go_ret
   exact ⟨by first | rfl | simp [*], rfl⟩
 ·have e1 : inB_ n a b = false := by unfold inB_; rw [decide_eq_false h1, Bool.false_and]
  have d1 : decide (a ≤ n) = false := decide_eq_false h1
  rw [e1]
  clear h1 e1
  go_wp2
  go_ret
  exact ⟨by first | rfl | simp [*], rfl⟩
def spec_l6In.f (a0 : Int) (a1 : Int) (a2 : Int) : Option (Bool) := if a0 ≥ a1 then (some (decide (a0 ≤ a2))) else (some (false))
theorem spec_l6In.calls (a0 : Int) (a1 : Int) (a2 : Int) (r : Bool) (w : World) (h : spec_l6In.f a0 a1 a2 = some r) :
  Calls Tryd.prog 54 #[.int .i64 a0, .int .i64 a1, .int .i64 a2] w fun e w' => e = .returned (.bool r) ∧ Drawn0 w w' := by
 have e : inB_ a0 a1 a2 = r := by
  unfold spec_l6In.f at h
  unfold inB_
  by_cases c : a0 ≥ a1
  ·rw [if_pos c] at h
   rw [decide_eq_true c, Bool.true_and]
   exact Option.some.inj h
  ·rw [if_neg c] at h
   rw [decide_eq_false c, Bool.false_and]
   exact Option.some.inj h
 exact (spec_l6In_b w a0 a1 a2 r e).mono fun _ _ h => ⟨h.1, by rw [h.2]; exact Drawn0.refl _⟩

/-! ### spec_l1Files: function 91 -/
def file1 (l : List S67) (i : Nat) : Bool := inB_ (l.getD i z67).f0 0 5 && (inB_ (l.getD i z67).f1 0 9 && (i == 0 || decide ((l.getD (i - 1) z67).f0 < (l.getD i z67).f0)))
def l1f (l : List S67) : Bool := okFrom (file1 l) l.length 0 && decide (l.length ≤ 2)
set_option maxHeartbeats 8000000 in
set_option maxRecDepth 100000 in
theorem l1f_calls (A0 : Option Addr) (c0 : Nat) (l0 : List S67) (w : World) (hr0 : Kd.C k67 w A0 l0.length l0) (hc0 : l0.length ≤ c0) :
  Calls Tryd.prog 91 #[.slice A0 l0.length c0] w fun e w' => e = .returned (.bool (l1f l0)) ∧ Drawn0 w w' := by
 have HR := Aside0.mk hr0
 have HC := Aside0.mk hc0
 have HL := Aside0.mk hr0.2.1
 clear hr0 hc0
 go_enter Tryd.func91, Tryd.ntmps91
 go_wp2
 go_loopw [3] (fun v3 w' => ∃ x : Int, 0 ≤ x ∧ x ≤ (l0.length : Int) ∧ v3 = .int .i64 x ∧ Aside0 (l1f l0 = (okFrom (file1 l0) (l0.length - x.toNat) x.toNat && decide (l0.length ≤ 2))) ∧ Drawn0 w w') (fun v3 _ => l0.length - (intOf v3).toNat)
 case atStart => exact ⟨0, by omega, by omega, rfl, ⟨rfl⟩, Drawn0.refl _⟩
 case round =>
  obtain ⟨x, hx0, hx1, rfl, HE, ⟨m1, rfl⟩⟩ := hrel
  by_cases hlt : x < (l0.length : Int)
  ·obtain ⟨ad, e, c0, c1⟩ := at_T67 HR.out x hx0 hlt
   cases e
   obtain ⟨F0, hF0⟩ : ∃ F0, F0 = (rd_T67 l0 x).f0 := ⟨_, rfl⟩
   obtain ⟨F1, hF1⟩ : ∃ F1, F1 = (rd_T67 l0 x).f1 := ⟨_, rfl⟩
   rw [← hF0] at c0
   rw [← hF1] at c1
   have HF := Aside0.mk (And.intro hF0 hF1)
   clear hF0 hF1
   obtain ⟨b1, hb1⟩ : ∃ b, inB_ F0 0 5 = b := ⟨_, rfl⟩
   obtain ⟨b2, hb2⟩ : ∃ b, inB_ F1 0 9 = b := ⟨_, rfl⟩
   have C1 := Aside0.mk (fun W => spec_l6In_b W F0 0 5 b1 hb1)
   have C2 := Aside0.mk (fun W => spec_l6In_b W F1 0 9 b2 hb2)
   have B1 := Aside0.mk hb1
   have B2 := Aside0.mk hb2
   clear hb1 hb2
   have q1 : decide (x < (l0.length : Int)) = true := decide_eq_true hlt
   have q2 : 0 ≤ x := hx0
   have HN := Aside0.mk (okFrom_at (p := file1 l0) hx0 hlt)
   have no : Aside0 (file1 l0 x.toNat = false → l1f l0 = false) := ⟨fun h_ => by rw [HE.out, HN.out, h_]; rfl⟩
   have yes : Aside0 (file1 l0 x.toNat = true → l1f l0 = (okFrom (file1 l0) (l0.length - (x + 1).toNat) (x + 1).toNat && decide (l0.length ≤ 2))) := ⟨fun h_ => by rw [HE.out, HN.out, h_]; rfl⟩
   clear HE HN
   have hb2 : b2 = true ∨ b2 = false := by cases b2 <;> simp
   have HL2 := HL.out
   cases b1 with
   | false =>
    go_wp2
    go_quiet ((go_at_call 54; (first | with_reducible refine (C1.out _).mono ?_ | with_reducible refine (C2.out _).mono ?_); exact fun _ _ h_ => ⟨h_.1, _, h_.2⟩))
    go_wp2
    go_ret
    rw [no.out (by unfold file1; rw [← show _ = (l0.getD x.toNat z67).f0 from HF.out.1, B1.out]; rfl)]
    exact ⟨by first | rfl | simp [*], by repeat (first | exact Drawn0.refl _ | apply Drawn0.step)⟩
   | true =>
    cases b2 with
    | false =>
     go_wp2
     go_quiet ((go_at_call 54; (first | with_reducible refine (C1.out _).mono ?_ | with_reducible refine (C2.out _).mono ?_); exact fun _ _ h_ => ⟨h_.1, _, h_.2⟩))
     go_wp2
     go_ret
     rw [no.out (by unfold file1; rw [← show _ = (l0.getD x.toNat z67).f0 from HF.out.1, ← show _ = (l0.getD x.toNat z67).f1 from HF.out.2, B1.out, B2.out]; rfl)]
     exact ⟨by first | rfl | simp [*], by repeat (first | exact Drawn0.refl _ | apply Drawn0.step)⟩
    | true =>
     by_cases hz : x ≤ 0
     ·have hx4 : decide (0 < x) = false := decide_eq_false (by omega)
      have Y := Aside0.mk (yes.out (by unfold file1; rw [← show _ = (l0.getD x.toNat z67).f0 from HF.out.1, ← show _ = (l0.getD x.toNat z67).f1 from HF.out.2, B1.out, B2.out, show (x.toNat == 0) = true by rw [beq_iff_eq]; omega]; rfl))
      clear yes no hz
      go_wp2
      go_quiet ((go_at_call 54; (first | with_reducible refine (C1.out _).mono ?_ | with_reducible refine (C2.out _).mono ?_); exact fun _ _ h_ => ⟨h_.1, _, h_.2⟩))
      go_wp2
      go_roundw
      case rel => exact ⟨x + 1, by omega, by omega, by first | rfl | simp, Y, by repeat (first | exact Drawn0.refl _ | apply Drawn0.step)⟩
      case measure => simp [intOf]; omega
     ·have g0 : 0 < x := by omega
      clear hz
      obtain ⟨y, hy⟩ : ∃ y, y = x - 1 := ⟨_, rfl⟩
      have hw : IntKind.i64.wrap (x - 1) = y := by rw [i64_w, hy]; unfold wrap64; omega
      obtain ⟨ad2, e2, d0, d1⟩ := at_T67 HR.out y (by omega) (by omega)
      obtain ⟨G0, hG0⟩ : ∃ G0, G0 = (rd_T67 l0 y).f0 := ⟨_, rfl⟩
      rw [← hG0] at d0
      cases e2
      have HG := Aside0.mk hG0
      clear hG0 d1
      have hx2 : 0 ≤ y := by omega
      have hx3 : decide (y < (l0.length : Int)) = true := decide_eq_true (by omega)
      have hx4 : decide (0 < x) = true := decide_eq_true g0
      have hx5 : y < (l0.length : Int) := by omega
      have HY := Aside0.mk hy
      clear hy
      have FD : Aside0 (file1 l0 x.toNat = decide (G0 < F0)) := ⟨by
       unfold file1
       rw [← show _ = (l0.getD x.toNat z67).f0 from HF.out.1, ← show _ = (l0.getD x.toNat z67).f1 from HF.out.2, B1.out, B2.out, show (x.toNat == 0) = false by rw [beq_eq_false_iff_ne]; omega, show x.toNat - 1 = y.toNat by have := HY.out; omega, ← show _ = (l0.getD y.toNat z67).f0 from HG.out]; rfl⟩
      by_cases hc : F0 ≤ G0
      ·have cb : decide (F0 ≤ G0) = true := decide_eq_true hc
       have N := Aside0.mk (no.out (by rw [FD.out, decide_eq_false (by omega)]))
       clear yes no hc
       go_wp2
       go_quiet ((go_at_call 54; (first | with_reducible refine (C1.out _).mono ?_ | with_reducible refine (C2.out _).mono ?_); exact fun _ _ h_ => ⟨h_.1, _, h_.2⟩))
       go_wp2
       go_ret
       rw [N.out]
       exact ⟨by first | rfl | simp [*], by repeat (first | exact Drawn0.refl _ | apply Drawn0.step)⟩
      ·have cb : decide (F0 ≤ G0) = false := decide_eq_false hc
       have Y := Aside0.mk (yes.out (by rw [FD.out, decide_eq_true (by omega)]))
       clear yes no hc
       go_wp2
       go_quiet ((go_at_call 54; (first | with_reducible refine (C1.out _).mono ?_ | with_reducible refine (C2.out _).mono ?_); exact fun _ _ h_ => ⟨h_.1, _, h_.2⟩))
       go_wp2
       go_roundw
       case rel => exact ⟨x + 1, by omega, by omega, by first | rfl | simp, Y, by repeat (first | exact Drawn0.refl _ | apply Drawn0.step)⟩
       case measure => simp [intOf]; omega
  ·have hxe : x = (l0.length : Int) := by omega
   have q1 : decide (x < (l0.length : Int)) = false := decide_eq_false hlt
   have E := Aside0.mk (show l1f l0 = decide ((l0.length : Int) ≤ 2) by
    rw [HE.out, hxe, Int.toNat_natCast, Nat.sub_self]
    simp only [okFrom, Bool.true_and]
    rw [Bool.eq_iff_iff, decide_eq_true_eq, decide_eq_true_eq]; omega)
   clear hxe HE
   go_wp2
   go_ret
   rw [E.out]
   exact ⟨by first | rfl | simp [*], by repeat (first | exact Drawn0.refl _ | apply Drawn0.step)⟩
def spec_l1Files.f (_k : Nat) (l0 : List S67) : Option Bool := some (l1f l0)
theorem spec_l1Files.mono : ∀ a0 k, LeO (spec_l1Files.f k a0) (spec_l1Files.f (k + 1) a0) := fun _ _ _ h => h
theorem spec_l1Files.calls (k : Nat) (A0 : Option Addr) (c0 : Nat) (l0 : List S67) (r : Bool) (w : World) (hr0 : Kd.C k67 w A0 l0.length l0) (hc0 : l0.length ≤ c0) (h : spec_l1Files.f k l0 = some r) :
  Calls Tryd.prog 91 #[.slice A0 l0.length c0] w fun e w' => e = .returned (.bool r) ∧ Below w.heap.size w w' := by
 obtain rfl := Option.some.inj h
 refine (l1f_calls A0 c0 l0 w hr0 hc0).mono ?_
 rintro e w' ⟨h1, n, rfl⟩
 refine ⟨h1, ?_⟩
 apply pw_below_drewN
 exact Below.refl _ _

/-! ### spec_l1Deps: function 92 -/
def dep1 (name : Int) (l : List S69) (i : Nat) : Bool := inB_ (l.getD i z69).f0 1 4 && (!decide ((l.getD i z69).f0 = name) && (inB_ (l.getD i z69).f1 1 5 && (i == 0 || decide ((l.getD (i - 1) z69).f0 < (l.getD i z69).f0))))
def l1d (name : Int) (l : List S69) : Bool := okFrom (dep1 name l) l.length 0 && decide (l.length ≤ 2)
set_option maxHeartbeats 8000000 in
set_option maxRecDepth 100000 in
theorem l1d_calls (a0 : Int) (A0 : Option Addr) (c0 : Nat) (l0 : List S69) (w : World) (hr0 : Kd.C k69 w A0 l0.length l0) (hc0 : l0.length ≤ c0) :
  Calls Tryd.prog 92 #[.int .i64 a0, .slice A0 l0.length c0] w fun e w' => e = .returned (.bool (l1d a0 l0)) ∧ Below w.heap.size w w' := by
 have HR := Aside0.mk hr0
 have HC := Aside0.mk hc0
 have HL := Aside0.mk hr0.2.1
 have HB := Aside0.mk (Below.refl w.heap.size w)
 clear hr0 hc0
 go_enter Tryd.func92, Tryd.ntmps92
 go_wp2
 go_loopw [5] (fun v5 w' => ∃ x : Int, 0 ≤ x ∧ x ≤ (l0.length : Int) ∧ v5 = .int .i64 x ∧ Aside0 (l1d a0 l0 = (okFrom (dep1 a0 l0) (l0.length - x.toNat) x.toNat && decide (l0.length ≤ 2))) ∧ Aside0 (Below w.heap.size w w')) (fun v5 _ => l0.length - (intOf v5).toNat)
 case atStart => exact ⟨0, by omega, by omega, rfl, ⟨rfl⟩, HB⟩
 case round =>
  clear HB
  obtain ⟨x, hx0, hx1, rfl, HE, HB⟩ := hrel
  by_cases hlt : x < (l0.length : Int)
  ·obtain ⟨ad, e, c0, c1⟩ := at_T69 HR.out x hx0 hlt
   cases e
   replace c0 := (HB.out.cell (World.block_lt_of_cell? w _ c0)).trans c0
   replace c1 := (HB.out.cell (World.block_lt_of_cell? w _ c1)).trans c1
   obtain ⟨F0, hF0⟩ : ∃ F0, F0 = (rd_T69 l0 x).f0 := ⟨_, rfl⟩
   obtain ⟨F1, hF1⟩ : ∃ F1, F1 = (rd_T69 l0 x).f1 := ⟨_, rfl⟩
   rw [← hF0] at c0
   rw [← hF1] at c1
   have HF := Aside0.mk (And.intro hF0 hF1)
   clear hF0 hF1
   have q1 : decide (x < (l0.length : Int)) = true := decide_eq_true hlt
   have q2 : 0 ≤ x := hx0
   obtain ⟨b1, hb1⟩ : ∃ b, inB_ F0 1 4 = b := ⟨_, rfl⟩
   obtain ⟨b2, hb2⟩ : ∃ b, inB_ F1 1 5 = b := ⟨_, rfl⟩
   have C1 := Aside0.mk (fun W => spec_l6In_b W F0 1 4 b1 hb1)
   have C2 := Aside0.mk (fun W => spec_l6In_b W F1 1 5 b2 hb2)
   have B1 := Aside0.mk hb1
   have B2 := Aside0.mk hb2
   clear hb1 hb2
   have HN := Aside0.mk (okFrom_at (p := dep1 a0 l0) hx0 hlt)
   have no : Aside0 (dep1 a0 l0 x.toNat = false → l1d a0 l0 = false) := ⟨fun h_ => by rw [HE.out, HN.out, h_]; rfl⟩
   have yes : Aside0 (dep1 a0 l0 x.toNat = true → l1d a0 l0 = (okFrom (dep1 a0 l0) (l0.length - (x + 1).toNat) (x + 1).toNat && decide (l0.length ≤ 2))) := ⟨fun h_ => by rw [HE.out, HN.out, h_]; rfl⟩
   have D : Aside0 (dep1 a0 l0 x.toNat = (b1 && (!decide (F0 = a0) && (b2 && (x.toNat == 0 || decide ((l0.getD (x.toNat - 1) z69).f0 < F0)))))) := ⟨by
    unfold dep1
    rw [← show _ = (l0.getD x.toNat z69).f0 from HF.out.1, ← show _ = (l0.getD x.toNat z69).f1 from HF.out.2, B1.out, B2.out]⟩
   clear HE HN HF B1 B2
   have HL2 := HL.out
   go_wp2
   have n0_ := Aside0.mk (below_alloc HB.out (Obj.cells #[.int .i64 F0, .int .i64 F1] 69))
   have n1_ := (below_alloc (Below.refl wr.heap.size wr) (Obj.cells #[.int .i64 F0, .int .i64 F1] 69))
   have k0 : (wr.alloc (Obj.cells #[.int .i64 F0, .int .i64 F1] 69)).cell? ⟨wr.heap.size, 0, none⟩ = some (.int .i64 F0) := by simp
   have k1 : (wr.alloc (Obj.cells #[.int .i64 F0, .int .i64 F1] 69)).cell? ⟨wr.heap.size, 1, none⟩ = some (.int .i64 F1) := by simp
   clear HB c0 c1 n1_
   generalize wr.alloc (Obj.cells #[.int .i64 F0, .int .i64 F1] 69) = W at n0_ k0 k1 ⊢
   generalize wr.heap.size = gb at k0 k1 ⊢
   have HB := n0_
   clear n0_
   cases b1 with
   | false =>
    go_quiet ((go_at_call 54; (first | with_reducible refine (C1.out _).mono ?_ | with_reducible refine (C2.out _).mono ?_); exact fun _ _ h_ => ⟨h_.1, _, h_.2⟩))
    go_wp2
    go_ret
    rw [no.out (by rw [D.out]; rfl)]
    exact ⟨by first | rfl | simp [*], by repeat (first | exact HB.out | apply pw_below_drewN)⟩
   | true =>
    by_cases he : F0 = a0
    ·have N := Aside0.mk (no.out (by rw [D.out, decide_eq_true he]; rfl))
     have e1 : (F0 == a0) = true := beq_iff_eq.mpr he
     clear yes no D he
     go_quiet ((go_at_call 54; (first | with_reducible refine (C1.out _).mono ?_ | with_reducible refine (C2.out _).mono ?_); exact fun _ _ h_ => ⟨h_.1, _, h_.2⟩))
     go_wp2
     go_ret
     rw [N.out]
     exact ⟨by first | rfl | simp [*], by repeat (first | exact HB.out | apply pw_below_drewN)⟩
    ·have e1 : (F0 == a0) = false := beq_eq_false_iff_ne.mpr he
     replace D := Aside0.mk (D.out.trans (by rw [decide_eq_false he]))
     clear he
     cases b2 with
     | false =>
      go_quiet ((go_at_call 54; (first | with_reducible refine (C1.out _).mono ?_ | with_reducible refine (C2.out _).mono ?_); exact fun _ _ h_ => ⟨h_.1, _, h_.2⟩))
      go_wp2
      go_ret
      rw [no.out (by rw [D.out]; rfl)]
      exact ⟨by first | rfl | simp [*], by repeat (first | exact HB.out | apply pw_below_drewN)⟩
     | true =>
      by_cases hz : x ≤ 0
      ·have hx4 : decide (0 < x) = false := decide_eq_false (by omega)
       have Y := Aside0.mk (yes.out (by rw [D.out, show (x.toNat == 0) = true by rw [beq_iff_eq]; omega]; rfl))
       clear yes no D hz
       go_quiet ((go_at_call 54; (first | with_reducible refine (C1.out _).mono ?_ | with_reducible refine (C2.out _).mono ?_); exact fun _ _ h_ => ⟨h_.1, _, h_.2⟩))
       go_wp2
       go_roundw
       case rel => exact ⟨x + 1, by omega, by omega, by first | rfl | simp, Y, ⟨by repeat (first | exact HB.out | apply pw_below_drewN)⟩⟩
       case measure => simp [intOf]; omega
      ·have g0 : 0 < x := by omega
       clear hz
       obtain ⟨y, hy⟩ : ∃ y, y = x - 1 := ⟨_, rfl⟩
       have hw : IntKind.i64.wrap (x - 1) = y := by rw [i64_w, hy]; unfold wrap64; omega
       obtain ⟨ad2, e2, d0, d1⟩ := at_T69 HR.out y (by omega) (by omega)
       obtain ⟨G0, hG0⟩ : ∃ G0, G0 = (rd_T69 l0 y).f0 := ⟨_, rfl⟩
       obtain ⟨G1, hG1⟩ : ∃ G1, G1 = (rd_T69 l0 y).f1 := ⟨_, rfl⟩
       rw [← hG0] at d0
       rw [← hG1] at d1
       cases e2
       replace d0 := (HB.out.cell (World.block_lt_of_cell? w _ d0)).trans d0
       replace d1 := (HB.out.cell (World.block_lt_of_cell? w _ d1)).trans d1
       have HG := Aside0.mk hG0
       clear hG0 hG1
       have hx2 : 0 ≤ y := by omega
       have hx3 : decide (y < (l0.length : Int)) = true := decide_eq_true (by omega)
       have hx4 : decide (0 < x) = true := decide_eq_true g0
       have hx5 : y < (l0.length : Int) := by omega
       have HY := Aside0.mk hy
       clear hy
       have FD : Aside0 (dep1 a0 l0 x.toNat = decide (G0 < F0)) := ⟨by
        rw [D.out, show (x.toNat == 0) = false by rw [beq_eq_false_iff_ne]; omega, show x.toNat - 1 = y.toNat by have := HY.out; omega, ← show _ = (l0.getD y.toNat z69).f0 from HG.out]; rfl⟩
       by_cases hc : F0 ≤ G0
       ·have cb : decide (F0 ≤ G0) = true := decide_eq_true hc
        have N := Aside0.mk (no.out (by rw [FD.out, decide_eq_false (by omega)]))
        clear yes no hc D
        go_quiet ((go_at_call 54; (first | with_reducible refine (C1.out _).mono ?_ | with_reducible refine (C2.out _).mono ?_); exact fun _ _ h_ => ⟨h_.1, _, h_.2⟩))
        go_wp2
        go_ret
        rw [N.out]
        exact ⟨by first | rfl | simp [*], by repeat (first | exact HB.out | apply pw_below_drewN)⟩
       ·have cb : decide (F0 ≤ G0) = false := decide_eq_false hc
        have Y := Aside0.mk (yes.out (by rw [FD.out, decide_eq_true (by omega)]))
        clear yes no hc D
        go_quiet ((go_at_call 54; (first | with_reducible refine (C1.out _).mono ?_ | with_reducible refine (C2.out _).mono ?_); exact fun _ _ h_ => ⟨h_.1, _, h_.2⟩))
        go_wp2
        go_roundw
        case rel => exact ⟨x + 1, by omega, by omega, by first | rfl | simp, Y, ⟨by repeat (first | exact HB.out | apply pw_below_drewN)⟩⟩
        case measure => simp [intOf]; omega
  ·have hxe : x = (l0.length : Int) := by omega
   have q1 : decide (x < (l0.length : Int)) = false := decide_eq_false hlt
   have E := Aside0.mk (show l1d a0 l0 = decide ((l0.length : Int) ≤ 2) by
    rw [HE.out, hxe, Int.toNat_natCast, Nat.sub_self]
    simp only [okFrom, Bool.true_and]
    rw [Bool.eq_iff_iff, decide_eq_true_eq, decide_eq_true_eq]; omega)
   clear hxe HE
   go_wp2
   go_ret
   rw [E.out]
   exact ⟨by first | rfl | simp [*], by repeat (first | exact HB.out | apply pw_below_drewN)⟩
def spec_l1Deps.f (_k : Nat) (a0 : Int) (l1 : List S69) : Option Bool := some (l1d a0 l1)
theorem spec_l1Deps.mono : ∀ a0 a1 k, LeO (spec_l1Deps.f k a0 a1) (spec_l1Deps.f (k + 1) a0 a1) := fun _ _ _ _ h => h
theorem spec_l1Deps.calls (k : Nat) (a0 : Int) (A1 : Option Addr) (c1 : Nat) (l1 : List S69) (r : Bool) (w : World) (hr1 : Kd.C k69 w A1 l1.length l1) (hc1 : l1.length ≤ c1) (h : spec_l1Deps.f k a0 l1 = some r) :
  Calls Tryd.prog 92 #[.int .i64 a0, .slice A1 l1.length c1] w fun e w' => e = .returned (.bool r) ∧ Below w.heap.size w w' := by
 obtain rfl := Option.some.inj h
 exact l1d_calls a0 A1 c1 l1 w hr1 hc1

/-! ### spec_PkgOk: function 60 -/
def spec_PkgOk.f (k : Nat) (a0_0 : Int) (a0_1 : Int) (l0_2 : List (S67)) (l0_3 : List (S69)) : Option (Bool) := (spec_l6In.f a0_0 1 4).bind fun t140 => (if t140 = true then ((spec_l6In.f a0_1 1 5).bind fun t141 => (if t141 = true then ((spec_l1Files.f k l0_2).bind fun t142 => (if t142 = true then ((spec_l1Deps.f k a0_0 l0_3).bind fun t143 => (some t143)) else (some false))) else (some false))) else (some false))
theorem spec_PkgOk.mono : ∀ a0 a1 a2 a3 k, LeO (spec_PkgOk.f k a0 a1 a2 a3) (spec_PkgOk.f (k + 1) a0 a1 a2 a3) := by
 intro a0 a1 a2 a3 k
 unfold spec_PkgOk.f
 repeat' first
   | (with_reducible exact spec_l1Deps.mono _ _ _)
   | (with_reducible exact spec_l1Files.mono _ _)
   | (with_reducible exact LeO.refl _)
   | (with_reducible exact LeO.none _)
   | (with_reducible refine LeO.ite ?_ ?_)
   | (with_reducible refine LeO.bind ?_ (fun _ => ?_))
   | exact spec_l1Deps.mono _ _ _
   | exact spec_l1Files.mono _ _
   | exact LeO.none _
   | refine LeO.ite ?_ ?_
   | refine LeO.bind ?_ (fun _ => ?_)
set_option maxHeartbeats 8000000 in
set_option maxRecDepth 100000 in
theorem spec_PkgOk.calls (k : Nat) (a0_0 : Int) (a0_1 : Int) (A0_2 : Option Addr) (c0_2 : Nat) (l0_2 : List (S67)) (A0_3 : Option Addr) (c0_3 : Nat) (l0_3 : List (S69)) (r : Bool) (w : World) (hr0_2 : Kd.C k67 w A0_2 l0_2.length l0_2) (hc0_2 : l0_2.length ≤ c0_2) (hr0_3 : Kd.C k69 w A0_3 l0_3.length l0_3) (hc0_3 : l0_3.length ≤ c0_3) (h : spec_PkgOk.f k a0_0 a0_1 l0_2 l0_3 = some r) :
  Calls Tryd.prog 60 #[.agg #[.int .i64 a0_0, .int .i64 a0_1, .slice A0_2 l0_2.length c0_2, .slice A0_3 l0_3.length c0_3]] w fun e w' => e = .returned (.bool r) ∧ Below w.heap.size w w' := by
 have hu31 := Tryd.underlying31
 have HR0_2 := Aside0.mk hr0_2
 have HC0_2 := Aside0.mk hc0_2
 clear hr0_2 hc0_2
 have HR0_3 := Aside0.mk hr0_3
 have HC0_3 := Aside0.mk hc0_3
 clear hr0_3 hc0_3
 have HB := Aside0.mk (Below.refl w.heap.size w)
 have H : ((spec_l6In.f a0_0 1 4).bind fun t140 => (if t140 = true then ((spec_l6In.f a0_1 1 5).bind fun t141 => (if t141 = true then ((spec_l1Files.f k l0_2).bind fun t142 => (if t142 = true then ((spec_l1Deps.f k a0_0 l0_3).bind fun t143 => (some t143)) else (some false))) else (some false))) else (some false))) = some r := h
 clear h
 replace H := Option.bind_eq_some_iff.mp H
 obtain ⟨t140, A20, H⟩ := H
 replace H : (if t140 = true then ((spec_l6In.f a0_1 1 5).bind fun t141 => (if t141 = true then ((spec_l1Files.f k l0_2).bind fun t142 => (if t142 = true then ((spec_l1Deps.f k a0_0 l0_3).bind fun t143 => (some t143)) else (some false))) else (some false))) else (some false)) = some r := H
 have A2 := Aside0.mk A20
 clear A20
 by_cases c3 : t140 = true
 ·subst c3
  have H1 : ((spec_l6In.f a0_1 1 5).bind fun t141 => (if t141 = true then ((spec_l1Files.f k l0_2).bind fun t142 => (if t142 = true then ((spec_l1Deps.f k a0_0 l0_3).bind fun t143 => (some t143)) else (some false))) else (some false))) = some r := by rw [if_pos rfl] at H; exact H
  clear H
  have H := H1
  clear H1
  replace H := Option.bind_eq_some_iff.mp H
  obtain ⟨t141, A40, H⟩ := H
  replace H : (if t141 = true then ((spec_l1Files.f k l0_2).bind fun t142 => (if t142 = true then ((spec_l1Deps.f k a0_0 l0_3).bind fun t143 => (some t143)) else (some false))) else (some false)) = some r := H
  have A4 := Aside0.mk A40
  clear A40
  by_cases c5 : t141 = true
  ·subst c5
   have H1 : ((spec_l1Files.f k l0_2).bind fun t142 => (if t142 = true then ((spec_l1Deps.f k a0_0 l0_3).bind fun t143 => (some t143)) else (some false))) = some r := by rw [if_pos rfl] at H; exact H
   clear H
   have H := H1
   clear H1
   replace H := Option.bind_eq_some_iff.mp H
   obtain ⟨t142, A60, H⟩ := H
   replace H : (if t142 = true then ((spec_l1Deps.f k a0_0 l0_3).bind fun t143 => (some t143)) else (some false)) = some r := H
   have A6 := Aside0.mk A60
   clear A60
   by_cases c7 : t142 = true
   ·subst c7
    have H1 : ((spec_l1Deps.f k a0_0 l0_3).bind fun t143 => (some t143)) = some r := by rw [if_pos rfl] at H; exact H
    clear H
    have H := H1
    clear H1
    replace H := Option.bind_eq_some_iff.mp H
    obtain ⟨t143, A80, H⟩ := H
    replace H : (some t143) = some r := H
    have A8 := Aside0.mk A80
    clear A80
    obtain rfl := Option.some.inj H
    go_enter Tryd.func60, Tryd.ntmps60
    go_wp2_with (first | ((with_reducible refine gate_dst (N := 1) rfl ?_); refine box_event ?hg (N := 1) ?hd (cs := #[.int .i64 a0_0, .int .i64 a0_1, .slice A0_2 l0_2.length c0_2, .slice A0_3 l0_3.length c0_3]) (t := 31) ?hr ?_; (case hd => rfl); (case hg => rfl); (case hr => first | (go_simp; done) | (go_simp; rfl)); intro gb139 hg w9 hbox hb; have n0_ := Aside0.mk (below_step (by exact zB HB.out) hb); have n1_ := Aside0.mk (hbox); have n2_ := Aside0.mk ((by rw [hg]; exact (below_size (by exact zB HB.out)) : w.heap.size ≤ gb139)); have n3_ := Aside0.mk ((by rw [hg]; exact (below_size (by exact zB HB.out)) : w.heap.size ≤ gb139)); clear HB; have HB := n0_; have BK139 := n1_; have GW139 := n2_; have GE139 := n3_; clear n0_ n1_ n2_ n3_; clear hb hbox hg; obtain ⟨hcz10_0, hcz10_1, hcz10_2, hcz10_3, hfz10_0, hfz10_1, hfz10_2, hfz10_3⟩ := zc4f BK139.out) | ((with_reducible refine gate_callee (f := 54) rfl ?_); refine goesL_ (some 5) rfl rfl Tryd.func54 (by kernel_rfl) rfl #[.int .i64 a0_0, .int .i64 1, .int .i64 4] rfl (by (try simp only [zm1, zm2, zm3]); first | done | rfl | (simp only [List.length_drop, List.length_take]; rfl)) ?_; (with_reducible refine (spec_l6In.calls a0_0 1 4 true _ A2.out).mono ?_); rintro e w' ⟨rfl, ⟨nd, rfl⟩⟩; refine ⟨_, rfl, ?_⟩) | (go_at_call 54; (with_reducible refine (spec_l6In.calls a0_1 1 5 true _ A4.out).mono ?_); rintro e w' ⟨rfl, ⟨nd, rfl⟩⟩) | (go_at_call 91; (with_reducible refine (spec_l1Files.calls k _ _ l0_2 true _ ?side1 ?side2 A6.out).mono ?_); (case side1 => exact (Kd.C_below HR0_2.out (by exact zB1 HB.out GE139.out))); (case side2 => exact HC0_2.out); rintro e w11 ⟨rfl, hb⟩; have n0_ := Aside0.mk (blk_below (g := gb139) (o := .cells #[.int .i64 a0_0, .int .i64 a0_1, .slice A0_2 l0_2.length c0_2, .slice A0_3 l0_3.length c0_3] 31 (0, 0)) (by exact zK BK139.out) hb); have n1_ := Aside0.mk (below_step (by exact zB1 HB.out GE139.out) hb); clear BK139; clear HB; have BK139 := n0_; have HB := n1_; clear n0_ n1_; (try clear hb); (try clear hb2); (try clear hk); (try clear hi); obtain ⟨hcz12_0, hcz12_1, hcz12_2, hcz12_3, hfz12_0, hfz12_1, hfz12_2, hfz12_3⟩ := zc4f BK139.out) | (go_at_call 92; (with_reducible refine (spec_l1Deps.calls k a0_0 _ _ l0_3 t143 _ ?side1 ?side2 A8.out).mono ?_); (case side1 => exact zC (Kd.C_below HR0_3.out HB.out)); (case side2 => exact HC0_3.out); rintro e w13 ⟨rfl, hb⟩; have n0_ := Aside0.mk (blk_below (g := gb139) (o := .cells #[.int .i64 a0_0, .int .i64 a0_1, .slice A0_2 l0_2.length c0_2, .slice A0_3 l0_3.length c0_3] 31 (0, 0)) (by exact zK BK139.out) hb); have n1_ := Aside0.mk (below_step (by exact zB1 HB.out GE139.out) hb); clear BK139; clear HB; have BK139 := n0_; have HB := n1_; clear n0_ n1_; (try clear hb); (try clear hb2); (try clear hk); (try clear hi)))
    go_ret
    exact ⟨by first | rfl | (simp [errW_none, errW_some] <;> rfl) | (simp [*, errW_none, errW_some] <;> rfl), by exact zB1 HB.out GE139.out⟩
   ·replace c7 := Bool.eq_false_iff.mpr c7
    subst c7
    have H1 : (some false) = some r := by rw [if_neg (show ¬ (false = true) by decide)] at H; exact H
    clear H
    have H := H1
    clear H1
    obtain rfl := Option.some.inj H
    go_enter Tryd.func60, Tryd.ntmps60
    go_wp2_with (first | ((with_reducible refine gate_dst (N := 1) rfl ?_); refine box_event ?hg (N := 1) ?hd (cs := #[.int .i64 a0_0, .int .i64 a0_1, .slice A0_2 l0_2.length c0_2, .slice A0_3 l0_3.length c0_3]) (t := 31) ?hr ?_; (case hd => rfl); (case hg => rfl); (case hr => first | (go_simp; done) | (go_simp; rfl)); intro gb139 hg w14 hbox hb; have n0_ := Aside0.mk (below_step (by exact zB HB.out) hb); have n1_ := Aside0.mk (hbox); have n2_ := Aside0.mk ((by rw [hg]; exact (below_size (by exact zB HB.out)) : w.heap.size ≤ gb139)); have n3_ := Aside0.mk ((by rw [hg]; exact (below_size (by exact zB HB.out)) : w.heap.size ≤ gb139)); clear HB; have HB := n0_; have BK139 := n1_; have GW139 := n2_; have GE139 := n3_; clear n0_ n1_ n2_ n3_; clear hb hbox hg; obtain ⟨hcz15_0, hcz15_1, hcz15_2, hcz15_3, hfz15_0, hfz15_1, hfz15_2, hfz15_3⟩ := zc4f BK139.out) | ((with_reducible refine gate_callee (f := 54) rfl ?_); refine goesL_ (some 5) rfl rfl Tryd.func54 (by kernel_rfl) rfl #[.int .i64 a0_0, .int .i64 1, .int .i64 4] rfl (by (try simp only [zm1, zm2, zm3]); first | done | rfl | (simp only [List.length_drop, List.length_take]; rfl)) ?_; (with_reducible refine (spec_l6In.calls a0_0 1 4 true _ A2.out).mono ?_); rintro e w' ⟨rfl, ⟨nd, rfl⟩⟩; refine ⟨_, rfl, ?_⟩) | (go_at_call 54; (with_reducible refine (spec_l6In.calls a0_1 1 5 true _ A4.out).mono ?_); rintro e w' ⟨rfl, ⟨nd, rfl⟩⟩) | (go_at_call 91; (with_reducible refine (spec_l1Files.calls k _ _ l0_2 false _ ?side1 ?side2 A6.out).mono ?_); (case side1 => exact (Kd.C_below HR0_2.out (by exact zB1 HB.out GE139.out))); (case side2 => exact HC0_2.out); rintro e w16 ⟨rfl, hb⟩; have n0_ := Aside0.mk (blk_below (g := gb139) (o := .cells #[.int .i64 a0_0, .int .i64 a0_1, .slice A0_2 l0_2.length c0_2, .slice A0_3 l0_3.length c0_3] 31 (0, 0)) (by exact zK BK139.out) hb); have n1_ := Aside0.mk (below_step (by exact zB1 HB.out GE139.out) hb); clear BK139; clear HB; have BK139 := n0_; have HB := n1_; clear n0_ n1_; (try clear hb); (try clear hb2); (try clear hk); (try clear hi)))
    go_ret
    exact ⟨by first | rfl | (simp [errW_none, errW_some] <;> rfl) | (simp [*, errW_none, errW_some] <;> rfl), by exact zB1 HB.out GE139.out⟩
  ·replace c5 := Bool.eq_false_iff.mpr c5
   subst c5
   have H1 : (some false) = some r := by rw [if_neg (show ¬ (false = true) by decide)] at H; exact H
   clear H
   have H := H1
   clear H1
   obtain rfl := Option.some.inj H
   go_enter Tryd.func60, Tryd.ntmps60
   go_wp2_with (first | ((with_reducible refine gate_dst (N := 1) rfl ?_); refine box_event ?hg (N := 1) ?hd (cs := #[.int .i64 a0_0, .int .i64 a0_1, .slice A0_2 l0_2.length c0_2, .slice A0_3 l0_3.length c0_3]) (t := 31) ?hr ?_; (case hd => rfl); (case hg => rfl); (case hr => first | (go_simp; done) | (go_simp; rfl)); intro gb139 hg w17 hbox hb; have n0_ := Aside0.mk (below_step (by exact zB HB.out) hb); have n1_ := Aside0.mk (hbox); have n2_ := Aside0.mk ((by rw [hg]; exact (below_size (by exact zB HB.out)) : w.heap.size ≤ gb139)); have n3_ := Aside0.mk ((by rw [hg]; exact (below_size (by exact zB HB.out)) : w.heap.size ≤ gb139)); clear HB; have HB := n0_; have BK139 := n1_; have GW139 := n2_; have GE139 := n3_; clear n0_ n1_ n2_ n3_; clear hb hbox hg; obtain ⟨hcz18_0, hcz18_1, hcz18_2, hcz18_3, hfz18_0, hfz18_1, hfz18_2, hfz18_3⟩ := zc4f BK139.out) | ((with_reducible refine gate_callee (f := 54) rfl ?_); refine goesL_ (some 5) rfl rfl Tryd.func54 (by kernel_rfl) rfl #[.int .i64 a0_0, .int .i64 1, .int .i64 4] rfl (by (try simp only [zm1, zm2, zm3]); first | done | rfl | (simp only [List.length_drop, List.length_take]; rfl)) ?_; (with_reducible refine (spec_l6In.calls a0_0 1 4 true _ A2.out).mono ?_); rintro e w' ⟨rfl, ⟨nd, rfl⟩⟩; refine ⟨_, rfl, ?_⟩) | (go_at_call 54; (with_reducible refine (spec_l6In.calls a0_1 1 5 false _ A4.out).mono ?_); rintro e w' ⟨rfl, ⟨nd, rfl⟩⟩))
   go_ret
   exact ⟨by first | rfl | (simp [errW_none, errW_some] <;> rfl) | (simp [*, errW_none, errW_some] <;> rfl), by exact zB1 HB.out GE139.out⟩
 ·replace c3 := Bool.eq_false_iff.mpr c3
  subst c3
  have H1 : (some false) = some r := by rw [if_neg (show ¬ (false = true) by decide)] at H; exact H
  clear H
  have H := H1
  clear H1
  obtain rfl := Option.some.inj H
  go_enter Tryd.func60, Tryd.ntmps60
  go_wp2_with (first | ((with_reducible refine gate_dst (N := 1) rfl ?_); refine box_event ?hg (N := 1) ?hd (cs := #[.int .i64 a0_0, .int .i64 a0_1, .slice A0_2 l0_2.length c0_2, .slice A0_3 l0_3.length c0_3]) (t := 31) ?hr ?_; (case hd => rfl); (case hg => rfl); (case hr => first | (go_simp; done) | (go_simp; rfl)); intro gb139 hg w19 hbox hb; have n0_ := Aside0.mk (below_step (by exact zB HB.out) hb); have n1_ := Aside0.mk (hbox); have n2_ := Aside0.mk ((by rw [hg]; exact (below_size (by exact zB HB.out)) : w.heap.size ≤ gb139)); have n3_ := Aside0.mk ((by rw [hg]; exact (below_size (by exact zB HB.out)) : w.heap.size ≤ gb139)); clear HB; have HB := n0_; have BK139 := n1_; have GW139 := n2_; have GE139 := n3_; clear n0_ n1_ n2_ n3_; clear hb hbox hg; obtain ⟨hcz20_0, hcz20_1, hcz20_2, hcz20_3, hfz20_0, hfz20_1, hfz20_2, hfz20_3⟩ := zc4f BK139.out) | ((with_reducible refine gate_callee (f := 54) rfl ?_); refine goesL_ (some 5) rfl rfl Tryd.func54 (by kernel_rfl) rfl #[.int .i64 a0_0, .int .i64 1, .int .i64 4] rfl (by (try simp only [zm1, zm2, zm3]); first | done | rfl | (simp only [List.length_drop, List.length_take]; rfl)) ?_; (with_reducible refine (spec_l6In.calls a0_0 1 4 false _ A2.out).mono ?_); rintro e w' ⟨rfl, ⟨nd, rfl⟩⟩; refine ⟨_, rfl, ?_⟩))
  go_ret
  exact ⟨by first | rfl | (simp [errW_none, errW_some] <;> rfl) | (simp [*, errW_none, errW_some] <;> rfl), by exact zB1 HB.out GE139.out⟩

/-! ### spec_l6Dec: function 62 -/
def spec_l6Dec.f : Nat → Int → Option (ByteArray)
 | 0, _ => none
 | k + 1, a0 => if a0 < (-9223372036854775807) then (some (⟨#[45, 57, 50, 50, 51, 51, 55, 50, 48, 51, 54, 56, 53, 52, 55, 55, 53, 56, 48, 56]⟩ : ByteArray)) else (if a0 < 0 then ((spec_l6Dec.f k (wrap64 (-a0))).bind fun t144 => (if 1 + t144.size ≤ 9223372036854775807 then (some ((⟨#[45]⟩ : ByteArray) ++ t144)) else (none))) else (if a0 < 10 then (some (strOfNums (([(wrap64 (48 + a0)) % 256] : List Int)))) else ((spec_l6Dec.f k (wrap64 (Int.tdiv a0 10))).bind fun t148 => ((some (([(wrap64 (48 + (Int.tmod a0 10))) % 256] : List Int) : List Int)).bind fun y149 => (if t148.size + (strOfNums y149).size ≤ 9223372036854775807 then (some (t148 ++ (strOfNums y149))) else (none))))))
theorem spec_l6Dec.mono_l : ∀ k, (∀ y0, LeO (spec_l6Dec.f k y0) (spec_l6Dec.f (k + 1) y0))
 | 0 => fun _ r h => by simp [spec_l6Dec.f] at h
 | k + 1 => by
  have ih0 := spec_l6Dec.mono_l k
  ·intro y0
   unfold spec_l6Dec.f
   repeat' first
   | (with_reducible exact ih0 _)
   | (with_reducible exact LeO.refl _)
   | (with_reducible exact LeO.none _)
   | (with_reducible refine LeO.ite ?_ ?_)
   | (with_reducible refine LeO.bind ?_ (fun _ => ?_))
   | exact ih0 _
   | exact LeO.none _
   | refine LeO.ite ?_ ?_
   | refine LeO.bind ?_ (fun _ => ?_)
theorem spec_l6Dec.mono : ∀ a0 k, LeO (spec_l6Dec.f k a0) (spec_l6Dec.f (k + 1) a0) := by
 intro a0 k
 have ih0 := spec_l6Dec.mono_l k
 exact ih0 a0
def spec_l6Dec.T7 : Bool × List (List Nat × List Nat) := (true, [([], []), ([0], [0]), ([1], [1]), ([], []), ([3], [3]), ([4], [4]), ([5], [5]), ([6], [6]), ([7], [7]), ([2, 8], [2, 8]), ([9, 2, 0, 1, 2, 3, 4, 5, 6, 7, 8, 9], [9])])
def spec_l6Dec.B7 : List Nat := [0, 1, 3, 0, 8, 24, 56, 120, 248, 511, 1023]
theorem spec_l6Dec.tab7 : rtab .any (opsOf Tryd.f62 7) = spec_l6Dec.T7 := by kernel_rfl
theorem spec_l6Dec.bits7 : waitsOk spec_l6Dec.T7.2 spec_l6Dec.B7 = true := by kernel_rfl
set_option maxHeartbeats 8000000 in
set_option maxRecDepth 100000 in
theorem spec_l6Dec.calls (k : Nat) : ∀ (a0 : Int) (r : ByteArray) (w : World) (h : spec_l6Dec.f k a0 = some r),
  Calls Tryd.prog 62 #[.int .i64 a0] w fun e w' => e = .returned (.string r) ∧ Below w.heap.size w w' := by
 induction k using Nat.strongRecOn with
 | _ k ih =>
 intro a0 r w h
 cases k with
 | zero => exact absurd h (by simp [spec_l6Dec.f])
 | succ k =>
 simp only [spec_l6Dec.f] at h
 have HB := Aside0.mk (Below.refl w.heap.size w)
 have H : (if a0 < (-9223372036854775807) then (some (⟨#[45, 57, 50, 50, 51, 51, 55, 50, 48, 51, 54, 56, 53, 52, 55, 55, 53, 56, 48, 56]⟩ : ByteArray)) else (if a0 < 0 then ((spec_l6Dec.f k (wrap64 (-a0))).bind fun t144 => (if 1 + t144.size ≤ 9223372036854775807 then (some ((⟨#[45]⟩ : ByteArray) ++ t144)) else (none))) else (if a0 < 10 then (some (strOfNums (([(wrap64 (48 + a0)) % 256] : List Int)))) else ((spec_l6Dec.f k (wrap64 (Int.tdiv a0 10))).bind fun t148 => ((some (([(wrap64 (48 + (Int.tmod a0 10))) % 256] : List Int) : List Int)).bind fun y149 => (if t148.size + (strOfNums y149).size ≤ 9223372036854775807 then (some (t148 ++ (strOfNums y149))) else (none))))))) = some r := h
 clear h
 by_cases c2 : a0 < (-9223372036854775807)
 ·rw [if_pos c2] at H
  have c2b0 : decide (a0 < (-9223372036854775807)) = true := decide_eq_true c2
  clear c2
  obtain rfl := Option.some.inj H
  go_enter Tryd.func62, Tryd.ntmps62
  go_wp2
  go_ret
  exact ⟨by first | rfl | (simp [errW_none, errW_some] <;> rfl) | (simp [*, errW_none, errW_some] <;> rfl), by exact zB HB.out⟩
 ·rw [if_neg c2] at H
  have c2b0 : decide (a0 < (-9223372036854775807)) = false := decide_eq_false c2
  clear c2
  by_cases c3 : a0 < 0
  ·rw [if_pos c3] at H
   have c3b0 : decide (a0 < 0) = true := decide_eq_true c3
   clear c3
   replace H := Option.bind_eq_some_iff.mp H
   obtain ⟨t144, A40, H⟩ := H
   replace H : (if 1 + t144.size ≤ 9223372036854775807 then (some ((⟨#[45]⟩ : ByteArray) ++ t144)) else (none)) = some r := H
   have A4 := Aside0.mk A40
   clear A40
   by_cases c5 : 1 + t144.size ≤ 9223372036854775807
   ·rw [if_pos c5] at H
    have c5b0 := eq_true c5
    have c5b1 : decide (1 + t144.size ≤ 9223372036854775807) = true := decide_eq_true c5
    try have c5b2 : (9223372036854775807 < 1 + t144.size) = False := eq_false (Nat.not_lt.2 c5)
    obtain rfl := Option.some.inj H
    go_enter Tryd.func62, Tryd.ntmps62
    go_wp2_with (first | ((with_reducible refine gate_callee (f := 62) rfl ?_); refine goesL_ (some 9) rfl rfl Tryd.func62 (by kernel_rfl) rfl #[.int .i64 (wrap64 (-a0))] rfl (by (try simp only [zm1, zm2, zm3]); first | done | rfl | (simp only [List.length_drop, List.length_take]; rfl)) ?_; (with_reducible refine (ih k (by omega) (wrap64 (-a0)) t144 _ A4.out).mono ?_); rintro e w6 ⟨rfl, hb⟩; refine ⟨_, rfl, ?_⟩; have n0_ := Aside0.mk (below_step (by exact zB HB.out) hb); clear HB; have HB := n0_; clear n0_; (try clear hb); (try clear hb2); (try clear hk); (try clear hi)))
    go_ret
    exact ⟨by first | rfl | (simp [errW_none, errW_some] <;> rfl) | (simp [*, errW_none, errW_some] <;> rfl), by exact zB HB.out⟩
   ·rw [if_neg c5] at H
    exact absurd H (by simp)
  ·rw [if_neg c3] at H
   have c3b0 : decide (a0 < 0) = false := decide_eq_false c3
   clear c3
   by_cases c7 : a0 < 10
   ·rw [if_pos c7] at H
    have c7b0 : decide (a0 < 10) = true := decide_eq_true c7
    clear c7
    obtain ⟨y145, hy145⟩ : ∃ y_ : List Int, y_ = (([(wrap64 (48 + a0)) % 256] : List Int)) := ⟨_, rfl⟩
    replace H : (some (strOfNums y145)) = some r := by first | (rw [hy145]; with_reducible exact H) | (have H2_ := (Option.bind_some _ _).symm.trans H; rw [hy145]; with_reducible exact H2_) | (have H2_ := (Option.bind_some _ _).symm.trans H; with_reducible exact H2_) | with_reducible exact H | (rw [hy145]; exact H) | exact H
    have Ny145 := Aside0.mk hy145
    clear hy145
    obtain rfl := Option.some.inj H
    go_enter Tryd.func62, Tryd.ntmps62
    go_wp2_with (first | ((with_reducible refine gate_dst (N := 16) rfl ?_); refine Kd.R_lit (Kd.int .u8) _ 5 ?hg (N := 16) ?hd (xs := ([(wrap64 (48 + a0)) % 256] : List Int)) (inner := [.int .u8 ((wrap64 (48 + a0)) % 256)]) (ok := fun _ => True) (okp := fun _ => True) ?hr ?hp (fun _ hk => hk) trivial (Below.refl _ _) (Nat.le_refl _) (by simp) ?_; (case hd => rfl); (case hg => rfl); (case hr => first | (go_simp; done) | (go_simp; rfl)); (case hp => exact (Reps.one (show Kd.M (Kd.int .u8) _ _ _ ((wrap64 (48 + a0)) % 256) [.int .u8 ((wrap64 (48 + a0)) % 256)] from rfl) (Reps.none _ _))); intro v146 w8 ho9 hb hg_ hnew_; clear hg_ hnew_; (first | rw [← Ny145.out] at ho9 | (simp only [Int.reduceToNat] at ho9; rw [← Ny145.out] at ho9)); have n0_ := Aside0.mk (Kd.R_lower ho9 (below_size (by exact zB HB.out))); have n1_ := Aside0.mk (below_step (by exact zB HB.out) hb); clear HB; have HO147 := n0_; have HB := n1_; clear n0_ n1_; clear hb ho9; have hcv10 := own_string (P := Tryd.prog) Tryd.underlying22 Tryd.underlying5 Tryd.underlying9 (Kd.own_of_R HO147.out)))
    go_ret
    exact ⟨by first | rfl | (simp [errW_none, errW_some] <;> rfl) | (simp [*, errW_none, errW_some] <;> rfl), by exact zB HB.out⟩
   ·rw [if_neg c7] at H
    have c7b0 : decide (a0 < 10) = false := decide_eq_false c7
    clear c7
    replace H := Option.bind_eq_some_iff.mp H
    obtain ⟨t148, A110, H⟩ := H
    replace H : ((some (([(wrap64 (48 + (Int.tmod a0 10))) % 256] : List Int) : List Int)).bind fun y149 => (if t148.size + (strOfNums y149).size ≤ 9223372036854775807 then (some (t148 ++ (strOfNums y149))) else (none))) = some r := H
    have A11 := Aside0.mk A110
    clear A110
    obtain ⟨y149, hy149⟩ : ∃ y_ : List Int, y_ = (([(wrap64 (48 + (Int.tmod a0 10))) % 256] : List Int)) := ⟨_, rfl⟩
    replace H : (if t148.size + (strOfNums y149).size ≤ 9223372036854775807 then (some (t148 ++ (strOfNums y149))) else (none)) = some r := by first | (rw [hy149]; with_reducible exact H) | (have H2_ := (Option.bind_some _ _).symm.trans H; rw [hy149]; with_reducible exact H2_) | (have H2_ := (Option.bind_some _ _).symm.trans H; with_reducible exact H2_) | with_reducible exact H | (rw [hy149]; exact H) | exact H
    have Ny149 := Aside0.mk hy149
    clear hy149
    by_cases c12 : t148.size + (strOfNums y149).size ≤ 9223372036854775807
    ·rw [if_pos c12] at H
     have c12b0 := eq_true c12
     have c12b1 : decide (t148.size + (strOfNums y149).size ≤ 9223372036854775807) = true := decide_eq_true c12
     try have c12b2 : (9223372036854775807 < t148.size + (strOfNums y149).size) = False := eq_false (Nat.not_lt.2 c12)
     obtain rfl := Option.some.inj H
     go_enter Tryd.func62, Tryd.ntmps62
     try go_wp2
     have n0_ := Aside0.mk (below_drew1 HB.out)
     clear HB
     have HB := n0_
     clear n0_
     refine start_ (n := 11) (S := fun w' => True) (ds := []) #[false, false, false, false, false, false, false, false, false, false, false] (by kernel_rfl) rfl rfl trivial (fun hHeld => ?_); refine with_tabW spec_l6Dec.tab7 spec_l6Dec.bits7 (fun HT_ HW_ => ?_)
     generalize w.drew = w13 at HB hHeld ⊢
     refine pure_ (i := 0) (N := some 18) (v := ?_) (a' := ?_) #[true, false, false, false, false, false, false, false, false, false, false] rfl rfl (any_of HT_.out (by kernel_rfl)) (fun _ _ _ h => h) (Or.inl ⟨by rfl, ?_⟩) ?_ ?_
     rotate_left
     ·intro w'
      go_simp
      with_reducible rfl
     rotate_left
     ·simp only [zp0, zp1, zp2, zp3, zp4, i64_w, i32_w]
      rfl
     refine pure_ (i := 1) (N := some 19) (v := ?_) (a' := ?_) #[true, true, false, false, false, false, false, false, false, false, false] rfl rfl (any_of HT_.out (by kernel_rfl)) (fun _ _ _ h => h) (Or.inl ⟨by rfl, ?_⟩) ?_ ?_
     rotate_left
     ·intro w'
      go_simp
      with_reducible rfl
     rotate_left
     ·simp only [zp0, zp1, zp2, zp3, zp4, i64_w, i32_w]
      rfl
     refine pure_ (i := 3) (N := some 21) (v := ?_) (a' := ?_) #[true, true, false, true, false, false, false, false, false, false, false] rfl rfl (any_of HT_.out (by kernel_rfl)) (fun _ _ _ h => h) (Or.inl ⟨by rfl, ?_⟩) ?_ ?_
     rotate_left
     ·intro w'
      go_simp
      with_reducible rfl
     rotate_left
     ·simp only [zp0, zp1, zp2, zp3, zp4, i64_w, i32_w]
      rfl
     refine pure_ (i := 4) (N := some 22) (v := ?_) (a' := ?_) #[true, true, false, true, true, false, false, false, false, false, false] rfl rfl (any_of HT_.out (by kernel_rfl)) (fun _ _ _ h => h) (Or.inl ⟨by rfl, ?_⟩) ?_ ?_
     rotate_left
     ·intro w'
      go_simp
      with_reducible rfl
     rotate_left
     ·simp only [zp0, zp1, zp2, zp3, zp4, i64_w, i32_w]
      rfl
     refine pure_ (i := 5) (N := some 23) (v := ?_) (a' := ?_) #[true, true, false, true, true, true, false, false, false, false, false] rfl rfl (any_of HT_.out (by kernel_rfl)) (fun _ _ _ h => h) (Or.inl ⟨by rfl, ?_⟩) ?_ ?_
     rotate_left
     ·intro w'
      go_simp
      with_reducible rfl
     rotate_left
     ·simp only [zp0, zp1, zp2, zp3, zp4, i64_w, i32_w]
      rfl
     refine pure_ (i := 6) (N := some 24) (v := ?_) (a' := ?_) #[true, true, false, true, true, true, true, false, false, false, false] rfl rfl (any_of HT_.out (by kernel_rfl)) (fun _ _ _ h => h) (Or.inl ⟨by rfl, ?_⟩) ?_ ?_
     rotate_left
     ·intro w'
      go_simp
      with_reducible rfl
     rotate_left
     ·simp only [zp0, zp1, zp2, zp3, zp4, i64_w, i32_w]
      rfl
     refine join_ (σ := Value) 2 #[true, true, true, true, true, true, true, true, true, false, false] (fun s_ => [(20, .string t148), (25, s_), (26, .string (strOfNums y149))]) (fun s_ w' => (Kd.R (Kd.int .u8) 5 w' w.heap.size (fun _ => True) s_ y149) ∧ (Below w.heap.size w w')) ?_ ?_
     rotate_left
     ·intro hCont
      refine two_ (i := 2) (j := 7) (Ni := some 20) (Nj := some 25) #[true, true, true, true, true, true, true, false, false, false, false] #[true, true, false, true, true, true, true, true, false, false, false] rfl rfl rfl rfl (two_of HT_.out (by kernel_rfl)) (by decide) (by decide) (fun K hK => ?_) (fun K hK => ?_)
      ·skip
       refine goes_ Tryd.func62 (by kernel_rfl) rfl #[.int .i64 (wrap64 (Int.tdiv a0 10))] (by rfl) rfl rfl (by (try simp only [zm1, zm2, zm3]); first | done | rfl | (simp only [List.length_drop, List.length_take]; rfl)) ?_
       with_reducible refine (ih k (by omega) (wrap64 (Int.tdiv a0 10)) t148 _ A11.out).mono ?_
       rintro e w14 ⟨rfl, hb⟩
       refine ⟨_, rfl, ?_⟩
       have n0_ := Aside0.mk (below_step (by exact zB HB.out) hb)
       clear HB
       have HB := n0_
       clear n0_
       (try clear hb)
       (try clear hb2)
       (try clear hk)
       (try clear hi)
       refine hK.out _ _ trivial (fun hHeld => ?_)
       clear hK K
       refine norm_ (a' := ?_) ?_ ?_
       rotate_left
       ·show Act.put _ (some 20) _ = _
        simp only [zp0, zp1, zp2, zp3, zp4, i64_w, i32_w]
        rfl
       refine one_ (i := 7) (N := some 25) #[true, true, true, true, true, true, true, true, false, false, false] rfl rfl (one_of HT_.out (by kernel_rfl)) (by decide) (fun K hK => ?_)
       refine Kd.R_lit_step (Kd.int .u8) _ 5 ?hg (N := 25) ?hd (xs := ([(wrap64 (48 + (Int.tmod a0 10))) % 256] : List Int)) (inner := [.int .u8 ((wrap64 (48 + (Int.tmod a0 10))) % 256)]) (ok := fun _ => True) (okp := fun _ => True) ?hr ?hp (fun _ hk => hk) trivial (Below.refl _ _) (Nat.le_refl _) (by simp) ?_; (case hd => rfl); (case hg => rfl); (case hr => first | (go_simp; done) | (go_simp; rfl)); (case hp => exact (Reps.one (show Kd.M (Kd.int .u8) _ _ _ ((wrap64 (48 + (Int.tmod a0 10))) % 256) [.int .u8 ((wrap64 (48 + (Int.tmod a0 10))) % 256)] from rfl) (Reps.none _ _)))
       intro v150 w15 ho16 hb hg_ hnew_
       clear hg_ hnew_
       (first | rw [← Ny149.out] at ho16 | (simp only [Int.reduceToNat] at ho16; rw [← Ny149.out] at ho16))
       have n0_ := Aside0.mk (Kd.R_lower ho16 (below_size (by exact zB HB.out)))
       have n1_ := Aside0.mk (below_step (by exact zB HB.out) hb)
       clear HB
       have HO151 := n0_
       have HB := n1_
       clear n0_ n1_
       clear hb ho16
       refine hK.out _ _ trivial (fun hHeld => ?_)
       clear hK K
       refine norm_ (a' := ?_) ?_ ?_
       rotate_left
       ·show Act.put _ (some 25) _ = _
        simp only [zp0, zp1, zp2, zp3, zp4, i64_w, i32_w]
        rfl
       refine one_ (i := 8) (N := some 26) #[true, true, true, true, true, true, true, true, true, false, false] rfl rfl (one_of HT_.out (by kernel_rfl)) (by decide) (fun K hK => ?_)
       have hcv17 := own_string (P := Tryd.prog) Tryd.underlying22 Tryd.underlying5 Tryd.underlying9 (Kd.own_of_R HO151.out)
       refine value_ (w1 := ?_) (v := ?_) (by rfl) rfl ?_ ?_
       rotate_left 2
       ·go_simp
        constructor
        ·rfl
        ·rfl
       clear hcv17
       refine hK.out _ _ trivial (fun hHeld => ?_)
       clear hK K
       refine norm_ (a' := ?_) ?_ ?_
       rotate_left
       ·show Act.put _ (some 26) _ = _
        simp only [zp0, zp1, zp2, zp3, zp4, i64_w, i32_w]
        rfl
       exact norm_ (by simp only [putAll, zp0, zp1, zp2, zp3, zp4]) (hCont (v150) _ ⟨(by exact zR HO151.out), (by exact zB HB.out)⟩)
      ·skip
       refine Kd.R_lit_step (Kd.int .u8) _ 5 ?hg (N := 25) ?hd (xs := ([(wrap64 (48 + (Int.tmod a0 10))) % 256] : List Int)) (inner := [.int .u8 ((wrap64 (48 + (Int.tmod a0 10))) % 256)]) (ok := fun _ => True) (okp := fun _ => True) ?hr ?hp (fun _ hk => hk) trivial (Below.refl _ _) (Nat.le_refl _) (by simp) ?_; (case hd => rfl); (case hg => rfl); (case hr => first | (go_simp; done) | (go_simp; rfl)); (case hp => exact (Reps.one (show Kd.M (Kd.int .u8) _ _ _ ((wrap64 (48 + (Int.tmod a0 10))) % 256) [.int .u8 ((wrap64 (48 + (Int.tmod a0 10))) % 256)] from rfl) (Reps.none _ _)))
       intro v150 w14 ho15 hb hg_ hnew_
       clear hg_ hnew_
       (first | rw [← Ny149.out] at ho15 | (simp only [Int.reduceToNat] at ho15; rw [← Ny149.out] at ho15))
       have n0_ := Aside0.mk (Kd.R_lower ho15 (below_size (by exact zB HB.out)))
       have n1_ := Aside0.mk (below_step (by exact zB HB.out) hb)
       clear HB
       have HO151 := n0_
       have HB := n1_
       clear n0_ n1_
       clear hb ho15
       refine hK.out _ _ trivial (fun hHeld => ?_)
       clear hK K
       refine norm_ (a' := ?_) ?_ ?_
       rotate_left
       ·show Act.put _ (some 25) _ = _
        simp only [zp0, zp1, zp2, zp3, zp4, i64_w, i32_w]
        rfl
       refine two_ (i := 2) (j := 8) (Ni := some 20) (Nj := some 26) #[true, true, true, true, true, true, true, true, false, false, false] #[true, true, false, true, true, true, true, true, true, false, false] rfl rfl rfl rfl (two_of HT_.out (by kernel_rfl)) (by decide) (by decide) (fun K hK => ?_) (fun K hK => ?_)
       ·skip
        refine goes_ Tryd.func62 (by kernel_rfl) rfl #[.int .i64 (wrap64 (Int.tdiv a0 10))] (by rfl) rfl rfl (by (try simp only [zm1, zm2, zm3]); first | done | rfl | (simp only [List.length_drop, List.length_take]; rfl)) ?_
        with_reducible refine (ih k (by omega) (wrap64 (Int.tdiv a0 10)) t148 _ A11.out).mono ?_
        rintro e w16 ⟨rfl, hb⟩
        refine ⟨_, rfl, ?_⟩
        have n0_ := Aside0.mk (Kd.R_below (by exact zR HO151.out) hb)
        have n1_ := Aside0.mk (below_step (by exact zB HB.out) hb)
        clear HO151
        clear HB
        have HO151 := n0_
        have HB := n1_
        clear n0_ n1_
        (try clear hb)
        (try clear hb2)
        (try clear hk)
        (try clear hi)
        refine hK.out _ _ trivial (fun hHeld => ?_)
        clear hK K
        refine norm_ (a' := ?_) ?_ ?_
        rotate_left
        ·show Act.put _ (some 20) _ = _
         simp only [zp0, zp1, zp2, zp3, zp4, i64_w, i32_w]
         rfl
        refine one_ (i := 8) (N := some 26) #[true, true, true, true, true, true, true, true, true, false, false] rfl rfl (one_of HT_.out (by kernel_rfl)) (by decide) (fun K hK => ?_)
        have hcv17 := own_string (P := Tryd.prog) Tryd.underlying22 Tryd.underlying5 Tryd.underlying9 (Kd.own_of_R HO151.out)
        refine value_ (w1 := ?_) (v := ?_) (by rfl) rfl ?_ ?_
        rotate_left 2
        ·go_simp
         constructor
         ·rfl
         ·rfl
        clear hcv17
        refine hK.out _ _ trivial (fun hHeld => ?_)
        clear hK K
        refine norm_ (a' := ?_) ?_ ?_
        rotate_left
        ·show Act.put _ (some 26) _ = _
         simp only [zp0, zp1, zp2, zp3, zp4, i64_w, i32_w]
         rfl
        exact norm_ (by simp only [putAll, zp0, zp1, zp2, zp3, zp4]) (hCont (v150) _ ⟨(by exact zR HO151.out), (by exact zB HB.out)⟩)
       ·skip
        have hcv16 := own_string (P := Tryd.prog) Tryd.underlying22 Tryd.underlying5 Tryd.underlying9 (Kd.own_of_R HO151.out)
        refine value_ (w1 := ?_) (v := ?_) (by rfl) rfl ?_ ?_
        rotate_left 2
        ·go_simp
         constructor
         ·rfl
         ·rfl
        clear hcv16
        refine hK.out _ _ trivial (fun hHeld => ?_)
        clear hK K
        refine norm_ (a' := ?_) ?_ ?_
        rotate_left
        ·show Act.put _ (some 26) _ = _
         simp only [zp0, zp1, zp2, zp3, zp4, i64_w, i32_w]
         rfl
        refine one_ (i := 2) (N := some 20) #[true, true, true, true, true, true, true, true, true, false, false] rfl rfl (one_of HT_.out (by kernel_rfl)) (by decide) (fun K hK => ?_)
        refine goes_ Tryd.func62 (by kernel_rfl) rfl #[.int .i64 (wrap64 (Int.tdiv a0 10))] (by rfl) rfl rfl (by (try simp only [zm1, zm2, zm3]); first | done | rfl | (simp only [List.length_drop, List.length_take]; rfl)) ?_
        with_reducible refine (ih k (by omega) (wrap64 (Int.tdiv a0 10)) t148 _ A11.out).mono ?_
        rintro e w17 ⟨rfl, hb⟩
        refine ⟨_, rfl, ?_⟩
        have n0_ := Aside0.mk (Kd.R_below (by exact zR HO151.out) hb)
        have n1_ := Aside0.mk (below_step (by exact zB HB.out) hb)
        clear HO151
        clear HB
        have HO151 := n0_
        have HB := n1_
        clear n0_ n1_
        (try clear hb)
        (try clear hb2)
        (try clear hk)
        (try clear hi)
        refine hK.out _ _ trivial (fun hHeld => ?_)
        clear hK K
        refine norm_ (a' := ?_) ?_ ?_
        rotate_left
        ·show Act.put _ (some 20) _ = _
         simp only [zp0, zp1, zp2, zp3, zp4, i64_w, i32_w]
         rfl
        exact norm_ (by simp only [putAll, zp0, zp1, zp2, zp3, zp4]) (hCont (v150) _ ⟨(by exact zR HO151.out), (by exact zB HB.out)⟩)
     rintro v150 w18 ⟨h0_, h1_⟩
     have n0_ : Aside0 (Kd.R (Kd.int .u8) 5 w18 w.heap.size (fun _ => True) v150 y149) := ⟨h0_⟩
     have n1_ : Aside0 (Below w.heap.size w w18) := ⟨h1_⟩
     clear HB
     clear h0_ h1_
     have HO151 := n0_
     have HB := n1_
     clear n0_ n1_
     have hHeld := trivial
     refine norm_ (a' := ?_) ?_ ?_
     rotate_left
     ·simp only [putAll, zp0, zp1, zp2, zp3, zp4]
      rfl
     refine pure_ (i := 9) (N := some 27) (v := ?_) (a' := ?_) #[true, true, true, true, true, true, true, true, true, true, false] rfl rfl (any_of HT_.out (by kernel_rfl)) (fun _ _ _ h => h) (Or.inl ⟨by rfl, ?_⟩) ?_ ?_
     rotate_left
     ·intro w'
      go_simp
      with_reducible rfl
     rotate_left
     ·simp only [zp0, zp1, zp2, zp3, zp4, i64_w, i32_w]
      rfl
     refine pure_ (i := 10) (N := some 2) (v := ?_) (a' := ?_) #[true, true, true, true, true, true, true, true, true, true, true] rfl rfl (any_of HT_.out (by kernel_rfl)) (fun _ _ _ h => h) (Or.inl ⟨by rfl, ?_⟩) ?_ ?_
     rotate_left
     ·intro w'
      go_simp
      with_reducible rfl
     rotate_left
     ·simp only [zp0, zp1, zp2, zp3, zp4, i64_w, i32_w]
      rfl
     refine done_ (done_of HT_.out (by kernel_rfl)) ?_
     try go_wp2
     go_ret
     exact ⟨by first | rfl | (simp [errW_none, errW_some] <;> rfl) | (simp [*, errW_none, errW_some] <;> rfl), by exact zB HB.out⟩
    ·rw [if_neg c12] at H
     exact absurd H (by simp)

/-! ### spec_l1Name: function 61 -/
def spec_l1Name.f (k : Nat) (a0 : Int) (a1 : Int) : Option (ByteArray) := (some (([(wrap64 ((wrap64 (97 + a0)) - 1)) % 256] : List Int) : List Int)).bind fun y152 => ((spec_l6Dec.f k a1).bind fun t155 => (if (strOfNums y152).size + t155.size ≤ 9223372036854775807 then (some ((strOfNums y152) ++ t155)) else (none)))
theorem spec_l1Name.mono : ∀ a0 a1 k, LeO (spec_l1Name.f k a0 a1) (spec_l1Name.f (k + 1) a0 a1) := by
 intro a0 a1 k
 unfold spec_l1Name.f
 repeat' first
   | (with_reducible exact spec_l6Dec.mono _ _)
   | (with_reducible exact LeO.refl _)
   | (with_reducible exact LeO.none _)
   | (with_reducible refine LeO.ite ?_ ?_)
   | (with_reducible refine LeO.bind ?_ (fun _ => ?_))
   | exact spec_l6Dec.mono _ _
   | exact LeO.none _
   | refine LeO.ite ?_ ?_
   | refine LeO.bind ?_ (fun _ => ?_)
def spec_l1Name.T1 : Bool × List (List Nat × List Nat) := (true, [([], []), ([0], [0]), ([1], [1]), ([2], [2]), ([3], [3]), ([4], [4]), ([], []), ([6], [6]), ([5, 7], [5, 7]), ([8, 7, 0, 1, 2, 3, 4, 5, 6, 7, 8], [8])])
def spec_l1Name.B1 : List Nat := [0, 1, 3, 7, 15, 31, 0, 64, 255, 511]
theorem spec_l1Name.tab1 : rtab .any (opsOf Tryd.f61 1) = spec_l1Name.T1 := by kernel_rfl
theorem spec_l1Name.bits1 : waitsOk spec_l1Name.T1.2 spec_l1Name.B1 = true := by kernel_rfl
set_option maxHeartbeats 8000000 in
set_option maxRecDepth 100000 in
theorem spec_l1Name.calls (k : Nat) (a0 : Int) (a1 : Int) (r : ByteArray) (w : World) (h : spec_l1Name.f k a0 a1 = some r) :
  Calls Tryd.prog 61 #[.int .i64 a0, .int .i64 a1] w fun e w' => e = .returned (.string r) ∧ Below w.heap.size w w' := by
 have HB := Aside0.mk (Below.refl w.heap.size w)
 have H : ((some (([(wrap64 ((wrap64 (97 + a0)) - 1)) % 256] : List Int) : List Int)).bind fun y152 => ((spec_l6Dec.f k a1).bind fun t155 => (if (strOfNums y152).size + t155.size ≤ 9223372036854775807 then (some ((strOfNums y152) ++ t155)) else (none)))) = some r := h
 clear h
 obtain ⟨y152, hy152⟩ : ∃ y_ : List Int, y_ = (([(wrap64 ((wrap64 (97 + a0)) - 1)) % 256] : List Int)) := ⟨_, rfl⟩
 replace H : ((spec_l6Dec.f k a1).bind fun t155 => (if (strOfNums y152).size + t155.size ≤ 9223372036854775807 then (some ((strOfNums y152) ++ t155)) else (none))) = some r := by first | (rw [hy152]; with_reducible exact H) | (have H2_ := (Option.bind_some _ _).symm.trans H; rw [hy152]; with_reducible exact H2_) | (have H2_ := (Option.bind_some _ _).symm.trans H; with_reducible exact H2_) | with_reducible exact H | (rw [hy152]; exact H) | exact H
 have Ny152 := Aside0.mk hy152
 clear hy152
 replace H := Option.bind_eq_some_iff.mp H
 obtain ⟨t155, A30, H⟩ := H
 replace H : (if (strOfNums y152).size + t155.size ≤ 9223372036854775807 then (some ((strOfNums y152) ++ t155)) else (none)) = some r := H
 have A3 := Aside0.mk A30
 clear A30
 by_cases c4 : (strOfNums y152).size + t155.size ≤ 9223372036854775807
 ·rw [if_pos c4] at H
  have c4b0 := eq_true c4
  have c4b1 : decide ((strOfNums y152).size + t155.size ≤ 9223372036854775807) = true := decide_eq_true c4
  try have c4b2 : (9223372036854775807 < (strOfNums y152).size + t155.size) = False := eq_false (Nat.not_lt.2 c4)
  obtain rfl := Option.some.inj H
  go_enter Tryd.func61, Tryd.ntmps61
  try go_wp2
  have n0_ := Aside0.mk (below_drew1 HB.out)
  clear HB
  have HB := n0_
  clear n0_
  refine start_ (n := 10) (S := fun w' => True) (ds := []) #[false, false, false, false, false, false, false, false, false, false] (by kernel_rfl) rfl rfl trivial (fun hHeld => ?_); refine with_tabW spec_l1Name.tab1 spec_l1Name.bits1 (fun HT_ HW_ => ?_)
  generalize w.drew = w5 at HB hHeld ⊢
  refine pure_ (i := 0) (N := some 5) (v := ?_) (a' := ?_) #[true, false, false, false, false, false, false, false, false, false] rfl rfl (any_of HT_.out (by kernel_rfl)) (fun _ _ _ h => h) (Or.inl ⟨by rfl, ?_⟩) ?_ ?_
  rotate_left
  ·intro w'
   go_simp
   with_reducible rfl
  rotate_left
  ·simp only [zp0, zp1, zp2, zp3, zp4, i64_w, i32_w]
   rfl
  refine pure_ (i := 1) (N := some 6) (v := ?_) (a' := ?_) #[true, true, false, false, false, false, false, false, false, false] rfl rfl (any_of HT_.out (by kernel_rfl)) (fun _ _ _ h => h) (Or.inl ⟨by rfl, ?_⟩) ?_ ?_
  rotate_left
  ·intro w'
   go_simp
   with_reducible rfl
  rotate_left
  ·simp only [zp0, zp1, zp2, zp3, zp4, i64_w, i32_w]
   rfl
  refine pure_ (i := 2) (N := some 7) (v := ?_) (a' := ?_) #[true, true, true, false, false, false, false, false, false, false] rfl rfl (any_of HT_.out (by kernel_rfl)) (fun _ _ _ h => h) (Or.inl ⟨by rfl, ?_⟩) ?_ ?_
  rotate_left
  ·intro w'
   go_simp
   with_reducible rfl
  rotate_left
  ·simp only [zp0, zp1, zp2, zp3, zp4, i64_w, i32_w]
   rfl
  refine pure_ (i := 3) (N := some 8) (v := ?_) (a' := ?_) #[true, true, true, true, false, false, false, false, false, false] rfl rfl (any_of HT_.out (by kernel_rfl)) (fun _ _ _ h => h) (Or.inl ⟨by rfl, ?_⟩) ?_ ?_
  rotate_left
  ·intro w'
   go_simp
   with_reducible rfl
  rotate_left
  ·simp only [zp0, zp1, zp2, zp3, zp4, i64_w, i32_w]
   rfl
  refine pure_ (i := 6) (N := some 11) (v := ?_) (a' := ?_) #[true, true, true, true, false, false, true, false, false, false] rfl rfl (any_of HT_.out (by kernel_rfl)) (fun _ _ _ h => h) (Or.inl ⟨by rfl, ?_⟩) ?_ ?_
  rotate_left
  ·intro w'
   go_simp
   with_reducible rfl
  rotate_left
  ·simp only [zp0, zp1, zp2, zp3, zp4, i64_w, i32_w]
   rfl
  refine join_ (σ := Value) 2 #[true, true, true, true, true, true, true, true, false, false] (fun s_ => [(9, s_), (10, .string (strOfNums y152)), (12, .string t155)]) (fun s_ w' => (Kd.R (Kd.int .u8) 5 w' w.heap.size (fun _ => True) s_ y152) ∧ (Below w.heap.size w w')) ?_ ?_
  rotate_left
  ·intro hCont
   refine two_ (i := 4) (j := 7) (Ni := some 9) (Nj := some 12) #[true, true, true, true, true, false, true, false, false, false] #[true, true, true, true, false, false, true, true, false, false] rfl rfl rfl rfl (two_of HT_.out (by kernel_rfl)) (by decide) (by decide) (fun K hK => ?_) (fun K hK => ?_)
   ·skip
    refine Kd.R_lit_step (Kd.int .u8) _ 5 ?hg (N := 9) ?hd (xs := ([(wrap64 ((wrap64 (97 + a0)) - 1)) % 256] : List Int)) (inner := [.int .u8 ((wrap64 ((wrap64 (97 + a0)) - 1)) % 256)]) (ok := fun _ => True) (okp := fun _ => True) ?hr ?hp (fun _ hk => hk) trivial (Below.refl _ _) (Nat.le_refl _) (by simp) ?_; (case hd => rfl); (case hg => rfl); (case hr => first | (go_simp; done) | (go_simp; rfl)); (case hp => exact (Reps.one (show Kd.M (Kd.int .u8) _ _ _ ((wrap64 ((wrap64 (97 + a0)) - 1)) % 256) [.int .u8 ((wrap64 ((wrap64 (97 + a0)) - 1)) % 256)] from rfl) (Reps.none _ _)))
    intro v153 w6 ho7 hb hg_ hnew_
    clear hg_ hnew_
    (first | rw [← Ny152.out] at ho7 | (simp only [Int.reduceToNat] at ho7; rw [← Ny152.out] at ho7))
    have n0_ := Aside0.mk (Kd.R_lower ho7 (below_size (by exact zB HB.out)))
    have n1_ := Aside0.mk (below_step (by exact zB HB.out) hb)
    clear HB
    have HO154 := n0_
    have HB := n1_
    clear n0_ n1_
    clear hb ho7
    refine hK.out _ _ trivial (fun hHeld => ?_)
    clear hK K
    refine norm_ (a' := ?_) ?_ ?_
    rotate_left
    ·show Act.put _ (some 9) _ = _
     simp only [zp0, zp1, zp2, zp3, zp4, i64_w, i32_w]
     rfl
    refine two_ (i := 5) (j := 7) (Ni := some 10) (Nj := some 12) #[true, true, true, true, true, true, true, false, false, false] #[true, true, true, true, true, false, true, true, false, false] rfl rfl rfl rfl (two_of HT_.out (by kernel_rfl)) (by decide) (by decide) (fun K hK => ?_) (fun K hK => ?_)
    ·skip
     have hcv8 := own_string (P := Tryd.prog) Tryd.underlying22 Tryd.underlying5 Tryd.underlying9 (Kd.own_of_R HO154.out)
     refine value_ (w1 := ?_) (v := ?_) (by rfl) rfl ?_ ?_
     rotate_left 2
     ·go_simp
      constructor
      ·rfl
      ·rfl
     clear hcv8
     refine hK.out _ _ trivial (fun hHeld => ?_)
     clear hK K
     refine norm_ (a' := ?_) ?_ ?_
     rotate_left
     ·show Act.put _ (some 10) _ = _
      simp only [zp0, zp1, zp2, zp3, zp4, i64_w, i32_w]
      rfl
     refine one_ (i := 7) (N := some 12) #[true, true, true, true, true, true, true, true, false, false] rfl rfl (one_of HT_.out (by kernel_rfl)) (by decide) (fun K hK => ?_)
     refine goes_ Tryd.func62 (by kernel_rfl) rfl #[.int .i64 a1] (by rfl) rfl rfl (by (try simp only [zm1, zm2, zm3]); first | done | rfl | (simp only [List.length_drop, List.length_take]; rfl)) ?_
     with_reducible refine (spec_l6Dec.calls k a1 t155 _ A3.out).mono ?_
     rintro e w9 ⟨rfl, hb⟩
     refine ⟨_, rfl, ?_⟩
     have n0_ := Aside0.mk (Kd.R_below (by exact zR HO154.out) hb)
     have n1_ := Aside0.mk (below_step (by exact zB HB.out) hb)
     clear HO154
     clear HB
     have HO154 := n0_
     have HB := n1_
     clear n0_ n1_
     (try clear hb)
     (try clear hb2)
     (try clear hk)
     (try clear hi)
     refine hK.out _ _ trivial (fun hHeld => ?_)
     clear hK K
     refine norm_ (a' := ?_) ?_ ?_
     rotate_left
     ·show Act.put _ (some 12) _ = _
      simp only [zp0, zp1, zp2, zp3, zp4, i64_w, i32_w]
      rfl
     exact norm_ (by simp only [putAll, zp0, zp1, zp2, zp3, zp4]) (hCont (v153) _ ⟨(by exact zR HO154.out), (by exact zB HB.out)⟩)
    ·skip
     refine goes_ Tryd.func62 (by kernel_rfl) rfl #[.int .i64 a1] (by rfl) rfl rfl (by (try simp only [zm1, zm2, zm3]); first | done | rfl | (simp only [List.length_drop, List.length_take]; rfl)) ?_
     with_reducible refine (spec_l6Dec.calls k a1 t155 _ A3.out).mono ?_
     rintro e w8 ⟨rfl, hb⟩
     refine ⟨_, rfl, ?_⟩
     have n0_ := Aside0.mk (Kd.R_below (by exact zR HO154.out) hb)
     have n1_ := Aside0.mk (below_step (by exact zB HB.out) hb)
     clear HO154
     clear HB
     have HO154 := n0_
     have HB := n1_
     clear n0_ n1_
     (try clear hb)
     (try clear hb2)
     (try clear hk)
     (try clear hi)
     refine hK.out _ _ trivial (fun hHeld => ?_)
     clear hK K
     refine norm_ (a' := ?_) ?_ ?_
     rotate_left
     ·show Act.put _ (some 12) _ = _
      simp only [zp0, zp1, zp2, zp3, zp4, i64_w, i32_w]
      rfl
     refine one_ (i := 5) (N := some 10) #[true, true, true, true, true, true, true, true, false, false] rfl rfl (one_of HT_.out (by kernel_rfl)) (by decide) (fun K hK => ?_)
     have hcv9 := own_string (P := Tryd.prog) Tryd.underlying22 Tryd.underlying5 Tryd.underlying9 (Kd.own_of_R HO154.out)
     refine value_ (w1 := ?_) (v := ?_) (by rfl) rfl ?_ ?_
     rotate_left 2
     ·go_simp
      constructor
      ·rfl
      ·rfl
     clear hcv9
     refine hK.out _ _ trivial (fun hHeld => ?_)
     clear hK K
     refine norm_ (a' := ?_) ?_ ?_
     rotate_left
     ·show Act.put _ (some 10) _ = _
      simp only [zp0, zp1, zp2, zp3, zp4, i64_w, i32_w]
      rfl
     exact norm_ (by simp only [putAll, zp0, zp1, zp2, zp3, zp4]) (hCont (v153) _ ⟨(by exact zR HO154.out), (by exact zB HB.out)⟩)
   ·skip
    refine goes_ Tryd.func62 (by kernel_rfl) rfl #[.int .i64 a1] (by rfl) rfl rfl (by (try simp only [zm1, zm2, zm3]); first | done | rfl | (simp only [List.length_drop, List.length_take]; rfl)) ?_
    with_reducible refine (spec_l6Dec.calls k a1 t155 _ A3.out).mono ?_
    rintro e w6 ⟨rfl, hb⟩
    refine ⟨_, rfl, ?_⟩
    have n0_ := Aside0.mk (below_step (by exact zB HB.out) hb)
    clear HB
    have HB := n0_
    clear n0_
    (try clear hb)
    (try clear hb2)
    (try clear hk)
    (try clear hi)
    refine hK.out _ _ trivial (fun hHeld => ?_)
    clear hK K
    refine norm_ (a' := ?_) ?_ ?_
    rotate_left
    ·show Act.put _ (some 12) _ = _
     simp only [zp0, zp1, zp2, zp3, zp4, i64_w, i32_w]
     rfl
    refine one_ (i := 4) (N := some 9) #[true, true, true, true, true, false, true, true, false, false] rfl rfl (one_of HT_.out (by kernel_rfl)) (by decide) (fun K hK => ?_)
    refine Kd.R_lit_step (Kd.int .u8) _ 5 ?hg (N := 9) ?hd (xs := ([(wrap64 ((wrap64 (97 + a0)) - 1)) % 256] : List Int)) (inner := [.int .u8 ((wrap64 ((wrap64 (97 + a0)) - 1)) % 256)]) (ok := fun _ => True) (okp := fun _ => True) ?hr ?hp (fun _ hk => hk) trivial (Below.refl _ _) (Nat.le_refl _) (by simp) ?_; (case hd => rfl); (case hg => rfl); (case hr => first | (go_simp; done) | (go_simp; rfl)); (case hp => exact (Reps.one (show Kd.M (Kd.int .u8) _ _ _ ((wrap64 ((wrap64 (97 + a0)) - 1)) % 256) [.int .u8 ((wrap64 ((wrap64 (97 + a0)) - 1)) % 256)] from rfl) (Reps.none _ _)))
    intro v153 w7 ho8 hb hg_ hnew_
    clear hg_ hnew_
    (first | rw [← Ny152.out] at ho8 | (simp only [Int.reduceToNat] at ho8; rw [← Ny152.out] at ho8))
    have n0_ := Aside0.mk (Kd.R_lower ho8 (below_size (by exact zB HB.out)))
    have n1_ := Aside0.mk (below_step (by exact zB HB.out) hb)
    clear HB
    have HO154 := n0_
    have HB := n1_
    clear n0_ n1_
    clear hb ho8
    refine hK.out _ _ trivial (fun hHeld => ?_)
    clear hK K
    refine norm_ (a' := ?_) ?_ ?_
    rotate_left
    ·show Act.put _ (some 9) _ = _
     simp only [zp0, zp1, zp2, zp3, zp4, i64_w, i32_w]
     rfl
    refine one_ (i := 5) (N := some 10) #[true, true, true, true, true, true, true, true, false, false] rfl rfl (one_of HT_.out (by kernel_rfl)) (by decide) (fun K hK => ?_)
    have hcv9 := own_string (P := Tryd.prog) Tryd.underlying22 Tryd.underlying5 Tryd.underlying9 (Kd.own_of_R HO154.out)
    refine value_ (w1 := ?_) (v := ?_) (by rfl) rfl ?_ ?_
    rotate_left 2
    ·go_simp
     constructor
     ·rfl
     ·rfl
    clear hcv9
    refine hK.out _ _ trivial (fun hHeld => ?_)
    clear hK K
    refine norm_ (a' := ?_) ?_ ?_
    rotate_left
    ·show Act.put _ (some 10) _ = _
     simp only [zp0, zp1, zp2, zp3, zp4, i64_w, i32_w]
     rfl
    exact norm_ (by simp only [putAll, zp0, zp1, zp2, zp3, zp4]) (hCont (v153) _ ⟨(by exact zR HO154.out), (by exact zB HB.out)⟩)
  rintro v153 w10 ⟨h0_, h1_⟩
  have n0_ : Aside0 (Kd.R (Kd.int .u8) 5 w10 w.heap.size (fun _ => True) v153 y152) := ⟨h0_⟩
  have n1_ : Aside0 (Below w.heap.size w w10) := ⟨h1_⟩
  clear HB
  clear h0_ h1_
  have HO154 := n0_
  have HB := n1_
  clear n0_ n1_
  have hHeld := trivial
  refine norm_ (a' := ?_) ?_ ?_
  rotate_left
  ·simp only [putAll, zp0, zp1, zp2, zp3, zp4]
   rfl
  refine pure_ (i := 8) (N := some 13) (v := ?_) (a' := ?_) #[true, true, true, true, true, true, true, true, true, false] rfl rfl (any_of HT_.out (by kernel_rfl)) (fun _ _ _ h => h) (Or.inl ⟨by rfl, ?_⟩) ?_ ?_
  rotate_left
  ·intro w'
   go_simp
   with_reducible rfl
  rotate_left
  ·simp only [zp0, zp1, zp2, zp3, zp4, i64_w, i32_w]
   rfl
  refine pure_ (i := 9) (N := some 4) (v := ?_) (a' := ?_) #[true, true, true, true, true, true, true, true, true, true] rfl rfl (any_of HT_.out (by kernel_rfl)) (fun _ _ _ h => h) (Or.inl ⟨by rfl, ?_⟩) ?_ ?_
  rotate_left
  ·intro w'
   go_simp
   with_reducible rfl
  rotate_left
  ·simp only [zp0, zp1, zp2, zp3, zp4, i64_w, i32_w]
   rfl
  refine done_ (done_of HT_.out (by kernel_rfl)) ?_
  try go_wp2
  go_ret
  exact ⟨by first | rfl | (simp [errW_none, errW_some] <;> rfl) | (simp [*, errW_none, errW_some] <;> rfl), by exact zB HB.out⟩
 ·rw [if_neg c4] at H
  exact absurd H (by simp)

end Go.Proofs.YtkjgnnjcjkphbaaDoor.PFnPkgStrict
