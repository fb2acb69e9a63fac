-- printed for this claim by a program out of the translation, its tactics shortened by another
import Derived.Test.YtkjgnnjcjkphbaaDoorPFnIndexStrictx2
namespace Go.Proofs.YtkjgnnjcjkphbaaDoor.PFnIndexStrict
open Go.RowKit Go.Proofs.YtkjgnnjcjkphbaaDoorW.PrintWords Go.Proofs.YtkjgnnjcjkphbaaDoorW.PrintLast Go.Proofs.YtkjgnnjcjkphbaaDoorW.PrintMore
attribute [local go_sem] max2_int min2_int max_two min_two max_three min_three max_four min_four   -- for this text's walks alone
set_option linter.unusedVariables false
set_option linter.unusedSimpArgs false

/-! ### spec_l12With: function 81 -/
mutual
def spec_l12With.l0 : Nat → List (S31) → List (S31) → Int → Int → Int → List (S67) → List (S69) → Option ((List (S31)))
 | 0, _, _, _, _, _, _, _ => none
 | k + 1, x0, x5, x6, x222000, x222001, x222002, x222003 => if x6 < (x0.length : Int) then (if 0 ≤ x6 then ((spec_l3Less.f ((rd_T31 x0 x6).f0) ((rd_T31 x0 x6).f1) x222000 x222001).bind fun t227 => (if t227 = true then (if x5.length < 2199023255552 then (spec_l12With.l0 k x0 (x5 ++ [(⟨(rd_T31 x0 x6).f0, (rd_T31 x0 x6).f1, (rd_T31 x0 x6).f2, (rd_T31 x0 x6).f3⟩ : S31)]) (wrap64 (x6 + 1)) x222000 x222001 x222002 x222003) else (none)) else (spec_l12With.l0 k x0 x5 (wrap64 (x6 + 1)) x222000 x222001 x222002 x222003))) else (none)) else (if x5.length < 2199023255552 then (spec_l12With.l1 k x0 (x5 ++ [(⟨x222000, x222001, x222002, x222003⟩ : S31)]) 0 x222000 x222001 x222002 x222003) else (none))
def spec_l12With.l1 : Nat → List (S31) → List (S31) → Int → Int → Int → List (S67) → List (S69) → Option ((List (S31)))
 | 0, _, _, _, _, _, _, _ => none
 | k + 1, x0, x5, x7, x222000, x222001, x222002, x222003 => if x7 < (x0.length : Int) then (if 0 ≤ x7 then ((spec_l3Less.f x222000 x222001 ((rd_T31 x0 x7).f0) ((rd_T31 x0 x7).f1)).bind fun t237 => (if t237 = true then (if x5.length < 2199023255552 then (spec_l12With.l1 k x0 (x5 ++ [(⟨(rd_T31 x0 x7).f0, (rd_T31 x0 x7).f1, (rd_T31 x0 x7).f2, (rd_T31 x0 x7).f3⟩ : S31)]) (wrap64 (x7 + 1)) x222000 x222001 x222002 x222003) else (none)) else (spec_l12With.l1 k x0 x5 (wrap64 (x7 + 1)) x222000 x222001 x222002 x222003))) else (none)) else (some x5)
end
def spec_l12With.f (k : Nat) (l0 : List (S31)) (a1_0 : Int) (a1_1 : Int) (l1_2 : List (S67)) (l1_3 : List (S69)) : Option ((List (S31))) := spec_l12With.l0 k l0 (([] : List (S31))) 0 a1_0 a1_1 l1_2 l1_3
theorem spec_l12With.mono_l : ∀ k, (∀ y0 y1 y2 y3 y4 y5 y6, LeO (spec_l12With.l0 k y0 y1 y2 y3 y4 y5 y6) (spec_l12With.l0 (k + 1) y0 y1 y2 y3 y4 y5 y6)) ∧ (∀ y0 y1 y2 y3 y4 y5 y6, LeO (spec_l12With.l1 k y0 y1 y2 y3 y4 y5 y6) (spec_l12With.l1 (k + 1) y0 y1 y2 y3 y4 y5 y6))
 | 0 => ⟨fun _ _ _ _ _ _ _ r h => by simp [spec_l12With.l0] at h, fun _ _ _ _ _ _ _ r h => by simp [spec_l12With.l1] at h⟩
 | k + 1 => by
  obtain ⟨ih0, ih1⟩ := spec_l12With.mono_l k
  refine ⟨?_, ?_⟩
  ·intro y0 y1 y2 y3 y4 y5 y6
   unfold spec_l12With.l0
   repeat' first
   | (with_reducible exact ih0 _ _ _ _ _ _ _)
   | (with_reducible exact ih1 _ _ _ _ _ _ _)
   | (with_reducible exact LeO.refl _)
   | (with_reducible exact LeO.none _)
   | (with_reducible refine LeO.ite ?_ ?_)
   | (with_reducible refine LeO.bind ?_ (fun _ => ?_))
   | exact ih0 _ _ _ _ _ _ _
   | exact ih1 _ _ _ _ _ _ _
   | exact LeO.none _
   | refine LeO.ite ?_ ?_
   | refine LeO.bind ?_ (fun _ => ?_)
  ·intro y0 y1 y2 y3 y4 y5 y6
   unfold spec_l12With.l1
   repeat' first
   | (with_reducible exact ih0 _ _ _ _ _ _ _)
   | (with_reducible exact ih1 _ _ _ _ _ _ _)
   | (with_reducible exact LeO.refl _)
   | (with_reducible exact LeO.none _)
   | (with_reducible refine LeO.ite ?_ ?_)
   | (with_reducible refine LeO.bind ?_ (fun _ => ?_))
   | exact ih0 _ _ _ _ _ _ _
   | exact ih1 _ _ _ _ _ _ _
   | exact LeO.none _
   | refine LeO.ite ?_ ?_
   | refine LeO.bind ?_ (fun _ => ?_)
theorem spec_l12With.mono : ∀ a0 a1 a2 a3 a4 k, LeO (spec_l12With.f k a0 a1 a2 a3 a4) (spec_l12With.f (k + 1) a0 a1 a2 a3 a4) := by
 intro a0 a1 a2 a3 a4 k
 obtain ⟨ih0, ih1⟩ := spec_l12With.mono_l k
 unfold spec_l12With.f
 repeat' with_reducible first | apply ih0 | apply ih1 | exact LeO.refl _ | exact LeO.none _ | refine LeO.ite ?_ ?_ | refine LeO.bind ?_ (fun _ => ?_)
set_option maxHeartbeats 8000000 in
set_option maxRecDepth 100000 in
theorem spec_l12With.calls (k : Nat) (P0_ : Nat → Prop) (A0 : Option Addr) (c0 : Nat) (l0 : List (S31)) (a1_0 : Int) (a1_1 : Int) (P1_2_ : Nat → Prop) (A1_2 : Option Addr) (c1_2 : Nat) (l1_2 : List (S67)) (P1_3_ : Nat → Prop) (A1_3 : Option Addr) (c1_3 : Nat) (l1_3 : List (S69)) (r : List (S31)) (w : World) (hs0 : Kd.V k31 31 w w.heap.size (fun k_ => P0_ k_) (.slice A0 l0.length c0) l0) (hs1_2 : Kd.V k67 67 w w.heap.size (fun k_ => P1_2_ k_) (.slice A1_2 l1_2.length c1_2) l1_2) (hs1_3 : Kd.V k69 69 w w.heap.size (fun k_ => P1_3_ k_) (.slice A1_3 l1_3.length c1_3) l1_3) (h : spec_l12With.f k l0 a1_0 a1_1 l1_2 l1_3 = some r) :
  Calls Tryd.prog 81 #[.slice A0 l0.length c0, .agg #[.int .i64 a1_0, .int .i64 a1_1, .slice A1_2 l1_2.length c1_2, .slice A1_3 l1_3.length c1_3]] w fun e w' => ∃ v0_ : Value, e = .returned (v0_) ∧ Kd.N k31 31 w' w.heap.size (fun k_ => ((P0_ k_ ∨ P1_2_ k_ ∨ P1_3_ k_) ∨ w.heap.size ≤ k_)) v0_ r ∧ Below w.heap.size w w' := by
 have hu31 := Tryd.underlying31; have HO0 := aM (show Kd.V k31 31 w w.heap.size (fun k_ => ((P0_ k_ ∨ P1_2_ k_ ∨ P1_3_ k_) ∨ w.heap.size ≤ k_)) (.slice A0 l0.length c0) l0 from Kd.V_mono hs0 (fun k_ hk => .inl (.inl hk))); have HO1_2 := aM (show Kd.V k67 67 w w.heap.size (fun k_ => ((P0_ k_ ∨ P1_2_ k_ ∨ P1_3_ k_) ∨ w.heap.size ≤ k_)) (.slice A1_2 l1_2.length c1_2) l1_2 from Kd.V_mono hs1_2 (fun k_ hk => .inl (.inr (.inl hk)))); have HO1_3 := aM (show Kd.V k69 69 w w.heap.size (fun k_ => ((P0_ k_ ∨ P1_2_ k_ ∨ P1_3_ k_) ∨ w.heap.size ≤ k_)) (.slice A1_3 l1_3.length c1_3) l1_3 from Kd.V_mono hs1_3 (fun k_ hk => .inl (.inr (.inr hk)))); have HB := aM (Below.refl w.heap.size w); have H : (spec_l12With.l0 k l0 (([] : List (S31))) 0 a1_0 a1_1 l1_2 l1_3) = some r := h; clear h; obtain ⟨y222, hy222⟩ : ∃ y_ : List (S31), y_ = (([] : List (S31))) := ⟨_, rfl⟩
 replace H : (spec_l12With.l0 k l0 y222 0 a1_0 a1_1 l1_2 l1_3) = some r := by first | (rw [hy222]; with_reducible exact H) | (have H2_ := (Option.bind_some _ _).symm.trans H; rw [hy222]; with_reducible exact H2_) | (have H2_ := (Option.bind_some _ _).symm.trans H; with_reducible exact H2_) | with_reducible exact H | (rw [hy222]; exact H) | exact H
 have Ny222 := aM hy222; clear hy222; have H' := aM H; clear H
 go_enter Tryd.func81, Tryd.ntmps81
 go_wp2_with (first | ((with_reducible refine gate_dst (N := 3) rfl ?_); refine zbx 3 #[.int .i64 a1_0, .int .i64 a1_1, .slice A1_2 l1_2.length c1_2, .slice A1_3 l1_3.length c1_3] 31 ?_; intro gb221 hg w3 hbox hb; have _ := aM (Kd.V_below (Kd.V_elderB (zV HO0.1) gb221 (Nat.le_of_eq hg.symm)) hb); have _ := aM (Kd.V_below (Kd.V_elderB (zV HO1_2.1) gb221 (Nat.le_of_eq hg.symm)) hb); have _ := aM (Kd.V_below (Kd.V_elderB (zV HO1_3.1) gb221 (Nat.le_of_eq hg.symm)) hb); have _ := aM (below_step (zB HB.1) hb); have _ := aM (hbox); have _ := aM (zge hg (zB HB.1)); have _ := aM (zge hg (zB HB.1)); clear HO0 HO1_2 HO1_3 HB; rename_i HO0 HO1_2 HO1_3 HB BK221 GW221 GE221; clear hb hbox hg) | ((with_reducible refine gate_dst (N := 8) rfl ?_); refine Kd.N_lit k31 _ 31 ?hg (N' := 8) ?hd (xs := ([] : List (S31))) (inner := []) (ok := (fun k_ => ((P0_ k_ ∨ P1_2_ k_ ∨ P1_3_ k_) ∨ w.heap.size ≤ k_) ∧ k_ ≠ gb221)) (okp := (fun k_ => ((P0_ k_ ∨ P1_2_ k_ ∨ P1_3_ k_) ∨ w.heap.size ≤ k_) ∧ k_ ≠ gb221)) ?hr ?hp (fun _ hk => hk) ((show ∀ k_, w3.heap.size ≤ k_ → (fun k_ => ((P0_ k_ ∨ P1_2_ k_ ∨ P1_3_ k_) ∨ w.heap.size ≤ k_) ∧ k_ ≠ gb221) k_ from fun k_ hk => ⟨(.inr (Nat.le_trans (below_size (zB1 HB.1 GE221.1)) hk)), Kd.freshB (g := gb221) (o := .cells #[.int .i64 a1_0, .int .i64 a1_1, .slice A1_2 l1_2.length c1_2, .slice A1_3 l1_3.length c1_3] 31 (0, 0)) (zK BK221.1) k_ hk⟩) _ (Nat.le_refl _)) (Below.refl _ _) (Nat.le_refl _) (by simp) ?_; (case hd => rfl); (case hg => rfl); (case hr => first | (go_simp; done) | (go_simp; rfl)); (case hp => exact (Reps.none _ _)); intro v223 w4 ho5 hb hg_ hnew_; clear hg_ hnew_; (first | rw [← Ny222.1] at ho5 | (simp only [Int.reduceToNat] at ho5; rw [← Ny222.1] at ho5)); have _ := aM (Kd.V_elder' (zV HO0.1) (Kd.N_base ho5) hb); have _ := aM (Kd.V_elder' (zV HO1_2.1) (Kd.N_base ho5) hb); have _ := aM (Kd.V_elder' (zV HO1_3.1) (Kd.N_base ho5) hb); have _ := aM (Kd.N_lower ho5 (below_size (zB1 HB.1 GE221.1))); have _ := aM (blk_below (zK BK221.1) hb); have _ := aM (below_step (zB1 HB.1 GE221.1) hb); clear HO0 HO1_2 HO1_3 BK221 HB; rename_i HO0 HO1_2 HO1_3 HO224 BK221 HB; clear hb ho5))
 repeat (go_quiet (fail); try go_wp2_with (first | ((with_reducible refine gate_dst (N := 3) rfl ?_); refine zbx 3 #[.int .i64 a1_0, .int .i64 a1_1, .slice A1_2 l1_2.length c1_2, .slice A1_3 l1_3.length c1_3] 31 ?_; intro gb221 hg w3 hbox hb; have _ := aM (Kd.V_below (Kd.V_elderB (zV HO0.1) gb221 (Nat.le_of_eq hg.symm)) hb); have _ := aM (Kd.V_below (Kd.V_elderB (zV HO1_2.1) gb221 (Nat.le_of_eq hg.symm)) hb); have _ := aM (Kd.V_below (Kd.V_elderB (zV HO1_3.1) gb221 (Nat.le_of_eq hg.symm)) hb); have _ := aM (below_step (zB HB.1) hb); have _ := aM (hbox); have _ := aM (zge hg (zB HB.1)); have _ := aM (zge hg (zB HB.1)); clear HO0 HO1_2 HO1_3 HB; rename_i HO0 HO1_2 HO1_3 HB BK221 GW221 GE221; clear hb hbox hg) | ((with_reducible refine gate_dst (N := 8) rfl ?_); refine Kd.N_lit k31 _ 31 ?hg (N' := 8) ?hd (xs := ([] : List (S31))) (inner := []) (ok := (fun k_ => ((P0_ k_ ∨ P1_2_ k_ ∨ P1_3_ k_) ∨ w.heap.size ≤ k_) ∧ k_ ≠ gb221)) (okp := (fun k_ => ((P0_ k_ ∨ P1_2_ k_ ∨ P1_3_ k_) ∨ w.heap.size ≤ k_) ∧ k_ ≠ gb221)) ?hr ?hp (fun _ hk => hk) ((show ∀ k_, w3.heap.size ≤ k_ → (fun k_ => ((P0_ k_ ∨ P1_2_ k_ ∨ P1_3_ k_) ∨ w.heap.size ≤ k_) ∧ k_ ≠ gb221) k_ from fun k_ hk => ⟨(.inr (Nat.le_trans (below_size (zB1 HB.1 GE221.1)) hk)), Kd.freshB (g := gb221) (o := .cells #[.int .i64 a1_0, .int .i64 a1_1, .slice A1_2 l1_2.length c1_2, .slice A1_3 l1_3.length c1_3] 31 (0, 0)) (zK BK221.1) k_ hk⟩) _ (Nat.le_refl _)) (Below.refl _ _) (Nat.le_refl _) (by simp) ?_; (case hd => rfl); (case hg => rfl); (case hr => first | (go_simp; done) | (go_simp; rfl)); (case hp => exact (Reps.none _ _)); intro v223 w4 ho5 hb hg_ hnew_; clear hg_ hnew_; (first | rw [← Ny222.1] at ho5 | (simp only [Int.reduceToNat] at ho5; rw [← Ny222.1] at ho5)); have _ := aM (Kd.V_elder' (zV HO0.1) (Kd.N_base ho5) hb); have _ := aM (Kd.V_elder' (zV HO1_2.1) (Kd.N_base ho5) hb); have _ := aM (Kd.V_elder' (zV HO1_3.1) (Kd.N_base ho5) hb); have _ := aM (Kd.N_lower ho5 (below_size (zB1 HB.1 GE221.1))); have _ := aM (blk_below (zK BK221.1) hb); have _ := aM (below_step (zB1 HB.1 GE221.1) hb); clear HO0 HO1_2 HO1_3 BK221 HB; rename_i HO0 HO1_2 HO1_3 HO224 BK221 HB; clear hb ho5)))
 go_loopg [5, 6] k (fun kq v5 v6 w' => ∃ (x5_1 : List (S31)) (x6_1 : Int), v6 = .int .i64 x6_1 ∧ Aside0 (spec_l12With.l0 kq l0 x5_1 x6_1 a1_0 a1_1 l1_2 l1_3 = some r) ∧ Aside0 (kq ≤ k) ∧ Aside0 (Kd.V k31 31 w' w.heap.size (fun k_ => ((P0_ k_ ∨ P1_2_ k_ ∨ P1_3_ k_) ∨ w.heap.size ≤ k_) ∧ some k_ ≠ (v5 : Value).ownBlock ∧ k_ ≠ gb221) (.slice A0 l0.length c0) l0) ∧ Aside0 (Kd.N k31 31 w' w.heap.size (fun k_ => ((P0_ k_ ∨ P1_2_ k_ ∨ P1_3_ k_) ∨ w.heap.size ≤ k_) ∧ k_ ≠ gb221) v5 x5_1) ∧ Aside0 (Kd.V k67 67 w' w.heap.size (fun k_ => ((P0_ k_ ∨ P1_2_ k_ ∨ P1_3_ k_) ∨ w.heap.size ≤ k_) ∧ some k_ ≠ (v5 : Value).ownBlock ∧ k_ ≠ gb221) (.slice A1_2 l1_2.length c1_2) l1_2) ∧ Aside0 (Kd.V k69 69 w' w.heap.size (fun k_ => ((P0_ k_ ∨ P1_2_ k_ ∨ P1_3_ k_) ∨ w.heap.size ≤ k_) ∧ some k_ ≠ (v5 : Value).ownBlock ∧ k_ ≠ gb221) (.slice A1_3 l1_3.length c1_3) l1_3) ∧ Aside0 (w'.heap[gb221]? = some (.cells #[.int .i64 a1_0, .int .i64 a1_1, (.slice A1_2 l1_2.length c1_2), (.slice A1_3 l1_3.length c1_3)] 31 (0, 0))) ∧ Aside0 (Below w.heap.size w w'))
 case atStart => exact ⟨(y222), (0), (by first | rfl | (simp; done) | (simp [*]; done)), H', ⟨Nat.le_refl _⟩, ⟨by (with_reducible repeat (first | apply Kd.V_alloc | apply Kd.V_drewN | apply Kd.V_drew)); exact Kd.V_mono HO0.1 (fun _ hk => ⟨hk.1.1, ⟨hk.2, hk.1.2⟩⟩)⟩, ⟨zN HO224.1⟩, ⟨by (with_reducible repeat (first | apply Kd.V_alloc | apply Kd.V_drewN | apply Kd.V_drew)); exact Kd.V_mono HO1_2.1 (fun _ hk => ⟨hk.1.1, ⟨hk.2, hk.1.2⟩⟩)⟩, ⟨by (with_reducible repeat (first | apply Kd.V_alloc | apply Kd.V_drewN | apply Kd.V_drew)); exact Kd.V_mono HO1_3.1 (fun _ hk => ⟨hk.1.1, ⟨hk.2, hk.1.2⟩⟩)⟩, ⟨zK BK221.1⟩, ⟨zB1 HB.1 GE221.1⟩⟩
 case round =>
  clear H'
  try clear c1
  try clear p2
  obtain ⟨x5_1, x6_1, rfl, HA, HK1, HO_0, HO_5, HO_222002, HO_222003, BK221, HB⟩ := hrel; cases gk with
  | zero => exact absurd HA.1 (by simp [spec_l12With.l0])
  | succ k1 =>
   have H := HA.1; clear HA; simp only [spec_l12With.l0] at H
   by_cases c6 : x6_1 < (l0.length : Int)
   ·rw [if_pos c6] at H; have c6b0 : decide (x6_1 < (l0.length : Int)) = true := decide_eq_true c6; clear c6; replace H := zif H; obtain ⟨c7, H⟩ := H; have c7b0 : decide (0 ≤ x6_1) = true := decide_eq_true c7; clear c7; replace H := Option.bind_eq_some_iff.mp H; obtain ⟨t227, A80, H⟩ := H; (try dsimp only at H); have A8 := aM A80; clear A80
    by_cases c9 : t227 = true
    ·subst c9; replace H := zy1 H; replace H := zif H; obtain ⟨c10, H⟩ := H; have LMc10 := aM c10; clear c10; obtain ⟨y229, hy229⟩ : ∃ y_ : List (S31), y_ = (x5_1 ++ [(⟨(rd_T31 l0 x6_1).f0, (rd_T31 l0 x6_1).f1, (rd_T31 l0 x6_1).f2, (rd_T31 l0 x6_1).f3⟩ : S31)]) := ⟨_, rfl⟩; (first | (replace H := zbs hy229 H; try dsimp only at H) | rw [← hy229] at H); have Ny229 := aM hy229; clear hy229; have H' := aM H; clear H; have p225 : 0 ≤ (x6_1 : Int) := zd; have q225 : x6_1 < (l0.length : Int) := zd; obtain ⟨ad225, A225_2, c225_2, A225_3, c225_3, e225, hx225_0, hx225_1, hx225_2, hx225_3, hl225_2, hi225_2, hl225_3, hi225_3⟩ := at_T31 (Kd.V_reads' HO_0.1).2.2 x6_1 p225 q225; cases e225; obtain ⟨ce225, hce225, hMe225, hcc225⟩ := Kd.V_get HO_0.1 z31 x6_1 p225 (by first | exact q225 | exact zd | (have e_ := (Kd.V_reads' HO_0.1).1; omega)); obtain ⟨ua225_2, uc225_2, ua225_3, uc225_3, rfl, ul225_2, ge225_2, ul225_3, ge225_3⟩ := k31_openF hMe225; have hv225_2 := hcc225 2 _ rfl; rw [add_field _ _ 2 (by omega)] at hv225_2; replace hv225_2 := Option.some.inj (hv225_2.symm.trans hx225_2); injection hv225_2 with hva_ hvn_ hvc_; rw [hva_] at ge225_2; rw [hvc_] at ul225_2; have HL225_2 := aM (show Kd.V k67 67 _ w.heap.size _ _ ((rd_T31 l0 x6_1).f2) from Kd.V_mk ul225_2 ge225_2); clear hva_ hvn_ hvc_ ge225_2 ul225_2; have hv225_3 := hcc225 3 _ rfl; rw [add_field _ _ 3 (by omega)] at hv225_3; replace hv225_3 := Option.some.inj (hv225_3.symm.trans hx225_3); injection hv225_3 with hva_ hvn_ hvc_; rw [hva_] at ge225_3; rw [hvc_] at ul225_3; have HL225_3 := aM (show Kd.V k69 69 _ w.heap.size _ _ ((rd_T31 l0 x6_1).f3) from Kd.V_mk ul225_3 ge225_3); clear hva_ hvn_ hvc_ ge225_3 ul225_3; clear hcc225 hce225; have HR225_2 := aM hi225_2; have HC225_2 := aM hl225_2; clear hi225_2 hl225_2; have HR225_3 := aM hi225_3; have HC225_3 := aM hl225_3; clear hi225_3 hl225_3; replace p225 := eq_true p225; replace q225 := eq_true q225; have p226 : 0 ≤ (x6_1 : Int) := zd; have q226 : x6_1 < (l0.length : Int) := zd; obtain ⟨ad226, A226_2, c226_2, A226_3, c226_3, e226, hx226_0, hx226_1, hx226_2, hx226_3, hl226_2, hi226_2, hl226_3, hi226_3⟩ := at_T31 (Kd.V_reads' HO_0.1).2.2 x6_1 p226 q226; obtain rfl : ad225 = ad226 := (by injection e226); obtain ⟨ce226, hce226, hMe226, hcc226⟩ := Kd.V_get HO_0.1 z31 x6_1 p226 (by first | exact q226 | exact zd | (have e_ := (Kd.V_reads' HO_0.1).1; omega)); obtain ⟨ua226_2, uc226_2, ua226_3, uc226_3, rfl, ul226_2, ge226_2, ul226_3, ge226_3⟩ := k31_openF hMe226; have hv226_2 := hcc226 2 _ rfl; rw [add_field _ _ 2 (by omega)] at hv226_2; replace hv226_2 := Option.some.inj (hv226_2.symm.trans hx226_2); injection hv226_2 with hva_ hvn_ hvc_; rw [hva_] at ge226_2; rw [hvc_] at ul226_2; have HL226_2 := aM (show Kd.V k67 67 _ w.heap.size _ _ ((rd_T31 l0 x6_1).f2) from Kd.V_mk ul226_2 ge226_2); clear hva_ hvn_ hvc_ ge226_2 ul226_2; have hv226_3 := hcc226 3 _ rfl; rw [add_field _ _ 3 (by omega)] at hv226_3; replace hv226_3 := Option.some.inj (hv226_3.symm.trans hx226_3); injection hv226_3 with hva_ hvn_ hvc_; rw [hva_] at ge226_3; rw [hvc_] at ul226_3; have HL226_3 := aM (show Kd.V k69 69 _ w.heap.size _ _ ((rd_T31 l0 x6_1).f3) from Kd.V_mk ul226_3 ge226_3); clear hva_ hvn_ hvc_ ge226_3 ul226_3; clear hcc226 hce226; have HR226_2 := aM hi226_2; have HC226_2 := aM hl226_2; clear hi226_2 hl226_2; have HR226_3 := aM hi226_3; have HC226_3 := aM hl226_3; clear hi226_3 hl226_3; replace p226 := eq_true p226; replace q226 := eq_true q226; have ea_ := Option.some.inj (hx225_2.symm.trans hx226_2); injection ea_ with ea_ en_ ec_; subst ea_; subst ec_; clear en_; have ea_ := Option.some.inj (hx225_3.symm.trans hx226_3); injection ea_ with ea_ en_ ec_; subst ea_; subst ec_; clear en_; obtain ⟨hcz11_0, hcz11_1, hcz11_2, hcz11_3, hfz11_0, hfz11_1, hfz11_2, hfz11_3⟩ := zc4f BK221.1
     go_wp2_with (first | (go_at_call 55; (with_reducible refine (spec_l3Less.calls ((rd_T31 l0 x6_1).f0) ((rd_T31 l0 x6_1).f1) a1_0 a1_1 true _ A8.1).mono ?_); rintro e w' ⟨rfl, ⟨nd, rfl⟩⟩; (try first | exact ⟨rfl, _, World.drewN_drewN _ _ _⟩ | exact ⟨rfl, _, Eq.trans (World.drewN_drewN _ _ _) (congrArg (World.drewN _) (Nat.add_assoc _ _ _))⟩); have p228 : 0 ≤ (x6_1 : Int) := zd; have q228 : x6_1 < (l0.length : Int) := zd; obtain ⟨ad228, A228_2, c228_2, A228_3, c228_3, e228, hx228_0, hx228_1, hx228_2, hx228_3, hl228_2, hi228_2, hl228_3, hi228_3⟩ := at_T31 (Kd.V_reads' HO_0.1).2.2 x6_1 p228 q228; obtain rfl : ad225 = ad228 := (by injection e228); obtain ⟨ce228, hce228, hMe228, hcc228⟩ := Kd.V_get HO_0.1 z31 x6_1 p228 (by first | exact q228 | exact zd | (have e_ := (Kd.V_reads' HO_0.1).1; omega)); obtain ⟨ua228_2, uc228_2, ua228_3, uc228_3, rfl, ul228_2, ge228_2, ul228_3, ge228_3⟩ := k31_openF hMe228; have hv228_2 := hcc228 2 _ rfl; rw [add_field _ _ 2 (by omega)] at hv228_2; replace hv228_2 := Option.some.inj (hv228_2.symm.trans hx228_2); injection hv228_2 with hva_ hvn_ hvc_; rw [hva_] at ge228_2; rw [hvc_] at ul228_2; have HL228_2 := aM (show Kd.V k67 67 _ w.heap.size _ _ ((rd_T31 l0 x6_1).f2) from Kd.V_mk ul228_2 ge228_2); clear hva_ hvn_ hvc_ ge228_2 ul228_2; have hv228_3 := hcc228 3 _ rfl; rw [add_field _ _ 3 (by omega)] at hv228_3; replace hv228_3 := Option.some.inj (hv228_3.symm.trans hx228_3); injection hv228_3 with hva_ hvn_ hvc_; rw [hva_] at ge228_3; rw [hvc_] at ul228_3; have HL228_3 := aM (show Kd.V k69 69 _ w.heap.size _ _ ((rd_T31 l0 x6_1).f3) from Kd.V_mk ul228_3 ge228_3); clear hva_ hvn_ hvc_ ge228_3 ul228_3; clear hcc228 hce228; have HR228_2 := aM hi228_2; have HC228_2 := aM hl228_2; clear hi228_2 hl228_2; have HR228_3 := aM hi228_3; have HC228_3 := aM hl228_3; clear hi228_3 hl228_3; replace p228 := eq_true p228; replace q228 := eq_true q228; have ea_ := Option.some.inj (hx225_2.symm.trans hx228_2); injection ea_ with ea_ en_ ec_; subst ea_; subst ec_; clear en_; have ea_ := Option.some.inj (hx225_3.symm.trans hx228_3); injection ea_ with ea_ en_ ec_; subst ea_; subst ec_; clear en_) | ((with_reducible refine gate_builtin (b := .append) (xs := #[.tmp 30, .tmp 35]) rfl ?_); at_builtin; refine Kd.N_append k31 (w0 := w) w.heap.size rfl (.tmp 30) (.tmp 35) 56 31 (.agg #[(.int .i64 0), (.int .i64 0), (.slice none 0 0), (.slice none 0 0)]) 64 rfl Tryd.underlying56 info31 rfl (by decide) (by omega) u5 x5_1 (⟨(rd_T31 l0 x6_1).f0, (rd_T31 l0 x6_1).f1, (rd_T31 l0 x6_1).f2, (rd_T31 l0 x6_1).f3⟩ : S31) [.int .i64 ((rd_T31 l0 x6_1).f0), .int .i64 ((rd_T31 l0 x6_1).f1), .slice A225_2 ((rd_T31 l0 x6_1).f2).length c225_2, .slice A225_3 ((rd_T31 l0 x6_1).f3).length c225_3] (fun k_ => ((P0_ k_ ∨ P1_2_ k_ ∨ P1_3_ k_) ∨ w.heap.size ≤ k_) ∧ k_ ≠ gb221) (fun k_ => ((fun k_ => ((P0_ k_ ∨ P1_2_ k_ ∨ P1_3_ k_) ∨ w.heap.size ≤ k_) ∧ k_ ≠ gb221)) k_ ∧ some k_ ≠ (u5 : Value).ownBlock) rfl rfl ?aP (fun _ hk => hk) ?aF ?aO ?aB ?aS ?aL ?_; (case aP => exact (k31_mkF _ _ (⟨(rd_T31 l0 x6_1).f0, (rd_T31 l0 x6_1).f1, (rd_T31 l0 x6_1).f2, (rd_T31 l0 x6_1).f3⟩ : S31) (Kd.V_reads' (Kd.V_mono (ok' := (fun k_ => ((fun k_ => ((P0_ k_ ∨ P1_2_ k_ ∨ P1_3_ k_) ∨ w.heap.size ≤ k_) ∧ k_ ≠ gb221)) k_ ∧ some k_ ≠ (u5 : Value).ownBlock)) (HL228_2.1) (fun k_ hk => ⟨⟨hk.1, hk.2.2⟩, hk.2.1⟩))).2.1 (Kd.V_F (Kd.V_mono (ok' := (fun k_ => ((fun k_ => ((P0_ k_ ∨ P1_2_ k_ ∨ P1_3_ k_) ∨ w.heap.size ≤ k_) ∧ k_ ≠ gb221)) k_ ∧ some k_ ≠ (u5 : Value).ownBlock)) (HL228_2.1) (fun k_ hk => ⟨⟨hk.1, hk.2.2⟩, hk.2.1⟩))) (Kd.V_reads' (Kd.V_mono (ok' := (fun k_ => ((fun k_ => ((P0_ k_ ∨ P1_2_ k_ ∨ P1_3_ k_) ∨ w.heap.size ≤ k_) ∧ k_ ≠ gb221)) k_ ∧ some k_ ≠ (u5 : Value).ownBlock)) (HL228_3.1) (fun k_ hk => ⟨⟨hk.1, hk.2.2⟩, hk.2.1⟩))).2.1 (Kd.V_F (Kd.V_mono (ok' := (fun k_ => ((fun k_ => ((P0_ k_ ∨ P1_2_ k_ ∨ P1_3_ k_) ∨ w.heap.size ≤ k_) ∧ k_ ≠ gb221)) k_ ∧ some k_ ≠ (u5 : Value).ownBlock)) (HL228_3.1) (fun k_ hk => ⟨⟨hk.1, hk.2.2⟩, hk.2.1⟩))))); (case aB => exact (zB1 HB.1 GE221.1)); (case aF => exact (fun k_ hk => ⟨(.inr (Nat.le_trans (below_size (zB1 HB.1 GE221.1)) hk)), Kd.freshB (g := gb221) (o := .cells #[.int .i64 a1_0, .int .i64 a1_1, .slice A1_2 l1_2.length c1_2, .slice A1_3 l1_3.length c1_3] 31 (0, 0)) (zK BK221.1) k_ hk⟩)); (case aO => exact (zN HO_5.1)); (case aS => exact (below_size (zB1 HB.1 GE221.1))); (case aL => have := LMc10.1; omega); intro v230 w12 ho hb hg hat; rw [← Ny229.1] at ho; have _ := aM (Kd.V_afterv (ok := (fun k_ => ((P0_ k_ ∨ P1_2_ k_ ∨ P1_3_ k_) ∨ w.heap.size ≤ k_) ∧ k_ ≠ gb221)) (by (with_reducible repeat (first | apply Kd.V_alloc | apply Kd.V_drewN | apply Kd.V_drew)); exact Kd.V_mono HO_0.1 (fun _ hk => ⟨⟨hk.1, hk.2.2⟩, hk.2.1⟩)) hg hat); have _ := aM (Kd.V_afterv (ok := (fun k_ => ((P0_ k_ ∨ P1_2_ k_ ∨ P1_3_ k_) ∨ w.heap.size ≤ k_) ∧ k_ ≠ gb221)) (by (with_reducible repeat (first | apply Kd.V_alloc | apply Kd.V_drewN | apply Kd.V_drew)); exact Kd.V_mono HO_222002.1 (fun _ hk => ⟨⟨hk.1, hk.2.2⟩, hk.2.1⟩)) hg hat); have _ := aM (Kd.V_afterv (ok := (fun k_ => ((P0_ k_ ∨ P1_2_ k_ ∨ P1_3_ k_) ∨ w.heap.size ≤ k_) ∧ k_ ≠ gb221)) (by (with_reducible repeat (first | apply Kd.V_alloc | apply Kd.V_drewN | apply Kd.V_drew)); exact Kd.V_mono HO_222003.1 (fun _ hk => ⟨⟨hk.1, hk.2.2⟩, hk.2.1⟩)) hg hat); have _ := aM (blk_grown (zK BK221.1) hg (Kd.N_away HO_5.1 (fun _ hk => hk.2))); have _ := aM (Kd.V_afterv (ok := (fun k_ => ((P0_ k_ ∨ P1_2_ k_ ∨ P1_3_ k_) ∨ w.heap.size ≤ k_) ∧ k_ ≠ gb221)) (by (with_reducible repeat (first | apply Kd.V_alloc | apply Kd.V_drewN | apply Kd.V_drew)); exact Kd.V_mono HL225_2.1 (fun _ hk => ⟨⟨hk.1, hk.2.2⟩, hk.2.1⟩)) hg hat); have _ := aM (Kd.V_afterv (ok := (fun k_ => ((P0_ k_ ∨ P1_2_ k_ ∨ P1_3_ k_) ∨ w.heap.size ≤ k_) ∧ k_ ≠ gb221)) (by (with_reducible repeat (first | apply Kd.V_alloc | apply Kd.V_drewN | apply Kd.V_drew)); exact Kd.V_mono HL225_3.1 (fun _ hk => ⟨⟨hk.1, hk.2.2⟩, hk.2.1⟩)) hg hat); have _ := aM (Kd.V_afterv (ok := (fun k_ => ((P0_ k_ ∨ P1_2_ k_ ∨ P1_3_ k_) ∨ w.heap.size ≤ k_) ∧ k_ ≠ gb221)) (by (with_reducible repeat (first | apply Kd.V_alloc | apply Kd.V_drewN | apply Kd.V_drew)); exact Kd.V_mono HL226_2.1 (fun _ hk => ⟨⟨hk.1, hk.2.2⟩, hk.2.1⟩)) hg hat); have _ := aM (Kd.V_afterv (ok := (fun k_ => ((P0_ k_ ∨ P1_2_ k_ ∨ P1_3_ k_) ∨ w.heap.size ≤ k_) ∧ k_ ≠ gb221)) (by (with_reducible repeat (first | apply Kd.V_alloc | apply Kd.V_drewN | apply Kd.V_drew)); exact Kd.V_mono HL226_3.1 (fun _ hk => ⟨⟨hk.1, hk.2.2⟩, hk.2.1⟩)) hg hat); have _ := aM (Kd.V_afterv (ok := (fun k_ => ((P0_ k_ ∨ P1_2_ k_ ∨ P1_3_ k_) ∨ w.heap.size ≤ k_) ∧ k_ ≠ gb221)) (by (with_reducible repeat (first | apply Kd.V_alloc | apply Kd.V_drewN | apply Kd.V_drew)); exact Kd.V_mono HL228_2.1 (fun _ hk => ⟨⟨hk.1, hk.2.2⟩, hk.2.1⟩)) hg hat); have _ := aM (Kd.V_afterv (ok := (fun k_ => ((P0_ k_ ∨ P1_2_ k_ ∨ P1_3_ k_) ∨ w.heap.size ≤ k_) ∧ k_ ≠ gb221)) (by (with_reducible repeat (first | apply Kd.V_alloc | apply Kd.V_drewN | apply Kd.V_drew)); exact Kd.V_mono HL228_3.1 (fun _ hk => ⟨⟨hk.1, hk.2.2⟩, hk.2.1⟩)) hg hat); have _ := aM (hb); have _ := aM (ho); clear HO_0 HO_222002 HO_222003 BK221 HL225_2 HL225_3 HL226_2 HL226_3 HL228_2 HL228_3 HB HO_5; rename_i HO_0 HO_222002 HO_222003 BK221 HL225_2 HL225_3 HL226_2 HL226_3 HL228_2 HL228_3 HB HO231; clear ho hb hg hat))
     repeat (go_quiet (first | (go_at_call 55; (with_reducible refine (spec_l3Less.calls ((rd_T31 l0 x6_1).f0) ((rd_T31 l0 x6_1).f1) a1_0 a1_1 true _ A8.1).mono ?_); rintro e w' ⟨rfl, ⟨nd, rfl⟩⟩; (try first | exact ⟨rfl, _, World.drewN_drewN _ _ _⟩ | exact ⟨rfl, _, Eq.trans (World.drewN_drewN _ _ _) (congrArg (World.drewN _) (Nat.add_assoc _ _ _))⟩); have p228 : 0 ≤ (x6_1 : Int) := zd; have q228 : x6_1 < (l0.length : Int) := zd; obtain ⟨ad228, A228_2, c228_2, A228_3, c228_3, e228, hx228_0, hx228_1, hx228_2, hx228_3, hl228_2, hi228_2, hl228_3, hi228_3⟩ := at_T31 (Kd.V_reads' HO_0.1).2.2 x6_1 p228 q228; obtain rfl : ad225 = ad228 := (by injection e228); obtain ⟨ce228, hce228, hMe228, hcc228⟩ := Kd.V_get HO_0.1 z31 x6_1 p228 (by first | exact q228 | exact zd | (have e_ := (Kd.V_reads' HO_0.1).1; omega)); obtain ⟨ua228_2, uc228_2, ua228_3, uc228_3, rfl, ul228_2, ge228_2, ul228_3, ge228_3⟩ := k31_openF hMe228; have hv228_2 := hcc228 2 _ rfl; rw [add_field _ _ 2 (by omega)] at hv228_2; replace hv228_2 := Option.some.inj (hv228_2.symm.trans hx228_2); injection hv228_2 with hva_ hvn_ hvc_; rw [hva_] at ge228_2; rw [hvc_] at ul228_2; have HL228_2 := aM (show Kd.V k67 67 _ w.heap.size _ _ ((rd_T31 l0 x6_1).f2) from Kd.V_mk ul228_2 ge228_2); clear hva_ hvn_ hvc_ ge228_2 ul228_2; have hv228_3 := hcc228 3 _ rfl; rw [add_field _ _ 3 (by omega)] at hv228_3; replace hv228_3 := Option.some.inj (hv228_3.symm.trans hx228_3); injection hv228_3 with hva_ hvn_ hvc_; rw [hva_] at ge228_3; rw [hvc_] at ul228_3; have HL228_3 := aM (show Kd.V k69 69 _ w.heap.size _ _ ((rd_T31 l0 x6_1).f3) from Kd.V_mk ul228_3 ge228_3); clear hva_ hvn_ hvc_ ge228_3 ul228_3; clear hcc228 hce228; have HR228_2 := aM hi228_2; have HC228_2 := aM hl228_2; clear hi228_2 hl228_2; have HR228_3 := aM hi228_3; have HC228_3 := aM hl228_3; clear hi228_3 hl228_3; replace p228 := eq_true p228; replace q228 := eq_true q228; have ea_ := Option.some.inj (hx225_2.symm.trans hx228_2); injection ea_ with ea_ en_ ec_; subst ea_; subst ec_; clear en_; have ea_ := Option.some.inj (hx225_3.symm.trans hx228_3); injection ea_ with ea_ en_ ec_; subst ea_; subst ec_; clear en_)); try go_wp2_with (first | (go_at_call 55; (with_reducible refine (spec_l3Less.calls ((rd_T31 l0 x6_1).f0) ((rd_T31 l0 x6_1).f1) a1_0 a1_1 true _ A8.1).mono ?_); rintro e w' ⟨rfl, ⟨nd, rfl⟩⟩; (try first | exact ⟨rfl, _, World.drewN_drewN _ _ _⟩ | exact ⟨rfl, _, Eq.trans (World.drewN_drewN _ _ _) (congrArg (World.drewN _) (Nat.add_assoc _ _ _))⟩); have p228 : 0 ≤ (x6_1 : Int) := zd; have q228 : x6_1 < (l0.length : Int) := zd; obtain ⟨ad228, A228_2, c228_2, A228_3, c228_3, e228, hx228_0, hx228_1, hx228_2, hx228_3, hl228_2, hi228_2, hl228_3, hi228_3⟩ := at_T31 (Kd.V_reads' HO_0.1).2.2 x6_1 p228 q228; obtain rfl : ad225 = ad228 := (by injection e228); obtain ⟨ce228, hce228, hMe228, hcc228⟩ := Kd.V_get HO_0.1 z31 x6_1 p228 (by first | exact q228 | exact zd | (have e_ := (Kd.V_reads' HO_0.1).1; omega)); obtain ⟨ua228_2, uc228_2, ua228_3, uc228_3, rfl, ul228_2, ge228_2, ul228_3, ge228_3⟩ := k31_openF hMe228; have hv228_2 := hcc228 2 _ rfl; rw [add_field _ _ 2 (by omega)] at hv228_2; replace hv228_2 := Option.some.inj (hv228_2.symm.trans hx228_2); injection hv228_2 with hva_ hvn_ hvc_; rw [hva_] at ge228_2; rw [hvc_] at ul228_2; have HL228_2 := aM (show Kd.V k67 67 _ w.heap.size _ _ ((rd_T31 l0 x6_1).f2) from Kd.V_mk ul228_2 ge228_2); clear hva_ hvn_ hvc_ ge228_2 ul228_2; have hv228_3 := hcc228 3 _ rfl; rw [add_field _ _ 3 (by omega)] at hv228_3; replace hv228_3 := Option.some.inj (hv228_3.symm.trans hx228_3); injection hv228_3 with hva_ hvn_ hvc_; rw [hva_] at ge228_3; rw [hvc_] at ul228_3; have HL228_3 := aM (show Kd.V k69 69 _ w.heap.size _ _ ((rd_T31 l0 x6_1).f3) from Kd.V_mk ul228_3 ge228_3); clear hva_ hvn_ hvc_ ge228_3 ul228_3; clear hcc228 hce228; have HR228_2 := aM hi228_2; have HC228_2 := aM hl228_2; clear hi228_2 hl228_2; have HR228_3 := aM hi228_3; have HC228_3 := aM hl228_3; clear hi228_3 hl228_3; replace p228 := eq_true p228; replace q228 := eq_true q228; have ea_ := Option.some.inj (hx225_2.symm.trans hx228_2); injection ea_ with ea_ en_ ec_; subst ea_; subst ec_; clear en_; have ea_ := Option.some.inj (hx225_3.symm.trans hx228_3); injection ea_ with ea_ en_ ec_; subst ea_; subst ec_; clear en_) | ((with_reducible refine gate_builtin (b := .append) (xs := #[.tmp 30, .tmp 35]) rfl ?_); at_builtin; refine Kd.N_append k31 (w0 := w) w.heap.size rfl (.tmp 30) (.tmp 35) 56 31 (.agg #[(.int .i64 0), (.int .i64 0), (.slice none 0 0), (.slice none 0 0)]) 64 rfl Tryd.underlying56 info31 rfl (by decide) (by omega) u5 x5_1 (⟨(rd_T31 l0 x6_1).f0, (rd_T31 l0 x6_1).f1, (rd_T31 l0 x6_1).f2, (rd_T31 l0 x6_1).f3⟩ : S31) [.int .i64 ((rd_T31 l0 x6_1).f0), .int .i64 ((rd_T31 l0 x6_1).f1), .slice A225_2 ((rd_T31 l0 x6_1).f2).length c225_2, .slice A225_3 ((rd_T31 l0 x6_1).f3).length c225_3] (fun k_ => ((P0_ k_ ∨ P1_2_ k_ ∨ P1_3_ k_) ∨ w.heap.size ≤ k_) ∧ k_ ≠ gb221) (fun k_ => ((fun k_ => ((P0_ k_ ∨ P1_2_ k_ ∨ P1_3_ k_) ∨ w.heap.size ≤ k_) ∧ k_ ≠ gb221)) k_ ∧ some k_ ≠ (u5 : Value).ownBlock) rfl rfl ?aP (fun _ hk => hk) ?aF ?aO ?aB ?aS ?aL ?_; (case aP => exact (k31_mkF _ _ (⟨(rd_T31 l0 x6_1).f0, (rd_T31 l0 x6_1).f1, (rd_T31 l0 x6_1).f2, (rd_T31 l0 x6_1).f3⟩ : S31) (Kd.V_reads' (Kd.V_mono (ok' := (fun k_ => ((fun k_ => ((P0_ k_ ∨ P1_2_ k_ ∨ P1_3_ k_) ∨ w.heap.size ≤ k_) ∧ k_ ≠ gb221)) k_ ∧ some k_ ≠ (u5 : Value).ownBlock)) (HL228_2.1) (fun k_ hk => ⟨⟨hk.1, hk.2.2⟩, hk.2.1⟩))).2.1 (Kd.V_F (Kd.V_mono (ok' := (fun k_ => ((fun k_ => ((P0_ k_ ∨ P1_2_ k_ ∨ P1_3_ k_) ∨ w.heap.size ≤ k_) ∧ k_ ≠ gb221)) k_ ∧ some k_ ≠ (u5 : Value).ownBlock)) (HL228_2.1) (fun k_ hk => ⟨⟨hk.1, hk.2.2⟩, hk.2.1⟩))) (Kd.V_reads' (Kd.V_mono (ok' := (fun k_ => ((fun k_ => ((P0_ k_ ∨ P1_2_ k_ ∨ P1_3_ k_) ∨ w.heap.size ≤ k_) ∧ k_ ≠ gb221)) k_ ∧ some k_ ≠ (u5 : Value).ownBlock)) (HL228_3.1) (fun k_ hk => ⟨⟨hk.1, hk.2.2⟩, hk.2.1⟩))).2.1 (Kd.V_F (Kd.V_mono (ok' := (fun k_ => ((fun k_ => ((P0_ k_ ∨ P1_2_ k_ ∨ P1_3_ k_) ∨ w.heap.size ≤ k_) ∧ k_ ≠ gb221)) k_ ∧ some k_ ≠ (u5 : Value).ownBlock)) (HL228_3.1) (fun k_ hk => ⟨⟨hk.1, hk.2.2⟩, hk.2.1⟩))))); (case aB => exact (zB1 HB.1 GE221.1)); (case aF => exact (fun k_ hk => ⟨(.inr (Nat.le_trans (below_size (zB1 HB.1 GE221.1)) hk)), Kd.freshB (g := gb221) (o := .cells #[.int .i64 a1_0, .int .i64 a1_1, .slice A1_2 l1_2.length c1_2, .slice A1_3 l1_3.length c1_3] 31 (0, 0)) (zK BK221.1) k_ hk⟩)); (case aO => exact (zN HO_5.1)); (case aS => exact (below_size (zB1 HB.1 GE221.1))); (case aL => have := LMc10.1; omega); intro v230 w12 ho hb hg hat; rw [← Ny229.1] at ho; have _ := aM (Kd.V_afterv (ok := (fun k_ => ((P0_ k_ ∨ P1_2_ k_ ∨ P1_3_ k_) ∨ w.heap.size ≤ k_) ∧ k_ ≠ gb221)) (by (with_reducible repeat (first | apply Kd.V_alloc | apply Kd.V_drewN | apply Kd.V_drew)); exact Kd.V_mono HO_0.1 (fun _ hk => ⟨⟨hk.1, hk.2.2⟩, hk.2.1⟩)) hg hat); have _ := aM (Kd.V_afterv (ok := (fun k_ => ((P0_ k_ ∨ P1_2_ k_ ∨ P1_3_ k_) ∨ w.heap.size ≤ k_) ∧ k_ ≠ gb221)) (by (with_reducible repeat (first | apply Kd.V_alloc | apply Kd.V_drewN | apply Kd.V_drew)); exact Kd.V_mono HO_222002.1 (fun _ hk => ⟨⟨hk.1, hk.2.2⟩, hk.2.1⟩)) hg hat); have _ := aM (Kd.V_afterv (ok := (fun k_ => ((P0_ k_ ∨ P1_2_ k_ ∨ P1_3_ k_) ∨ w.heap.size ≤ k_) ∧ k_ ≠ gb221)) (by (with_reducible repeat (first | apply Kd.V_alloc | apply Kd.V_drewN | apply Kd.V_drew)); exact Kd.V_mono HO_222003.1 (fun _ hk => ⟨⟨hk.1, hk.2.2⟩, hk.2.1⟩)) hg hat); have _ := aM (blk_grown (zK BK221.1) hg (Kd.N_away HO_5.1 (fun _ hk => hk.2))); have _ := aM (Kd.V_afterv (ok := (fun k_ => ((P0_ k_ ∨ P1_2_ k_ ∨ P1_3_ k_) ∨ w.heap.size ≤ k_) ∧ k_ ≠ gb221)) (by (with_reducible repeat (first | apply Kd.V_alloc | apply Kd.V_drewN | apply Kd.V_drew)); exact Kd.V_mono HL225_2.1 (fun _ hk => ⟨⟨hk.1, hk.2.2⟩, hk.2.1⟩)) hg hat); have _ := aM (Kd.V_afterv (ok := (fun k_ => ((P0_ k_ ∨ P1_2_ k_ ∨ P1_3_ k_) ∨ w.heap.size ≤ k_) ∧ k_ ≠ gb221)) (by (with_reducible repeat (first | apply Kd.V_alloc | apply Kd.V_drewN | apply Kd.V_drew)); exact Kd.V_mono HL225_3.1 (fun _ hk => ⟨⟨hk.1, hk.2.2⟩, hk.2.1⟩)) hg hat); have _ := aM (Kd.V_afterv (ok := (fun k_ => ((P0_ k_ ∨ P1_2_ k_ ∨ P1_3_ k_) ∨ w.heap.size ≤ k_) ∧ k_ ≠ gb221)) (by (with_reducible repeat (first | apply Kd.V_alloc | apply Kd.V_drewN | apply Kd.V_drew)); exact Kd.V_mono HL226_2.1 (fun _ hk => ⟨⟨hk.1, hk.2.2⟩, hk.2.1⟩)) hg hat); have _ := aM (Kd.V_afterv (ok := (fun k_ => ((P0_ k_ ∨ P1_2_ k_ ∨ P1_3_ k_) ∨ w.heap.size ≤ k_) ∧ k_ ≠ gb221)) (by (with_reducible repeat (first | apply Kd.V_alloc | apply Kd.V_drewN | apply Kd.V_drew)); exact Kd.V_mono HL226_3.1 (fun _ hk => ⟨⟨hk.1, hk.2.2⟩, hk.2.1⟩)) hg hat); have _ := aM (Kd.V_afterv (ok := (fun k_ => ((P0_ k_ ∨ P1_2_ k_ ∨ P1_3_ k_) ∨ w.heap.size ≤ k_) ∧ k_ ≠ gb221)) (by (with_reducible repeat (first | apply Kd.V_alloc | apply Kd.V_drewN | apply Kd.V_drew)); exact Kd.V_mono HL228_2.1 (fun _ hk => ⟨⟨hk.1, hk.2.2⟩, hk.2.1⟩)) hg hat); have _ := aM (Kd.V_afterv (ok := (fun k_ => ((P0_ k_ ∨ P1_2_ k_ ∨ P1_3_ k_) ∨ w.heap.size ≤ k_) ∧ k_ ≠ gb221)) (by (with_reducible repeat (first | apply Kd.V_alloc | apply Kd.V_drewN | apply Kd.V_drew)); exact Kd.V_mono HL228_3.1 (fun _ hk => ⟨⟨hk.1, hk.2.2⟩, hk.2.1⟩)) hg hat); have _ := aM (hb); have _ := aM (ho); clear HO_0 HO_222002 HO_222003 BK221 HL225_2 HL225_3 HL226_2 HL226_3 HL228_2 HL228_3 HB HO_5; rename_i HO_0 HO_222002 HO_222003 BK221 HL225_2 HL225_3 HL226_2 HL226_3 HL228_2 HL228_3 HB HO231; clear ho hb hg hat)))
     go_roundg k1
     case measure => have := HK1.1; omega
     case rel => exact ⟨(y229), (wrap64 (x6_1 + 1)), (by first | rfl | (simp; done) | (simp [*]; done)), H', ⟨by have := HK1.1; omega⟩, ⟨by (with_reducible repeat (first | apply Kd.V_alloc | apply Kd.V_drewN | apply Kd.V_drew)); exact Kd.V_mono HO_0.1 (fun _ hk => ⟨hk.1.1, ⟨hk.2, hk.1.2⟩⟩)⟩, ⟨zN HO231.1⟩, ⟨by (with_reducible repeat (first | apply Kd.V_alloc | apply Kd.V_drewN | apply Kd.V_drew)); exact Kd.V_mono HO_222002.1 (fun _ hk => ⟨hk.1.1, ⟨hk.2, hk.1.2⟩⟩)⟩, ⟨by (with_reducible repeat (first | apply Kd.V_alloc | apply Kd.V_drewN | apply Kd.V_drew)); exact Kd.V_mono HO_222003.1 (fun _ hk => ⟨hk.1.1, ⟨hk.2, hk.1.2⟩⟩)⟩, ⟨zK BK221.1⟩, ⟨zB1 HB.1 GE221.1⟩⟩
    ·replace c9 := Bool.eq_false_iff.mpr c9; subst c9; replace H := zy0 H; have H' := aM H; clear H; have p225 : 0 ≤ (x6_1 : Int) := zd; have q225 : x6_1 < (l0.length : Int) := zd; obtain ⟨ad225, A225_2, c225_2, A225_3, c225_3, e225, hx225_0, hx225_1, hx225_2, hx225_3, hl225_2, hi225_2, hl225_3, hi225_3⟩ := at_T31 (Kd.V_reads' HO_0.1).2.2 x6_1 p225 q225; cases e225; obtain ⟨ce225, hce225, hMe225, hcc225⟩ := Kd.V_get HO_0.1 z31 x6_1 p225 (by first | exact q225 | exact zd | (have e_ := (Kd.V_reads' HO_0.1).1; omega)); obtain ⟨ua225_2, uc225_2, ua225_3, uc225_3, rfl, ul225_2, ge225_2, ul225_3, ge225_3⟩ := k31_openF hMe225; have hv225_2 := hcc225 2 _ rfl; rw [add_field _ _ 2 (by omega)] at hv225_2; replace hv225_2 := Option.some.inj (hv225_2.symm.trans hx225_2); injection hv225_2 with hva_ hvn_ hvc_; rw [hva_] at ge225_2; rw [hvc_] at ul225_2; have HL225_2 := aM (show Kd.V k67 67 _ w.heap.size _ _ ((rd_T31 l0 x6_1).f2) from Kd.V_mk ul225_2 ge225_2); clear hva_ hvn_ hvc_ ge225_2 ul225_2; have hv225_3 := hcc225 3 _ rfl; rw [add_field _ _ 3 (by omega)] at hv225_3; replace hv225_3 := Option.some.inj (hv225_3.symm.trans hx225_3); injection hv225_3 with hva_ hvn_ hvc_; rw [hva_] at ge225_3; rw [hvc_] at ul225_3; have HL225_3 := aM (show Kd.V k69 69 _ w.heap.size _ _ ((rd_T31 l0 x6_1).f3) from Kd.V_mk ul225_3 ge225_3); clear hva_ hvn_ hvc_ ge225_3 ul225_3; clear hcc225 hce225; have HR225_2 := aM hi225_2; have HC225_2 := aM hl225_2; clear hi225_2 hl225_2; have HR225_3 := aM hi225_3; have HC225_3 := aM hl225_3; clear hi225_3 hl225_3; replace p225 := eq_true p225; replace q225 := eq_true q225; have p226 : 0 ≤ (x6_1 : Int) := zd; have q226 : x6_1 < (l0.length : Int) := zd; obtain ⟨ad226, A226_2, c226_2, A226_3, c226_3, e226, hx226_0, hx226_1, hx226_2, hx226_3, hl226_2, hi226_2, hl226_3, hi226_3⟩ := at_T31 (Kd.V_reads' HO_0.1).2.2 x6_1 p226 q226; obtain rfl : ad225 = ad226 := (by injection e226); obtain ⟨ce226, hce226, hMe226, hcc226⟩ := Kd.V_get HO_0.1 z31 x6_1 p226 (by first | exact q226 | exact zd | (have e_ := (Kd.V_reads' HO_0.1).1; omega)); obtain ⟨ua226_2, uc226_2, ua226_3, uc226_3, rfl, ul226_2, ge226_2, ul226_3, ge226_3⟩ := k31_openF hMe226; have hv226_2 := hcc226 2 _ rfl; rw [add_field _ _ 2 (by omega)] at hv226_2; replace hv226_2 := Option.some.inj (hv226_2.symm.trans hx226_2); injection hv226_2 with hva_ hvn_ hvc_; rw [hva_] at ge226_2; rw [hvc_] at ul226_2; have HL226_2 := aM (show Kd.V k67 67 _ w.heap.size _ _ ((rd_T31 l0 x6_1).f2) from Kd.V_mk ul226_2 ge226_2); clear hva_ hvn_ hvc_ ge226_2 ul226_2; have hv226_3 := hcc226 3 _ rfl; rw [add_field _ _ 3 (by omega)] at hv226_3; replace hv226_3 := Option.some.inj (hv226_3.symm.trans hx226_3); injection hv226_3 with hva_ hvn_ hvc_; rw [hva_] at ge226_3; rw [hvc_] at ul226_3; have HL226_3 := aM (show Kd.V k69 69 _ w.heap.size _ _ ((rd_T31 l0 x6_1).f3) from Kd.V_mk ul226_3 ge226_3); clear hva_ hvn_ hvc_ ge226_3 ul226_3; clear hcc226 hce226; have HR226_2 := aM hi226_2; have HC226_2 := aM hl226_2; clear hi226_2 hl226_2; have HR226_3 := aM hi226_3; have HC226_3 := aM hl226_3; clear hi226_3 hl226_3; replace p226 := eq_true p226; replace q226 := eq_true q226; have ea_ := Option.some.inj (hx225_2.symm.trans hx226_2); injection ea_ with ea_ en_ ec_; subst ea_; subst ec_; clear en_; have ea_ := Option.some.inj (hx225_3.symm.trans hx226_3); injection ea_ with ea_ en_ ec_; subst ea_; subst ec_; clear en_; obtain ⟨hcz13_0, hcz13_1, hcz13_2, hcz13_3, hfz13_0, hfz13_1, hfz13_2, hfz13_3⟩ := zc4f BK221.1
     go_wp2_with (first | (go_at_call 55; (with_reducible refine (spec_l3Less.calls ((rd_T31 l0 x6_1).f0) ((rd_T31 l0 x6_1).f1) a1_0 a1_1 false _ A8.1).mono ?_); rintro e w' ⟨rfl, ⟨nd, rfl⟩⟩; (try first | exact ⟨rfl, _, World.drewN_drewN _ _ _⟩ | exact ⟨rfl, _, Eq.trans (World.drewN_drewN _ _ _) (congrArg (World.drewN _) (Nat.add_assoc _ _ _))⟩)))
     repeat (go_quiet (first | (go_at_call 55; (with_reducible refine (spec_l3Less.calls ((rd_T31 l0 x6_1).f0) ((rd_T31 l0 x6_1).f1) a1_0 a1_1 false _ A8.1).mono ?_); rintro e w' ⟨rfl, ⟨nd, rfl⟩⟩; (try first | exact ⟨rfl, _, World.drewN_drewN _ _ _⟩ | exact ⟨rfl, _, Eq.trans (World.drewN_drewN _ _ _) (congrArg (World.drewN _) (Nat.add_assoc _ _ _))⟩))); try go_wp2_with (first | (go_at_call 55; (with_reducible refine (spec_l3Less.calls ((rd_T31 l0 x6_1).f0) ((rd_T31 l0 x6_1).f1) a1_0 a1_1 false _ A8.1).mono ?_); rintro e w' ⟨rfl, ⟨nd, rfl⟩⟩; (try first | exact ⟨rfl, _, World.drewN_drewN _ _ _⟩ | exact ⟨rfl, _, Eq.trans (World.drewN_drewN _ _ _) (congrArg (World.drewN _) (Nat.add_assoc _ _ _))⟩))))
     go_roundg k1
     case measure => have := HK1.1; omega
     case rel => exact ⟨(x5_1), (wrap64 (x6_1 + 1)), (by first | rfl | (simp; done) | (simp [*]; done)), H', ⟨by have := HK1.1; omega⟩, ⟨zV HO_0.1⟩, ⟨zN HO_5.1⟩, ⟨zV HO_222002.1⟩, ⟨zV HO_222003.1⟩, ⟨zK BK221.1⟩, ⟨zB1 HB.1 GE221.1⟩⟩
   ·rw [if_neg c6] at H; have c6b0 : decide (x6_1 < (l0.length : Int)) = false := decide_eq_false c6; clear c6; replace H := zif H; obtain ⟨c14, H⟩ := H; have LMc14 := aM c14; clear c14; obtain ⟨y232, hy232⟩ : ∃ y_ : List (S31), y_ = (x5_1 ++ [(⟨a1_0, a1_1, l1_2, l1_3⟩ : S31)]) := ⟨_, rfl⟩; (first | (replace H := zbs hy232 H; try dsimp only at H) | rw [← hy232] at H); have Ny232 := aM hy232; clear hy232; have H' := aM H; clear H; obtain ⟨hcz15_0, hcz15_1, hcz15_2, hcz15_3, hfz15_0, hfz15_1, hfz15_2, hfz15_3⟩ := zc4f BK221.1
    go_wp2_with (first | ((with_reducible refine gate_builtin (b := .append) (xs := #[.tmp 37, .tmp 39]) rfl ?_); at_builtin; refine Kd.N_append k31 (w0 := w) w.heap.size rfl (.tmp 37) (.tmp 39) 56 31 (.agg #[(.int .i64 0), (.int .i64 0), (.slice none 0 0), (.slice none 0 0)]) 64 rfl Tryd.underlying56 info31 rfl (by decide) (by omega) u5 x5_1 (⟨a1_0, a1_1, l1_2, l1_3⟩ : S31) [.int .i64 a1_0, .int .i64 a1_1, .slice A1_2 l1_2.length c1_2, .slice A1_3 l1_3.length c1_3] (fun k_ => ((P0_ k_ ∨ P1_2_ k_ ∨ P1_3_ k_) ∨ w.heap.size ≤ k_) ∧ k_ ≠ gb221) (fun k_ => ((fun k_ => ((P0_ k_ ∨ P1_2_ k_ ∨ P1_3_ k_) ∨ w.heap.size ≤ k_) ∧ k_ ≠ gb221)) k_ ∧ some k_ ≠ (u5 : Value).ownBlock) rfl rfl ?aP (fun _ hk => hk) ?aF ?aO ?aB ?aS ?aL ?_; (case aP => exact (k31_mkF _ _ (⟨a1_0, a1_1, l1_2, l1_3⟩ : S31) (Kd.V_reads' (Kd.V_mono (ok' := (fun k_ => ((fun k_ => ((P0_ k_ ∨ P1_2_ k_ ∨ P1_3_ k_) ∨ w.heap.size ≤ k_) ∧ k_ ≠ gb221)) k_ ∧ some k_ ≠ (u5 : Value).ownBlock)) (HO_222002.1) (fun k_ hk => ⟨⟨hk.1, hk.2.2⟩, hk.2.1⟩))).2.1 (Kd.V_F (Kd.V_mono (ok' := (fun k_ => ((fun k_ => ((P0_ k_ ∨ P1_2_ k_ ∨ P1_3_ k_) ∨ w.heap.size ≤ k_) ∧ k_ ≠ gb221)) k_ ∧ some k_ ≠ (u5 : Value).ownBlock)) (HO_222002.1) (fun k_ hk => ⟨⟨hk.1, hk.2.2⟩, hk.2.1⟩))) (Kd.V_reads' (Kd.V_mono (ok' := (fun k_ => ((fun k_ => ((P0_ k_ ∨ P1_2_ k_ ∨ P1_3_ k_) ∨ w.heap.size ≤ k_) ∧ k_ ≠ gb221)) k_ ∧ some k_ ≠ (u5 : Value).ownBlock)) (HO_222003.1) (fun k_ hk => ⟨⟨hk.1, hk.2.2⟩, hk.2.1⟩))).2.1 (Kd.V_F (Kd.V_mono (ok' := (fun k_ => ((fun k_ => ((P0_ k_ ∨ P1_2_ k_ ∨ P1_3_ k_) ∨ w.heap.size ≤ k_) ∧ k_ ≠ gb221)) k_ ∧ some k_ ≠ (u5 : Value).ownBlock)) (HO_222003.1) (fun k_ hk => ⟨⟨hk.1, hk.2.2⟩, hk.2.1⟩))))); (case aB => exact (zB1 HB.1 GE221.1)); (case aF => exact (fun k_ hk => ⟨(.inr (Nat.le_trans (below_size (zB1 HB.1 GE221.1)) hk)), Kd.freshB (g := gb221) (o := .cells #[.int .i64 a1_0, .int .i64 a1_1, .slice A1_2 l1_2.length c1_2, .slice A1_3 l1_3.length c1_3] 31 (0, 0)) (zK BK221.1) k_ hk⟩)); (case aO => exact (zN HO_5.1)); (case aS => exact (below_size (zB1 HB.1 GE221.1))); (case aL => have := LMc14.1; omega); intro v233 w16 ho hb hg hat; rw [← Ny232.1] at ho; have _ := aM (Kd.V_afterv (ok := (fun k_ => ((P0_ k_ ∨ P1_2_ k_ ∨ P1_3_ k_) ∨ w.heap.size ≤ k_) ∧ k_ ≠ gb221)) (by (with_reducible repeat (first | apply Kd.V_alloc | apply Kd.V_drewN | apply Kd.V_drew)); exact Kd.V_mono HO_0.1 (fun _ hk => ⟨⟨hk.1, hk.2.2⟩, hk.2.1⟩)) hg hat); have _ := aM (Kd.V_afterv (ok := (fun k_ => ((P0_ k_ ∨ P1_2_ k_ ∨ P1_3_ k_) ∨ w.heap.size ≤ k_) ∧ k_ ≠ gb221)) (by (with_reducible repeat (first | apply Kd.V_alloc | apply Kd.V_drewN | apply Kd.V_drew)); exact Kd.V_mono HO_222002.1 (fun _ hk => ⟨⟨hk.1, hk.2.2⟩, hk.2.1⟩)) hg hat); have _ := aM (Kd.V_afterv (ok := (fun k_ => ((P0_ k_ ∨ P1_2_ k_ ∨ P1_3_ k_) ∨ w.heap.size ≤ k_) ∧ k_ ≠ gb221)) (by (with_reducible repeat (first | apply Kd.V_alloc | apply Kd.V_drewN | apply Kd.V_drew)); exact Kd.V_mono HO_222003.1 (fun _ hk => ⟨⟨hk.1, hk.2.2⟩, hk.2.1⟩)) hg hat); have _ := aM (blk_grown (zK BK221.1) hg (Kd.N_away HO_5.1 (fun _ hk => hk.2))); have _ := aM (hb); have _ := aM (ho); clear HO_0 HO_222002 HO_222003 BK221 HB HO_5; rename_i HO_0 HO_222002 HO_222003 BK221 HB HO234; clear ho hb hg hat))
    repeat (go_quiet (fail); try go_wp2_with (first | ((with_reducible refine gate_builtin (b := .append) (xs := #[.tmp 37, .tmp 39]) rfl ?_); at_builtin; refine Kd.N_append k31 (w0 := w) w.heap.size rfl (.tmp 37) (.tmp 39) 56 31 (.agg #[(.int .i64 0), (.int .i64 0), (.slice none 0 0), (.slice none 0 0)]) 64 rfl Tryd.underlying56 info31 rfl (by decide) (by omega) u5 x5_1 (⟨a1_0, a1_1, l1_2, l1_3⟩ : S31) [.int .i64 a1_0, .int .i64 a1_1, .slice A1_2 l1_2.length c1_2, .slice A1_3 l1_3.length c1_3] (fun k_ => ((P0_ k_ ∨ P1_2_ k_ ∨ P1_3_ k_) ∨ w.heap.size ≤ k_) ∧ k_ ≠ gb221) (fun k_ => ((fun k_ => ((P0_ k_ ∨ P1_2_ k_ ∨ P1_3_ k_) ∨ w.heap.size ≤ k_) ∧ k_ ≠ gb221)) k_ ∧ some k_ ≠ (u5 : Value).ownBlock) rfl rfl ?aP (fun _ hk => hk) ?aF ?aO ?aB ?aS ?aL ?_; (case aP => exact (k31_mkF _ _ (⟨a1_0, a1_1, l1_2, l1_3⟩ : S31) (Kd.V_reads' (Kd.V_mono (ok' := (fun k_ => ((fun k_ => ((P0_ k_ ∨ P1_2_ k_ ∨ P1_3_ k_) ∨ w.heap.size ≤ k_) ∧ k_ ≠ gb221)) k_ ∧ some k_ ≠ (u5 : Value).ownBlock)) (HO_222002.1) (fun k_ hk => ⟨⟨hk.1, hk.2.2⟩, hk.2.1⟩))).2.1 (Kd.V_F (Kd.V_mono (ok' := (fun k_ => ((fun k_ => ((P0_ k_ ∨ P1_2_ k_ ∨ P1_3_ k_) ∨ w.heap.size ≤ k_) ∧ k_ ≠ gb221)) k_ ∧ some k_ ≠ (u5 : Value).ownBlock)) (HO_222002.1) (fun k_ hk => ⟨⟨hk.1, hk.2.2⟩, hk.2.1⟩))) (Kd.V_reads' (Kd.V_mono (ok' := (fun k_ => ((fun k_ => ((P0_ k_ ∨ P1_2_ k_ ∨ P1_3_ k_) ∨ w.heap.size ≤ k_) ∧ k_ ≠ gb221)) k_ ∧ some k_ ≠ (u5 : Value).ownBlock)) (HO_222003.1) (fun k_ hk => ⟨⟨hk.1, hk.2.2⟩, hk.2.1⟩))).2.1 (Kd.V_F (Kd.V_mono (ok' := (fun k_ => ((fun k_ => ((P0_ k_ ∨ P1_2_ k_ ∨ P1_3_ k_) ∨ w.heap.size ≤ k_) ∧ k_ ≠ gb221)) k_ ∧ some k_ ≠ (u5 : Value).ownBlock)) (HO_222003.1) (fun k_ hk => ⟨⟨hk.1, hk.2.2⟩, hk.2.1⟩))))); (case aB => exact (zB1 HB.1 GE221.1)); (case aF => exact (fun k_ hk => ⟨(.inr (Nat.le_trans (below_size (zB1 HB.1 GE221.1)) hk)), Kd.freshB (g := gb221) (o := .cells #[.int .i64 a1_0, .int .i64 a1_1, .slice A1_2 l1_2.length c1_2, .slice A1_3 l1_3.length c1_3] 31 (0, 0)) (zK BK221.1) k_ hk⟩)); (case aO => exact (zN HO_5.1)); (case aS => exact (below_size (zB1 HB.1 GE221.1))); (case aL => have := LMc14.1; omega); intro v233 w16 ho hb hg hat; rw [← Ny232.1] at ho; have _ := aM (Kd.V_afterv (ok := (fun k_ => ((P0_ k_ ∨ P1_2_ k_ ∨ P1_3_ k_) ∨ w.heap.size ≤ k_) ∧ k_ ≠ gb221)) (by (with_reducible repeat (first | apply Kd.V_alloc | apply Kd.V_drewN | apply Kd.V_drew)); exact Kd.V_mono HO_0.1 (fun _ hk => ⟨⟨hk.1, hk.2.2⟩, hk.2.1⟩)) hg hat); have _ := aM (Kd.V_afterv (ok := (fun k_ => ((P0_ k_ ∨ P1_2_ k_ ∨ P1_3_ k_) ∨ w.heap.size ≤ k_) ∧ k_ ≠ gb221)) (by (with_reducible repeat (first | apply Kd.V_alloc | apply Kd.V_drewN | apply Kd.V_drew)); exact Kd.V_mono HO_222002.1 (fun _ hk => ⟨⟨hk.1, hk.2.2⟩, hk.2.1⟩)) hg hat); have _ := aM (Kd.V_afterv (ok := (fun k_ => ((P0_ k_ ∨ P1_2_ k_ ∨ P1_3_ k_) ∨ w.heap.size ≤ k_) ∧ k_ ≠ gb221)) (by (with_reducible repeat (first | apply Kd.V_alloc | apply Kd.V_drewN | apply Kd.V_drew)); exact Kd.V_mono HO_222003.1 (fun _ hk => ⟨⟨hk.1, hk.2.2⟩, hk.2.1⟩)) hg hat); have _ := aM (blk_grown (zK BK221.1) hg (Kd.N_away HO_5.1 (fun _ hk => hk.2))); have _ := aM (hb); have _ := aM (ho); clear HO_0 HO_222002 HO_222003 BK221 HB HO_5; rename_i HO_0 HO_222002 HO_222003 BK221 HB HO234; clear ho hb hg hat)))
    go_loopg [5, 7] k1 (fun kq v5 v7 w' => ∃ (x5_2 : List (S31)) (x7_2 : Int), v7 = .int .i64 x7_2 ∧ Aside0 (spec_l12With.l1 kq l0 x5_2 x7_2 a1_0 a1_1 l1_2 l1_3 = some r) ∧ Aside0 (kq ≤ k1) ∧ Aside0 (Kd.V k31 31 w' w.heap.size (fun k_ => ((P0_ k_ ∨ P1_2_ k_ ∨ P1_3_ k_) ∨ w.heap.size ≤ k_) ∧ some k_ ≠ (v5 : Value).ownBlock ∧ k_ ≠ gb221) (.slice A0 l0.length c0) l0) ∧ Aside0 (Kd.N k31 31 w' w.heap.size (fun k_ => ((P0_ k_ ∨ P1_2_ k_ ∨ P1_3_ k_) ∨ w.heap.size ≤ k_) ∧ k_ ≠ gb221) v5 x5_2) ∧ Aside0 (Kd.V k67 67 w' w.heap.size (fun k_ => ((P0_ k_ ∨ P1_2_ k_ ∨ P1_3_ k_) ∨ w.heap.size ≤ k_) ∧ some k_ ≠ (v5 : Value).ownBlock ∧ k_ ≠ gb221) (.slice A1_2 l1_2.length c1_2) l1_2) ∧ Aside0 (Kd.V k69 69 w' w.heap.size (fun k_ => ((P0_ k_ ∨ P1_2_ k_ ∨ P1_3_ k_) ∨ w.heap.size ≤ k_) ∧ some k_ ≠ (v5 : Value).ownBlock ∧ k_ ≠ gb221) (.slice A1_3 l1_3.length c1_3) l1_3) ∧ Aside0 (w'.heap[gb221]? = some (.cells #[.int .i64 a1_0, .int .i64 a1_1, (.slice A1_2 l1_2.length c1_2), (.slice A1_3 l1_3.length c1_3)] 31 (0, 0))) ∧ Aside0 (Below w.heap.size w w'))
    case atStart => exact ⟨(y232), (0), (by first | rfl | (simp; done) | (simp [*]; done)), H', ⟨Nat.le_refl _⟩, ⟨by (with_reducible repeat (first | apply Kd.V_alloc | apply Kd.V_drewN | apply Kd.V_drew)); exact Kd.V_mono HO_0.1 (fun _ hk => ⟨hk.1.1, ⟨hk.2, hk.1.2⟩⟩)⟩, ⟨zN HO234.1⟩, ⟨by (with_reducible repeat (first | apply Kd.V_alloc | apply Kd.V_drewN | apply Kd.V_drew)); exact Kd.V_mono HO_222002.1 (fun _ hk => ⟨hk.1.1, ⟨hk.2, hk.1.2⟩⟩)⟩, ⟨by (with_reducible repeat (first | apply Kd.V_alloc | apply Kd.V_drewN | apply Kd.V_drew)); exact Kd.V_mono HO_222003.1 (fun _ hk => ⟨hk.1.1, ⟨hk.2, hk.1.2⟩⟩)⟩, ⟨zK BK221.1⟩, ⟨zB1 HB.1 GE221.1⟩⟩
    case round =>
     clear H'
     try clear c1
     try clear c2
     try clear p2
     try clear q2
     try clear hx2
     try clear c6
     try clear c6b0
     try clear p6
     try clear c7
     try clear c7b0
     try clear c8
     try clear c9
     try clear c10
     try clear c14
     try clear hcz11_0
     try clear hcz11_1
     try clear hcz11_2
     try clear hcz11_3
     try clear hcz13_0
     try clear hcz13_1
     try clear hcz13_2
     try clear hcz13_3
     try clear hcz15_0
     try clear hcz15_1
     try clear hcz15_2
     try clear hcz15_3
     try clear hfz11_0
     try clear hfz11_1
     try clear hfz11_2
     try clear hfz11_3
     try clear hfz13_0
     try clear hfz13_1
     try clear hfz13_2
     try clear hfz13_3
     try clear hfz15_0
     try clear hfz15_1
     try clear hfz15_2
     try clear hfz15_3
     try clear hx225_0
     try clear hx225_1
     try clear hx225_2
     try clear hx225_3
     try clear hx226_0
     try clear hx226_1
     try clear hx226_2
     try clear hx226_3
     try clear hx228_0
     try clear hx228_1
     try clear hx228_2
     try clear hx228_3
     try clear p2
     try clear p225
     try clear p226
     try clear p228
     try clear q225
     try clear q226
     try clear q228
     obtain ⟨x5_2, x7_2, rfl, HA, HK2, HO_0, HO_5, HO_222002, HO_222003, BK221, HB⟩ := hrel; cases gk with
     | zero => exact absurd HA.1 (by simp [spec_l12With.l1])
     | succ k2 =>
      have H := HA.1; clear HA; simp only [spec_l12With.l1] at H
      by_cases c17 : x7_2 < (l0.length : Int)
      ·rw [if_pos c17] at H; have c17b0 : decide (x7_2 < (l0.length : Int)) = true := decide_eq_true c17; clear c17; replace H := zif H; obtain ⟨c18, H⟩ := H; have c18b0 : decide (0 ≤ x7_2) = true := decide_eq_true c18; clear c18; replace H := Option.bind_eq_some_iff.mp H; obtain ⟨t237, A190, H⟩ := H; (try dsimp only at H); have A19 := aM A190; clear A190
       by_cases c20 : t237 = true
       ·subst c20; replace H := zy1 H; replace H := zif H; obtain ⟨c21, H⟩ := H; have LMc21 := aM c21; clear c21; obtain ⟨y239, hy239⟩ : ∃ y_ : List (S31), y_ = (x5_2 ++ [(⟨(rd_T31 l0 x7_2).f0, (rd_T31 l0 x7_2).f1, (rd_T31 l0 x7_2).f2, (rd_T31 l0 x7_2).f3⟩ : S31)]) := ⟨_, rfl⟩; (first | (replace H := zbs hy239 H; try dsimp only at H) | rw [← hy239] at H); have Ny239 := aM hy239; clear hy239; have H' := aM H; clear H; obtain ⟨hcz22_0, hcz22_1, hcz22_2, hcz22_3, hfz22_0, hfz22_1, hfz22_2, hfz22_3⟩ := zc4f BK221.1; have p235 : 0 ≤ (x7_2 : Int) := zd; have q235 : x7_2 < (l0.length : Int) := zd; obtain ⟨ad235, A235_2, c235_2, A235_3, c235_3, e235, hx235_0, hx235_1, hx235_2, hx235_3, hl235_2, hi235_2, hl235_3, hi235_3⟩ := at_T31 (Kd.V_reads' HO_0.1).2.2 x7_2 p235 q235; cases e235; obtain ⟨ce235, hce235, hMe235, hcc235⟩ := Kd.V_get HO_0.1 z31 x7_2 p235 (by first | exact q235 | exact zd | (have e_ := (Kd.V_reads' HO_0.1).1; omega)); obtain ⟨ua235_2, uc235_2, ua235_3, uc235_3, rfl, ul235_2, ge235_2, ul235_3, ge235_3⟩ := k31_openF hMe235; have hv235_2 := hcc235 2 _ rfl; rw [add_field _ _ 2 (by omega)] at hv235_2; replace hv235_2 := Option.some.inj (hv235_2.symm.trans hx235_2); injection hv235_2 with hva_ hvn_ hvc_; rw [hva_] at ge235_2; rw [hvc_] at ul235_2; have HL235_2 := aM (show Kd.V k67 67 _ w.heap.size _ _ ((rd_T31 l0 x7_2).f2) from Kd.V_mk ul235_2 ge235_2); clear hva_ hvn_ hvc_ ge235_2 ul235_2; have hv235_3 := hcc235 3 _ rfl; rw [add_field _ _ 3 (by omega)] at hv235_3; replace hv235_3 := Option.some.inj (hv235_3.symm.trans hx235_3); injection hv235_3 with hva_ hvn_ hvc_; rw [hva_] at ge235_3; rw [hvc_] at ul235_3; have HL235_3 := aM (show Kd.V k69 69 _ w.heap.size _ _ ((rd_T31 l0 x7_2).f3) from Kd.V_mk ul235_3 ge235_3); clear hva_ hvn_ hvc_ ge235_3 ul235_3; clear hcc235 hce235; have HR235_2 := aM hi235_2; have HC235_2 := aM hl235_2; clear hi235_2 hl235_2; have HR235_3 := aM hi235_3; have HC235_3 := aM hl235_3; clear hi235_3 hl235_3; replace p235 := eq_true p235; replace q235 := eq_true q235; have p236 : 0 ≤ (x7_2 : Int) := zd; have q236 : x7_2 < (l0.length : Int) := zd; obtain ⟨ad236, A236_2, c236_2, A236_3, c236_3, e236, hx236_0, hx236_1, hx236_2, hx236_3, hl236_2, hi236_2, hl236_3, hi236_3⟩ := at_T31 (Kd.V_reads' HO_0.1).2.2 x7_2 p236 q236; obtain rfl : ad235 = ad236 := (by injection e236); obtain ⟨ce236, hce236, hMe236, hcc236⟩ := Kd.V_get HO_0.1 z31 x7_2 p236 (by first | exact q236 | exact zd | (have e_ := (Kd.V_reads' HO_0.1).1; omega)); obtain ⟨ua236_2, uc236_2, ua236_3, uc236_3, rfl, ul236_2, ge236_2, ul236_3, ge236_3⟩ := k31_openF hMe236; have hv236_2 := hcc236 2 _ rfl; rw [add_field _ _ 2 (by omega)] at hv236_2; replace hv236_2 := Option.some.inj (hv236_2.symm.trans hx236_2); injection hv236_2 with hva_ hvn_ hvc_; rw [hva_] at ge236_2; rw [hvc_] at ul236_2; have HL236_2 := aM (show Kd.V k67 67 _ w.heap.size _ _ ((rd_T31 l0 x7_2).f2) from Kd.V_mk ul236_2 ge236_2); clear hva_ hvn_ hvc_ ge236_2 ul236_2; have hv236_3 := hcc236 3 _ rfl; rw [add_field _ _ 3 (by omega)] at hv236_3; replace hv236_3 := Option.some.inj (hv236_3.symm.trans hx236_3); injection hv236_3 with hva_ hvn_ hvc_; rw [hva_] at ge236_3; rw [hvc_] at ul236_3; have HL236_3 := aM (show Kd.V k69 69 _ w.heap.size _ _ ((rd_T31 l0 x7_2).f3) from Kd.V_mk ul236_3 ge236_3); clear hva_ hvn_ hvc_ ge236_3 ul236_3; clear hcc236 hce236; have HR236_2 := aM hi236_2; have HC236_2 := aM hl236_2; clear hi236_2 hl236_2; have HR236_3 := aM hi236_3; have HC236_3 := aM hl236_3; clear hi236_3 hl236_3; replace p236 := eq_true p236; replace q236 := eq_true q236; have ea_ := Option.some.inj (hx235_2.symm.trans hx236_2); injection ea_ with ea_ en_ ec_; subst ea_; subst ec_; clear en_; have ea_ := Option.some.inj (hx235_3.symm.trans hx236_3); injection ea_ with ea_ en_ ec_; subst ea_; subst ec_; clear en_
        go_wp2_with (first | (go_at_call 55; (with_reducible refine (spec_l3Less.calls a1_0 a1_1 ((rd_T31 l0 x7_2).f0) ((rd_T31 l0 x7_2).f1) true _ A19.1).mono ?_); rintro e w' ⟨rfl, ⟨nd, rfl⟩⟩; (try first | exact ⟨rfl, _, World.drewN_drewN _ _ _⟩ | exact ⟨rfl, _, Eq.trans (World.drewN_drewN _ _ _) (congrArg (World.drewN _) (Nat.add_assoc _ _ _))⟩); have p238 : 0 ≤ (x7_2 : Int) := zd; have q238 : x7_2 < (l0.length : Int) := zd; obtain ⟨ad238, A238_2, c238_2, A238_3, c238_3, e238, hx238_0, hx238_1, hx238_2, hx238_3, hl238_2, hi238_2, hl238_3, hi238_3⟩ := at_T31 (Kd.V_reads' HO_0.1).2.2 x7_2 p238 q238; obtain rfl : ad235 = ad238 := (by injection e238); obtain ⟨ce238, hce238, hMe238, hcc238⟩ := Kd.V_get HO_0.1 z31 x7_2 p238 (by first | exact q238 | exact zd | (have e_ := (Kd.V_reads' HO_0.1).1; omega)); obtain ⟨ua238_2, uc238_2, ua238_3, uc238_3, rfl, ul238_2, ge238_2, ul238_3, ge238_3⟩ := k31_openF hMe238; have hv238_2 := hcc238 2 _ rfl; rw [add_field _ _ 2 (by omega)] at hv238_2; replace hv238_2 := Option.some.inj (hv238_2.symm.trans hx238_2); injection hv238_2 with hva_ hvn_ hvc_; rw [hva_] at ge238_2; rw [hvc_] at ul238_2; have HL238_2 := aM (show Kd.V k67 67 _ w.heap.size _ _ ((rd_T31 l0 x7_2).f2) from Kd.V_mk ul238_2 ge238_2); clear hva_ hvn_ hvc_ ge238_2 ul238_2; have hv238_3 := hcc238 3 _ rfl; rw [add_field _ _ 3 (by omega)] at hv238_3; replace hv238_3 := Option.some.inj (hv238_3.symm.trans hx238_3); injection hv238_3 with hva_ hvn_ hvc_; rw [hva_] at ge238_3; rw [hvc_] at ul238_3; have HL238_3 := aM (show Kd.V k69 69 _ w.heap.size _ _ ((rd_T31 l0 x7_2).f3) from Kd.V_mk ul238_3 ge238_3); clear hva_ hvn_ hvc_ ge238_3 ul238_3; clear hcc238 hce238; have HR238_2 := aM hi238_2; have HC238_2 := aM hl238_2; clear hi238_2 hl238_2; have HR238_3 := aM hi238_3; have HC238_3 := aM hl238_3; clear hi238_3 hl238_3; replace p238 := eq_true p238; replace q238 := eq_true q238; have ea_ := Option.some.inj (hx235_2.symm.trans hx238_2); injection ea_ with ea_ en_ ec_; subst ea_; subst ec_; clear en_; have ea_ := Option.some.inj (hx235_3.symm.trans hx238_3); injection ea_ with ea_ en_ ec_; subst ea_; subst ec_; clear en_) | ((with_reducible refine gate_builtin (b := .append) (xs := #[.tmp 62, .tmp 67]) rfl ?_); at_builtin; refine Kd.N_append k31 (w0 := w) w.heap.size rfl (.tmp 62) (.tmp 67) 56 31 (.agg #[(.int .i64 0), (.int .i64 0), (.slice none 0 0), (.slice none 0 0)]) 64 rfl Tryd.underlying56 info31 rfl (by decide) (by omega) u5 x5_2 (⟨(rd_T31 l0 x7_2).f0, (rd_T31 l0 x7_2).f1, (rd_T31 l0 x7_2).f2, (rd_T31 l0 x7_2).f3⟩ : S31) [.int .i64 ((rd_T31 l0 x7_2).f0), .int .i64 ((rd_T31 l0 x7_2).f1), .slice A235_2 ((rd_T31 l0 x7_2).f2).length c235_2, .slice A235_3 ((rd_T31 l0 x7_2).f3).length c235_3] (fun k_ => ((P0_ k_ ∨ P1_2_ k_ ∨ P1_3_ k_) ∨ w.heap.size ≤ k_) ∧ k_ ≠ gb221) (fun k_ => ((fun k_ => ((P0_ k_ ∨ P1_2_ k_ ∨ P1_3_ k_) ∨ w.heap.size ≤ k_) ∧ k_ ≠ gb221)) k_ ∧ some k_ ≠ (u5 : Value).ownBlock) rfl rfl ?aP (fun _ hk => hk) ?aF ?aO ?aB ?aS ?aL ?_; (case aP => exact (k31_mkF _ _ (⟨(rd_T31 l0 x7_2).f0, (rd_T31 l0 x7_2).f1, (rd_T31 l0 x7_2).f2, (rd_T31 l0 x7_2).f3⟩ : S31) (Kd.V_reads' (Kd.V_mono (ok' := (fun k_ => ((fun k_ => ((P0_ k_ ∨ P1_2_ k_ ∨ P1_3_ k_) ∨ w.heap.size ≤ k_) ∧ k_ ≠ gb221)) k_ ∧ some k_ ≠ (u5 : Value).ownBlock)) (HL238_2.1) (fun k_ hk => ⟨⟨hk.1, hk.2.2⟩, hk.2.1⟩))).2.1 (Kd.V_F (Kd.V_mono (ok' := (fun k_ => ((fun k_ => ((P0_ k_ ∨ P1_2_ k_ ∨ P1_3_ k_) ∨ w.heap.size ≤ k_) ∧ k_ ≠ gb221)) k_ ∧ some k_ ≠ (u5 : Value).ownBlock)) (HL238_2.1) (fun k_ hk => ⟨⟨hk.1, hk.2.2⟩, hk.2.1⟩))) (Kd.V_reads' (Kd.V_mono (ok' := (fun k_ => ((fun k_ => ((P0_ k_ ∨ P1_2_ k_ ∨ P1_3_ k_) ∨ w.heap.size ≤ k_) ∧ k_ ≠ gb221)) k_ ∧ some k_ ≠ (u5 : Value).ownBlock)) (HL238_3.1) (fun k_ hk => ⟨⟨hk.1, hk.2.2⟩, hk.2.1⟩))).2.1 (Kd.V_F (Kd.V_mono (ok' := (fun k_ => ((fun k_ => ((P0_ k_ ∨ P1_2_ k_ ∨ P1_3_ k_) ∨ w.heap.size ≤ k_) ∧ k_ ≠ gb221)) k_ ∧ some k_ ≠ (u5 : Value).ownBlock)) (HL238_3.1) (fun k_ hk => ⟨⟨hk.1, hk.2.2⟩, hk.2.1⟩))))); (case aB => exact (zB1 HB.1 GE221.1)); (case aF => exact (fun k_ hk => ⟨(.inr (Nat.le_trans (below_size (zB1 HB.1 GE221.1)) hk)), Kd.freshB (g := gb221) (o := .cells #[.int .i64 a1_0, .int .i64 a1_1, .slice A1_2 l1_2.length c1_2, .slice A1_3 l1_3.length c1_3] 31 (0, 0)) (zK BK221.1) k_ hk⟩)); (case aO => exact (zN HO_5.1)); (case aS => exact (below_size (zB1 HB.1 GE221.1))); (case aL => have := LMc21.1; omega); intro v240 w23 ho hb hg hat; rw [← Ny239.1] at ho; have _ := aM (Kd.V_afterv (ok := (fun k_ => ((P0_ k_ ∨ P1_2_ k_ ∨ P1_3_ k_) ∨ w.heap.size ≤ k_) ∧ k_ ≠ gb221)) (by (with_reducible repeat (first | apply Kd.V_alloc | apply Kd.V_drewN | apply Kd.V_drew)); exact Kd.V_mono HO_0.1 (fun _ hk => ⟨⟨hk.1, hk.2.2⟩, hk.2.1⟩)) hg hat); have _ := aM (Kd.V_afterv (ok := (fun k_ => ((P0_ k_ ∨ P1_2_ k_ ∨ P1_3_ k_) ∨ w.heap.size ≤ k_) ∧ k_ ≠ gb221)) (by (with_reducible repeat (first | apply Kd.V_alloc | apply Kd.V_drewN | apply Kd.V_drew)); exact Kd.V_mono HO_222002.1 (fun _ hk => ⟨⟨hk.1, hk.2.2⟩, hk.2.1⟩)) hg hat); have _ := aM (Kd.V_afterv (ok := (fun k_ => ((P0_ k_ ∨ P1_2_ k_ ∨ P1_3_ k_) ∨ w.heap.size ≤ k_) ∧ k_ ≠ gb221)) (by (with_reducible repeat (first | apply Kd.V_alloc | apply Kd.V_drewN | apply Kd.V_drew)); exact Kd.V_mono HO_222003.1 (fun _ hk => ⟨⟨hk.1, hk.2.2⟩, hk.2.1⟩)) hg hat); have _ := aM (blk_grown (zK BK221.1) hg (Kd.N_away HO_5.1 (fun _ hk => hk.2))); have _ := aM (Kd.V_afterv (ok := (fun k_ => ((P0_ k_ ∨ P1_2_ k_ ∨ P1_3_ k_) ∨ w.heap.size ≤ k_) ∧ k_ ≠ gb221)) (by (with_reducible repeat (first | apply Kd.V_alloc | apply Kd.V_drewN | apply Kd.V_drew)); exact Kd.V_mono HL235_2.1 (fun _ hk => ⟨⟨hk.1, hk.2.2⟩, hk.2.1⟩)) hg hat); have _ := aM (Kd.V_afterv (ok := (fun k_ => ((P0_ k_ ∨ P1_2_ k_ ∨ P1_3_ k_) ∨ w.heap.size ≤ k_) ∧ k_ ≠ gb221)) (by (with_reducible repeat (first | apply Kd.V_alloc | apply Kd.V_drewN | apply Kd.V_drew)); exact Kd.V_mono HL235_3.1 (fun _ hk => ⟨⟨hk.1, hk.2.2⟩, hk.2.1⟩)) hg hat); have _ := aM (Kd.V_afterv (ok := (fun k_ => ((P0_ k_ ∨ P1_2_ k_ ∨ P1_3_ k_) ∨ w.heap.size ≤ k_) ∧ k_ ≠ gb221)) (by (with_reducible repeat (first | apply Kd.V_alloc | apply Kd.V_drewN | apply Kd.V_drew)); exact Kd.V_mono HL236_2.1 (fun _ hk => ⟨⟨hk.1, hk.2.2⟩, hk.2.1⟩)) hg hat); have _ := aM (Kd.V_afterv (ok := (fun k_ => ((P0_ k_ ∨ P1_2_ k_ ∨ P1_3_ k_) ∨ w.heap.size ≤ k_) ∧ k_ ≠ gb221)) (by (with_reducible repeat (first | apply Kd.V_alloc | apply Kd.V_drewN | apply Kd.V_drew)); exact Kd.V_mono HL236_3.1 (fun _ hk => ⟨⟨hk.1, hk.2.2⟩, hk.2.1⟩)) hg hat); have _ := aM (Kd.V_afterv (ok := (fun k_ => ((P0_ k_ ∨ P1_2_ k_ ∨ P1_3_ k_) ∨ w.heap.size ≤ k_) ∧ k_ ≠ gb221)) (by (with_reducible repeat (first | apply Kd.V_alloc | apply Kd.V_drewN | apply Kd.V_drew)); exact Kd.V_mono HL238_2.1 (fun _ hk => ⟨⟨hk.1, hk.2.2⟩, hk.2.1⟩)) hg hat); have _ := aM (Kd.V_afterv (ok := (fun k_ => ((P0_ k_ ∨ P1_2_ k_ ∨ P1_3_ k_) ∨ w.heap.size ≤ k_) ∧ k_ ≠ gb221)) (by (with_reducible repeat (first | apply Kd.V_alloc | apply Kd.V_drewN | apply Kd.V_drew)); exact Kd.V_mono HL238_3.1 (fun _ hk => ⟨⟨hk.1, hk.2.2⟩, hk.2.1⟩)) hg hat); have _ := aM (hb); have _ := aM (ho); clear HO_0 HO_222002 HO_222003 BK221 HL235_2 HL235_3 HL236_2 HL236_3 HL238_2 HL238_3 HB HO_5; rename_i HO_0 HO_222002 HO_222003 BK221 HL235_2 HL235_3 HL236_2 HL236_3 HL238_2 HL238_3 HB HO241; clear ho hb hg hat))
        repeat (go_quiet (first | (go_at_call 55; (with_reducible refine (spec_l3Less.calls a1_0 a1_1 ((rd_T31 l0 x7_2).f0) ((rd_T31 l0 x7_2).f1) true _ A19.1).mono ?_); rintro e w' ⟨rfl, ⟨nd, rfl⟩⟩; (try first | exact ⟨rfl, _, World.drewN_drewN _ _ _⟩ | exact ⟨rfl, _, Eq.trans (World.drewN_drewN _ _ _) (congrArg (World.drewN _) (Nat.add_assoc _ _ _))⟩); have p238 : 0 ≤ (x7_2 : Int) := zd; have q238 : x7_2 < (l0.length : Int) := zd; obtain ⟨ad238, A238_2, c238_2, A238_3, c238_3, e238, hx238_0, hx238_1, hx238_2, hx238_3, hl238_2, hi238_2, hl238_3, hi238_3⟩ := at_T31 (Kd.V_reads' HO_0.1).2.2 x7_2 p238 q238; obtain rfl : ad235 = ad238 := (by injection e238); obtain ⟨ce238, hce238, hMe238, hcc238⟩ := Kd.V_get HO_0.1 z31 x7_2 p238 (by first | exact q238 | exact zd | (have e_ := (Kd.V_reads' HO_0.1).1; omega)); obtain ⟨ua238_2, uc238_2, ua238_3, uc238_3, rfl, ul238_2, ge238_2, ul238_3, ge238_3⟩ := k31_openF hMe238; have hv238_2 := hcc238 2 _ rfl; rw [add_field _ _ 2 (by omega)] at hv238_2; replace hv238_2 := Option.some.inj (hv238_2.symm.trans hx238_2); injection hv238_2 with hva_ hvn_ hvc_; rw [hva_] at ge238_2; rw [hvc_] at ul238_2; have HL238_2 := aM (show Kd.V k67 67 _ w.heap.size _ _ ((rd_T31 l0 x7_2).f2) from Kd.V_mk ul238_2 ge238_2); clear hva_ hvn_ hvc_ ge238_2 ul238_2; have hv238_3 := hcc238 3 _ rfl; rw [add_field _ _ 3 (by omega)] at hv238_3; replace hv238_3 := Option.some.inj (hv238_3.symm.trans hx238_3); injection hv238_3 with hva_ hvn_ hvc_; rw [hva_] at ge238_3; rw [hvc_] at ul238_3; have HL238_3 := aM (show Kd.V k69 69 _ w.heap.size _ _ ((rd_T31 l0 x7_2).f3) from Kd.V_mk ul238_3 ge238_3); clear hva_ hvn_ hvc_ ge238_3 ul238_3; clear hcc238 hce238; have HR238_2 := aM hi238_2; have HC238_2 := aM hl238_2; clear hi238_2 hl238_2; have HR238_3 := aM hi238_3; have HC238_3 := aM hl238_3; clear hi238_3 hl238_3; replace p238 := eq_true p238; replace q238 := eq_true q238; have ea_ := Option.some.inj (hx235_2.symm.trans hx238_2); injection ea_ with ea_ en_ ec_; subst ea_; subst ec_; clear en_; have ea_ := Option.some.inj (hx235_3.symm.trans hx238_3); injection ea_ with ea_ en_ ec_; subst ea_; subst ec_; clear en_)); try go_wp2_with (first | (go_at_call 55; (with_reducible refine (spec_l3Less.calls a1_0 a1_1 ((rd_T31 l0 x7_2).f0) ((rd_T31 l0 x7_2).f1) true _ A19.1).mono ?_); rintro e w' ⟨rfl, ⟨nd, rfl⟩⟩; (try first | exact ⟨rfl, _, World.drewN_drewN _ _ _⟩ | exact ⟨rfl, _, Eq.trans (World.drewN_drewN _ _ _) (congrArg (World.drewN _) (Nat.add_assoc _ _ _))⟩); have p238 : 0 ≤ (x7_2 : Int) := zd; have q238 : x7_2 < (l0.length : Int) := zd; obtain ⟨ad238, A238_2, c238_2, A238_3, c238_3, e238, hx238_0, hx238_1, hx238_2, hx238_3, hl238_2, hi238_2, hl238_3, hi238_3⟩ := at_T31 (Kd.V_reads' HO_0.1).2.2 x7_2 p238 q238; obtain rfl : ad235 = ad238 := (by injection e238); obtain ⟨ce238, hce238, hMe238, hcc238⟩ := Kd.V_get HO_0.1 z31 x7_2 p238 (by first | exact q238 | exact zd | (have e_ := (Kd.V_reads' HO_0.1).1; omega)); obtain ⟨ua238_2, uc238_2, ua238_3, uc238_3, rfl, ul238_2, ge238_2, ul238_3, ge238_3⟩ := k31_openF hMe238; have hv238_2 := hcc238 2 _ rfl; rw [add_field _ _ 2 (by omega)] at hv238_2; replace hv238_2 := Option.some.inj (hv238_2.symm.trans hx238_2); injection hv238_2 with hva_ hvn_ hvc_; rw [hva_] at ge238_2; rw [hvc_] at ul238_2; have HL238_2 := aM (show Kd.V k67 67 _ w.heap.size _ _ ((rd_T31 l0 x7_2).f2) from Kd.V_mk ul238_2 ge238_2); clear hva_ hvn_ hvc_ ge238_2 ul238_2; have hv238_3 := hcc238 3 _ rfl; rw [add_field _ _ 3 (by omega)] at hv238_3; replace hv238_3 := Option.some.inj (hv238_3.symm.trans hx238_3); injection hv238_3 with hva_ hvn_ hvc_; rw [hva_] at ge238_3; rw [hvc_] at ul238_3; have HL238_3 := aM (show Kd.V k69 69 _ w.heap.size _ _ ((rd_T31 l0 x7_2).f3) from Kd.V_mk ul238_3 ge238_3); clear hva_ hvn_ hvc_ ge238_3 ul238_3; clear hcc238 hce238; have HR238_2 := aM hi238_2; have HC238_2 := aM hl238_2; clear hi238_2 hl238_2; have HR238_3 := aM hi238_3; have HC238_3 := aM hl238_3; clear hi238_3 hl238_3; replace p238 := eq_true p238; replace q238 := eq_true q238; have ea_ := Option.some.inj (hx235_2.symm.trans hx238_2); injection ea_ with ea_ en_ ec_; subst ea_; subst ec_; clear en_; have ea_ := Option.some.inj (hx235_3.symm.trans hx238_3); injection ea_ with ea_ en_ ec_; subst ea_; subst ec_; clear en_) | ((with_reducible refine gate_builtin (b := .append) (xs := #[.tmp 62, .tmp 67]) rfl ?_); at_builtin; refine Kd.N_append k31 (w0 := w) w.heap.size rfl (.tmp 62) (.tmp 67) 56 31 (.agg #[(.int .i64 0), (.int .i64 0), (.slice none 0 0), (.slice none 0 0)]) 64 rfl Tryd.underlying56 info31 rfl (by decide) (by omega) u5 x5_2 (⟨(rd_T31 l0 x7_2).f0, (rd_T31 l0 x7_2).f1, (rd_T31 l0 x7_2).f2, (rd_T31 l0 x7_2).f3⟩ : S31) [.int .i64 ((rd_T31 l0 x7_2).f0), .int .i64 ((rd_T31 l0 x7_2).f1), .slice A235_2 ((rd_T31 l0 x7_2).f2).length c235_2, .slice A235_3 ((rd_T31 l0 x7_2).f3).length c235_3] (fun k_ => ((P0_ k_ ∨ P1_2_ k_ ∨ P1_3_ k_) ∨ w.heap.size ≤ k_) ∧ k_ ≠ gb221) (fun k_ => ((fun k_ => ((P0_ k_ ∨ P1_2_ k_ ∨ P1_3_ k_) ∨ w.heap.size ≤ k_) ∧ k_ ≠ gb221)) k_ ∧ some k_ ≠ (u5 : Value).ownBlock) rfl rfl ?aP (fun _ hk => hk) ?aF ?aO ?aB ?aS ?aL ?_; (case aP => exact (k31_mkF _ _ (⟨(rd_T31 l0 x7_2).f0, (rd_T31 l0 x7_2).f1, (rd_T31 l0 x7_2).f2, (rd_T31 l0 x7_2).f3⟩ : S31) (Kd.V_reads' (Kd.V_mono (ok' := (fun k_ => ((fun k_ => ((P0_ k_ ∨ P1_2_ k_ ∨ P1_3_ k_) ∨ w.heap.size ≤ k_) ∧ k_ ≠ gb221)) k_ ∧ some k_ ≠ (u5 : Value).ownBlock)) (HL238_2.1) (fun k_ hk => ⟨⟨hk.1, hk.2.2⟩, hk.2.1⟩))).2.1 (Kd.V_F (Kd.V_mono (ok' := (fun k_ => ((fun k_ => ((P0_ k_ ∨ P1_2_ k_ ∨ P1_3_ k_) ∨ w.heap.size ≤ k_) ∧ k_ ≠ gb221)) k_ ∧ some k_ ≠ (u5 : Value).ownBlock)) (HL238_2.1) (fun k_ hk => ⟨⟨hk.1, hk.2.2⟩, hk.2.1⟩))) (Kd.V_reads' (Kd.V_mono (ok' := (fun k_ => ((fun k_ => ((P0_ k_ ∨ P1_2_ k_ ∨ P1_3_ k_) ∨ w.heap.size ≤ k_) ∧ k_ ≠ gb221)) k_ ∧ some k_ ≠ (u5 : Value).ownBlock)) (HL238_3.1) (fun k_ hk => ⟨⟨hk.1, hk.2.2⟩, hk.2.1⟩))).2.1 (Kd.V_F (Kd.V_mono (ok' := (fun k_ => ((fun k_ => ((P0_ k_ ∨ P1_2_ k_ ∨ P1_3_ k_) ∨ w.heap.size ≤ k_) ∧ k_ ≠ gb221)) k_ ∧ some k_ ≠ (u5 : Value).ownBlock)) (HL238_3.1) (fun k_ hk => ⟨⟨hk.1, hk.2.2⟩, hk.2.1⟩))))); (case aB => exact (zB1 HB.1 GE221.1)); (case aF => exact (fun k_ hk => ⟨(.inr (Nat.le_trans (below_size (zB1 HB.1 GE221.1)) hk)), Kd.freshB (g := gb221) (o := .cells #[.int .i64 a1_0, .int .i64 a1_1, .slice A1_2 l1_2.length c1_2, .slice A1_3 l1_3.length c1_3] 31 (0, 0)) (zK BK221.1) k_ hk⟩)); (case aO => exact (zN HO_5.1)); (case aS => exact (below_size (zB1 HB.1 GE221.1))); (case aL => have := LMc21.1; omega); intro v240 w23 ho hb hg hat; rw [← Ny239.1] at ho; have _ := aM (Kd.V_afterv (ok := (fun k_ => ((P0_ k_ ∨ P1_2_ k_ ∨ P1_3_ k_) ∨ w.heap.size ≤ k_) ∧ k_ ≠ gb221)) (by (with_reducible repeat (first | apply Kd.V_alloc | apply Kd.V_drewN | apply Kd.V_drew)); exact Kd.V_mono HO_0.1 (fun _ hk => ⟨⟨hk.1, hk.2.2⟩, hk.2.1⟩)) hg hat); have _ := aM (Kd.V_afterv (ok := (fun k_ => ((P0_ k_ ∨ P1_2_ k_ ∨ P1_3_ k_) ∨ w.heap.size ≤ k_) ∧ k_ ≠ gb221)) (by (with_reducible repeat (first | apply Kd.V_alloc | apply Kd.V_drewN | apply Kd.V_drew)); exact Kd.V_mono HO_222002.1 (fun _ hk => ⟨⟨hk.1, hk.2.2⟩, hk.2.1⟩)) hg hat); have _ := aM (Kd.V_afterv (ok := (fun k_ => ((P0_ k_ ∨ P1_2_ k_ ∨ P1_3_ k_) ∨ w.heap.size ≤ k_) ∧ k_ ≠ gb221)) (by (with_reducible repeat (first | apply Kd.V_alloc | apply Kd.V_drewN | apply Kd.V_drew)); exact Kd.V_mono HO_222003.1 (fun _ hk => ⟨⟨hk.1, hk.2.2⟩, hk.2.1⟩)) hg hat); have _ := aM (blk_grown (zK BK221.1) hg (Kd.N_away HO_5.1 (fun _ hk => hk.2))); have _ := aM (Kd.V_afterv (ok := (fun k_ => ((P0_ k_ ∨ P1_2_ k_ ∨ P1_3_ k_) ∨ w.heap.size ≤ k_) ∧ k_ ≠ gb221)) (by (with_reducible repeat (first | apply Kd.V_alloc | apply Kd.V_drewN | apply Kd.V_drew)); exact Kd.V_mono HL235_2.1 (fun _ hk => ⟨⟨hk.1, hk.2.2⟩, hk.2.1⟩)) hg hat); have _ := aM (Kd.V_afterv (ok := (fun k_ => ((P0_ k_ ∨ P1_2_ k_ ∨ P1_3_ k_) ∨ w.heap.size ≤ k_) ∧ k_ ≠ gb221)) (by (with_reducible repeat (first | apply Kd.V_alloc | apply Kd.V_drewN | apply Kd.V_drew)); exact Kd.V_mono HL235_3.1 (fun _ hk => ⟨⟨hk.1, hk.2.2⟩, hk.2.1⟩)) hg hat); have _ := aM (Kd.V_afterv (ok := (fun k_ => ((P0_ k_ ∨ P1_2_ k_ ∨ P1_3_ k_) ∨ w.heap.size ≤ k_) ∧ k_ ≠ gb221)) (by (with_reducible repeat (first | apply Kd.V_alloc | apply Kd.V_drewN | apply Kd.V_drew)); exact Kd.V_mono HL236_2.1 (fun _ hk => ⟨⟨hk.1, hk.2.2⟩, hk.2.1⟩)) hg hat); have _ := aM (Kd.V_afterv (ok := (fun k_ => ((P0_ k_ ∨ P1_2_ k_ ∨ P1_3_ k_) ∨ w.heap.size ≤ k_) ∧ k_ ≠ gb221)) (by (with_reducible repeat (first | apply Kd.V_alloc | apply Kd.V_drewN | apply Kd.V_drew)); exact Kd.V_mono HL236_3.1 (fun _ hk => ⟨⟨hk.1, hk.2.2⟩, hk.2.1⟩)) hg hat); have _ := aM (Kd.V_afterv (ok := (fun k_ => ((P0_ k_ ∨ P1_2_ k_ ∨ P1_3_ k_) ∨ w.heap.size ≤ k_) ∧ k_ ≠ gb221)) (by (with_reducible repeat (first | apply Kd.V_alloc | apply Kd.V_drewN | apply Kd.V_drew)); exact Kd.V_mono HL238_2.1 (fun _ hk => ⟨⟨hk.1, hk.2.2⟩, hk.2.1⟩)) hg hat); have _ := aM (Kd.V_afterv (ok := (fun k_ => ((P0_ k_ ∨ P1_2_ k_ ∨ P1_3_ k_) ∨ w.heap.size ≤ k_) ∧ k_ ≠ gb221)) (by (with_reducible repeat (first | apply Kd.V_alloc | apply Kd.V_drewN | apply Kd.V_drew)); exact Kd.V_mono HL238_3.1 (fun _ hk => ⟨⟨hk.1, hk.2.2⟩, hk.2.1⟩)) hg hat); have _ := aM (hb); have _ := aM (ho); clear HO_0 HO_222002 HO_222003 BK221 HL235_2 HL235_3 HL236_2 HL236_3 HL238_2 HL238_3 HB HO_5; rename_i HO_0 HO_222002 HO_222003 BK221 HL235_2 HL235_3 HL236_2 HL236_3 HL238_2 HL238_3 HB HO241; clear ho hb hg hat)))
        go_roundg k2
        case measure => have := HK1.1; have := HK2.1; omega
        case rel => exact ⟨(y239), (wrap64 (x7_2 + 1)), (by first | rfl | (simp; done) | (simp [*]; done)), H', ⟨by have := HK1.1; have := HK2.1; omega⟩, ⟨by (with_reducible repeat (first | apply Kd.V_alloc | apply Kd.V_drewN | apply Kd.V_drew)); exact Kd.V_mono HO_0.1 (fun _ hk => ⟨hk.1.1, ⟨hk.2, hk.1.2⟩⟩)⟩, ⟨zN HO241.1⟩, ⟨by (with_reducible repeat (first | apply Kd.V_alloc | apply Kd.V_drewN | apply Kd.V_drew)); exact Kd.V_mono HO_222002.1 (fun _ hk => ⟨hk.1.1, ⟨hk.2, hk.1.2⟩⟩)⟩, ⟨by (with_reducible repeat (first | apply Kd.V_alloc | apply Kd.V_drewN | apply Kd.V_drew)); exact Kd.V_mono HO_222003.1 (fun _ hk => ⟨hk.1.1, ⟨hk.2, hk.1.2⟩⟩)⟩, ⟨zK BK221.1⟩, ⟨zB1 HB.1 GE221.1⟩⟩
       ·replace c20 := Bool.eq_false_iff.mpr c20; subst c20; replace H := zy0 H; have H' := aM H; clear H; obtain ⟨hcz24_0, hcz24_1, hcz24_2, hcz24_3, hfz24_0, hfz24_1, hfz24_2, hfz24_3⟩ := zc4f BK221.1; have p235 : 0 ≤ (x7_2 : Int) := zd; have q235 : x7_2 < (l0.length : Int) := zd; obtain ⟨ad235, A235_2, c235_2, A235_3, c235_3, e235, hx235_0, hx235_1, hx235_2, hx235_3, hl235_2, hi235_2, hl235_3, hi235_3⟩ := at_T31 (Kd.V_reads' HO_0.1).2.2 x7_2 p235 q235; cases e235; obtain ⟨ce235, hce235, hMe235, hcc235⟩ := Kd.V_get HO_0.1 z31 x7_2 p235 (by first | exact q235 | exact zd | (have e_ := (Kd.V_reads' HO_0.1).1; omega)); obtain ⟨ua235_2, uc235_2, ua235_3, uc235_3, rfl, ul235_2, ge235_2, ul235_3, ge235_3⟩ := k31_openF hMe235; have hv235_2 := hcc235 2 _ rfl; rw [add_field _ _ 2 (by omega)] at hv235_2; replace hv235_2 := Option.some.inj (hv235_2.symm.trans hx235_2); injection hv235_2 with hva_ hvn_ hvc_; rw [hva_] at ge235_2; rw [hvc_] at ul235_2; have HL235_2 := aM (show Kd.V k67 67 _ w.heap.size _ _ ((rd_T31 l0 x7_2).f2) from Kd.V_mk ul235_2 ge235_2); clear hva_ hvn_ hvc_ ge235_2 ul235_2; have hv235_3 := hcc235 3 _ rfl; rw [add_field _ _ 3 (by omega)] at hv235_3; replace hv235_3 := Option.some.inj (hv235_3.symm.trans hx235_3); injection hv235_3 with hva_ hvn_ hvc_; rw [hva_] at ge235_3; rw [hvc_] at ul235_3; have HL235_3 := aM (show Kd.V k69 69 _ w.heap.size _ _ ((rd_T31 l0 x7_2).f3) from Kd.V_mk ul235_3 ge235_3); clear hva_ hvn_ hvc_ ge235_3 ul235_3; clear hcc235 hce235; have HR235_2 := aM hi235_2; have HC235_2 := aM hl235_2; clear hi235_2 hl235_2; have HR235_3 := aM hi235_3; have HC235_3 := aM hl235_3; clear hi235_3 hl235_3; replace p235 := eq_true p235; replace q235 := eq_true q235; have p236 : 0 ≤ (x7_2 : Int) := zd; have q236 : x7_2 < (l0.length : Int) := zd; obtain ⟨ad236, A236_2, c236_2, A236_3, c236_3, e236, hx236_0, hx236_1, hx236_2, hx236_3, hl236_2, hi236_2, hl236_3, hi236_3⟩ := at_T31 (Kd.V_reads' HO_0.1).2.2 x7_2 p236 q236; obtain rfl : ad235 = ad236 := (by injection e236); obtain ⟨ce236, hce236, hMe236, hcc236⟩ := Kd.V_get HO_0.1 z31 x7_2 p236 (by first | exact q236 | exact zd | (have e_ := (Kd.V_reads' HO_0.1).1; omega)); obtain ⟨ua236_2, uc236_2, ua236_3, uc236_3, rfl, ul236_2, ge236_2, ul236_3, ge236_3⟩ := k31_openF hMe236; have hv236_2 := hcc236 2 _ rfl; rw [add_field _ _ 2 (by omega)] at hv236_2; replace hv236_2 := Option.some.inj (hv236_2.symm.trans hx236_2); injection hv236_2 with hva_ hvn_ hvc_; rw [hva_] at ge236_2; rw [hvc_] at ul236_2; have HL236_2 := aM (show Kd.V k67 67 _ w.heap.size _ _ ((rd_T31 l0 x7_2).f2) from Kd.V_mk ul236_2 ge236_2); clear hva_ hvn_ hvc_ ge236_2 ul236_2; have hv236_3 := hcc236 3 _ rfl; rw [add_field _ _ 3 (by omega)] at hv236_3; replace hv236_3 := Option.some.inj (hv236_3.symm.trans hx236_3); injection hv236_3 with hva_ hvn_ hvc_; rw [hva_] at ge236_3; rw [hvc_] at ul236_3; have HL236_3 := aM (show Kd.V k69 69 _ w.heap.size _ _ ((rd_T31 l0 x7_2).f3) from Kd.V_mk ul236_3 ge236_3); clear hva_ hvn_ hvc_ ge236_3 ul236_3; clear hcc236 hce236; have HR236_2 := aM hi236_2; have HC236_2 := aM hl236_2; clear hi236_2 hl236_2; have HR236_3 := aM hi236_3; have HC236_3 := aM hl236_3; clear hi236_3 hl236_3; replace p236 := eq_true p236; replace q236 := eq_true q236; have ea_ := Option.some.inj (hx235_2.symm.trans hx236_2); injection ea_ with ea_ en_ ec_; subst ea_; subst ec_; clear en_; have ea_ := Option.some.inj (hx235_3.symm.trans hx236_3); injection ea_ with ea_ en_ ec_; subst ea_; subst ec_; clear en_
        go_wp2_with (first | (go_at_call 55; (with_reducible refine (spec_l3Less.calls a1_0 a1_1 ((rd_T31 l0 x7_2).f0) ((rd_T31 l0 x7_2).f1) false _ A19.1).mono ?_); rintro e w' ⟨rfl, ⟨nd, rfl⟩⟩; (try first | exact ⟨rfl, _, World.drewN_drewN _ _ _⟩ | exact ⟨rfl, _, Eq.trans (World.drewN_drewN _ _ _) (congrArg (World.drewN _) (Nat.add_assoc _ _ _))⟩)))
        repeat (go_quiet (first | (go_at_call 55; (with_reducible refine (spec_l3Less.calls a1_0 a1_1 ((rd_T31 l0 x7_2).f0) ((rd_T31 l0 x7_2).f1) false _ A19.1).mono ?_); rintro e w' ⟨rfl, ⟨nd, rfl⟩⟩; (try first | exact ⟨rfl, _, World.drewN_drewN _ _ _⟩ | exact ⟨rfl, _, Eq.trans (World.drewN_drewN _ _ _) (congrArg (World.drewN _) (Nat.add_assoc _ _ _))⟩))); try go_wp2_with (first | (go_at_call 55; (with_reducible refine (spec_l3Less.calls a1_0 a1_1 ((rd_T31 l0 x7_2).f0) ((rd_T31 l0 x7_2).f1) false _ A19.1).mono ?_); rintro e w' ⟨rfl, ⟨nd, rfl⟩⟩; (try first | exact ⟨rfl, _, World.drewN_drewN _ _ _⟩ | exact ⟨rfl, _, Eq.trans (World.drewN_drewN _ _ _) (congrArg (World.drewN _) (Nat.add_assoc _ _ _))⟩))))
        go_roundg k2
        case measure => have := HK1.1; have := HK2.1; omega
        case rel => exact ⟨(x5_2), (wrap64 (x7_2 + 1)), (by first | rfl | (simp; done) | (simp [*]; done)), H', ⟨by have := HK1.1; have := HK2.1; omega⟩, ⟨zV HO_0.1⟩, ⟨zN HO_5.1⟩, ⟨zV HO_222002.1⟩, ⟨zV HO_222003.1⟩, ⟨zK BK221.1⟩, ⟨zB1 HB.1 GE221.1⟩⟩
      ·rw [if_neg c17] at H; have c17b0 : decide (x7_2 < (l0.length : Int)) = false := decide_eq_false c17; clear c17; obtain rfl := Option.some.inj H
       go_wp2
       repeat (go_quiet (fail); try go_wp2)
       go_ret
       exact ⟨_, by first | rfl | (simp [errW_none, errW_some] <;> rfl) | (simp [*, errW_none, errW_some] <;> rfl), by exact zN (Kd.N_mono HO_5.1 (fun _ hk => hk.1)), by exact zB1 HB.1 GE221.1⟩

/-! ### spec_l71Pkgs: function 41 -/
def spec_l71Pkgs.l0 : Nat → List (S31) → Int → List Int → Int → Option ((List (S31)) × Int)
 | 0, _, _, _, _ => none
 | k + 1, x3, x4, x1000, x1001 => if x4 > 0 then ((spec_l6Rd_pick.f k x1000 x1001 4).bind fun bt247 => ((spec_l6Rd_pick.f k x1000 bt247.2 3).bind fun bt249 => ((spec_l71Pkg.f k x1000 bt249.2 (wrap64 (1 + bt247.1)) (wrap64 (1 + bt249.1))).bind fun bt251 => ((spec_l12Find.f k x3 bt251.1 bt251.2.1).bind fun t261 => (if t261 < 0 then ((spec_l12With.f k x3 bt251.1 bt251.2.1 bt251.2.2.1 bt251.2.2.2.1).bind fun t262 => (spec_l71Pkgs.l0 k t262 (wrap64 (x4 - 1)) x1000 bt251.2.2.2.2)) else (spec_l71Pkgs.l0 k x3 (wrap64 (x4 - 1)) x1000 bt251.2.2.2.2)))))) else (some (x3, x1001))
def spec_l71Pkgs.f (k : Nat) (s0_0 : List Int) (s0_1 : Int) : Option ((List (S31)) × Int) := (spec_l6Rd_pick.f k s0_0 s0_1 8).bind fun bt245 => (spec_l71Pkgs.l0 k (([] : List (S31))) bt245.1 s0_0 bt245.2)
theorem spec_l71Pkgs.mono_l : ∀ k, (∀ y0 y1 y2 y3, LeO (spec_l71Pkgs.l0 k y0 y1 y2 y3) (spec_l71Pkgs.l0 (k + 1) y0 y1 y2 y3))
 | 0 => fun _ _ _ _ r h => by simp [spec_l71Pkgs.l0] at h
 | k + 1 => by
  have ih0 := spec_l71Pkgs.mono_l k
  ·intro y0 y1 y2 y3
   unfold spec_l71Pkgs.l0
   repeat' first
   | (with_reducible exact ih0 _ _ _ _)
   | (with_reducible exact spec_l12Find.mono _ _ _ _)
   | (with_reducible exact spec_l12With.mono _ _ _ _ _ _)
   | (with_reducible exact spec_l6Rd_pick.mono _ _ _ _)
   | (with_reducible exact spec_l71Pkg.mono _ _ _ _ _)
   | (with_reducible exact LeO.refl _)
   | (with_reducible exact LeO.none _)
   | (with_reducible refine LeO.ite ?_ ?_)
   | (with_reducible refine LeO.bind ?_ (fun _ => ?_))
   | exact ih0 _ _ _ _
   | exact spec_l12Find.mono _ _ _ _
   | exact spec_l12With.mono _ _ _ _ _ _
   | exact spec_l6Rd_pick.mono _ _ _ _
   | exact spec_l71Pkg.mono _ _ _ _ _
   | exact LeO.none _
   | refine LeO.ite ?_ ?_
   | refine LeO.bind ?_ (fun _ => ?_)
theorem spec_l71Pkgs.mono : ∀ a0 a1 k, LeO (spec_l71Pkgs.f k a0 a1) (spec_l71Pkgs.f (k + 1) a0 a1) := by
 intro a0 a1 k
 have ih0 := spec_l71Pkgs.mono_l k
 unfold spec_l71Pkgs.f
 repeat' with_reducible first | apply ih0 | apply spec_l12Find.mono | apply spec_l12With.mono | apply spec_l6Rd_pick.mono | apply spec_l71Pkg.mono | exact LeO.refl _ | exact LeO.none _ | refine LeO.ite ?_ ?_ | refine LeO.bind ?_ (fun _ => ?_)
set_option maxHeartbeats 8000000 in
set_option maxRecDepth 100000 in
theorem spec_l71Pkgs.calls (k : Nat) (g : Nat) (s0_0 : List Int) (s0_1 : Int) (r1 : List (S31)) (r2 : Int) (w0 w : World) (hI : IsS97 w0 w g s0_0 s0_1) (hB : Below w0.heap.size w0 w) (h : spec_l71Pkgs.f k s0_0 s0_1 = some (r1, r2)) :
  Calls Tryd.prog 41 #[.pointer (some ⟨g, 0, none⟩)] w fun e w' => ∃ v0_ : Value, e = .returned (v0_) ∧ Kd.N k31 31 w' w.heap.size (fun k_ => (w.heap.size ≤ k_)) v0_ r1 ∧ IsS97 w0 w' g s0_0 r2 ∧ Below w0.heap.size w0 w' ∧ KeepBut w w' g none := by
 have hu31 := Tryd.underlying31; have HI0 := aM hI; have HK := aM (KeepBut.refl w g none); have HL := aM hB.size; clear hI; have HW0 := aM hB.size; have HB := aM hB; clear hB; have H : ((spec_l6Rd_pick.f k s0_0 s0_1 8).bind fun bt245 => (spec_l71Pkgs.l0 k (([] : List (S31))) bt245.1 s0_0 bt245.2)) = some (r1, r2) := h; clear h; obtain ⟨y242, hy242⟩ : ∃ y_ : List (S31), y_ = (([] : List (S31))) := ⟨_, rfl⟩
 replace H : ((spec_l6Rd_pick.f k s0_0 s0_1 8).bind fun bt245 => (spec_l71Pkgs.l0 k y242 bt245.1 s0_0 bt245.2)) = some (r1, r2) := by first | (rw [hy242]; with_reducible exact H) | (have H2_ := (Option.bind_some _ _).symm.trans H; rw [hy242]; with_reducible exact H2_) | (have H2_ := (Option.bind_some _ _).symm.trans H; with_reducible exact H2_) | with_reducible exact H | (rw [hy242]; exact H) | exact H
 have Ny242 := aM hy242; clear hy242; replace H := Option.bind_eq_some_iff.mp H; obtain ⟨⟨t245, t246⟩, A20, H⟩ := H; (try dsimp only at H); have A2 := aM A20; clear A20; have H' := aM H; clear H
 go_enter Tryd.func41, Tryd.ntmps41
 go_wp2_with (first | ((with_reducible refine gate_dst (N := 6) rfl ?_); refine Kd.N_lit k31 _ 31 ?hg (N' := 6) ?hd (xs := ([] : List (S31))) (inner := []) (ok := (fun k_ => (w.heap.size ≤ k_) ∧ k_ ≠ g)) (okp := (fun k_ => (w.heap.size ≤ k_) ∧ k_ ≠ g)) ?hr ?hp (fun _ hk => hk) ((show ∀ k_, w.heap.size ≤ k_ → (fun k_ => (w.heap.size ≤ k_) ∧ k_ ≠ g) k_ from fun k_ hk => ⟨(Nat.le_trans (keep_size (w := w) (g := g) (row := none) (zQ0 HK.1)) hk), IsS97.fresh (by exact IsS97.z0 HI0.1) k_ hk⟩) _ (Nat.le_refl _)) (Below.refl _ _) (Nat.le_refl _) (by simp) ?_; (case hd => rfl); (case hg => rfl); (case hr => first | (go_simp; done) | (go_simp; rfl)); (case hp => exact (Reps.none _ _)); intro v243 w3 ho4 hb hg_ hnew_; clear hg_ hnew_; (first | rw [← Ny242.1] at ho4 | (simp only [Int.reduceToNat] at ho4; rw [← Ny242.1] at ho4)); have _ := aM (Kd.N_lower ho4 (keep_size (w := w) (g := g) (row := none) (zQ0 HK.1))); have _ := aM (IsS97.below (by exact IsS97.z0 HI0.1) hb); have _ := aM (KeepBut.trans (zQ0 HK.1) (KeepBut.of_below hb g none) (.inl rfl)); have _ := aM (below_step (zB1 HB.1 (IsS97.ge HI0.1)) hb); clear HI0 HK HB; rename_i HO244 HI0 HK HB; clear hb ho4) | ((with_reducible refine gate_callee (f := 43) rfl ?_); refine zgL (some 8) Tryd.func43 #[.pointer (some ⟨g, 0, none⟩), .int .i64 8] ?_; (with_reducible refine (spec_l6Rd_pick.calls k g s0_0 s0_1 8 t245 t246 w0 _ ?side1 ?side2 A2.1).mono ?_); (case side1 => exact IsS97.z0 HI0.1); (case side2 => exact zB1 HB.1 (IsS97.ge HI0.1)); rintro e w5 ⟨rfl, hi, hb, hk⟩; refine ⟨_, rfl, ?_⟩; have _ := aM (Kd.N_mono (Kd.N_keep (Kd.N_mono (ok := fun k_ => (((w.heap.size ≤ k_)) ∧ k_ ≠ g)) (zN HO244.1) (fun k_ hk_ => (⟨hk_, hk_.2⟩ : _ ∧ k_ ≠ g))) hk (fun _ h => h.2)) (fun _ h => h.1)); have _ := aM (KeepBut.trans (zQ0 HK.1) hk (.inl rfl)); have _ := aM (hb); have _ := aM (hi); clear HO244 HK HB HI0; rename_i HO244 HK HB HI0; (try clear hb); (try clear hb2); (try clear hk); (try clear hi)))
 go_loopg [3, 4] k (fun kq v3 v4 w' => ∃ (x3_1 : List (S31)) (x4_1 : Int) (x1001_1 : Int), v4 = .int .i64 x4_1 ∧ Aside0 (spec_l71Pkgs.l0 kq x3_1 x4_1 s0_0 x1001_1 = some (r1, r2)) ∧ Aside0 (kq ≤ k) ∧ Aside0 (Kd.N k31 31 w' w.heap.size (fun k_ => (w.heap.size ≤ k_) ∧ k_ ≠ g) v3 x3_1) ∧ Aside0 (IsS97 w0 w' g s0_0 x1001_1) ∧ Aside0 (KeepBut w w' g none) ∧ Aside0 (Below w0.heap.size w0 w'))
 case atStart => exact ⟨(y242), (t245), (t246), (by first | rfl | (simp; done) | (simp [*]; done)), H', ⟨Nat.le_refl _⟩, ⟨zN HO244.1⟩, ⟨by exact IsS97.z0 HI0.1⟩, ⟨zQ0 HK.1⟩, ⟨zB1 HB.1 (IsS97.ge HI0.1)⟩⟩
 case round =>
  clear H'
  try clear p2
  try clear c4
  obtain ⟨x3_1, x4_1, x1001_1, rfl, HA, HK1, HO_3, HI0, HK, HB⟩ := hrel; cases gk with
  | zero => exact absurd HA.1 (by simp [spec_l71Pkgs.l0])
  | succ k1 =>
   have H := HA.1; clear HA; simp only [spec_l71Pkgs.l0] at H
   by_cases c6 : x4_1 > 0
   ·rw [if_pos c6] at H; have c6b0 : decide (0 < x4_1) = true := decide_eq_true c6; clear c6; replace H := Option.bind_eq_some_iff.mp H; obtain ⟨⟨t247, t248⟩, A70, H⟩ := H; (try dsimp only at H); have A7 := aM A70; clear A70; replace H := Option.bind_eq_some_iff.mp H; obtain ⟨⟨t249, t250⟩, A80, H⟩ := H; (try dsimp only at H); have A8 := aM A80; clear A80; replace H := Option.bind_eq_some_iff.mp H; obtain ⟨⟨t251, t252, t253, t256, t259⟩, A90, H⟩ := H; (try dsimp only at H); have A9 := aM A90; clear A90; replace H := Option.bind_eq_some_iff.mp H; obtain ⟨t261, A100, H⟩ := H; (try dsimp only at H); have A10 := aM A100; clear A100
    by_cases c11 : t261 < 0
    ·rw [if_pos c11] at H; have c11b0 : decide (t261 < 0) = true := decide_eq_true c11; clear c11; replace H := Option.bind_eq_some_iff.mp H; obtain ⟨t262, A120, H⟩ := H; (try dsimp only at H); have A12 := aM A120; clear A120; have H' := aM H; clear H
     go_wp2_with (first | ((with_reducible refine gate_callee (f := 43) rfl ?_); refine zgL (some 15) Tryd.func43 #[.pointer (some ⟨g, 0, none⟩), .int .i64 4] ?_; (with_reducible refine (spec_l6Rd_pick.calls k1 g s0_0 x1001_1 4 t247 t248 w0 _ ?side1 ?side2 A7.1).mono ?_); (case side1 => exact IsS97.z0 HI0.1); (case side2 => exact zB1 HB.1 (IsS97.ge HI0.1)); rintro e w13 ⟨rfl, hi, hb, hk⟩; refine ⟨_, rfl, ?_⟩; have _ := aM (Kd.N_mono (Kd.N_keep (Kd.N_mono (ok := fun k_ => (((w.heap.size ≤ k_)) ∧ k_ ≠ g)) (zN HO_3.1) (fun k_ hk_ => (⟨hk_, hk_.2⟩ : _ ∧ k_ ≠ g))) hk (fun _ h => h.2)) (fun _ h => h.1)); have _ := aM (KeepBut.trans (zQ0 HK.1) hk (.inl rfl)); have _ := aM (hb); have _ := aM (hi); clear HO_3 HK HB HI0; rename_i HO_3 HK HB HI0; (try clear hb); (try clear hb2); (try clear hk); (try clear hi)) | ((with_reducible refine gate_callee (f := 43) rfl ?_); refine zgL (some 18) Tryd.func43 #[.pointer (some ⟨g, 0, none⟩), .int .i64 3] ?_; (with_reducible refine (spec_l6Rd_pick.calls k1 g s0_0 t248 3 t249 t250 w0 _ ?side1 ?side2 A8.1).mono ?_); (case side1 => exact IsS97.z0 HI0.1); (case side2 => exact zB1 HB.1 (IsS97.ge HI0.1)); rintro e w14 ⟨rfl, hi, hb, hk⟩; refine ⟨_, rfl, ?_⟩; have _ := aM (Kd.N_mono (Kd.N_keep (Kd.N_mono (ok := fun k_ => (((w.heap.size ≤ k_)) ∧ k_ ≠ g)) (zN HO_3.1) (fun k_ hk_ => (⟨hk_, hk_.2⟩ : _ ∧ k_ ≠ g))) hk (fun _ h => h.2)) (fun _ h => h.1)); have _ := aM (KeepBut.trans (zQ0 HK.1) hk (.inl rfl)); have _ := aM (hb); have _ := aM (hi); clear HO_3 HK HB HI0; rename_i HO_3 HK HB HI0; (try clear hb); (try clear hb2); (try clear hk); (try clear hi)) | ((with_reducible refine gate_callee (f := 79) rfl ?_); refine zgL (some 20) Tryd.func79 #[.pointer (some ⟨g, 0, none⟩), .int .i64 (wrap64 (1 + t247)), .int .i64 (wrap64 (1 + t249))] ?_; (with_reducible refine (spec_l71Pkg.calls k1 g s0_0 t250 (wrap64 (1 + t247)) (wrap64 (1 + t249)) t251 t252 t253 t256 t259 w0 _ ?side1 ?side2 A9.1).mono ?_); (case side1 => exact IsS97.z0 HI0.1); (case side2 => exact zB1 HB.1 (IsS97.ge HI0.1)); rintro e w15 ⟨v254, v257, rfl, ho0, ho1, hi, hb, hk⟩; refine ⟨_, rfl, ?_⟩; have _ := aM (Kd.N_mono (Kd.N_told (Kd.N_told (Kd.N_oldK (Kd.N_mono (ok := fun k_ => (((w.heap.size ≤ k_)) ∧ k_ ≠ g)) (zN HO_3.1) (fun k_ hk_ => (⟨hk_, hk_.2⟩ : _ ∧ k_ ≠ g))) hk) (Kd.R_base ho0)) (Kd.R_base ho1)) (fun _ h_ => h_.1)); have _ := aM (Kd.R_lower (Kd.R_newM (M := fun k_ => (w.heap.size ≤ k_)) ho0 (keep_size (w := w) (g := g) (row := none) (zQ0 HK.1)) (fun k_ h_ => h_)) (keep_size (w := w) (g := g) (row := none) (zQ0 HK.1))); have _ := aM (Kd.R_lower (Kd.R_newM (M := fun k_ => (w.heap.size ≤ k_)) ho1 (keep_size (w := w) (g := g) (row := none) (zQ0 HK.1)) (fun k_ h_ => h_)) (keep_size (w := w) (g := g) (row := none) (zQ0 HK.1))); have _ := aM (KeepBut.trans (zQ0 HK.1) hk (.inl rfl)); have _ := aM (hb); have _ := aM (hi); clear HO_3 HK HB HI0; rename_i HO_3 HO255 HO258 HK HB HI0; (try clear hb); (try clear hb2); (try clear hk); (try clear hi); (try clear ho0); (try clear ho1)) | ((with_reducible refine gate_dst (N := 5) rfl ?_); refine zbx 5 #[.int .i64 0, .int .i64 0, .slice none 0 0, .slice none 0 0] 31 ?_; intro gb260 hg w16 hbox hb; have _ := aM (Kd.N_below (Kd.N_elderB (zN HO_3.1) gb260 (Nat.le_of_eq hg.symm)) hb); have _ := aM (Kd.R_below (zR HO255.1) hb); have _ := aM (Kd.R_below (zR HO258.1) hb); have _ := aM (IsS97.below (by exact IsS97.z0 HI0.1) hb); have _ := aM (KeepBut.trans (zQ0 HK.1) (KeepBut.of_below hb g none) (.inl rfl)); have _ := aM (below_step (zB1 HB.1 (IsS97.ge HI0.1)) hb); have _ := aM (hbox); have _ := aM (zgk hg (zQ0 HK.1)); have _ := aM ((Nat.le_trans HW0.1 (by rw [hg]; exact (keep_size (w := w) (g := g) (row := none) (zQ0 HK.1)) : w.heap.size ≤ gb260) : w0.heap.size ≤ gb260)); have _ := aM ((by rw [hg]; exact Nat.ne_of_lt (IsS97.lt (show IsS97 w0 _ g s0_0 t259 from by exact IsS97.z0 HI0.1)) : g ≠ gb260)); have _ := aM ((by rw [hg]; exact Nat.ne_of_gt (IsS97.lt (show IsS97 w0 _ g s0_0 t259 from by exact IsS97.z0 HI0.1)) : gb260 ≠ g)); clear HO_3 HO255 HO258 HI0 HK HB; rename_i HO_3 HO255 HO258 HI0 HK HB BK260 GW260 GE260 NB0_260 NB260_0; clear hb hbox hg; have hnb17 := NB260_0.1; have hnc17 := NB0_260.1; obtain ⟨hcz18_0, hcz18_1, hcz18_2, hcz18_3, hfz18_0, hfz18_1, hfz18_2, hfz18_3⟩ := zc4f BK260.1; obtain ⟨Ao19, co19, eo19⟩ := Kd.R_slice HO255.1; subst eo19; obtain ⟨Ao20, co20, eo20⟩ := Kd.R_slice HO258.1; subst eo20) | ((with_reducible refine gate_store (t := 31) (p := 5) rfl ?_); refine store_event (t := 31) (p := 5) (v := ?vo_w21) (w1 := ((((w16.setCell ⟨gb260, 0, none⟩ (.int .i64 t251)).setCell ⟨gb260, 1, none⟩ (.int .i64 t252)).setCell ⟨gb260, 2, none⟩ (.slice Ao19 t253.length co19)).setCell ⟨gb260, 3, none⟩ (.slice Ao20 t256.length co20))) ?hg ?ho ?hn ?hr ?_; (case ho => rfl); (case hg => rfl); (case hn => rfl); (case hr => first | (go_simp; done) | (go_simp; rfl)); intro w21 hw; have _ : Aside0 (Kd.N k31 31 w21 w.heap.size (fun k_ => (w.heap.size ≤ k_) ∧ some k_ ≠ (.slice Ao19 t253.length co19 : Value).ownBlock ∧ some k_ ≠ (.slice Ao20 t256.length co20 : Value).ownBlock ∧ k_ ≠ g ∧ k_ ≠ gb260) u3 x3_1) := ⟨(by rw [hw]; exact (by exact (Kd.N_mono (zFN (g := gb260) (Kd.N_mono HO_3.1 (fun k_ hk => (⟨hk, hk.2⟩ : _ ∧ k_ ≠ gb260))) (fun _ hk => hk.2)) (fun _ hk => ⟨hk.1.1.1.1.1, ⟨hk.1.1.1.2, ⟨hk.1.1.2, ⟨hk.1.1.1.1.2, hk.1.2⟩⟩⟩⟩))))⟩; have _ : Aside0 (Kd.R k67 67 w21 w.heap.size (fun k_ => (w.heap.size ≤ k_)) (.slice Ao19 t253.length co19) t253) := ⟨(by rw [hw]; exact (by exact (Kd.R_mono (zFR (g := gb260) (Kd.R_types HO255.1 BK260.1 (by decide)) (fun _ hk => hk.2)) (fun _ hk => hk.1.1))))⟩; have _ : Aside0 (Kd.R k69 69 w21 w.heap.size (fun k_ => (w.heap.size ≤ k_)) (.slice Ao20 t256.length co20) t256) := ⟨(by rw [hw]; exact (by exact (Kd.R_mono (zFR (g := gb260) (Kd.R_types HO258.1 BK260.1 (by decide)) (fun _ hk => hk.2)) (fun _ hk => hk.1.1))))⟩; have _ : Aside0 (w21.heap[gb260]? = some (.cells #[.int .i64 t251, .int .i64 t252, .slice Ao19 t253.length co19, .slice Ao20 t256.length co20] 31 (0, 0))) := ⟨(by rw [hw]; exact (by exact zP BK260.1 (by rfl)))⟩; have _ : Aside0 (IsS97 w0 w21 g s0_0 t259) := ⟨(by rw [hw]; exact (by exact IsS97.z1 HI0.1 NB0_260.1))⟩; have _ : Aside0 (KeepBut w w21 g none) := ⟨(by rw [hw]; exact (zQ1 HK.1 GW260.1))⟩; have _ : Aside0 (Below w0.heap.size w0 w21) := ⟨(by rw [hw]; exact (zB2 HB.1 (IsS97.ge HI0.1) GE260.1))⟩; clear hw HO_3 HO255 HO258 BK260 HI0 HK HB; rename_i HO_3 HO255 HO258 BK260 HI0 HK HB; obtain ⟨hcz22_0, hcz22_1, hcz22_2, hcz22_3, hfz22_0, hfz22_1, hfz22_2, hfz22_3⟩ := zc4f BK260.1; obtain ⟨Ao23, co23, eo23⟩ := Kd.N_slice HO_3.1; subst eo23) | ((with_reducible refine gate_callee (f := 80) rfl ?_); refine zgL (some 26) Tryd.func80 #[.slice Ao23 x3_1.length co23, .int .i64 t251, .int .i64 t252] ?_; (with_reducible refine (spec_l12Find.calls k1 _ _ x3_1 t251 t252 t261 _ ?side1 ?side2 A10.1).mono ?_); (case side1 => exact zC (Kd.N_reads' HO_3.1).2.2); (case side2 => exact (Kd.N_reads' HO_3.1).2.1); rintro e w' ⟨rfl, ⟨nd, rfl⟩⟩; refine ⟨_, rfl, ?_⟩) | ((with_reducible refine gate_callee (f := 81) rfl ?_); refine zgL (some 30) Tryd.func81 #[.slice Ao23 x3_1.length co23, .agg #[.int .i64 t251, .int .i64 t252, .slice Ao19 t253.length co19, .slice Ao20 t256.length co20]] ?_; (with_reducible refine (spec_l12With.calls k1 (fun k_ => ((w.heap.size ≤ k_) ∧ (some k_ ≠ (.slice Ao19 t253.length co19 : Value).ownBlock ∧ (some k_ ≠ (.slice Ao20 t256.length co20 : Value).ownBlock ∧ (k_ ≠ g ∧ k_ ≠ gb260))))) _ _ x3_1 t251 t252 (fun k_ => some k_ = (.slice Ao19 t253.length co19 : Value).ownBlock) _ _ t253 (fun k_ => some k_ = (.slice Ao20 t256.length co20 : Value).ownBlock) _ _ t256 t262 _ ?side1 ?side2 ?side3 A12.1).mono ?_); (case side1 => exact Kd.N_V (HO_3.1)); (case side2 => exact Kd.R_V (Kd.R_tight rfl (IsS97.apart HI0.1 (Kd.R_types (Kd.R_apart' (Kd.R_apart' (HO255.1) (Kd.N_typed HO_3.1) (by decide)) (Kd.R_typed HO258.1) (by decide)) BK260.1 (by decide)) (by decide)))); (case side3 => exact Kd.R_V (Kd.R_tight rfl (IsS97.apart HI0.1 (Kd.R_types (Kd.R_apart' (Kd.R_apart' (HO258.1) (Kd.N_typed HO_3.1) (by decide)) (Kd.R_typed HO255.1) (by decide)) BK260.1 (by decide)) (by decide)))); rintro e w24 ⟨v263, rfl, ho0, hb⟩; refine ⟨_, rfl, ?_⟩; have _ := aM (Kd.N_elder' (zN HO_3.1) (Kd.N_base ho0) hb); have _ := aM (Kd.R_below (zR HO255.1) hb); have _ := aM (Kd.R_below (zR HO258.1) hb); have _ := aM (Kd.N_lower (Kd.N_mono (ok' := fun k_ => (w.heap.size ≤ k_) ∧ k_ ≠ gb260 ∧ k_ ≠ g) ho0 (fun k_ hk_ => ⟨Or.elim hk_ (fun hs_ => Or.elim hs_ (fun hs_ => hs_.1) (fun hs_ => Or.elim hs_ (fun hs_ => ((IsS97.apart HI0.1 (Kd.R_types (Kd.R_apart' (Kd.R_apart' (HO255.1) (Kd.N_typed HO_3.1) (by decide)) (Kd.R_typed HO258.1) (by decide)) BK260.1 (by decide)) (by decide)).1 k_ hs_.symm).1.1.1.1) (fun hs_ => ((IsS97.apart HI0.1 (Kd.R_types (Kd.R_apart' (Kd.R_apart' (HO258.1) (Kd.N_typed HO_3.1) (by decide)) (Kd.R_typed HO255.1) (by decide)) BK260.1 (by decide)) (by decide)).1 k_ hs_.symm).1.1.1.1))) (fun hn_ => (Nat.le_trans (keep_size (w := w) (g := g) (row := none) (zQ1 HK.1 GW260.1)) hn_)), Or.elim hk_ (fun hs_ => Or.elim hs_ (fun hs_ => hs_.2.2.2.2) (fun hs_ => Or.elim hs_ (fun hs_ => ((IsS97.apart HI0.1 (Kd.R_types (Kd.R_apart' (Kd.R_apart' (HO255.1) (Kd.N_typed HO_3.1) (by decide)) (Kd.R_typed HO258.1) (by decide)) BK260.1 (by decide)) (by decide)).1 k_ hs_.symm).1.2) (fun hs_ => ((IsS97.apart HI0.1 (Kd.R_types (Kd.R_apart' (Kd.R_apart' (HO258.1) (Kd.N_typed HO_3.1) (by decide)) (Kd.R_typed HO255.1) (by decide)) BK260.1 (by decide)) (by decide)).1 k_ hs_.symm).1.2))) (fun hn_ => (Kd.freshB (g := gb260) (o := .cells #[.int .i64 t251, .int .i64 t252, .slice Ao19 t253.length co19, .slice Ao20 t256.length co20] 31 (0, 0)) (zK BK260.1) k_ hn_)), Or.elim hk_ (fun hs_ => Or.elim hs_ (fun hs_ => hs_.2.2.2.1) (fun hs_ => Or.elim hs_ (fun hs_ => ((IsS97.apart HI0.1 (Kd.R_types (Kd.R_apart' (Kd.R_apart' (HO255.1) (Kd.N_typed HO_3.1) (by decide)) (Kd.R_typed HO258.1) (by decide)) BK260.1 (by decide)) (by decide)).1 k_ hs_.symm).2) (fun hs_ => ((IsS97.apart HI0.1 (Kd.R_types (Kd.R_apart' (Kd.R_apart' (HO258.1) (Kd.N_typed HO_3.1) (by decide)) (Kd.R_typed HO255.1) (by decide)) BK260.1 (by decide)) (by decide)).1 k_ hs_.symm).2))) (fun hn_ => (IsS97.fresh (by exact IsS97.z1 HI0.1 NB0_260.1) k_ hn_))⟩)) (keep_size (w := w) (g := g) (row := none) (zQ1 HK.1 GW260.1))); have _ := aM (IsS97.below (by exact IsS97.z1 HI0.1 NB0_260.1) hb); have _ := aM (blk_below (zK BK260.1) hb); have _ := aM (KeepBut.trans (zQ1 HK.1 GW260.1) (KeepBut.of_below hb g none) (.inl rfl)); have _ := aM (below_step (zB2 HB.1 (IsS97.ge HI0.1) GE260.1) hb); clear HO_3 HO255 HO258 HI0 BK260 HK HB; rename_i HO_3 HO255 HO258 HO264 HI0 BK260 HK HB; (try clear hb); (try clear hb2); (try clear hk); (try clear hi); (try clear ho0)))
     go_roundg k1
     case measure => have := HK1.1; omega
     case rel => exact ⟨(t262), (wrap64 (x4_1 - 1)), (t259), (by first | rfl | (simp; done) | (simp [*]; done)), H', ⟨by have := HK1.1; omega⟩, ⟨by exact zN (Kd.N_mono HO264.1 (fun _ hk => ⟨hk.1, hk.2.2⟩))⟩, ⟨by exact IsS97.z1 HI0.1 NB0_260.1⟩, ⟨zQ1 HK.1 GW260.1⟩, ⟨zB2 HB.1 (IsS97.ge HI0.1) GE260.1⟩⟩
    ·rw [if_neg c11] at H; have c11b0 : decide (t261 < 0) = false := decide_eq_false c11; clear c11; have H' := aM H; clear H
     go_wp2_with (first | ((with_reducible refine gate_callee (f := 43) rfl ?_); refine zgL (some 15) Tryd.func43 #[.pointer (some ⟨g, 0, none⟩), .int .i64 4] ?_; (with_reducible refine (spec_l6Rd_pick.calls k1 g s0_0 x1001_1 4 t247 t248 w0 _ ?side1 ?side2 A7.1).mono ?_); (case side1 => exact IsS97.z0 HI0.1); (case side2 => exact zB1 HB.1 (IsS97.ge HI0.1)); rintro e w25 ⟨rfl, hi, hb, hk⟩; refine ⟨_, rfl, ?_⟩; have _ := aM (Kd.N_mono (Kd.N_keep (Kd.N_mono (ok := fun k_ => (((w.heap.size ≤ k_)) ∧ k_ ≠ g)) (zN HO_3.1) (fun k_ hk_ => (⟨hk_, hk_.2⟩ : _ ∧ k_ ≠ g))) hk (fun _ h => h.2)) (fun _ h => h.1)); have _ := aM (KeepBut.trans (zQ0 HK.1) hk (.inl rfl)); have _ := aM (hb); have _ := aM (hi); clear HO_3 HK HB HI0; rename_i HO_3 HK HB HI0; (try clear hb); (try clear hb2); (try clear hk); (try clear hi)) | ((with_reducible refine gate_callee (f := 43) rfl ?_); refine zgL (some 18) Tryd.func43 #[.pointer (some ⟨g, 0, none⟩), .int .i64 3] ?_; (with_reducible refine (spec_l6Rd_pick.calls k1 g s0_0 t248 3 t249 t250 w0 _ ?side1 ?side2 A8.1).mono ?_); (case side1 => exact IsS97.z0 HI0.1); (case side2 => exact zB1 HB.1 (IsS97.ge HI0.1)); rintro e w26 ⟨rfl, hi, hb, hk⟩; refine ⟨_, rfl, ?_⟩; have _ := aM (Kd.N_mono (Kd.N_keep (Kd.N_mono (ok := fun k_ => (((w.heap.size ≤ k_)) ∧ k_ ≠ g)) (zN HO_3.1) (fun k_ hk_ => (⟨hk_, hk_.2⟩ : _ ∧ k_ ≠ g))) hk (fun _ h => h.2)) (fun _ h => h.1)); have _ := aM (KeepBut.trans (zQ0 HK.1) hk (.inl rfl)); have _ := aM (hb); have _ := aM (hi); clear HO_3 HK HB HI0; rename_i HO_3 HK HB HI0; (try clear hb); (try clear hb2); (try clear hk); (try clear hi)) | ((with_reducible refine gate_callee (f := 79) rfl ?_); refine zgL (some 20) Tryd.func79 #[.pointer (some ⟨g, 0, none⟩), .int .i64 (wrap64 (1 + t247)), .int .i64 (wrap64 (1 + t249))] ?_; (with_reducible refine (spec_l71Pkg.calls k1 g s0_0 t250 (wrap64 (1 + t247)) (wrap64 (1 + t249)) t251 t252 t253 t256 t259 w0 _ ?side1 ?side2 A9.1).mono ?_); (case side1 => exact IsS97.z0 HI0.1); (case side2 => exact zB1 HB.1 (IsS97.ge HI0.1)); rintro e w27 ⟨v254, v257, rfl, ho0, ho1, hi, hb, hk⟩; refine ⟨_, rfl, ?_⟩; have _ := aM (Kd.N_mono (Kd.N_told (Kd.N_told (Kd.N_oldK (Kd.N_mono (ok := fun k_ => (((w.heap.size ≤ k_)) ∧ k_ ≠ g)) (zN HO_3.1) (fun k_ hk_ => (⟨hk_, hk_.2⟩ : _ ∧ k_ ≠ g))) hk) (Kd.R_base ho0)) (Kd.R_base ho1)) (fun _ h_ => h_.1)); have _ := aM (Kd.R_lower (Kd.R_newM (M := fun k_ => (w.heap.size ≤ k_)) ho0 (keep_size (w := w) (g := g) (row := none) (zQ0 HK.1)) (fun k_ h_ => h_)) (keep_size (w := w) (g := g) (row := none) (zQ0 HK.1))); have _ := aM (Kd.R_lower (Kd.R_newM (M := fun k_ => (w.heap.size ≤ k_)) ho1 (keep_size (w := w) (g := g) (row := none) (zQ0 HK.1)) (fun k_ h_ => h_)) (keep_size (w := w) (g := g) (row := none) (zQ0 HK.1))); have _ := aM (KeepBut.trans (zQ0 HK.1) hk (.inl rfl)); have _ := aM (hb); have _ := aM (hi); clear HO_3 HK HB HI0; rename_i HO_3 HO255 HO258 HK HB HI0; (try clear hb); (try clear hb2); (try clear hk); (try clear hi); (try clear ho0); (try clear ho1)) | ((with_reducible refine gate_dst (N := 5) rfl ?_); refine zbx 5 #[.int .i64 0, .int .i64 0, .slice none 0 0, .slice none 0 0] 31 ?_; intro gb260 hg w28 hbox hb; have _ := aM (Kd.N_below (Kd.N_elderB (zN HO_3.1) gb260 (Nat.le_of_eq hg.symm)) hb); have _ := aM (Kd.R_below (zR HO255.1) hb); have _ := aM (Kd.R_below (zR HO258.1) hb); have _ := aM (IsS97.below (by exact IsS97.z0 HI0.1) hb); have _ := aM (KeepBut.trans (zQ0 HK.1) (KeepBut.of_below hb g none) (.inl rfl)); have _ := aM (below_step (zB1 HB.1 (IsS97.ge HI0.1)) hb); have _ := aM (hbox); have _ := aM (zgk hg (zQ0 HK.1)); have _ := aM ((Nat.le_trans HW0.1 (by rw [hg]; exact (keep_size (w := w) (g := g) (row := none) (zQ0 HK.1)) : w.heap.size ≤ gb260) : w0.heap.size ≤ gb260)); have _ := aM ((by rw [hg]; exact Nat.ne_of_lt (IsS97.lt (show IsS97 w0 _ g s0_0 t259 from by exact IsS97.z0 HI0.1)) : g ≠ gb260)); have _ := aM ((by rw [hg]; exact Nat.ne_of_gt (IsS97.lt (show IsS97 w0 _ g s0_0 t259 from by exact IsS97.z0 HI0.1)) : gb260 ≠ g)); clear HO_3 HO255 HO258 HI0 HK HB; rename_i HO_3 HO255 HO258 HI0 HK HB BK260 GW260 GE260 NB0_260 NB260_0; clear hb hbox hg; have hnb29 := NB260_0.1; have hnc29 := NB0_260.1; obtain ⟨hcz30_0, hcz30_1, hcz30_2, hcz30_3, hfz30_0, hfz30_1, hfz30_2, hfz30_3⟩ := zc4f BK260.1; obtain ⟨Ao31, co31, eo31⟩ := Kd.R_slice HO255.1; subst eo31; obtain ⟨Ao32, co32, eo32⟩ := Kd.R_slice HO258.1; subst eo32; obtain ⟨Ao33, co33, eo33⟩ := Kd.N_slice HO_3.1; subst eo33) | ((with_reducible refine gate_callee (f := 80) rfl ?_); refine zgL (some 26) Tryd.func80 #[.slice Ao33 x3_1.length co33, .int .i64 t251, .int .i64 t252] ?_; (with_reducible refine (spec_l12Find.calls k1 _ _ x3_1 t251 t252 t261 _ ?side1 ?side2 A10.1).mono ?_); (case side1 => refine (Kd.N_reads' (e := 31) (base := w.heap.size) (ok := fun k_ => (((((w.heap.size ≤ k_) ∧ k_ ≠ g) ∧ some k_ ≠ (.slice Ao31 t253.length co31 : Value).ownBlock) ∧ some k_ ≠ (.slice Ao32 t256.length co32 : Value).ownBlock) ∧ k_ ≠ gb260)) (n := x3_1.length) (c := co33) ?_).2.2; exact (by exact (Kd.N_mono (zFN (g := gb260) (Kd.N_mono HO_3.1 (fun k_ hk => (⟨hk, hk.2⟩ : _ ∧ k_ ≠ gb260))) (fun _ hk => hk.2)) (fun _ h_ => h_.1)))); (case side2 => exact (Kd.N_reads' HO_3.1).2.1); rintro e w' ⟨rfl, ⟨nd, rfl⟩⟩; refine ⟨_, rfl, ?_⟩))
     go_roundg k1
     case measure => have := HK1.1; omega
     case rel => exact ⟨(x3_1), (wrap64 (x4_1 - 1)), (t259), (by first | rfl | (simp; done) | (simp [*]; done)), H', ⟨by have := HK1.1; omega⟩, ⟨by exact (Kd.N_mono (zFN (g := gb260) (Kd.N_mono HO_3.1 (fun k_ hk => (⟨hk, hk.2⟩ : _ ∧ k_ ≠ gb260))) (fun _ hk => hk.2)) (fun _ hk => ⟨hk.1.1.1.1.1, hk.1.1.1.1.2⟩))⟩, ⟨by exact IsS97.z1 HI0.1 NB0_260.1⟩, ⟨zQ1 HK.1 GW260.1⟩, ⟨zB2 HB.1 (IsS97.ge HI0.1) GE260.1⟩⟩
   ·rw [if_neg c6] at H; have c6b0 : decide (0 < x4_1) = false := decide_eq_false c6; clear c6; simp only [Option.some.injEq, Prod.mk.injEq] at H; obtain ⟨rfl, rfl⟩ := H
    go_wp2
    go_ret
    exact ⟨_, by first | rfl | (simp [errW_none, errW_some] <;> rfl) | (simp [*, errW_none, errW_some] <;> rfl), by exact zN (Kd.N_mono HO_3.1 (fun _ hk => hk.1)), by exact IsS97.z0 HI0.1, by exact zB1 HB.1 (IsS97.ge HI0.1), by exact zQ0 HK.1⟩

/-! ### spec_l1Files: function 91 -/
def file1 (l : List S67) (i : Nat) : Bool := inB_ (l.getD i z67).f0 0 5 && (inB_ (l.getD i z67).f1 0 9 && (i == 0 || decide ((l.getD (i - 1) z67).f0 < (l.getD i z67).f0)))
def l1f (l : List S67) : Bool := okFrom (file1 l) l.length 0 && decide (l.length ≤ 2)
set_option maxHeartbeats 8000000 in
set_option maxRecDepth 100000 in
theorem l1f_calls (A0 : Option Addr) (c0 : Nat) (l0 : List S67) (w : World) (hr0 : Kd.C k67 w A0 l0.length l0) (hc0 : l0.length ≤ c0) :
  Calls Tryd.prog 91 #[.slice A0 l0.length c0] w fun e w' => e = .returned (.bool (l1f l0)) ∧ Drawn0 w w' := by
 have HR := Aside0.mk hr0
 have HC := Aside0.mk hc0
 have HL := Aside0.mk hr0.2.1
 clear hr0 hc0
 go_enter Tryd.func91, Tryd.ntmps91
 go_wp2
 go_loopw [3] (fun v3 w' => ∃ x : Int, 0 ≤ x ∧ x ≤ (l0.length : Int) ∧ v3 = .int .i64 x ∧ Aside0 (l1f l0 = (okFrom (file1 l0) (l0.length - x.toNat) x.toNat && decide (l0.length ≤ 2))) ∧ Drawn0 w w') (fun v3 _ => l0.length - (intOf v3).toNat)
 case atStart => exact ⟨0, by omega, by omega, rfl, ⟨rfl⟩, Drawn0.refl _⟩
 case round =>
  obtain ⟨x, hx0, hx1, rfl, HE, ⟨m1, rfl⟩⟩ := hrel
  by_cases hlt : x < (l0.length : Int)
  ·obtain ⟨ad, e, c0, c1⟩ := at_T67 HR.out x hx0 hlt
   cases e
   obtain ⟨F0, hF0⟩ : ∃ F0, F0 = (rd_T67 l0 x).f0 := ⟨_, rfl⟩
   obtain ⟨F1, hF1⟩ : ∃ F1, F1 = (rd_T67 l0 x).f1 := ⟨_, rfl⟩
   rw [← hF0] at c0
   rw [← hF1] at c1
   have HF := Aside0.mk (And.intro hF0 hF1)
   clear hF0 hF1
   obtain ⟨b1, hb1⟩ : ∃ b, inB_ F0 0 5 = b := ⟨_, rfl⟩
   obtain ⟨b2, hb2⟩ : ∃ b, inB_ F1 0 9 = b := ⟨_, rfl⟩
   have C1 := Aside0.mk (fun W => spec_l6In_b W F0 0 5 b1 hb1)
   have C2 := Aside0.mk (fun W => spec_l6In_b W F1 0 9 b2 hb2)
   have B1 := Aside0.mk hb1
   have B2 := Aside0.mk hb2
   clear hb1 hb2
   have q1 : decide (x < (l0.length : Int)) = true := decide_eq_true hlt
   have q2 : 0 ≤ x := hx0
   have HN := Aside0.mk (okFrom_at (p := file1 l0) hx0 hlt)
   have no : Aside0 (file1 l0 x.toNat = false → l1f l0 = false) := ⟨fun h_ => by rw [HE.out, HN.out, h_]; rfl⟩
   have yes : Aside0 (file1 l0 x.toNat = true → l1f l0 = (okFrom (file1 l0) (l0.length - (x + 1).toNat) (x + 1).toNat && decide (l0.length ≤ 2))) := ⟨fun h_ => by rw [HE.out, HN.out, h_]; rfl⟩
   clear HE HN
   have hb2 : b2 = true ∨ b2 = false := by cases b2 <;> simp
   have HL2 := HL.out
   cases b1 with
   | false =>
    go_wp2
    go_quiet ((go_at_call 54; (first | with_reducible refine (C1.out _).mono ?_ | with_reducible refine (C2.out _).mono ?_); exact fun _ _ h_ => ⟨h_.1, _, h_.2⟩))
    go_wp2
    go_ret
    rw [no.out (by unfold file1; rw [← show _ = (l0.getD x.toNat z67).f0 from HF.out.1, B1.out]; rfl)]
    exact ⟨by first | rfl | simp [*], by repeat (first | exact Drawn0.refl _ | apply Drawn0.step)⟩
   | true =>
    cases b2 with
    | false =>
     go_wp2
     go_quiet ((go_at_call 54; (first | with_reducible refine (C1.out _).mono ?_ | with_reducible refine (C2.out _).mono ?_); exact fun _ _ h_ => ⟨h_.1, _, h_.2⟩))
     go_wp2
     go_ret
     rw [no.out (by unfold file1; rw [← show _ = (l0.getD x.toNat z67).f0 from HF.out.1, ← show _ = (l0.getD x.toNat z67).f1 from HF.out.2, B1.out, B2.out]; rfl)]
     exact ⟨by first | rfl | simp [*], by repeat (first | exact Drawn0.refl _ | apply Drawn0.step)⟩
    | true =>
     by_cases hz : x ≤ 0
     ·have hx4 : decide (0 < x) = false := decide_eq_false (by omega)
      have Y := Aside0.mk (yes.out (by unfold file1; rw [← show _ = (l0.getD x.toNat z67).f0 from HF.out.1, ← show _ = (l0.getD x.toNat z67).f1 from HF.out.2, B1.out, B2.out, show (x.toNat == 0) = true by rw [beq_iff_eq]; omega]; rfl))
      clear yes no hz
      go_wp2
      go_quiet ((go_at_call 54; (first | with_reducible refine (C1.out _).mono ?_ | with_reducible refine (C2.out _).mono ?_); exact fun _ _ h_ => ⟨h_.1, _, h_.2⟩))
      go_wp2
      go_roundw
      case rel => exact ⟨x + 1, by omega, by omega, by first | rfl | simp, Y, by repeat (first | exact Drawn0.refl _ | apply Drawn0.step)⟩
      case measure => simp [intOf]; omega
     ·have g0 : 0 < x := by omega
      clear hz
      obtain ⟨y, hy⟩ : ∃ y, y = x - 1 := ⟨_, rfl⟩
      have hw : IntKind.i64.wrap (x - 1) = y := by rw [i64_w, hy]; unfold wrap64; omega
      obtain ⟨ad2, e2, d0, d1⟩ := at_T67 HR.out y (by omega) (by omega)
      obtain ⟨G0, hG0⟩ : ∃ G0, G0 = (rd_T67 l0 y).f0 := ⟨_, rfl⟩
      rw [← hG0] at d0
      cases e2
      have HG := Aside0.mk hG0
      clear hG0 d1
      have hx2 : 0 ≤ y := by omega
      have hx3 : decide (y < (l0.length : Int)) = true := decide_eq_true (by omega)
      have hx4 : decide (0 < x) = true := decide_eq_true g0
      have hx5 : y < (l0.length : Int) := by omega
      have HY := Aside0.mk hy
      clear hy
      have FD : Aside0 (file1 l0 x.toNat = decide (G0 < F0)) := ⟨by
       unfold file1
       rw [← show _ = (l0.getD x.toNat z67).f0 from HF.out.1, ← show _ = (l0.getD x.toNat z67).f1 from HF.out.2, B1.out, B2.out, show (x.toNat == 0) = false by rw [beq_eq_false_iff_ne]; omega, show x.toNat - 1 = y.toNat by have := HY.out; omega, ← show _ = (l0.getD y.toNat z67).f0 from HG.out]; rfl⟩
      by_cases hc : F0 ≤ G0
      ·have cb : decide (F0 ≤ G0) = true := decide_eq_true hc
       have N := Aside0.mk (no.out (by rw [FD.out, decide_eq_false (by omega)]))
       clear yes no hc
       go_wp2
       go_quiet ((go_at_call 54; (first | with_reducible refine (C1.out _).mono ?_ | with_reducible refine (C2.out _).mono ?_); exact fun _ _ h_ => ⟨h_.1, _, h_.2⟩))
       go_wp2
       go_ret
       rw [N.out]
       exact ⟨by first | rfl | simp [*], by repeat (first | exact Drawn0.refl _ | apply Drawn0.step)⟩
      ·have cb : decide (F0 ≤ G0) = false := decide_eq_false hc
       have Y := Aside0.mk (yes.out (by rw [FD.out, decide_eq_true (by omega)]))
       clear yes no hc
       go_wp2
       go_quiet ((go_at_call 54; (first | with_reducible refine (C1.out _).mono ?_ | with_reducible refine (C2.out _).mono ?_); exact fun _ _ h_ => ⟨h_.1, _, h_.2⟩))
       go_wp2
       go_roundw
       case rel => exact ⟨x + 1, by omega, by omega, by first | rfl | simp, Y, by repeat (first | exact Drawn0.refl _ | apply Drawn0.step)⟩
       case measure => simp [intOf]; omega
  ·have hxe : x = (l0.length : Int) := by omega
   have q1 : decide (x < (l0.length : Int)) = false := decide_eq_false hlt
   have E := Aside0.mk (show l1f l0 = decide ((l0.length : Int) ≤ 2) by
    rw [HE.out, hxe, Int.toNat_natCast, Nat.sub_self]
    simp only [okFrom, Bool.true_and]
    rw [Bool.eq_iff_iff, decide_eq_true_eq, decide_eq_true_eq]; omega)
   clear hxe HE
   go_wp2
   go_ret
   rw [E.out]
   exact ⟨by first | rfl | simp [*], by repeat (first | exact Drawn0.refl _ | apply Drawn0.step)⟩
def spec_l1Files.f (_k : Nat) (l0 : List S67) : Option Bool := some (l1f l0)
theorem spec_l1Files.mono : ∀ a0 k, LeO (spec_l1Files.f k a0) (spec_l1Files.f (k + 1) a0) := fun _ _ _ h => h
theorem spec_l1Files.calls (k : Nat) (A0 : Option Addr) (c0 : Nat) (l0 : List S67) (r : Bool) (w : World) (hr0 : Kd.C k67 w A0 l0.length l0) (hc0 : l0.length ≤ c0) (h : spec_l1Files.f k l0 = some r) :
  Calls Tryd.prog 91 #[.slice A0 l0.length c0] w fun e w' => e = .returned (.bool r) ∧ Below w.heap.size w w' := by
 obtain rfl := Option.some.inj h; refine (l1f_calls A0 c0 l0 w hr0 hc0).mono ?_; rintro e w' ⟨h1, n, rfl⟩; refine ⟨h1, ?_⟩; apply pw_below_drewN; exact Below.refl _ _

/-! ### spec_l1Deps: function 92 -/
def dep1 (name : Int) (l : List S69) (i : Nat) : Bool := inB_ (l.getD i z69).f0 1 4 && (!decide ((l.getD i z69).f0 = name) && (inB_ (l.getD i z69).f1 1 5 && (i == 0 || decide ((l.getD (i - 1) z69).f0 < (l.getD i z69).f0))))
def l1d (name : Int) (l : List S69) : Bool := okFrom (dep1 name l) l.length 0 && decide (l.length ≤ 2)
set_option maxHeartbeats 8000000 in
set_option maxRecDepth 100000 in
theorem l1d_calls (a0 : Int) (A0 : Option Addr) (c0 : Nat) (l0 : List S69) (w : World) (hr0 : Kd.C k69 w A0 l0.length l0) (hc0 : l0.length ≤ c0) :
  Calls Tryd.prog 92 #[.int .i64 a0, .slice A0 l0.length c0] w fun e w' => e = .returned (.bool (l1d a0 l0)) ∧ Below w.heap.size w w' := by
 have HR := Aside0.mk hr0
 have HC := Aside0.mk hc0
 have HL := Aside0.mk hr0.2.1
 have HB := Aside0.mk (Below.refl w.heap.size w)
 clear hr0 hc0
 go_enter Tryd.func92, Tryd.ntmps92
 go_wp2
 go_loopw [5] (fun v5 w' => ∃ x : Int, 0 ≤ x ∧ x ≤ (l0.length : Int) ∧ v5 = .int .i64 x ∧ Aside0 (l1d a0 l0 = (okFrom (dep1 a0 l0) (l0.length - x.toNat) x.toNat && decide (l0.length ≤ 2))) ∧ Aside0 (Below w.heap.size w w')) (fun v5 _ => l0.length - (intOf v5).toNat)
 case atStart => exact ⟨0, by omega, by omega, rfl, ⟨rfl⟩, HB⟩
 case round =>
  clear HB
  obtain ⟨x, hx0, hx1, rfl, HE, HB⟩ := hrel
  by_cases hlt : x < (l0.length : Int)
  ·obtain ⟨ad, e, c0, c1⟩ := at_T69 HR.out x hx0 hlt
   cases e
   replace c0 := (HB.out.cell (World.block_lt_of_cell? w _ c0)).trans c0
   replace c1 := (HB.out.cell (World.block_lt_of_cell? w _ c1)).trans c1
   obtain ⟨F0, hF0⟩ : ∃ F0, F0 = (rd_T69 l0 x).f0 := ⟨_, rfl⟩
   obtain ⟨F1, hF1⟩ : ∃ F1, F1 = (rd_T69 l0 x).f1 := ⟨_, rfl⟩
   rw [← hF0] at c0
   rw [← hF1] at c1
   have HF := Aside0.mk (And.intro hF0 hF1)
   clear hF0 hF1
   have q1 : decide (x < (l0.length : Int)) = true := decide_eq_true hlt
   have q2 : 0 ≤ x := hx0
   obtain ⟨b1, hb1⟩ : ∃ b, inB_ F0 1 4 = b := ⟨_, rfl⟩
   obtain ⟨b2, hb2⟩ : ∃ b, inB_ F1 1 5 = b := ⟨_, rfl⟩
   have C1 := Aside0.mk (fun W => spec_l6In_b W F0 1 4 b1 hb1)
   have C2 := Aside0.mk (fun W => spec_l6In_b W F1 1 5 b2 hb2)
   have B1 := Aside0.mk hb1
   have B2 := Aside0.mk hb2
   clear hb1 hb2
   have HN := Aside0.mk (okFrom_at (p := dep1 a0 l0) hx0 hlt)
   have no : Aside0 (dep1 a0 l0 x.toNat = false → l1d a0 l0 = false) := ⟨fun h_ => by rw [HE.out, HN.out, h_]; rfl⟩
   have yes : Aside0 (dep1 a0 l0 x.toNat = true → l1d a0 l0 = (okFrom (dep1 a0 l0) (l0.length - (x + 1).toNat) (x + 1).toNat && decide (l0.length ≤ 2))) := ⟨fun h_ => by rw [HE.out, HN.out, h_]; rfl⟩
   have D : Aside0 (dep1 a0 l0 x.toNat = (b1 && (!decide (F0 = a0) && (b2 && (x.toNat == 0 || decide ((l0.getD (x.toNat - 1) z69).f0 < F0)))))) := ⟨by
    unfold dep1
    rw [← show _ = (l0.getD x.toNat z69).f0 from HF.out.1, ← show _ = (l0.getD x.toNat z69).f1 from HF.out.2, B1.out, B2.out]⟩
   clear HE HN HF B1 B2
   have HL2 := HL.out
   go_wp2
   have n0_ := Aside0.mk (below_alloc HB.out (Obj.cells #[.int .i64 F0, .int .i64 F1] 69))
   have n1_ := (below_alloc (Below.refl wr.heap.size wr) (Obj.cells #[.int .i64 F0, .int .i64 F1] 69))
   have k0 : (wr.alloc (Obj.cells #[.int .i64 F0, .int .i64 F1] 69)).cell? ⟨wr.heap.size, 0, none⟩ = some (.int .i64 F0) := by simp
   have k1 : (wr.alloc (Obj.cells #[.int .i64 F0, .int .i64 F1] 69)).cell? ⟨wr.heap.size, 1, none⟩ = some (.int .i64 F1) := by simp
   clear HB c0 c1 n1_
   generalize wr.alloc (Obj.cells #[.int .i64 F0, .int .i64 F1] 69) = W at n0_ k0 k1 ⊢
   generalize wr.heap.size = gb at k0 k1 ⊢
   have HB := n0_
   clear n0_
   cases b1 with
   | false =>
    go_quiet ((go_at_call 54; (first | with_reducible refine (C1.out _).mono ?_ | with_reducible refine (C2.out _).mono ?_); exact fun _ _ h_ => ⟨h_.1, _, h_.2⟩))
    go_wp2
    go_ret
    rw [no.out (by rw [D.out]; rfl)]
    exact ⟨by first | rfl | simp [*], by repeat (first | exact HB.out | apply pw_below_drewN)⟩
   | true =>
    by_cases he : F0 = a0
    ·have N := Aside0.mk (no.out (by rw [D.out, decide_eq_true he]; rfl))
     have e1 : (F0 == a0) = true := beq_iff_eq.mpr he
     clear yes no D he
     go_quiet ((go_at_call 54; (first | with_reducible refine (C1.out _).mono ?_ | with_reducible refine (C2.out _).mono ?_); exact fun _ _ h_ => ⟨h_.1, _, h_.2⟩))
     go_wp2
     go_ret
     rw [N.out]
     exact ⟨by first | rfl | simp [*], by repeat (first | exact HB.out | apply pw_below_drewN)⟩
    ·have e1 : (F0 == a0) = false := beq_eq_false_iff_ne.mpr he
     replace D := Aside0.mk (D.out.trans (by rw [decide_eq_false he]))
     clear he
     cases b2 with
     | false =>
      go_quiet ((go_at_call 54; (first | with_reducible refine (C1.out _).mono ?_ | with_reducible refine (C2.out _).mono ?_); exact fun _ _ h_ => ⟨h_.1, _, h_.2⟩))
      go_wp2
      go_ret
      rw [no.out (by rw [D.out]; rfl)]
      exact ⟨by first | rfl | simp [*], by repeat (first | exact HB.out | apply pw_below_drewN)⟩
     | true =>
      by_cases hz : x ≤ 0
      ·have hx4 : decide (0 < x) = false := decide_eq_false (by omega)
       have Y := Aside0.mk (yes.out (by rw [D.out, show (x.toNat == 0) = true by rw [beq_iff_eq]; omega]; rfl))
       clear yes no D hz
       go_quiet ((go_at_call 54; (first | with_reducible refine (C1.out _).mono ?_ | with_reducible refine (C2.out _).mono ?_); exact fun _ _ h_ => ⟨h_.1, _, h_.2⟩))
       go_wp2
       go_roundw
       case rel => exact ⟨x + 1, by omega, by omega, by first | rfl | simp, Y, ⟨by repeat (first | exact HB.out | apply pw_below_drewN)⟩⟩
       case measure => simp [intOf]; omega
      ·have g0 : 0 < x := by omega
       clear hz
       obtain ⟨y, hy⟩ : ∃ y, y = x - 1 := ⟨_, rfl⟩
       have hw : IntKind.i64.wrap (x - 1) = y := by rw [i64_w, hy]; unfold wrap64; omega
       obtain ⟨ad2, e2, d0, d1⟩ := at_T69 HR.out y (by omega) (by omega)
       obtain ⟨G0, hG0⟩ : ∃ G0, G0 = (rd_T69 l0 y).f0 := ⟨_, rfl⟩
       obtain ⟨G1, hG1⟩ : ∃ G1, G1 = (rd_T69 l0 y).f1 := ⟨_, rfl⟩
       rw [← hG0] at d0
       rw [← hG1] at d1
       cases e2
       replace d0 := (HB.out.cell (World.block_lt_of_cell? w _ d0)).trans d0
       replace d1 := (HB.out.cell (World.block_lt_of_cell? w _ d1)).trans d1
       have HG := Aside0.mk hG0
       clear hG0 hG1
       have hx2 : 0 ≤ y := by omega
       have hx3 : decide (y < (l0.length : Int)) = true := decide_eq_true (by omega)
       have hx4 : decide (0 < x) = true := decide_eq_true g0
       have hx5 : y < (l0.length : Int) := by omega
       have HY := Aside0.mk hy
       clear hy
       have FD : Aside0 (dep1 a0 l0 x.toNat = decide (G0 < F0)) := ⟨by
        rw [D.out, show (x.toNat == 0) = false by rw [beq_eq_false_iff_ne]; omega, show x.toNat - 1 = y.toNat by have := HY.out; omega, ← show _ = (l0.getD y.toNat z69).f0 from HG.out]; rfl⟩
       by_cases hc : F0 ≤ G0
       ·have cb : decide (F0 ≤ G0) = true := decide_eq_true hc
        have N := Aside0.mk (no.out (by rw [FD.out, decide_eq_false (by omega)]))
        clear yes no hc D
        go_quiet ((go_at_call 54; (first | with_reducible refine (C1.out _).mono ?_ | with_reducible refine (C2.out _).mono ?_); exact fun _ _ h_ => ⟨h_.1, _, h_.2⟩))
        go_wp2
        go_ret
        rw [N.out]
        exact ⟨by first | rfl | simp [*], by repeat (first | exact HB.out | apply pw_below_drewN)⟩
       ·have cb : decide (F0 ≤ G0) = false := decide_eq_false hc
        have Y := Aside0.mk (yes.out (by rw [FD.out, decide_eq_true (by omega)]))
        clear yes no hc D
        go_quiet ((go_at_call 54; (first | with_reducible refine (C1.out _).mono ?_ | with_reducible refine (C2.out _).mono ?_); exact fun _ _ h_ => ⟨h_.1, _, h_.2⟩))
        go_wp2
        go_roundw
        case rel => exact ⟨x + 1, by omega, by omega, by first | rfl | simp, Y, ⟨by repeat (first | exact HB.out | apply pw_below_drewN)⟩⟩
        case measure => simp [intOf]; omega
  ·have hxe : x = (l0.length : Int) := by omega
   have q1 : decide (x < (l0.length : Int)) = false := decide_eq_false hlt
   have E := Aside0.mk (show l1d a0 l0 = decide ((l0.length : Int) ≤ 2) by
    rw [HE.out, hxe, Int.toNat_natCast, Nat.sub_self]
    simp only [okFrom, Bool.true_and]
    rw [Bool.eq_iff_iff, decide_eq_true_eq, decide_eq_true_eq]; omega)
   clear hxe HE
   go_wp2
   go_ret
   rw [E.out]
   exact ⟨by first | rfl | simp [*], by repeat (first | exact HB.out | apply pw_below_drewN)⟩
def spec_l1Deps.f (_k : Nat) (a0 : Int) (l1 : List S69) : Option Bool := some (l1d a0 l1)
theorem spec_l1Deps.mono : ∀ a0 a1 k, LeO (spec_l1Deps.f k a0 a1) (spec_l1Deps.f (k + 1) a0 a1) := fun _ _ _ _ h => h
theorem spec_l1Deps.calls (k : Nat) (a0 : Int) (A1 : Option Addr) (c1 : Nat) (l1 : List S69) (r : Bool) (w : World) (hr1 : Kd.C k69 w A1 l1.length l1) (hc1 : l1.length ≤ c1) (h : spec_l1Deps.f k a0 l1 = some r) :
  Calls Tryd.prog 92 #[.int .i64 a0, .slice A1 l1.length c1] w fun e w' => e = .returned (.bool r) ∧ Below w.heap.size w w' := by
 obtain rfl := Option.some.inj h; exact l1d_calls a0 A1 c1 l1 w hr1 hc1

/-! ### spec_PkgOk: function 60 -/
def spec_PkgOk.f (k : Nat) (a0_0 : Int) (a0_1 : Int) (l0_2 : List (S67)) (l0_3 : List (S69)) : Option (Bool) := (spec_l6In.f a0_0 1 4).bind fun t266 => (if t266 = true then ((spec_l6In.f a0_1 1 5).bind fun t267 => (if t267 = true then ((spec_l1Files.f k l0_2).bind fun t268 => (if t268 = true then ((spec_l1Deps.f k a0_0 l0_3).bind fun t269 => (some t269)) else (some false))) else (some false))) else (some false))
theorem spec_PkgOk.mono : ∀ a0 a1 a2 a3 k, LeO (spec_PkgOk.f k a0 a1 a2 a3) (spec_PkgOk.f (k + 1) a0 a1 a2 a3) := by
 intro a0 a1 a2 a3 k
 unfold spec_PkgOk.f
 repeat' with_reducible first | apply spec_l1Deps.mono | apply spec_l1Files.mono | exact LeO.refl _ | exact LeO.none _ | refine LeO.ite ?_ ?_ | refine LeO.bind ?_ (fun _ => ?_)
set_option maxHeartbeats 8000000 in
set_option maxRecDepth 100000 in
theorem spec_PkgOk.calls (k : Nat) (a0_0 : Int) (a0_1 : Int) (A0_2 : Option Addr) (c0_2 : Nat) (l0_2 : List (S67)) (A0_3 : Option Addr) (c0_3 : Nat) (l0_3 : List (S69)) (r : Bool) (w : World) (hr0_2 : Kd.C k67 w A0_2 l0_2.length l0_2) (hc0_2 : l0_2.length ≤ c0_2) (hr0_3 : Kd.C k69 w A0_3 l0_3.length l0_3) (hc0_3 : l0_3.length ≤ c0_3) (h : spec_PkgOk.f k a0_0 a0_1 l0_2 l0_3 = some r) :
  Calls Tryd.prog 60 #[.agg #[.int .i64 a0_0, .int .i64 a0_1, .slice A0_2 l0_2.length c0_2, .slice A0_3 l0_3.length c0_3]] w fun e w' => e = .returned (.bool r) ∧ Below w.heap.size w w' := by
 have hu31 := Tryd.underlying31; have HR0_2 := aM hr0_2; have HC0_2 := aM hc0_2; clear hr0_2 hc0_2; have HR0_3 := aM hr0_3; have HC0_3 := aM hc0_3; clear hr0_3 hc0_3; have HB := aM (Below.refl w.heap.size w); have H : ((spec_l6In.f a0_0 1 4).bind fun t266 => (if t266 = true then ((spec_l6In.f a0_1 1 5).bind fun t267 => (if t267 = true then ((spec_l1Files.f k l0_2).bind fun t268 => (if t268 = true then ((spec_l1Deps.f k a0_0 l0_3).bind fun t269 => (some t269)) else (some false))) else (some false))) else (some false))) = some r := h; clear h; replace H := Option.bind_eq_some_iff.mp H; obtain ⟨t266, A20, H⟩ := H; (try dsimp only at H); have A2 := aM A20; clear A20
 by_cases c3 : t266 = true
 ·subst c3; replace H := zy1 H; replace H := Option.bind_eq_some_iff.mp H; obtain ⟨t267, A40, H⟩ := H; (try dsimp only at H); have A4 := aM A40; clear A40
  by_cases c5 : t267 = true
  ·subst c5; replace H := zy1 H; replace H := Option.bind_eq_some_iff.mp H; obtain ⟨t268, A60, H⟩ := H; (try dsimp only at H); have A6 := aM A60; clear A60
   by_cases c7 : t268 = true
   ·subst c7; replace H := zy1 H; replace H := Option.bind_eq_some_iff.mp H; obtain ⟨t269, A80, H⟩ := H; (try dsimp only at H); have A8 := aM A80; clear A80; obtain rfl := Option.some.inj H
    go_enter Tryd.func60, Tryd.ntmps60
    go_wp2_with (first | ((with_reducible refine gate_dst (N := 1) rfl ?_); refine zbx 1 #[.int .i64 a0_0, .int .i64 a0_1, .slice A0_2 l0_2.length c0_2, .slice A0_3 l0_3.length c0_3] 31 ?_; intro gb265 hg w9 hbox hb; have _ := aM (below_step (zB HB.1) hb); have _ := aM (hbox); have _ := aM (zge hg (zB HB.1)); have _ := aM (zge hg (zB HB.1)); clear HB; rename_i HB BK265 GW265 GE265; clear hb hbox hg; obtain ⟨hcz10_0, hcz10_1, hcz10_2, hcz10_3, hfz10_0, hfz10_1, hfz10_2, hfz10_3⟩ := zc4f BK265.1) | ((with_reducible refine gate_callee (f := 54) rfl ?_); refine zgL (some 5) Tryd.func54 #[.int .i64 a0_0, .int .i64 1, .int .i64 4] ?_; (with_reducible refine (spec_l6In.calls a0_0 1 4 true _ A2.1).mono ?_); rintro e w' ⟨rfl, ⟨nd, rfl⟩⟩; refine ⟨_, rfl, ?_⟩) | (go_at_call 54; (with_reducible refine (spec_l6In.calls a0_1 1 5 true _ A4.1).mono ?_); rintro e w' ⟨rfl, ⟨nd, rfl⟩⟩) | (go_at_call 91; (with_reducible refine (spec_l1Files.calls k _ _ l0_2 true _ ?side1 ?side2 A6.1).mono ?_); (case side1 => exact (Kd.C_below HR0_2.1 (zB1 HB.1 GE265.1))); (case side2 => exact HC0_2.1); rintro e w11 ⟨rfl, hb⟩; have _ := aM (blk_below (zK BK265.1) hb); have _ := aM (below_step (zB1 HB.1 GE265.1) hb); clear BK265 HB; rename_i BK265 HB; (try clear hb); (try clear hb2); (try clear hk); (try clear hi); obtain ⟨hcz12_0, hcz12_1, hcz12_2, hcz12_3, hfz12_0, hfz12_1, hfz12_2, hfz12_3⟩ := zc4f BK265.1) | (go_at_call 92; (with_reducible refine (spec_l1Deps.calls k a0_0 _ _ l0_3 t269 _ ?side1 ?side2 A8.1).mono ?_); (case side1 => exact zC (Kd.C_below HR0_3.1 HB.1)); (case side2 => exact HC0_3.1); rintro e w13 ⟨rfl, hb⟩; have _ := aM (blk_below (zK BK265.1) hb); have _ := aM (below_step (zB1 HB.1 GE265.1) hb); clear BK265 HB; rename_i BK265 HB; (try clear hb); (try clear hb2); (try clear hk); (try clear hi)))
    go_ret
    exact ⟨by first | rfl | (simp [errW_none, errW_some] <;> rfl) | (simp [*, errW_none, errW_some] <;> rfl), by exact zB1 HB.1 GE265.1⟩
   ·replace c7 := Bool.eq_false_iff.mpr c7; subst c7; replace H := zy0 H; obtain rfl := Option.some.inj H
    go_enter Tryd.func60, Tryd.ntmps60
    go_wp2_with (first | ((with_reducible refine gate_dst (N := 1) rfl ?_); refine zbx 1 #[.int .i64 a0_0, .int .i64 a0_1, .slice A0_2 l0_2.length c0_2, .slice A0_3 l0_3.length c0_3] 31 ?_; intro gb265 hg w14 hbox hb; have _ := aM (below_step (zB HB.1) hb); have _ := aM (hbox); have _ := aM (zge hg (zB HB.1)); have _ := aM (zge hg (zB HB.1)); clear HB; rename_i HB BK265 GW265 GE265; clear hb hbox hg; obtain ⟨hcz15_0, hcz15_1, hcz15_2, hcz15_3, hfz15_0, hfz15_1, hfz15_2, hfz15_3⟩ := zc4f BK265.1) | ((with_reducible refine gate_callee (f := 54) rfl ?_); refine zgL (some 5) Tryd.func54 #[.int .i64 a0_0, .int .i64 1, .int .i64 4] ?_; (with_reducible refine (spec_l6In.calls a0_0 1 4 true _ A2.1).mono ?_); rintro e w' ⟨rfl, ⟨nd, rfl⟩⟩; refine ⟨_, rfl, ?_⟩) | (go_at_call 54; (with_reducible refine (spec_l6In.calls a0_1 1 5 true _ A4.1).mono ?_); rintro e w' ⟨rfl, ⟨nd, rfl⟩⟩) | (go_at_call 91; (with_reducible refine (spec_l1Files.calls k _ _ l0_2 false _ ?side1 ?side2 A6.1).mono ?_); (case side1 => exact (Kd.C_below HR0_2.1 (zB1 HB.1 GE265.1))); (case side2 => exact HC0_2.1); rintro e w16 ⟨rfl, hb⟩; have _ := aM (blk_below (zK BK265.1) hb); have _ := aM (below_step (zB1 HB.1 GE265.1) hb); clear BK265 HB; rename_i BK265 HB; (try clear hb); (try clear hb2); (try clear hk); (try clear hi)))
    go_ret
    exact ⟨by first | rfl | (simp [errW_none, errW_some] <;> rfl) | (simp [*, errW_none, errW_some] <;> rfl), by exact zB1 HB.1 GE265.1⟩
  ·replace c5 := Bool.eq_false_iff.mpr c5; subst c5; replace H := zy0 H; obtain rfl := Option.some.inj H
   go_enter Tryd.func60, Tryd.ntmps60
   go_wp2_with (first | ((with_reducible refine gate_dst (N := 1) rfl ?_); refine zbx 1 #[.int .i64 a0_0, .int .i64 a0_1, .slice A0_2 l0_2.length c0_2, .slice A0_3 l0_3.length c0_3] 31 ?_; intro gb265 hg w17 hbox hb; have _ := aM (below_step (zB HB.1) hb); have _ := aM (hbox); have _ := aM (zge hg (zB HB.1)); have _ := aM (zge hg (zB HB.1)); clear HB; rename_i HB BK265 GW265 GE265; clear hb hbox hg; obtain ⟨hcz18_0, hcz18_1, hcz18_2, hcz18_3, hfz18_0, hfz18_1, hfz18_2, hfz18_3⟩ := zc4f BK265.1) | ((with_reducible refine gate_callee (f := 54) rfl ?_); refine zgL (some 5) Tryd.func54 #[.int .i64 a0_0, .int .i64 1, .int .i64 4] ?_; (with_reducible refine (spec_l6In.calls a0_0 1 4 true _ A2.1).mono ?_); rintro e w' ⟨rfl, ⟨nd, rfl⟩⟩; refine ⟨_, rfl, ?_⟩) | (go_at_call 54; (with_reducible refine (spec_l6In.calls a0_1 1 5 false _ A4.1).mono ?_); rintro e w' ⟨rfl, ⟨nd, rfl⟩⟩))
   go_ret
   exact ⟨by first | rfl | (simp [errW_none, errW_some] <;> rfl) | (simp [*, errW_none, errW_some] <;> rfl), by exact zB1 HB.1 GE265.1⟩
 ·replace c3 := Bool.eq_false_iff.mpr c3; subst c3; replace H := zy0 H; obtain rfl := Option.some.inj H
  go_enter Tryd.func60, Tryd.ntmps60
  go_wp2_with (first | ((with_reducible refine gate_dst (N := 1) rfl ?_); refine zbx 1 #[.int .i64 a0_0, .int .i64 a0_1, .slice A0_2 l0_2.length c0_2, .slice A0_3 l0_3.length c0_3] 31 ?_; intro gb265 hg w19 hbox hb; have _ := aM (below_step (zB HB.1) hb); have _ := aM (hbox); have _ := aM (zge hg (zB HB.1)); have _ := aM (zge hg (zB HB.1)); clear HB; rename_i HB BK265 GW265 GE265; clear hb hbox hg; obtain ⟨hcz20_0, hcz20_1, hcz20_2, hcz20_3, hfz20_0, hfz20_1, hfz20_2, hfz20_3⟩ := zc4f BK265.1) | ((with_reducible refine gate_callee (f := 54) rfl ?_); refine zgL (some 5) Tryd.func54 #[.int .i64 a0_0, .int .i64 1, .int .i64 4] ?_; (with_reducible refine (spec_l6In.calls a0_0 1 4 false _ A2.1).mono ?_); rintro e w' ⟨rfl, ⟨nd, rfl⟩⟩; refine ⟨_, rfl, ?_⟩))
  go_ret
  exact ⟨by first | rfl | (simp [errW_none, errW_some] <;> rfl) | (simp [*, errW_none, errW_some] <;> rfl), by exact zB1 HB.1 GE265.1⟩

/-! ### spec_PkgText: function 22 -/
mutual
def spec_PkgText.l0 : Nat → ByteArray → Int → Int → Int → List (S67) → List (S69) → Option (ByteArray)
 | 0, _, _, _, _, _, _ => none
 | k + 1, x3, x4, x271000, x271001, x271002, x271003 => if x4 < (x271002.length : Int) then (if x3.size + 1 ≤ 9223372036854775807 then (if 0 ≤ x4 then ((spec_l6Dec.f k ((rd_T67 x271002 x4).f0)).bind fun t274 => (if (x3 ++ (⟨#[32]⟩ : ByteArray)).size + t274.size ≤ 9223372036854775807 then (if ((x3 ++ (⟨#[32]⟩ : ByteArray)) ++ t274).size + 1 ≤ 9223372036854775807 then ((spec_l6Dec.f k ((rd_T67 x271002 x4).f1)).bind fun t276 => (if (((x3 ++ (⟨#[32]⟩ : ByteArray)) ++ t274) ++ (⟨#[58]⟩ : ByteArray)).size + t276.size ≤ 9223372036854775807 then (spec_PkgText.l0 k ((((x3 ++ (⟨#[32]⟩ : ByteArray)) ++ t274) ++ (⟨#[58]⟩ : ByteArray)) ++ t276) (wrap64 (x4 + 1)) x271000 x271001 x271002 x271003) else (none))) else (none)) else (none))) else (none)) else (none)) else (spec_PkgText.l1 k x3 0 x271000 x271001 x271002 x271003)
def spec_PkgText.l1 : Nat → ByteArray → Int → Int → Int → List (S67) → List (S69) → Option (ByteArray)
 | 0, _, _, _, _, _, _ => none
 | k + 1, x3, x5, x271000, x271001, x271002, x271003 => if x5 < (x271003.length : Int) then (if x3.size + 1 ≤ 9223372036854775807 then (if 0 ≤ x5 then ((spec_l1Name.f k ((rd_T69 x271003 x5).f0) ((rd_T69 x271003 x5).f1)).bind fun t279 => (if (x3 ++ (⟨#[32]⟩ : ByteArray)).size + t279.size ≤ 9223372036854775807 then (spec_PkgText.l1 k ((x3 ++ (⟨#[32]⟩ : ByteArray)) ++ t279) (wrap64 (x5 + 1)) x271000 x271001 x271002 x271003) else (none))) else (none)) else (none)) else (some x3)
end
def spec_PkgText.f (k : Nat) (a0_0 : Int) (a0_1 : Int) (l0_2 : List (S67)) (l0_3 : List (S69)) : Option (ByteArray) := (spec_PkgOk.f k a0_0 a0_1 l0_2 l0_3).bind fun t271 => (if t271 = true then ((spec_l1Name.f k a0_0 a0_1).bind fun t272 => (spec_PkgText.l0 k t272 0 a0_0 a0_1 l0_2 l0_3)) else (some (⟨#[]⟩ : ByteArray)))
theorem spec_PkgText.mono_l : ∀ k, (∀ y0 y1 y2 y3 y4 y5, LeO (spec_PkgText.l0 k y0 y1 y2 y3 y4 y5) (spec_PkgText.l0 (k + 1) y0 y1 y2 y3 y4 y5)) ∧ (∀ y0 y1 y2 y3 y4 y5, LeO (spec_PkgText.l1 k y0 y1 y2 y3 y4 y5) (spec_PkgText.l1 (k + 1) y0 y1 y2 y3 y4 y5))
 | 0 => ⟨fun _ _ _ _ _ _ r h => by simp [spec_PkgText.l0] at h, fun _ _ _ _ _ _ r h => by simp [spec_PkgText.l1] at h⟩
 | k + 1 => by
  obtain ⟨ih0, ih1⟩ := spec_PkgText.mono_l k
  refine ⟨?_, ?_⟩
  ·intro y0 y1 y2 y3 y4 y5
   unfold spec_PkgText.l0
   repeat' first
   | (with_reducible exact ih0 _ _ _ _ _ _)
   | (with_reducible exact ih1 _ _ _ _ _ _)
   | (with_reducible exact spec_PkgOk.mono _ _ _ _ _)
   | (with_reducible exact spec_l1Name.mono _ _ _)
   | (with_reducible exact spec_l6Dec.mono _ _)
   | (with_reducible exact LeO.refl _)
   | (with_reducible exact LeO.none _)
   | (with_reducible refine LeO.ite ?_ ?_)
   | (with_reducible refine LeO.bind ?_ (fun _ => ?_))
   | exact ih0 _ _ _ _ _ _
   | exact ih1 _ _ _ _ _ _
   | exact spec_PkgOk.mono _ _ _ _ _
   | exact spec_l1Name.mono _ _ _
   | exact spec_l6Dec.mono _ _
   | exact LeO.none _
   | refine LeO.ite ?_ ?_
   | refine LeO.bind ?_ (fun _ => ?_)
  ·intro y0 y1 y2 y3 y4 y5
   unfold spec_PkgText.l1
   repeat' first
   | (with_reducible exact ih0 _ _ _ _ _ _)
   | (with_reducible exact ih1 _ _ _ _ _ _)
   | (with_reducible exact spec_PkgOk.mono _ _ _ _ _)
   | (with_reducible exact spec_l1Name.mono _ _ _)
   | (with_reducible exact spec_l6Dec.mono _ _)
   | (with_reducible exact LeO.refl _)
   | (with_reducible exact LeO.none _)
   | (with_reducible refine LeO.ite ?_ ?_)
   | (with_reducible refine LeO.bind ?_ (fun _ => ?_))
   | exact ih0 _ _ _ _ _ _
   | exact ih1 _ _ _ _ _ _
   | exact spec_PkgOk.mono _ _ _ _ _
   | exact spec_l1Name.mono _ _ _
   | exact spec_l6Dec.mono _ _
   | exact LeO.none _
   | refine LeO.ite ?_ ?_
   | refine LeO.bind ?_ (fun _ => ?_)
theorem spec_PkgText.mono : ∀ a0 a1 a2 a3 k, LeO (spec_PkgText.f k a0 a1 a2 a3) (spec_PkgText.f (k + 1) a0 a1 a2 a3) := by
 intro a0 a1 a2 a3 k
 obtain ⟨ih0, ih1⟩ := spec_PkgText.mono_l k
 unfold spec_PkgText.f
 repeat' with_reducible first | apply ih0 | apply ih1 | apply spec_PkgOk.mono | apply spec_l1Name.mono | apply spec_l6Dec.mono | exact LeO.refl _ | exact LeO.none _ | refine LeO.ite ?_ ?_ | refine LeO.bind ?_ (fun _ => ?_)
def spec_PkgText.T7 : Bool × List (List Nat × List Nat) := (true, [([], []), ([0], [0]), ([], []), ([2], [2]), ([], []), ([3, 4], [3, 4]), ([5], [5]), ([6], [6]), ([7], [7]), ([1, 8], [1, 8]), ([9], [9]), ([], []), ([11], [11]), ([], []), ([12, 13], [12, 13]), ([14], [14]), ([15], [15]), ([16, 8], [16]), ([10, 17], [10, 17]), ([18, 17, 0, 1, 2, 3, 4, 5, 6, 7, 8, 9, 10, 11, 12, 13, 14, 15, 16, 17, 18], [0, 18])])
def spec_PkgText.B7 : List Nat := [0, 1, 0, 4, 0, 28, 60, 124, 252, 511, 1023, 0, 2048, 0, 14336, 30720, 63488, 129532, 262143, 524287]
theorem spec_PkgText.tab7 : rtab .any (opsOf Tryd.f22 7) = spec_PkgText.T7 := by kernel_rfl
theorem spec_PkgText.bits7 : waitsOk spec_PkgText.T7.2 spec_PkgText.B7 = true := by kernel_rfl
def spec_PkgText.T11 : Bool × List (List Nat × List Nat) := (true, [([], []), ([0], [0]), ([], []), ([2], [2]), ([], []), ([3, 4], [3, 4]), ([5], [5]), ([6], [6]), ([], []), ([8], [8]), ([], []), ([9, 10], [9, 10]), ([11], [11]), ([12], [12]), ([7, 13], [7, 13]), ([1, 14], [1, 14]), ([15, 14, 0, 1, 2, 3, 4, 5, 6, 7, 8, 9, 10, 11, 12, 13, 14, 15], [0, 15])])
def spec_PkgText.B11 : List Nat := [0, 1, 0, 4, 0, 28, 60, 124, 0, 256, 0, 1792, 3840, 7936, 16380, 32767, 65535]
theorem spec_PkgText.tab11 : rtab .any (opsOf Tryd.f22 11) = spec_PkgText.T11 := by kernel_rfl
theorem spec_PkgText.bits11 : waitsOk spec_PkgText.T11.2 spec_PkgText.B11 = true := by kernel_rfl
set_option maxHeartbeats 8000000 in
set_option maxRecDepth 100000 in
theorem spec_PkgText.calls (k : Nat) (a0_0 : Int) (a0_1 : Int) (A0_2 : Option Addr) (c0_2 : Nat) (l0_2 : List (S67)) (A0_3 : Option Addr) (c0_3 : Nat) (l0_3 : List (S69)) (r : ByteArray) (w : World) (hr0_2 : Kd.C k67 w A0_2 l0_2.length l0_2) (hc0_2 : l0_2.length ≤ c0_2) (hr0_3 : Kd.C k69 w A0_3 l0_3.length l0_3) (hc0_3 : l0_3.length ≤ c0_3) (h : spec_PkgText.f k a0_0 a0_1 l0_2 l0_3 = some r) :
  Calls Tryd.prog 22 #[.agg #[.int .i64 a0_0, .int .i64 a0_1, .slice A0_2 l0_2.length c0_2, .slice A0_3 l0_3.length c0_3]] w fun e w' => e = .returned (.string r) ∧ Below w.heap.size w w' := by
 have hu31 := Tryd.underlying31; have HR0_2 := aM hr0_2; have HC0_2 := aM hc0_2; clear hr0_2 hc0_2; have HR0_3 := aM hr0_3; have HC0_3 := aM hc0_3; clear hr0_3 hc0_3; have HB := aM (Below.refl w.heap.size w); have H : ((spec_PkgOk.f k a0_0 a0_1 l0_2 l0_3).bind fun t271 => (if t271 = true then ((spec_l1Name.f k a0_0 a0_1).bind fun t272 => (spec_PkgText.l0 k t272 0 a0_0 a0_1 l0_2 l0_3)) else (some (⟨#[]⟩ : ByteArray)))) = some r := h; clear h; replace H := Option.bind_eq_some_iff.mp H; obtain ⟨t271, A20, H⟩ := H; (try dsimp only at H); have A2 := aM A20; clear A20
 by_cases c3 : t271 = true
 ·subst c3; replace H := zy1 H; replace H := Option.bind_eq_some_iff.mp H; obtain ⟨t272, A40, H⟩ := H; (try dsimp only at H); have A4 := aM A40; clear A40; have H' := aM H; clear H
  go_enter Tryd.func22, Tryd.ntmps22
  go_wp2_with (first | ((with_reducible refine gate_dst (N := 1) rfl ?_); refine zbx 1 #[.int .i64 a0_0, .int .i64 a0_1, .slice A0_2 l0_2.length c0_2, .slice A0_3 l0_3.length c0_3] 31 ?_; intro gb270 hg w5 hbox hb; have _ := aM (below_step (zB HB.1) hb); have _ := aM (hbox); have _ := aM (zge hg (zB HB.1)); have _ := aM (zge hg (zB HB.1)); clear HB; rename_i HB BK270 GW270 GE270; clear hb hbox hg; obtain ⟨hcz6_0, hcz6_1, hcz6_2, hcz6_3, hfz6_0, hfz6_1, hfz6_2, hfz6_3⟩ := zc4f BK270.1) | ((with_reducible refine gate_callee (f := 60) rfl ?_); refine zgL (some 7) Tryd.func60 #[.agg #[.int .i64 a0_0, .int .i64 a0_1, .slice A0_2 l0_2.length c0_2, .slice A0_3 l0_3.length c0_3]] ?_; (with_reducible refine (spec_PkgOk.calls k a0_0 a0_1 _ _ l0_2 _ _ l0_3 true _ ?side1 ?side2 ?side3 ?side4 A2.1).mono ?_); (case side1 => exact zC (Kd.C_below HR0_2.1 HB.1)); (case side2 => exact HC0_2.1); (case side3 => exact zC (Kd.C_below HR0_3.1 HB.1)); (case side4 => exact HC0_3.1); rintro e w7 ⟨rfl, hb⟩; refine ⟨_, rfl, ?_⟩; have _ := aM (blk_below (zK BK270.1) hb); have _ := aM (below_step (zB1 HB.1 GE270.1) hb); clear BK270 HB; rename_i BK270 HB; (try clear hb); (try clear hb2); (try clear hk); (try clear hi); obtain ⟨hcz8_0, hcz8_1, hcz8_2, hcz8_3, hfz8_0, hfz8_1, hfz8_2, hfz8_3⟩ := zc4f BK270.1) | ((with_reducible refine gate_callee (f := 61) rfl ?_); refine zgL (some 13) Tryd.func61 #[.int .i64 a0_0, .int .i64 a0_1] ?_; (with_reducible refine (spec_l1Name.calls k a0_0 a0_1 t272 _ A4.1).mono ?_); rintro e w9 ⟨rfl, hb⟩; refine ⟨_, rfl, ?_⟩; have _ := aM (blk_below (zK BK270.1) hb); have _ := aM (below_step (zB1 HB.1 GE270.1) hb); clear BK270 HB; rename_i BK270 HB; (try clear hb); (try clear hb2); (try clear hk); (try clear hi)))
  go_loopg [3, 4] k (fun kq v3 v4 w' => ∃ (x3_1 : ByteArray) (x4_1 : Int), v3 = .string x3_1 ∧ v4 = .int .i64 x4_1 ∧ Aside0 (spec_PkgText.l0 kq x3_1 x4_1 a0_0 a0_1 l0_2 l0_3 = some r) ∧ Aside0 (kq ≤ k) ∧ Aside0 (w'.heap[gb270]? = some (.cells #[.int .i64 a0_0, .int .i64 a0_1, (.slice A0_2 l0_2.length c0_2), (.slice A0_3 l0_3.length c0_3)] 31 (0, 0))) ∧ Aside0 (Below w.heap.size w w'))
  case atStart => exact ⟨(t272), (0), (by first | rfl | (simp; done) | (simp [*]; done)), (by first | rfl | (simp; done) | (simp [*]; done)), H', ⟨Nat.le_refl _⟩, ⟨zK BK270.1⟩, ⟨zB1 HB.1 GE270.1⟩⟩
  case round =>
   clear H'
   try clear c2
   try clear p2
   try clear c3
   try clear c6
   try clear hcz6_0
   try clear hcz6_1
   try clear hcz6_2
   try clear hcz6_3
   try clear hcz8_0
   try clear hcz8_1
   try clear hcz8_2
   try clear hcz8_3
   try clear hfz6_0
   try clear hfz6_1
   try clear hfz6_2
   try clear hfz6_3
   try clear hfz8_0
   try clear hfz8_1
   try clear hfz8_2
   try clear hfz8_3
   obtain ⟨x3_1, x4_1, rfl, rfl, HA, HK1, BK270, HB⟩ := hrel; cases gk with
   | zero => exact absurd HA.1 (by simp [spec_PkgText.l0])
   | succ k1 =>
    have H := HA.1; clear HA; simp only [spec_PkgText.l0] at H
    by_cases c10 : x4_1 < (l0_2.length : Int)
    ·rw [if_pos c10] at H; have c10b0 : decide (x4_1 < (l0_2.length : Int)) = true := decide_eq_true c10; clear c10; replace H := zif H; obtain ⟨c11, H⟩ := H; have c11b0 := eq_true c11; have c11b1 : decide (x3_1.size + 1 ≤ 9223372036854775807) = true := decide_eq_true c11
     try have c11b2 : (9223372036854775807 < x3_1.size + 1) = False := eq_false (Nat.not_lt.2 c11)
     replace H := zif H; obtain ⟨c12, H⟩ := H; have c12b0 : decide (0 ≤ x4_1) = true := decide_eq_true c12; clear c12; replace H := Option.bind_eq_some_iff.mp H; obtain ⟨t274, A130, H⟩ := H; (try dsimp only at H); have A13 := aM A130; clear A130; replace H := zif H; obtain ⟨c14, H⟩ := H; have c14b0 := eq_true c14; have c14b1 : decide ((x3_1 ++ (⟨#[32]⟩ : ByteArray)).size + t274.size ≤ 9223372036854775807) = true := decide_eq_true c14
     try have c14b2 : (9223372036854775807 < (x3_1 ++ (⟨#[32]⟩ : ByteArray)).size + t274.size) = False := eq_false (Nat.not_lt.2 c14)
     have c14b9 : (9223372036854775807 < x3_1.size + 1 + t274.size) = False := eq_false (by have h_ := c14; simp only [ByteArray.size_append, show (⟨#[32]⟩ : ByteArray).size = 1 from rfl, show (⟨#[58]⟩ : ByteArray).size = 1 from rfl] at h_; omega); replace H := zif H; obtain ⟨c15, H⟩ := H; have c15b0 := eq_true c15; have c15b1 : decide (((x3_1 ++ (⟨#[32]⟩ : ByteArray)) ++ t274).size + 1 ≤ 9223372036854775807) = true := decide_eq_true c15
     try have c15b2 : (9223372036854775807 < ((x3_1 ++ (⟨#[32]⟩ : ByteArray)) ++ t274).size + 1) = False := eq_false (Nat.not_lt.2 c15)
     have c15b9 : (9223372036854775807 < x3_1.size + 1 + t274.size + 1) = False := eq_false (by have h_ := c15; simp only [ByteArray.size_append, show (⟨#[32]⟩ : ByteArray).size = 1 from rfl, show (⟨#[58]⟩ : ByteArray).size = 1 from rfl] at h_; omega); replace H := Option.bind_eq_some_iff.mp H; obtain ⟨t276, A160, H⟩ := H; (try dsimp only at H); have A16 := aM A160; clear A160; replace H := zif H; obtain ⟨c17, H⟩ := H; have c17b0 := eq_true c17; have c17b1 : decide ((((x3_1 ++ (⟨#[32]⟩ : ByteArray)) ++ t274) ++ (⟨#[58]⟩ : ByteArray)).size + t276.size ≤ 9223372036854775807) = true := decide_eq_true c17
     try have c17b2 : (9223372036854775807 < (((x3_1 ++ (⟨#[32]⟩ : ByteArray)) ++ t274) ++ (⟨#[58]⟩ : ByteArray)).size + t276.size) = False := eq_false (Nat.not_lt.2 c17)
     have c17b9 : (9223372036854775807 < x3_1.size + 1 + t274.size + 1 + t276.size) = False := eq_false (by have h_ := c17; simp only [ByteArray.size_append, show (⟨#[32]⟩ : ByteArray).size = 1 from rfl, show (⟨#[58]⟩ : ByteArray).size = 1 from rfl] at h_; omega); have H' := aM H; clear H; obtain ⟨hcz18_0, hcz18_1, hcz18_2, hcz18_3, hfz18_0, hfz18_1, hfz18_2, hfz18_3⟩ := zc4f BK270.1
     try go_wp2
     have _ := aM (blk_drew BK270.1); have _ := aM (below_drew1 HB.1); clear BK270 HB; rename_i BK270 HB; have p273 : 0 ≤ (x4_1 : Int) := zd; have q273 : x4_1 < (l0_2.length : Int) := zd; obtain ⟨ad273, e273, hx273_0, hx273_1⟩ := at_T67 HR0_2.1 x4_1 p273 q273; have hw273_1 := hx273_1; have hw273_0 := hx273_0; cases e273; replace hx273_0 := (HB.1.cell (World.block_lt_of_cell? w _ hx273_0)).trans hx273_0; replace hx273_1 := (HB.1.cell (World.block_lt_of_cell? w _ hx273_1)).trans hx273_1; replace p273 := eq_true p273; replace q273 := eq_true q273; have p275 : 0 ≤ (x4_1 : Int) := zd; have q275 : x4_1 < (l0_2.length : Int) := zd; obtain ⟨ad275, e275, hx275_0, hx275_1⟩ := at_T67 HR0_2.1 x4_1 p275 q275; have hw275_1 := hx275_1; have hw275_0 := hx275_0; obtain rfl : ad273 = ad275 := (by injection e275); replace hx275_0 := (HB.1.cell (World.block_lt_of_cell? w _ hx275_0)).trans hx275_0; replace hx275_1 := (HB.1.cell (World.block_lt_of_cell? w _ hx275_1)).trans hx275_1; replace p275 := eq_true p275; replace q275 := eq_true q275
     refine start_ (n := 20) (S := fun w' => w'.cell? ⟨gb270, 0, none⟩ = some (.int .i64 a0_0) ∧ w'.cell? ⟨gb270, 1, none⟩ = some (.int .i64 a0_1) ∧ w'.cell? ⟨gb270, 2, none⟩ = some (.slice (some ad273) l0_2.length c0_2) ∧ w'.cell? ⟨gb270, 3, none⟩ = some (.slice A0_3 l0_3.length c0_3) ∧ w'.cell? (ad273.add ((x4_1).toNat * 2)) = some (.int .i64 ((rd_T67 l0_2 x4_1).f0)) ∧ w'.cell? ⟨(ad273.add ((x4_1).toNat * 2)).block, (ad273.add ((x4_1).toNat * 2)).off + 1, none⟩ = some (.int .i64 ((rd_T67 l0_2 x4_1).f1)) ∧ w'.cell? (ad273.add ((x4_1).toNat * 2)) = some (.int .i64 ((rd_T67 l0_2 x4_1).f0)) ∧ w'.cell? ⟨(ad273.add ((x4_1).toNat * 2)).block, (ad273.add ((x4_1).toNat * 2)).off + 1, none⟩ = some (.int .i64 ((rd_T67 l0_2 x4_1).f1))) (ds := []) (zA 20 0) (by kernel_rfl) rfl rfl ⟨(blk_cell BK270.1 0).trans rfl, (blk_cell BK270.1 1).trans rfl, (blk_cell BK270.1 2).trans rfl, (blk_cell BK270.1 3).trans rfl, ((HB.1.cell (World.block_lt_of_cell? w _ hw273_0)).trans hw273_0), ((HB.1.cell (World.block_lt_of_cell? w _ hw273_1)).trans hw273_1), ((HB.1.cell (World.block_lt_of_cell? w _ hw275_0)).trans hw275_0), ((HB.1.cell (World.block_lt_of_cell? w _ hw275_1)).trans hw275_1)⟩ (fun hHeld => ?_); refine with_tabW spec_PkgText.tab7 spec_PkgText.bits7 (fun HT_ HW_ => ?_)
     generalize wr.drew = w19 at BK270 HB hx273_0 hx273_1 hx275_0 hx275_1 hHeld ⊢; refine zu HT_ 0 (some 21) (zA 20 1) ?_; refine zu HT_ 1 (some 22) (zA 20 3) ?_; refine zu HT_ 2 (some 23) (zA 20 7) ?_; refine zu HT_ 4 (some 25) (zA 20 23) ?_; refine zu HT_ 11 (some 32) (zA 20 2071) ?_; refine zu HT_ 13 (some 34) (zA 20 10263) ?_; refine take_ (i := 3) (N := some 24) (v := ?_) (a' := ?_) (zA 20 10271) rfl rfl (take_ofW HT_.1 HW_.1 (by kernel_rfl)) (fun _ _ _ h => h) (Or.inl ⟨by rfl, ?_⟩) hHeld ?_ ?_; rotate_left
     ·rintro w' ⟨s0, s1, s2, s3, s4, s5, s6, s7⟩
      go_simp
      (with_reducible rfl)
     rotate_left
     ·simp only [zp0, zp1, zp2, zp3, zp4, i64_w, i32_w]; rfl
     refine zu HT_ 5 (some 26) (zA 20 10303) ?_; refine zu HT_ 6 (some 27) (zA 20 10367) ?_; refine take_ (i := 7) (N := some 28) (v := ?_) (a' := ?_) (zA 20 10495) rfl rfl (take_ofW HT_.1 HW_.1 (by kernel_rfl)) (fun _ _ _ h => h) (Or.inl ⟨by rfl, ?_⟩) hHeld ?_ ?_; rotate_left
     ·rintro w' ⟨s0, s1, s2, s3, s4, s5, s6, s7⟩
      go_simp
      (with_reducible rfl)
     rotate_left
     ·simp only [zp0, zp1, zp2, zp3, zp4, i64_w, i32_w]; rfl
     refine take_ (i := 12) (N := some 33) (v := ?_) (a' := ?_) (zA 20 14591) rfl rfl (take_ofW HT_.1 HW_.1 (by kernel_rfl)) (fun _ _ _ h => h) (Or.inl ⟨by rfl, ?_⟩) hHeld ?_ ?_; rotate_left
     ·rintro w' ⟨s0, s1, s2, s3, s4, s5, s6, s7⟩
      go_simp
      (with_reducible rfl)
     rotate_left
     ·simp only [zp0, zp1, zp2, zp3, zp4, i64_w, i32_w]; rfl
     refine zu HT_ 14 (some 35) (zA 20 30975) ?_; refine zu HT_ 15 (some 36) (zA 20 63743) ?_; refine take_ (i := 16) (N := some 37) (v := ?_) (a' := ?_) (zA 20 129279) rfl rfl (take_ofW HT_.1 HW_.1 (by kernel_rfl)) (fun _ _ _ h => h) (Or.inl ⟨by rfl, ?_⟩) hHeld ?_ ?_; rotate_left
     ·rintro w' ⟨s0, s1, s2, s3, s4, s5, s6, s7⟩
      go_simp
      (with_reducible rfl)
     rotate_left
     ·simp only [zp0, zp1, zp2, zp3, zp4, i64_w, i32_w]; rfl
     refine zo HT_ 8 (some 29) (zA 20 129535) (fun K hK => ?_); refine zg Tryd.func62 #[.int .i64 ((rd_T67 l0_2 x4_1).f0)] ?_; (with_reducible refine (spec_l6Dec.calls k1 ((rd_T67 l0_2 x4_1).f0) t274 _ A13.1).mono ?_); rintro e w20 ⟨rfl, hb⟩; refine ⟨_, rfl, ?_⟩; have _ := aM (blk_below (zK BK270.1) hb); have _ := aM (below_step (zB1 HB.1 GE270.1) hb); clear BK270 HB; rename_i BK270 HB; (try clear hb); (try clear hb2); (try clear hk); (try clear hi); refine hK.out _ _ ⟨(blk_cell BK270.1 0).trans rfl, (blk_cell BK270.1 1).trans rfl, (blk_cell BK270.1 2).trans rfl, (blk_cell BK270.1 3).trans rfl, ((HB.1.cell (World.block_lt_of_cell? w _ hw273_0)).trans hw273_0), ((HB.1.cell (World.block_lt_of_cell? w _ hw273_1)).trans hw273_1), ((HB.1.cell (World.block_lt_of_cell? w _ hw275_0)).trans hw275_0), ((HB.1.cell (World.block_lt_of_cell? w _ hw275_1)).trans hw275_1)⟩ (fun hHeld => ?_); clear hK K; refine zn (some 29) ?_; refine zu HT_ 9 (some 30) (zA 20 130047) ?_; refine zu HT_ 10 (some 31) (zA 20 131071) ?_; refine zo HT_ 17 (some 38) (zA 20 262143) (fun K hK => ?_); refine zg Tryd.func62 #[.int .i64 ((rd_T67 l0_2 x4_1).f1)] ?_; (with_reducible refine (spec_l6Dec.calls k1 ((rd_T67 l0_2 x4_1).f1) t276 _ A16.1).mono ?_); rintro e w21 ⟨rfl, hb⟩; refine ⟨_, rfl, ?_⟩; have _ := aM (blk_below (zK BK270.1) hb); have _ := aM (below_step (zB1 HB.1 GE270.1) hb); clear BK270 HB; rename_i BK270 HB; (try clear hb); (try clear hb2); (try clear hk); (try clear hi); refine hK.out _ _ ⟨(blk_cell BK270.1 0).trans rfl, (blk_cell BK270.1 1).trans rfl, (blk_cell BK270.1 2).trans rfl, (blk_cell BK270.1 3).trans rfl, ((HB.1.cell (World.block_lt_of_cell? w _ hw273_0)).trans hw273_0), ((HB.1.cell (World.block_lt_of_cell? w _ hw273_1)).trans hw273_1), ((HB.1.cell (World.block_lt_of_cell? w _ hw275_0)).trans hw275_0), ((HB.1.cell (World.block_lt_of_cell? w _ hw275_1)).trans hw275_1)⟩ (fun hHeld => ?_); clear hK K; refine zn (some 38) ?_; refine zu HT_ 18 (some 39) (zA 20 524287) ?_; refine zu HT_ 19 (some 3) (zA 20 1048575) ?_; refine done_ (done_of HT_.1 (by kernel_rfl)) ?_
     try go_wp2
     go_roundg k1
     case measure => have := HK1.1; omega
     case rel => exact ⟨((((x3_1 ++ (⟨#[32]⟩ : ByteArray)) ++ t274) ++ (⟨#[58]⟩ : ByteArray)) ++ t276), (wrap64 (x4_1 + 1)), (by first | rfl | (simp; done) | (simp [*]; done)), (by first | rfl | (simp; done) | (simp [*]; done)), H', ⟨by have := HK1.1; omega⟩, ⟨zK BK270.1⟩, ⟨zB1 HB.1 GE270.1⟩⟩
    ·rw [if_neg c10] at H; have c10b0 : decide (x4_1 < (l0_2.length : Int)) = false := decide_eq_false c10; clear c10; have H' := aM H; clear H; obtain ⟨hcz22_0, hcz22_1, hcz22_2, hcz22_3, hfz22_0, hfz22_1, hfz22_2, hfz22_3⟩ := zc4f BK270.1
     go_wp2
     go_loopg [3, 5] k1 (fun kq v3 v5 w' => ∃ (x3_2 : ByteArray) (x5_2 : Int), v3 = .string x3_2 ∧ v5 = .int .i64 x5_2 ∧ Aside0 (spec_PkgText.l1 kq x3_2 x5_2 a0_0 a0_1 l0_2 l0_3 = some r) ∧ Aside0 (kq ≤ k1) ∧ Aside0 (w'.heap[gb270]? = some (.cells #[.int .i64 a0_0, .int .i64 a0_1, (.slice A0_2 l0_2.length c0_2), (.slice A0_3 l0_3.length c0_3)] 31 (0, 0))) ∧ Aside0 (Below w.heap.size w w'))
     case atStart => exact ⟨(x3_1), (0), (by first | rfl | (simp; done) | (simp [*]; done)), (by first | rfl | (simp; done) | (simp [*]; done)), H', ⟨Nat.le_refl _⟩, ⟨zK BK270.1⟩, ⟨zB1 HB.1 GE270.1⟩⟩
     case round =>
      clear H'
      try clear c1
      try clear c2
      try clear p2
      try clear q2
      try clear hx2
      try clear c3
      try clear c6
      try clear p6
      try clear c10
      try clear c10b0
      try clear c11
      try clear c11b0
      try clear c11b1
      try clear c11b2
      try clear c12
      try clear c12b0
      try clear c14
      try clear c14b0
      try clear c14b1
      try clear c14b2
      try clear c15
      try clear c15b0
      try clear c15b1
      try clear c15b2
      try clear c17
      try clear c17b0
      try clear c17b1
      try clear c17b2
      try clear c22
      try clear hcz18_0
      try clear hcz18_1
      try clear hcz18_2
      try clear hcz18_3
      try clear hcz22_0
      try clear hcz22_1
      try clear hcz22_2
      try clear hcz22_3
      try clear hcz6_0
      try clear hcz6_1
      try clear hcz6_2
      try clear hcz6_3
      try clear hcz8_0
      try clear hcz8_1
      try clear hcz8_2
      try clear hcz8_3
      try clear hfz18_0
      try clear hfz18_1
      try clear hfz18_2
      try clear hfz18_3
      try clear hfz22_0
      try clear hfz22_1
      try clear hfz22_2
      try clear hfz22_3
      try clear hfz6_0
      try clear hfz6_1
      try clear hfz6_2
      try clear hfz6_3
      try clear hfz8_0
      try clear hfz8_1
      try clear hfz8_2
      try clear hfz8_3
      try clear hx273_0
      try clear hx273_1
      try clear hx275_0
      try clear hx275_1
      try clear p2
      try clear p273
      try clear p275
      try clear q273
      try clear q275
      obtain ⟨x3_2, x5_2, rfl, rfl, HA, HK2, BK270, HB⟩ := hrel; cases gk with
      | zero => exact absurd HA.1 (by simp [spec_PkgText.l1])
      | succ k2 =>
       have H := HA.1; clear HA; simp only [spec_PkgText.l1] at H
       by_cases c23 : x5_2 < (l0_3.length : Int)
       ·rw [if_pos c23] at H; have c23b0 : decide (x5_2 < (l0_3.length : Int)) = true := decide_eq_true c23; clear c23; replace H := zif H; obtain ⟨c24, H⟩ := H; have c24b0 := eq_true c24; have c24b1 : decide (x3_2.size + 1 ≤ 9223372036854775807) = true := decide_eq_true c24
        try have c24b2 : (9223372036854775807 < x3_2.size + 1) = False := eq_false (Nat.not_lt.2 c24)
        replace H := zif H; obtain ⟨c25, H⟩ := H; have c25b0 : decide (0 ≤ x5_2) = true := decide_eq_true c25; clear c25; replace H := Option.bind_eq_some_iff.mp H; obtain ⟨t279, A260, H⟩ := H; (try dsimp only at H); have A26 := aM A260; clear A260; replace H := zif H; obtain ⟨c27, H⟩ := H; have c27b0 := eq_true c27; have c27b1 : decide ((x3_2 ++ (⟨#[32]⟩ : ByteArray)).size + t279.size ≤ 9223372036854775807) = true := decide_eq_true c27
        try have c27b2 : (9223372036854775807 < (x3_2 ++ (⟨#[32]⟩ : ByteArray)).size + t279.size) = False := eq_false (Nat.not_lt.2 c27)
        have c27b9 : (9223372036854775807 < x3_2.size + 1 + t279.size) = False := eq_false (by have h_ := c27; simp only [ByteArray.size_append, show (⟨#[32]⟩ : ByteArray).size = 1 from rfl, show (⟨#[58]⟩ : ByteArray).size = 1 from rfl] at h_; omega); have H' := aM H; clear H; obtain ⟨hcz28_0, hcz28_1, hcz28_2, hcz28_3, hfz28_0, hfz28_1, hfz28_2, hfz28_3⟩ := zc4f BK270.1
        try go_wp2
        have _ := aM (blk_drew BK270.1); have _ := aM (below_drew1 HB.1); clear BK270 HB; rename_i BK270 HB; have p277 : 0 ≤ (x5_2 : Int) := zd; have q277 : x5_2 < (l0_3.length : Int) := zd; obtain ⟨ad277, e277, hx277_0, hx277_1⟩ := at_T69 HR0_3.1 x5_2 p277 q277; have hw277_1 := hx277_1; have hw277_0 := hx277_0; cases e277; replace hx277_0 := (HB.1.cell (World.block_lt_of_cell? w _ hx277_0)).trans hx277_0; replace hx277_1 := (HB.1.cell (World.block_lt_of_cell? w _ hx277_1)).trans hx277_1; replace p277 := eq_true p277; replace q277 := eq_true q277; have p278 : 0 ≤ (x5_2 : Int) := zd; have q278 : x5_2 < (l0_3.length : Int) := zd; obtain ⟨ad278, e278, hx278_0, hx278_1⟩ := at_T69 HR0_3.1 x5_2 p278 q278; have hw278_1 := hx278_1; have hw278_0 := hx278_0; obtain rfl : ad277 = ad278 := (by injection e278); replace hx278_0 := (HB.1.cell (World.block_lt_of_cell? w _ hx278_0)).trans hx278_0; replace hx278_1 := (HB.1.cell (World.block_lt_of_cell? w _ hx278_1)).trans hx278_1; replace p278 := eq_true p278; replace q278 := eq_true q278
        refine start_ (n := 17) (S := fun w' => w'.cell? ⟨gb270, 0, none⟩ = some (.int .i64 a0_0) ∧ w'.cell? ⟨gb270, 1, none⟩ = some (.int .i64 a0_1) ∧ w'.cell? ⟨gb270, 2, none⟩ = some (.slice A0_2 l0_2.length c0_2) ∧ w'.cell? ⟨gb270, 3, none⟩ = some (.slice (some ad277) l0_3.length c0_3) ∧ w'.cell? (ad277.add ((x5_2).toNat * 2)) = some (.int .i64 ((rd_T69 l0_3 x5_2).f0)) ∧ w'.cell? ⟨(ad277.add ((x5_2).toNat * 2)).block, (ad277.add ((x5_2).toNat * 2)).off + 1, none⟩ = some (.int .i64 ((rd_T69 l0_3 x5_2).f1)) ∧ w'.cell? (ad277.add ((x5_2).toNat * 2)) = some (.int .i64 ((rd_T69 l0_3 x5_2).f0)) ∧ w'.cell? ⟨(ad277.add ((x5_2).toNat * 2)).block, (ad277.add ((x5_2).toNat * 2)).off + 1, none⟩ = some (.int .i64 ((rd_T69 l0_3 x5_2).f1))) (ds := []) (zA 17 0) (by kernel_rfl) rfl rfl ⟨(blk_cell BK270.1 0).trans rfl, (blk_cell BK270.1 1).trans rfl, (blk_cell BK270.1 2).trans rfl, (blk_cell BK270.1 3).trans rfl, ((HB.1.cell (World.block_lt_of_cell? w _ hw277_0)).trans hw277_0), ((HB.1.cell (World.block_lt_of_cell? w _ hw277_1)).trans hw277_1), ((HB.1.cell (World.block_lt_of_cell? w _ hw278_0)).trans hw278_0), ((HB.1.cell (World.block_lt_of_cell? w _ hw278_1)).trans hw278_1)⟩ (fun hHeld => ?_); refine with_tabW spec_PkgText.tab11 spec_PkgText.bits11 (fun HT_ HW_ => ?_)
        generalize wr.drew = w29 at BK270 HB hx277_0 hx277_1 hx278_0 hx278_1 hHeld ⊢; refine zu HT_ 0 (some 47) (zA 17 1) ?_; refine zu HT_ 1 (some 48) (zA 17 3) ?_; refine zu HT_ 2 (some 49) (zA 17 7) ?_; refine zu HT_ 4 (some 51) (zA 17 23) ?_; refine zu HT_ 8 (some 55) (zA 17 279) ?_; refine zu HT_ 10 (some 57) (zA 17 1303) ?_; refine take_ (i := 3) (N := some 50) (v := ?_) (a' := ?_) (zA 17 1311) rfl rfl (take_ofW HT_.1 HW_.1 (by kernel_rfl)) (fun _ _ _ h => h) (Or.inl ⟨by rfl, ?_⟩) hHeld ?_ ?_; rotate_left
        ·rintro w' ⟨s0, s1, s2, s3, s4, s5, s6, s7⟩
         go_simp
         (with_reducible rfl)
        rotate_left
        ·simp only [zp0, zp1, zp2, zp3, zp4, i64_w, i32_w]; rfl
        refine zu HT_ 5 (some 52) (zA 17 1343) ?_; refine zu HT_ 6 (some 53) (zA 17 1407) ?_; refine take_ (i := 7) (N := some 54) (v := ?_) (a' := ?_) (zA 17 1535) rfl rfl (take_ofW HT_.1 HW_.1 (by kernel_rfl)) (fun _ _ _ h => h) (Or.inl ⟨by rfl, ?_⟩) hHeld ?_ ?_; rotate_left
        ·rintro w' ⟨s0, s1, s2, s3, s4, s5, s6, s7⟩
         go_simp
         (with_reducible rfl)
        rotate_left
        ·simp only [zp0, zp1, zp2, zp3, zp4, i64_w, i32_w]; rfl
        refine take_ (i := 9) (N := some 56) (v := ?_) (a' := ?_) (zA 17 2047) rfl rfl (take_ofW HT_.1 HW_.1 (by kernel_rfl)) (fun _ _ _ h => h) (Or.inl ⟨by rfl, ?_⟩) hHeld ?_ ?_; rotate_left
        ·rintro w' ⟨s0, s1, s2, s3, s4, s5, s6, s7⟩
         go_simp
         (with_reducible rfl)
        rotate_left
        ·simp only [zp0, zp1, zp2, zp3, zp4, i64_w, i32_w]; rfl
        refine zu HT_ 11 (some 58) (zA 17 4095) ?_; refine zu HT_ 12 (some 59) (zA 17 8191) ?_; refine take_ (i := 13) (N := some 60) (v := ?_) (a' := ?_) (zA 17 16383) rfl rfl (take_ofW HT_.1 HW_.1 (by kernel_rfl)) (fun _ _ _ h => h) (Or.inl ⟨by rfl, ?_⟩) hHeld ?_ ?_; rotate_left
        ·rintro w' ⟨s0, s1, s2, s3, s4, s5, s6, s7⟩
         go_simp
         (with_reducible rfl)
        rotate_left
        ·simp only [zp0, zp1, zp2, zp3, zp4, i64_w, i32_w]; rfl
        refine zo HT_ 14 (some 61) (zA 17 32767) (fun K hK => ?_); refine zg Tryd.func61 #[.int .i64 ((rd_T69 l0_3 x5_2).f0), .int .i64 ((rd_T69 l0_3 x5_2).f1)] ?_; (with_reducible refine (spec_l1Name.calls k2 ((rd_T69 l0_3 x5_2).f0) ((rd_T69 l0_3 x5_2).f1) t279 _ A26.1).mono ?_); rintro e w30 ⟨rfl, hb⟩; refine ⟨_, rfl, ?_⟩; have _ := aM (blk_below (zK BK270.1) hb); have _ := aM (below_step (zB1 HB.1 GE270.1) hb); clear BK270 HB; rename_i BK270 HB; (try clear hb); (try clear hb2); (try clear hk); (try clear hi); refine hK.out _ _ ⟨(blk_cell BK270.1 0).trans rfl, (blk_cell BK270.1 1).trans rfl, (blk_cell BK270.1 2).trans rfl, (blk_cell BK270.1 3).trans rfl, ((HB.1.cell (World.block_lt_of_cell? w _ hw277_0)).trans hw277_0), ((HB.1.cell (World.block_lt_of_cell? w _ hw277_1)).trans hw277_1), ((HB.1.cell (World.block_lt_of_cell? w _ hw278_0)).trans hw278_0), ((HB.1.cell (World.block_lt_of_cell? w _ hw278_1)).trans hw278_1)⟩ (fun hHeld => ?_); clear hK K; refine zn (some 61) ?_; refine zu HT_ 15 (some 62) (zA 17 65535) ?_; refine zu HT_ 16 (some 3) (zA 17 131071) ?_; refine done_ (done_of HT_.1 (by kernel_rfl)) ?_
        try go_wp2
        go_roundg k2
        case measure => have := HK1.1; have := HK2.1; omega
        case rel => exact ⟨((x3_2 ++ (⟨#[32]⟩ : ByteArray)) ++ t279), (wrap64 (x5_2 + 1)), (by first | rfl | (simp; done) | (simp [*]; done)), (by first | rfl | (simp; done) | (simp [*]; done)), H', ⟨by have := HK1.1; have := HK2.1; omega⟩, ⟨zK BK270.1⟩, ⟨zB1 HB.1 GE270.1⟩⟩
       ·rw [if_neg c23] at H; have c23b0 : decide (x5_2 < (l0_3.length : Int)) = false := decide_eq_false c23; clear c23; obtain rfl := Option.some.inj H; obtain ⟨hcz31_0, hcz31_1, hcz31_2, hcz31_3, hfz31_0, hfz31_1, hfz31_2, hfz31_3⟩ := zc4f BK270.1
        go_wp2
        go_ret
        exact ⟨by first | rfl | (simp [errW_none, errW_some] <;> rfl) | (simp [*, errW_none, errW_some] <;> rfl), by exact zB1 HB.1 GE270.1⟩
 ·replace c3 := Bool.eq_false_iff.mpr c3; subst c3; replace H := zy0 H; obtain rfl := Option.some.inj H
  go_enter Tryd.func22, Tryd.ntmps22
  go_wp2_with (first | ((with_reducible refine gate_dst (N := 1) rfl ?_); refine zbx 1 #[.int .i64 a0_0, .int .i64 a0_1, .slice A0_2 l0_2.length c0_2, .slice A0_3 l0_3.length c0_3] 31 ?_; intro gb270 hg w32 hbox hb; have _ := aM (below_step (zB HB.1) hb); have _ := aM (hbox); have _ := aM (zge hg (zB HB.1)); have _ := aM (zge hg (zB HB.1)); clear HB; rename_i HB BK270 GW270 GE270; clear hb hbox hg; obtain ⟨hcz33_0, hcz33_1, hcz33_2, hcz33_3, hfz33_0, hfz33_1, hfz33_2, hfz33_3⟩ := zc4f BK270.1) | ((with_reducible refine gate_callee (f := 60) rfl ?_); refine zgL (some 7) Tryd.func60 #[.agg #[.int .i64 a0_0, .int .i64 a0_1, .slice A0_2 l0_2.length c0_2, .slice A0_3 l0_3.length c0_3]] ?_; (with_reducible refine (spec_PkgOk.calls k a0_0 a0_1 _ _ l0_2 _ _ l0_3 false _ ?side1 ?side2 ?side3 ?side4 A2.1).mono ?_); (case side1 => exact zC (Kd.C_below HR0_2.1 HB.1)); (case side2 => exact HC0_2.1); (case side3 => exact zC (Kd.C_below HR0_3.1 HB.1)); (case side4 => exact HC0_3.1); rintro e w34 ⟨rfl, hb⟩; refine ⟨_, rfl, ?_⟩; have _ := aM (blk_below (zK BK270.1) hb); have _ := aM (below_step (zB1 HB.1 GE270.1) hb); clear BK270 HB; rename_i BK270 HB; (try clear hb); (try clear hb2); (try clear hk); (try clear hi)))
  go_ret
  exact ⟨by first | rfl | (simp [errW_none, errW_some] <;> rfl) | (simp [*, errW_none, errW_some] <;> rfl), by exact zB1 HB.1 GE270.1⟩

end Go.Proofs.YtkjgnnjcjkphbaaDoor.PFnIndexStrict
