-- printed for this claim by a program out of the translation, its tactics shortened by another
import Derived.Test.YtkjgnnjcjkphbaaDoorPFnIndexStrictx0
namespace Go.Proofs.YtkjgnnjcjkphbaaDoor.PFnIndexStrict
open Go.RowKit Go.Proofs.YtkjgnnjcjkphbaaDoorW.PrintWords Go.Proofs.YtkjgnnjcjkphbaaDoorW.PrintLast Go.Proofs.YtkjgnnjcjkphbaaDoorW.PrintMore
attribute [local go_sem] max2_int min2_int max_two min_two max_three min_three max_four min_four   -- for this text's walks alone
set_option linter.unusedVariables false
set_option linter.unusedSimpArgs false

theorem eqA40 (d : Nat) (w : World) (x0 y0 : Int) (x1 y1 : Int) (x2 y2 : Int) :
  (Op.equalIn (d + 2) 40 (.agg #[.int .i64 x0, .int .i64 x1, .int .i64 x2]) (.agg #[.int .i64 y0, .int .i64 y1, .int .i64 y2])).run Tryd.prog w = .ok (x0 == y0 && (x1 == y1 && (x2 == y2))) w := by
 refine eqA_of Tryd.underlying40 (by kernel_rfl) ?_
 refine eqf_cons (by rfl) (by go_simp; rfl) (by go_simp; rfl) (by go_simp) ?_
 refine eqf_cons (by rfl) (by go_simp; rfl) (by go_simp; rfl) (by go_simp) ?_
 exact eqf_last (by rfl) (by go_simp; rfl) (by go_simp; rfl) (by go_simp)

/-! ### spec_l6In: function 54 -/
theorem spec_l6In_b (w : World) (n a b : Int) (v : Bool) (h : inB_ n a b = v) : Calls Tryd.prog 54 #[.int .i64 n, .int .i64 a, .int .i64 b] w fun e w' => e = .returned (.bool v) ∧ w' = w := by
 subst h
 go_enter Tryd.func54, Tryd.ntmps54
 by_cases h1 : a ≤ n
 ·by_cases h2 : n ≤ b
  ·have e1 : inB_ n a b = true := by unfold inB_; rw [decide_eq_true h1, decide_eq_true h2]; rfl
   have d1 : decide (a ≤ n) = true := decide_eq_true h1
   have d2 : decide (n ≤ b) = true := decide_eq_true h2
   rw [e1]
   clear h1 h2 e1
   go_wp2
   go_ret
   exact ⟨by first | rfl | simp [*], rfl⟩
  ·have e1 : inB_ n a b = false := by unfold inB_; rw [decide_eq_false h2, Bool.and_false]
   have d1 : decide (a ≤ n) = true := decide_eq_true h1
   have d2 : decide (n ≤ b) = false := decide_eq_false h2
   rw [e1]
   clear h1 h2 e1
   go_wp2
   go_ret
   exact ⟨by first | rfl | simp [*], rfl⟩
 ·have e1 : inB_ n a b = false := by unfold inB_; rw [decide_eq_false h1, Bool.false_and]
  have d1 : decide (a ≤ n) = false := decide_eq_false h1
  rw [e1]
  clear h1 e1
  go_wp2
  go_ret
  exact ⟨by first | rfl | simp [*], rfl⟩
def spec_l6In.f (a0 : Int) (a1 : Int) (a2 : Int) : Option (Bool) := if a0 ≥ a1 then (some (decide (a0 ≤ a2))) else (some (false))
theorem spec_l6In.calls (a0 : Int) (a1 : Int) (a2 : Int) (r : Bool) (w : World) (h : spec_l6In.f a0 a1 a2 = some r) :
  Calls Tryd.prog 54 #[.int .i64 a0, .int .i64 a1, .int .i64 a2] w fun e w' => e = .returned (.bool r) ∧ Drawn0 w w' := by
 have e : inB_ a0 a1 a2 = r := by
  unfold spec_l6In.f at h; unfold inB_
  by_cases c : a0 ≥ a1
  ·rw [if_pos c] at h; rw [decide_eq_true c, Bool.true_and]; exact Option.some.inj h
  ·rw [if_neg c] at h; rw [decide_eq_false c, Bool.false_and]; exact Option.some.inj h
 exact (spec_l6In_b w a0 a1 a2 r e).mono fun _ _ h => ⟨h.1, by rw [h.2]; exact Drawn0.refl _⟩

/-! ### spec_l3Less: function 55 -/
def spec_l3Less.f (a0 : Int) (a1 : Int) (a2 : Int) (a3 : Int) : Option (Bool) := if a0 < a2 then (some true) else (if a0 = a2 then (some (decide (a1 < a3))) else (some false))
set_option maxHeartbeats 8000000 in
set_option maxRecDepth 100000 in
theorem spec_l3Less.calls (a0 : Int) (a1 : Int) (a2 : Int) (a3 : Int) (r : Bool) (w : World) (h : spec_l3Less.f a0 a1 a2 a3 = some r) :
  Calls Tryd.prog 55 #[.int .i64 a0, .int .i64 a1, .int .i64 a2, .int .i64 a3] w fun e w' => e = .returned (.bool r) ∧ Drawn0 w w' := by
 have H : (if a0 < a2 then (some true) else (if a0 = a2 then (some (decide (a1 < a3))) else (some false))) = some r := h; clear h
 by_cases c5 : a0 < a2
 ·rw [if_pos c5] at H; have c5b0 : decide (a0 < a2) = true := decide_eq_true c5; clear c5; obtain rfl := Option.some.inj H
  go_enter Tryd.func55, Tryd.ntmps55
  go_wp2
  go_ret
  exact ⟨by first | rfl | (simp; done) | (simp [*]; done), by repeat (first | exact Drawn0.refl _ | apply Drawn0.step)⟩
 ·rw [if_neg c5] at H; have c5b0 : decide (a0 < a2) = false := decide_eq_false c5; clear c5
  by_cases c6 : a0 = a2
  ·rw [if_pos c6] at H; have c6b0 : (a0 == a2) = true := beq_iff_eq.mpr c6; have c6b1 : (a0 != a2) = false := bne_eq_false_iff_eq.mpr c6; clear c6; obtain rfl := Option.some.inj H
   go_enter Tryd.func55, Tryd.ntmps55
   go_wp2
   go_ret
   exact ⟨by first | rfl | (simp; done) | (simp [*]; done), by repeat (first | exact Drawn0.refl _ | apply Drawn0.step)⟩
  ·rw [if_neg c6] at H; have c6b0 : (a0 == a2) = false := beq_eq_false_iff_ne.mpr c6; have c6b1 : (a0 != a2) = true := bne_iff_ne.mpr c6; obtain rfl := Option.some.inj H
   go_enter Tryd.func55, Tryd.ntmps55
   go_wp2
   go_ret
   exact ⟨by first | rfl | (simp; done) | (simp [*]; done), by repeat (first | exact Drawn0.refl _ | apply Drawn0.step)⟩

/-! ### spec_IndexOk: function 18 -/
mutual
def spec_IndexOk.j0 : Nat → Bool → Int → Int → List (S40) → Option (Bool)
 | 0, _, _, _, _ => none
 | k + 1, x20, x102000, x102001, x102002 => if x20 = true then (some false) else (spec_IndexOk.l0 k 0 x102000 x102001 x102002)
def spec_IndexOk.l0 : Nat → Int → Int → Int → List (S40) → Option (Bool)
 | 0, _, _, _, _ => none
 | k + 1, x3, x102000, x102001, x102002 => if x3 < (x102002.length : Int) then (if 0 ≤ x3 then ((spec_l6In.f ((rd_T40 x102002 x3).f0) 1 4).bind fun t106 => (if t106 = true then ((spec_l6In.f ((rd_T40 x102002 x3).f1) 1 5).bind fun t107 => (if t107 = true then ((spec_l6In.f ((rd_T40 x102002 x3).f2) 0 9972).bind fun t108 => (spec_IndexOk.j2 k x3 (!t108) x102000 x102001 x102002 ((rd_T40 x102002 x3).f0) ((rd_T40 x102002 x3).f1) ((rd_T40 x102002 x3).f2))) else (spec_IndexOk.j2 k x3 true x102000 x102001 x102002 ((rd_T40 x102002 x3).f0) ((rd_T40 x102002 x3).f1) ((rd_T40 x102002 x3).f2)))) else (spec_IndexOk.j2 k x3 true x102000 x102001 x102002 ((rd_T40 x102002 x3).f0) ((rd_T40 x102002 x3).f1) ((rd_T40 x102002 x3).f2)))) else (none)) else (some true)
def spec_IndexOk.j2 : Nat → Int → Bool → Int → Int → List (S40) → Int → Int → Int → Option (Bool)
 | 0, _, _, _, _, _, _, _, _ => none
 | k + 1, x3, x48, x102000, x102001, x102002, x106000, x106001, x106002 => if x48 = true then (some false) else (if x3 > 0 then (if 0 ≤ (wrap64 (x3 - 1)) then (if (wrap64 (x3 - 1)) < (x102002.length : Int) then ((spec_l3Less.f ((rd_T40 x102002 (wrap64 (x3 - 1))).f0) ((rd_T40 x102002 (wrap64 (x3 - 1))).f1) x106000 x106001).bind fun t111 => (if t111 = true then (spec_IndexOk.l0 k (wrap64 (x3 + 1)) x102000 x102001 x102002) else (some false))) else (none)) else (none)) else (spec_IndexOk.l0 k (wrap64 (x3 + 1)) x102000 x102001 x102002))
end
def spec_IndexOk.f (k : Nat) (a0_0 : Int) (a0_1 : Int) (l0_2 : List (S40)) : Option (Bool) := (spec_l6In.f a0_0 1 30).bind fun t102 => (if t102 = true then ((spec_l6In.f a0_1 0 60).bind fun t103 => (if t103 = true then (spec_IndexOk.j0 k (decide ((l0_2.length : Int) > 8)) a0_0 a0_1 l0_2) else (spec_IndexOk.j0 k true a0_0 a0_1 l0_2))) else (spec_IndexOk.j0 k true a0_0 a0_1 l0_2))
theorem spec_IndexOk.mono_l : ∀ k, (∀ y0 y1 y2 y3, LeO (spec_IndexOk.j0 k y0 y1 y2 y3) (spec_IndexOk.j0 (k + 1) y0 y1 y2 y3)) ∧ (∀ y0 y1 y2 y3, LeO (spec_IndexOk.l0 k y0 y1 y2 y3) (spec_IndexOk.l0 (k + 1) y0 y1 y2 y3)) ∧ (∀ y0 y1 y2 y3 y4 y5 y6 y7, LeO (spec_IndexOk.j2 k y0 y1 y2 y3 y4 y5 y6 y7) (spec_IndexOk.j2 (k + 1) y0 y1 y2 y3 y4 y5 y6 y7))
 | 0 => ⟨fun _ _ _ _ r h => by simp [spec_IndexOk.j0] at h, fun _ _ _ _ r h => by simp [spec_IndexOk.l0] at h, fun _ _ _ _ _ _ _ _ r h => by simp [spec_IndexOk.j2] at h⟩
 | k + 1 => by
  obtain ⟨ih0, ih1, ih2⟩ := spec_IndexOk.mono_l k
  refine ⟨?_, ?_, ?_⟩
  ·intro y0 y1 y2 y3
   unfold spec_IndexOk.j0
   repeat' first
   | (with_reducible exact ih0 _ _ _ _)
   | (with_reducible exact ih1 _ _ _ _)
   | (with_reducible exact ih2 _ _ _ _ _ _ _ _)
   | (with_reducible exact LeO.refl _)
   | (with_reducible exact LeO.none _)
   | (with_reducible refine LeO.ite ?_ ?_)
   | (with_reducible refine LeO.bind ?_ (fun _ => ?_))
   | exact ih0 _ _ _ _
   | exact ih1 _ _ _ _
   | exact ih2 _ _ _ _ _ _ _ _
   | exact LeO.none _
   | refine LeO.ite ?_ ?_
   | refine LeO.bind ?_ (fun _ => ?_)
  ·intro y0 y1 y2 y3
   unfold spec_IndexOk.l0
   repeat' first
   | (with_reducible exact ih0 _ _ _ _)
   | (with_reducible exact ih1 _ _ _ _)
   | (with_reducible exact ih2 _ _ _ _ _ _ _ _)
   | (with_reducible exact LeO.refl _)
   | (with_reducible exact LeO.none _)
   | (with_reducible refine LeO.ite ?_ ?_)
   | (with_reducible refine LeO.bind ?_ (fun _ => ?_))
   | exact ih0 _ _ _ _
   | exact ih1 _ _ _ _
   | exact ih2 _ _ _ _ _ _ _ _
   | exact LeO.none _
   | refine LeO.ite ?_ ?_
   | refine LeO.bind ?_ (fun _ => ?_)
  ·intro y0 y1 y2 y3 y4 y5 y6 y7
   unfold spec_IndexOk.j2
   repeat' first
   | (with_reducible exact ih0 _ _ _ _)
   | (with_reducible exact ih1 _ _ _ _)
   | (with_reducible exact ih2 _ _ _ _ _ _ _ _)
   | (with_reducible exact LeO.refl _)
   | (with_reducible exact LeO.none _)
   | (with_reducible refine LeO.ite ?_ ?_)
   | (with_reducible refine LeO.bind ?_ (fun _ => ?_))
   | exact ih0 _ _ _ _
   | exact ih1 _ _ _ _
   | exact ih2 _ _ _ _ _ _ _ _
   | exact LeO.none _
   | refine LeO.ite ?_ ?_
   | refine LeO.bind ?_ (fun _ => ?_)
theorem spec_IndexOk.mono : ∀ a0 a1 a2 k, LeO (spec_IndexOk.f k a0 a1 a2) (spec_IndexOk.f (k + 1) a0 a1 a2) := by
 intro a0 a1 a2 k
 obtain ⟨ih0, ih1, ih2⟩ := spec_IndexOk.mono_l k
 unfold spec_IndexOk.f
 repeat' with_reducible first | apply ih0 | apply ih1 | apply ih2 | exact LeO.refl _ | exact LeO.none _ | refine LeO.ite ?_ ?_ | refine LeO.bind ?_ (fun _ => ?_)
set_option maxHeartbeats 8000000 in
set_option maxRecDepth 100000 in
theorem spec_IndexOk.calls (k : Nat) (a0_0 : Int) (a0_1 : Int) (A0_2 : Option Addr) (c0_2 : Nat) (l0_2 : List (S40)) (r : Bool) (w : World) (hr0_2 : Kd.C k40 w A0_2 l0_2.length l0_2) (hc0_2 : l0_2.length ≤ c0_2) (h : spec_IndexOk.f k a0_0 a0_1 l0_2 = some r) :
  Calls Tryd.prog 18 #[.agg #[.int .i64 a0_0, .int .i64 a0_1, .slice A0_2 l0_2.length c0_2]] w fun e w' => e = .returned (.bool r) ∧ Below w.heap.size w w' := by
 have hu25 := Tryd.underlying25; have hu40 := Tryd.underlying40; have HR0_2 := aM hr0_2; have HC0_2 := aM hc0_2; clear hr0_2 hc0_2; have HB := aM (Below.refl w.heap.size w); have H : ((spec_l6In.f a0_0 1 30).bind fun t102 => (if t102 = true then ((spec_l6In.f a0_1 0 60).bind fun t103 => (if t103 = true then (spec_IndexOk.j0 k (decide ((l0_2.length : Int) > 8)) a0_0 a0_1 l0_2) else (spec_IndexOk.j0 k true a0_0 a0_1 l0_2))) else (spec_IndexOk.j0 k true a0_0 a0_1 l0_2))) = some r := h; clear h; have HC2 := aM H; clear H
 go_enter Tryd.func18, Tryd.ntmps18
 go_upto_region 1 with (first | ((with_reducible refine gate_dst (N := 1) rfl ?_); (try (refine gate_guard (by rfl) ?_; dsimp only)); refine box_event ?hg (N := 1) ?hd (cs := #[.int .i64 a0_0, .int .i64 a0_1, .slice A0_2 l0_2.length c0_2]) (t := 25) ?hr ?_; (case hd => rfl); (case hg => rfl); (case hr => first | (go_simp; done) | (go_simp; rfl)); intro gb101 hg w3 hbox hb; have _ := aM (below_step (zB HB.1) hb); have _ := aM (hbox); have _ := aM (zge hg (zB HB.1)); have _ := aM (zge hg (zB HB.1)); clear HB; rename_i HB BK101 GW101 GE101; clear hb hbox hg))
 repeat (go_quiet (fail); go_upto_region 1 with (first | ((with_reducible refine gate_dst (N := 1) rfl ?_); (try (refine gate_guard (by rfl) ?_; dsimp only)); refine box_event ?hg (N := 1) ?hd (cs := #[.int .i64 a0_0, .int .i64 a0_1, .slice A0_2 l0_2.length c0_2]) (t := 25) ?hr ?_; (case hd => rfl); (case hg => rfl); (case hr => first | (go_simp; done) | (go_simp; rfl)); intro gb101 hg w3 hbox hb; have _ := aM (below_step (zB HB.1) hb); have _ := aM (hbox); have _ := aM (zge hg (zB HB.1)); have _ := aM (zge hg (zB HB.1)); clear HB; rename_i HB BK101 GW101 GE101; clear hb hbox hg)))
 (try simp only [zp0, zp1, zp2, zp3, zp4])
 go_cut [20] (fun v20 wc => ∃ (kq : Nat) (x20_1 : Bool), v20 = .bool x20_1 ∧ Aside0 (spec_IndexOk.j0 kq x20_1 a0_0 a0_1 l0_2 = some r) ∧ Aside0 (kq ≤ k) ∧ Aside0 (wc.heap[gb101]? = some (.cells #[.int .i64 a0_0, .int .i64 a0_1, (.slice A0_2 l0_2.length c0_2)] 25 (0, 0))) ∧ Aside0 (Below w.heap.size w wc))
 case first =>
  have H := HC2.1; clear HC2; replace H := Option.bind_eq_some_iff.mp H; obtain ⟨t102, A40, H⟩ := H; (try dsimp only at H); have A4 := aM A40; clear A40
  by_cases c5 : t102 = true
  ·subst c5; replace H := zy1 H; replace H := Option.bind_eq_some_iff.mp H; obtain ⟨t103, A60, H⟩ := H; (try dsimp only at H); have A6 := aM A60; clear A60
   by_cases c7 : t103 = true
   ·subst c7; replace H := zy1 H; have H' := aM H; clear H; obtain ⟨hcz8_0, hcz8_1, hcz8_2, hfz8_0, hfz8_1, hfz8_2⟩ := zc3f BK101.1
    go_wp2_with (first | (go_at_call 54; (with_reducible refine (spec_l6In.calls a0_0 1 30 true _ A4.1).mono ?_); rintro e w' ⟨rfl, ⟨nd, rfl⟩⟩; (try first | exact ⟨rfl, _, World.drewN_drewN _ _ _⟩ | exact ⟨rfl, _, Eq.trans (World.drewN_drewN _ _ _) (congrArg (World.drewN _) (Nat.add_assoc _ _ _))⟩)) | (go_at_call 54; (with_reducible refine (spec_l6In.calls a0_1 0 60 true _ A6.1).mono ?_); rintro e w' ⟨rfl, ⟨nd, rfl⟩⟩; (try first | exact ⟨rfl, _, World.drewN_drewN _ _ _⟩ | exact ⟨rfl, _, Eq.trans (World.drewN_drewN _ _ _) (congrArg (World.drewN _) (Nat.add_assoc _ _ _))⟩)))
    repeat (go_quiet (first | (go_at_call 54; (with_reducible refine (spec_l6In.calls a0_0 1 30 true _ A4.1).mono ?_); rintro e w' ⟨rfl, ⟨nd, rfl⟩⟩; (try first | exact ⟨rfl, _, World.drewN_drewN _ _ _⟩ | exact ⟨rfl, _, Eq.trans (World.drewN_drewN _ _ _) (congrArg (World.drewN _) (Nat.add_assoc _ _ _))⟩)) | (go_at_call 54; (with_reducible refine (spec_l6In.calls a0_1 0 60 true _ A6.1).mono ?_); rintro e w' ⟨rfl, ⟨nd, rfl⟩⟩; (try first | exact ⟨rfl, _, World.drewN_drewN _ _ _⟩ | exact ⟨rfl, _, Eq.trans (World.drewN_drewN _ _ _) (congrArg (World.drewN _) (Nat.add_assoc _ _ _))⟩))); try go_wp2_with (first | (go_at_call 54; (with_reducible refine (spec_l6In.calls a0_0 1 30 true _ A4.1).mono ?_); rintro e w' ⟨rfl, ⟨nd, rfl⟩⟩; (try first | exact ⟨rfl, _, World.drewN_drewN _ _ _⟩ | exact ⟨rfl, _, Eq.trans (World.drewN_drewN _ _ _) (congrArg (World.drewN _) (Nat.add_assoc _ _ _))⟩)) | (go_at_call 54; (with_reducible refine (spec_l6In.calls a0_1 0 60 true _ A6.1).mono ?_); rintro e w' ⟨rfl, ⟨nd, rfl⟩⟩; (try first | exact ⟨rfl, _, World.drewN_drewN _ _ _⟩ | exact ⟨rfl, _, Eq.trans (World.drewN_drewN _ _ _) (congrArg (World.drewN _) (Nat.add_assoc _ _ _))⟩))))
    go_meet
    case rel => exact ⟨_, (decide ((l0_2.length : Int) > 8)), (by first | rfl | (simp; done) | (simp [*]; done)), H', ⟨by first | omega | exact Nat.le_refl _⟩, ⟨zK BK101.1⟩, ⟨zB1 HB.1 GE101.1⟩⟩
   ·replace c7 := Bool.eq_false_iff.mpr c7; subst c7; replace H := zy0 H; have H' := aM H; clear H; obtain ⟨hcz9_0, hcz9_1, hcz9_2, hfz9_0, hfz9_1, hfz9_2⟩ := zc3f BK101.1
    go_wp2_with (first | (go_at_call 54; (with_reducible refine (spec_l6In.calls a0_0 1 30 true _ A4.1).mono ?_); rintro e w' ⟨rfl, ⟨nd, rfl⟩⟩; (try first | exact ⟨rfl, _, World.drewN_drewN _ _ _⟩ | exact ⟨rfl, _, Eq.trans (World.drewN_drewN _ _ _) (congrArg (World.drewN _) (Nat.add_assoc _ _ _))⟩)) | (go_at_call 54; (with_reducible refine (spec_l6In.calls a0_1 0 60 false _ A6.1).mono ?_); rintro e w' ⟨rfl, ⟨nd, rfl⟩⟩; (try first | exact ⟨rfl, _, World.drewN_drewN _ _ _⟩ | exact ⟨rfl, _, Eq.trans (World.drewN_drewN _ _ _) (congrArg (World.drewN _) (Nat.add_assoc _ _ _))⟩)))
    repeat (go_quiet (first | (go_at_call 54; (with_reducible refine (spec_l6In.calls a0_0 1 30 true _ A4.1).mono ?_); rintro e w' ⟨rfl, ⟨nd, rfl⟩⟩; (try first | exact ⟨rfl, _, World.drewN_drewN _ _ _⟩ | exact ⟨rfl, _, Eq.trans (World.drewN_drewN _ _ _) (congrArg (World.drewN _) (Nat.add_assoc _ _ _))⟩)) | (go_at_call 54; (with_reducible refine (spec_l6In.calls a0_1 0 60 false _ A6.1).mono ?_); rintro e w' ⟨rfl, ⟨nd, rfl⟩⟩; (try first | exact ⟨rfl, _, World.drewN_drewN _ _ _⟩ | exact ⟨rfl, _, Eq.trans (World.drewN_drewN _ _ _) (congrArg (World.drewN _) (Nat.add_assoc _ _ _))⟩))); try go_wp2_with (first | (go_at_call 54; (with_reducible refine (spec_l6In.calls a0_0 1 30 true _ A4.1).mono ?_); rintro e w' ⟨rfl, ⟨nd, rfl⟩⟩; (try first | exact ⟨rfl, _, World.drewN_drewN _ _ _⟩ | exact ⟨rfl, _, Eq.trans (World.drewN_drewN _ _ _) (congrArg (World.drewN _) (Nat.add_assoc _ _ _))⟩)) | (go_at_call 54; (with_reducible refine (spec_l6In.calls a0_1 0 60 false _ A6.1).mono ?_); rintro e w' ⟨rfl, ⟨nd, rfl⟩⟩; (try first | exact ⟨rfl, _, World.drewN_drewN _ _ _⟩ | exact ⟨rfl, _, Eq.trans (World.drewN_drewN _ _ _) (congrArg (World.drewN _) (Nat.add_assoc _ _ _))⟩))))
    go_meet
    case rel => exact ⟨_, (true), (by first | rfl | (simp; done) | (simp [*]; done)), H', ⟨by first | omega | exact Nat.le_refl _⟩, ⟨zK BK101.1⟩, ⟨zB1 HB.1 GE101.1⟩⟩
  ·replace c5 := Bool.eq_false_iff.mpr c5; subst c5; replace H := zy0 H; have H' := aM H; clear H; obtain ⟨hcz10_0, hcz10_1, hcz10_2, hfz10_0, hfz10_1, hfz10_2⟩ := zc3f BK101.1
   go_wp2_with (first | (go_at_call 54; (with_reducible refine (spec_l6In.calls a0_0 1 30 false _ A4.1).mono ?_); rintro e w' ⟨rfl, ⟨nd, rfl⟩⟩; (try first | exact ⟨rfl, _, World.drewN_drewN _ _ _⟩ | exact ⟨rfl, _, Eq.trans (World.drewN_drewN _ _ _) (congrArg (World.drewN _) (Nat.add_assoc _ _ _))⟩)))
   repeat (go_quiet (first | (go_at_call 54; (with_reducible refine (spec_l6In.calls a0_0 1 30 false _ A4.1).mono ?_); rintro e w' ⟨rfl, ⟨nd, rfl⟩⟩; (try first | exact ⟨rfl, _, World.drewN_drewN _ _ _⟩ | exact ⟨rfl, _, Eq.trans (World.drewN_drewN _ _ _) (congrArg (World.drewN _) (Nat.add_assoc _ _ _))⟩))); try go_wp2_with (first | (go_at_call 54; (with_reducible refine (spec_l6In.calls a0_0 1 30 false _ A4.1).mono ?_); rintro e w' ⟨rfl, ⟨nd, rfl⟩⟩; (try first | exact ⟨rfl, _, World.drewN_drewN _ _ _⟩ | exact ⟨rfl, _, Eq.trans (World.drewN_drewN _ _ _) (congrArg (World.drewN _) (Nat.add_assoc _ _ _))⟩))))
   go_meet
   case rel => exact ⟨_, (true), (by first | rfl | (simp; done) | (simp [*]; done)), H', ⟨by first | omega | exact Nat.le_refl _⟩, ⟨zK BK101.1⟩, ⟨zB1 HB.1 GE101.1⟩⟩
 case rest =>
  clear HC2
  try clear c1
  try clear p2
  try clear c5
  try clear c7
  try clear hcz10_0
  try clear hcz10_1
  try clear hcz10_2
  try clear hcz8_0
  try clear hcz8_1
  try clear hcz8_2
  try clear hcz9_0
  try clear hcz9_1
  try clear hcz9_2
  try clear hfz10_0
  try clear hfz10_1
  try clear hfz10_2
  try clear hfz8_0
  try clear hfz8_1
  try clear hfz8_2
  try clear hfz9_0
  try clear hfz9_1
  try clear hfz9_2
  obtain ⟨kq, x20_1, rfl, HA, HJ1, BK101, HB⟩ := hcut; cases kq with
  | zero => exact absurd HA.1 (by simp [spec_IndexOk.j0])
  | succ kj1 =>
   have H := HA.1; clear HA; simp only [spec_IndexOk.j0] at H
   by_cases c11 : x20_1 = true
   ·subst c11; replace H := zy1 H; obtain rfl := Option.some.inj H
    go_wp2
    repeat (go_quiet (fail); try go_wp2)
    go_ret
    exact ⟨by first | rfl | (simp [errW_none, errW_some] <;> rfl) | (simp [*, errW_none, errW_some] <;> rfl), by exact zB1 HB.1 GE101.1⟩
   ·replace c11 := Bool.eq_false_iff.mpr c11; subst c11; replace H := zy0 H; have H' := aM H; clear H
    go_wp2
    repeat (go_quiet (fail); try go_wp2)
    go_loopg [3] kj1 (fun kq v3 w' => ∃ (x3_2 : Int), v3 = .int .i64 x3_2 ∧ Aside0 (spec_IndexOk.l0 kq x3_2 a0_0 a0_1 l0_2 = some r) ∧ Aside0 (kq ≤ kj1) ∧ Aside0 (w'.heap[gb101]? = some (.cells #[.int .i64 a0_0, .int .i64 a0_1, (.slice A0_2 l0_2.length c0_2)] 25 (0, 0))) ∧ Aside0 (Below w.heap.size w w'))
    case atStart => exact ⟨(0), (by first | rfl | (simp; done) | (simp [*]; done)), H', ⟨Nat.le_refl _⟩, ⟨zK BK101.1⟩, ⟨zB1 HB.1 GE101.1⟩⟩
    case round =>
     clear H'
     try clear c1
     try clear p2
     try clear c5
     try clear c7
     try clear c11
     try clear hcz10_0
     try clear hcz10_1
     try clear hcz10_2
     try clear hcz8_0
     try clear hcz8_1
     try clear hcz8_2
     try clear hcz9_0
     try clear hcz9_1
     try clear hcz9_2
     try clear hfz10_0
     try clear hfz10_1
     try clear hfz10_2
     try clear hfz8_0
     try clear hfz8_1
     try clear hfz8_2
     try clear hfz9_0
     try clear hfz9_1
     try clear hfz9_2
     try clear p2
     obtain ⟨x3_2, rfl, HA, HK2, BK101, HB⟩ := hrel; cases gk with
     | zero => exact absurd HA.1 (by simp [spec_IndexOk.l0])
     | succ k2 =>
      have H := HA.1; clear HA; simp only [spec_IndexOk.l0] at H
      by_cases c12 : x3_2 < (l0_2.length : Int)
      ·rw [if_pos c12] at H; have c12b0 : decide (x3_2 < (l0_2.length : Int)) = true := decide_eq_true c12; clear c12; replace H := zif H; obtain ⟨c13, H⟩ := H; have c13b0 : decide (0 ≤ x3_2) = true := decide_eq_true c13; clear c13; have HC14 := aM H; clear H; obtain ⟨hcz15_0, hcz15_1, hcz15_2, hfz15_0, hfz15_1, hfz15_2⟩ := zc3f BK101.1; have p104 : 0 ≤ (x3_2 : Int) := zd; have q104 : x3_2 < (l0_2.length : Int) := zd; obtain ⟨ad104, e104, hx104_0, hx104_1, hx104_2⟩ := at_T40 HR0_2.1 x3_2 p104 q104; cases e104; replace hx104_0 := (HB.1.cell (World.block_lt_of_cell? w _ hx104_0)).trans hx104_0; replace hx104_1 := (HB.1.cell (World.block_lt_of_cell? w _ hx104_1)).trans hx104_1; replace hx104_2 := (HB.1.cell (World.block_lt_of_cell? w _ hx104_2)).trans hx104_2; replace p104 := eq_true p104; replace q104 := eq_true q104
       go_upto_region 7 with (first | ((with_reducible refine gate_dst (N := 4) rfl ?_); (try (refine gate_guard (by rfl) ?_; dsimp only)); refine box_event ?hg (N := 4) ?hd (cs := #[.int .i64 0, .int .i64 0, .int .i64 0]) (t := 40) ?hr ?_; (case hd => rfl); (case hg => rfl); (case hr => first | (go_simp; done) | (go_simp; rfl)); intro gb105 hg w16 hbox hb; have _ := aM (blk_below (zK BK101.1) hb); have _ := aM (below_step (zB1 HB.1 GE101.1) hb); have _ := aM (hbox); have _ := aM (zge hg (zB1 HB.1 GE101.1)); have _ := aM (zge hg (zB1 HB.1 GE101.1)); have _ := aM (znl hg (zK BK101.1)); have _ := aM (zng hg (zK BK101.1)); clear BK101 HB; rename_i BK101 HB BK105 GW105 GE105 NB101_105 NB105_101; clear hb hbox hg; have hnb17 := NB105_101.1; have hnc17 := NB101_105.1; obtain ⟨hcz18_0, hcz18_1, hcz18_2, hfz18_0, hfz18_1, hfz18_2⟩ := zc3f BK105.1))
       repeat (go_quiet (fail); go_upto_region 7 with (first | ((with_reducible refine gate_dst (N := 4) rfl ?_); (try (refine gate_guard (by rfl) ?_; dsimp only)); refine box_event ?hg (N := 4) ?hd (cs := #[.int .i64 0, .int .i64 0, .int .i64 0]) (t := 40) ?hr ?_; (case hd => rfl); (case hg => rfl); (case hr => first | (go_simp; done) | (go_simp; rfl)); intro gb105 hg w16 hbox hb; have _ := aM (blk_below (zK BK101.1) hb); have _ := aM (below_step (zB1 HB.1 GE101.1) hb); have _ := aM (hbox); have _ := aM (zge hg (zB1 HB.1 GE101.1)); have _ := aM (zge hg (zB1 HB.1 GE101.1)); have _ := aM (znl hg (zK BK101.1)); have _ := aM (zng hg (zK BK101.1)); clear BK101 HB; rename_i BK101 HB BK105 GW105 GE105 NB101_105 NB105_101; clear hb hbox hg; have hnb17 := NB105_101.1; have hnc17 := NB101_105.1; obtain ⟨hcz18_0, hcz18_1, hcz18_2, hfz18_0, hfz18_1, hfz18_2⟩ := zc3f BK105.1)))
       (try simp only [zp0, zp1, zp2, zp3, zp4])
       go_cut [48] (fun v48 wc => ∃ (kq : Nat) (x48_13 : Bool), v48 = .bool x48_13 ∧ Aside0 (spec_IndexOk.j2 kq x3_2 x48_13 a0_0 a0_1 l0_2 ((rd_T40 l0_2 x3_2).f0) ((rd_T40 l0_2 x3_2).f1) ((rd_T40 l0_2 x3_2).f2) = some r) ∧ Aside0 (kq ≤ k2) ∧ Aside0 (wc.heap[gb101]? = some (.cells #[.int .i64 a0_0, .int .i64 a0_1, (.slice (some ad104) l0_2.length c0_2)] 25 (0, 0))) ∧ Aside0 (wc.heap[gb105]? = some (.cells #[.int .i64 ((rd_T40 l0_2 x3_2).f0), .int .i64 ((rd_T40 l0_2 x3_2).f1), .int .i64 ((rd_T40 l0_2 x3_2).f2)] 40 (0, 0))) ∧ Aside0 (Below w.heap.size w wc))
       case first =>
        have H := HC14.1; clear HC14; replace H := Option.bind_eq_some_iff.mp H; obtain ⟨t106, A190, H⟩ := H; (try dsimp only at H); have A19 := aM A190; clear A190
        by_cases c20 : t106 = true
        ·subst c20; replace H := zy1 H; replace H := Option.bind_eq_some_iff.mp H; obtain ⟨t107, A210, H⟩ := H; (try dsimp only at H); have A21 := aM A210; clear A210
         by_cases c22 : t107 = true
         ·subst c22; replace H := zy1 H; replace H := Option.bind_eq_some_iff.mp H; obtain ⟨t108, A230, H⟩ := H; (try dsimp only at H); have A23 := aM A230; clear A230; have H' := aM H; clear H; have hnb24 := NB105_101.1; have hnc24 := NB101_105.1; obtain ⟨hcz25_0, hcz25_1, hcz25_2, hfz25_0, hfz25_1, hfz25_2⟩ := zc3f BK105.1
          go_wp2_with (first | (go_at_call 54; (with_reducible refine (spec_l6In.calls ((rd_T40 l0_2 x3_2).f0) 1 4 true _ A19.1).mono ?_); rintro e w' ⟨rfl, ⟨nd, rfl⟩⟩; (try first | exact ⟨rfl, _, World.drewN_drewN _ _ _⟩ | exact ⟨rfl, _, Eq.trans (World.drewN_drewN _ _ _) (congrArg (World.drewN _) (Nat.add_assoc _ _ _))⟩)) | (go_at_call 54; (with_reducible refine (spec_l6In.calls ((rd_T40 l0_2 x3_2).f1) 1 5 true _ A21.1).mono ?_); rintro e w' ⟨rfl, ⟨nd, rfl⟩⟩; (try first | exact ⟨rfl, _, World.drewN_drewN _ _ _⟩ | exact ⟨rfl, _, Eq.trans (World.drewN_drewN _ _ _) (congrArg (World.drewN _) (Nat.add_assoc _ _ _))⟩)) | (go_at_call 54; (with_reducible refine (spec_l6In.calls ((rd_T40 l0_2 x3_2).f2) 0 9972 t108 _ A23.1).mono ?_); rintro e w' ⟨rfl, ⟨nd, rfl⟩⟩; (try first | exact ⟨rfl, _, World.drewN_drewN _ _ _⟩ | exact ⟨rfl, _, Eq.trans (World.drewN_drewN _ _ _) (congrArg (World.drewN _) (Nat.add_assoc _ _ _))⟩)))
          repeat (go_quiet (first | (go_at_call 54; (with_reducible refine (spec_l6In.calls ((rd_T40 l0_2 x3_2).f0) 1 4 true _ A19.1).mono ?_); rintro e w' ⟨rfl, ⟨nd, rfl⟩⟩; (try first | exact ⟨rfl, _, World.drewN_drewN _ _ _⟩ | exact ⟨rfl, _, Eq.trans (World.drewN_drewN _ _ _) (congrArg (World.drewN _) (Nat.add_assoc _ _ _))⟩)) | (go_at_call 54; (with_reducible refine (spec_l6In.calls ((rd_T40 l0_2 x3_2).f1) 1 5 true _ A21.1).mono ?_); rintro e w' ⟨rfl, ⟨nd, rfl⟩⟩; (try first | exact ⟨rfl, _, World.drewN_drewN _ _ _⟩ | exact ⟨rfl, _, Eq.trans (World.drewN_drewN _ _ _) (congrArg (World.drewN _) (Nat.add_assoc _ _ _))⟩)) | (go_at_call 54; (with_reducible refine (spec_l6In.calls ((rd_T40 l0_2 x3_2).f2) 0 9972 t108 _ A23.1).mono ?_); rintro e w' ⟨rfl, ⟨nd, rfl⟩⟩; (try first | exact ⟨rfl, _, World.drewN_drewN _ _ _⟩ | exact ⟨rfl, _, Eq.trans (World.drewN_drewN _ _ _) (congrArg (World.drewN _) (Nat.add_assoc _ _ _))⟩))); try go_wp2_with (first | (go_at_call 54; (with_reducible refine (spec_l6In.calls ((rd_T40 l0_2 x3_2).f0) 1 4 true _ A19.1).mono ?_); rintro e w' ⟨rfl, ⟨nd, rfl⟩⟩; (try first | exact ⟨rfl, _, World.drewN_drewN _ _ _⟩ | exact ⟨rfl, _, Eq.trans (World.drewN_drewN _ _ _) (congrArg (World.drewN _) (Nat.add_assoc _ _ _))⟩)) | (go_at_call 54; (with_reducible refine (spec_l6In.calls ((rd_T40 l0_2 x3_2).f1) 1 5 true _ A21.1).mono ?_); rintro e w' ⟨rfl, ⟨nd, rfl⟩⟩; (try first | exact ⟨rfl, _, World.drewN_drewN _ _ _⟩ | exact ⟨rfl, _, Eq.trans (World.drewN_drewN _ _ _) (congrArg (World.drewN _) (Nat.add_assoc _ _ _))⟩)) | (go_at_call 54; (with_reducible refine (spec_l6In.calls ((rd_T40 l0_2 x3_2).f2) 0 9972 t108 _ A23.1).mono ?_); rintro e w' ⟨rfl, ⟨nd, rfl⟩⟩; (try first | exact ⟨rfl, _, World.drewN_drewN _ _ _⟩ | exact ⟨rfl, _, Eq.trans (World.drewN_drewN _ _ _) (congrArg (World.drewN _) (Nat.add_assoc _ _ _))⟩))))
          go_meet
          case rel => exact ⟨_, (!t108), (by first | rfl | (simp; done) | (simp [*]; done)), H', ⟨by have := HJ1.1; have := HK2.1; first | omega | exact Nat.le_refl _⟩, ⟨zK1 BK101.1 NB101_105.1⟩, ⟨by exact zP BK105.1 (by rfl)⟩, ⟨zB2 HB.1 GE101.1 GE105.1⟩⟩
         ·replace c22 := Bool.eq_false_iff.mpr c22; subst c22; replace H := zy0 H; have H' := aM H; clear H; have hnb26 := NB105_101.1; have hnc26 := NB101_105.1; obtain ⟨hcz27_0, hcz27_1, hcz27_2, hfz27_0, hfz27_1, hfz27_2⟩ := zc3f BK105.1
          go_wp2_with (first | (go_at_call 54; (with_reducible refine (spec_l6In.calls ((rd_T40 l0_2 x3_2).f0) 1 4 true _ A19.1).mono ?_); rintro e w' ⟨rfl, ⟨nd, rfl⟩⟩; (try first | exact ⟨rfl, _, World.drewN_drewN _ _ _⟩ | exact ⟨rfl, _, Eq.trans (World.drewN_drewN _ _ _) (congrArg (World.drewN _) (Nat.add_assoc _ _ _))⟩)) | (go_at_call 54; (with_reducible refine (spec_l6In.calls ((rd_T40 l0_2 x3_2).f1) 1 5 false _ A21.1).mono ?_); rintro e w' ⟨rfl, ⟨nd, rfl⟩⟩; (try first | exact ⟨rfl, _, World.drewN_drewN _ _ _⟩ | exact ⟨rfl, _, Eq.trans (World.drewN_drewN _ _ _) (congrArg (World.drewN _) (Nat.add_assoc _ _ _))⟩)))
          repeat (go_quiet (first | (go_at_call 54; (with_reducible refine (spec_l6In.calls ((rd_T40 l0_2 x3_2).f0) 1 4 true _ A19.1).mono ?_); rintro e w' ⟨rfl, ⟨nd, rfl⟩⟩; (try first | exact ⟨rfl, _, World.drewN_drewN _ _ _⟩ | exact ⟨rfl, _, Eq.trans (World.drewN_drewN _ _ _) (congrArg (World.drewN _) (Nat.add_assoc _ _ _))⟩)) | (go_at_call 54; (with_reducible refine (spec_l6In.calls ((rd_T40 l0_2 x3_2).f1) 1 5 false _ A21.1).mono ?_); rintro e w' ⟨rfl, ⟨nd, rfl⟩⟩; (try first | exact ⟨rfl, _, World.drewN_drewN _ _ _⟩ | exact ⟨rfl, _, Eq.trans (World.drewN_drewN _ _ _) (congrArg (World.drewN _) (Nat.add_assoc _ _ _))⟩))); try go_wp2_with (first | (go_at_call 54; (with_reducible refine (spec_l6In.calls ((rd_T40 l0_2 x3_2).f0) 1 4 true _ A19.1).mono ?_); rintro e w' ⟨rfl, ⟨nd, rfl⟩⟩; (try first | exact ⟨rfl, _, World.drewN_drewN _ _ _⟩ | exact ⟨rfl, _, Eq.trans (World.drewN_drewN _ _ _) (congrArg (World.drewN _) (Nat.add_assoc _ _ _))⟩)) | (go_at_call 54; (with_reducible refine (spec_l6In.calls ((rd_T40 l0_2 x3_2).f1) 1 5 false _ A21.1).mono ?_); rintro e w' ⟨rfl, ⟨nd, rfl⟩⟩; (try first | exact ⟨rfl, _, World.drewN_drewN _ _ _⟩ | exact ⟨rfl, _, Eq.trans (World.drewN_drewN _ _ _) (congrArg (World.drewN _) (Nat.add_assoc _ _ _))⟩))))
          go_meet
          case rel => exact ⟨_, (true), (by first | rfl | (simp; done) | (simp [*]; done)), H', ⟨by have := HJ1.1; have := HK2.1; first | omega | exact Nat.le_refl _⟩, ⟨zK1 BK101.1 NB101_105.1⟩, ⟨by exact zP BK105.1 (by rfl)⟩, ⟨zB2 HB.1 GE101.1 GE105.1⟩⟩
        ·replace c20 := Bool.eq_false_iff.mpr c20; subst c20; replace H := zy0 H; have H' := aM H; clear H; have hnb28 := NB105_101.1; have hnc28 := NB101_105.1; obtain ⟨hcz29_0, hcz29_1, hcz29_2, hfz29_0, hfz29_1, hfz29_2⟩ := zc3f BK105.1
         go_wp2_with (first | (go_at_call 54; (with_reducible refine (spec_l6In.calls ((rd_T40 l0_2 x3_2).f0) 1 4 false _ A19.1).mono ?_); rintro e w' ⟨rfl, ⟨nd, rfl⟩⟩; (try first | exact ⟨rfl, _, World.drewN_drewN _ _ _⟩ | exact ⟨rfl, _, Eq.trans (World.drewN_drewN _ _ _) (congrArg (World.drewN _) (Nat.add_assoc _ _ _))⟩)))
         repeat (go_quiet (first | (go_at_call 54; (with_reducible refine (spec_l6In.calls ((rd_T40 l0_2 x3_2).f0) 1 4 false _ A19.1).mono ?_); rintro e w' ⟨rfl, ⟨nd, rfl⟩⟩; (try first | exact ⟨rfl, _, World.drewN_drewN _ _ _⟩ | exact ⟨rfl, _, Eq.trans (World.drewN_drewN _ _ _) (congrArg (World.drewN _) (Nat.add_assoc _ _ _))⟩))); try go_wp2_with (first | (go_at_call 54; (with_reducible refine (spec_l6In.calls ((rd_T40 l0_2 x3_2).f0) 1 4 false _ A19.1).mono ?_); rintro e w' ⟨rfl, ⟨nd, rfl⟩⟩; (try first | exact ⟨rfl, _, World.drewN_drewN _ _ _⟩ | exact ⟨rfl, _, Eq.trans (World.drewN_drewN _ _ _) (congrArg (World.drewN _) (Nat.add_assoc _ _ _))⟩))))
         go_meet
         case rel => exact ⟨_, (true), (by first | rfl | (simp; done) | (simp [*]; done)), H', ⟨by have := HJ1.1; have := HK2.1; first | omega | exact Nat.le_refl _⟩, ⟨zK1 BK101.1 NB101_105.1⟩, ⟨by exact zP BK105.1 (by rfl)⟩, ⟨zB2 HB.1 GE101.1 GE105.1⟩⟩
       case rest =>
        clear HC14
        try clear c1
        try clear p1
        try clear q1
        try clear hx1
        try clear c2
        try clear p2
        try clear c5
        try clear c7
        try clear p10
        try clear q10
        try clear hx10
        try clear c11
        try clear c12
        try clear c12b0
        try clear c13
        try clear c13b0
        try clear c17
        try clear c18
        try clear c20
        try clear c22
        try clear c24
        try clear c26
        try clear c28
        try clear hcz10_0
        try clear hcz10_1
        try clear hcz10_2
        try clear hcz15_0
        try clear hcz15_1
        try clear hcz15_2
        try clear hcz18_0
        try clear hcz18_1
        try clear hcz18_2
        try clear hcz25_0
        try clear hcz25_1
        try clear hcz25_2
        try clear hcz27_0
        try clear hcz27_1
        try clear hcz27_2
        try clear hcz29_0
        try clear hcz29_1
        try clear hcz29_2
        try clear hcz8_0
        try clear hcz8_1
        try clear hcz8_2
        try clear hcz9_0
        try clear hcz9_1
        try clear hcz9_2
        try clear hfz10_0
        try clear hfz10_1
        try clear hfz10_2
        try clear hfz15_0
        try clear hfz15_1
        try clear hfz15_2
        try clear hfz18_0
        try clear hfz18_1
        try clear hfz18_2
        try clear hfz25_0
        try clear hfz25_1
        try clear hfz25_2
        try clear hfz27_0
        try clear hfz27_1
        try clear hfz27_2
        try clear hfz29_0
        try clear hfz29_1
        try clear hfz29_2
        try clear hfz8_0
        try clear hfz8_1
        try clear hfz8_2
        try clear hfz9_0
        try clear hfz9_1
        try clear hfz9_2
        try clear hx104_0
        try clear hx104_1
        try clear hx104_2
        try clear p104
        try clear p2
        try clear q104
        obtain ⟨kq, x48_13, rfl, HA, HJ13, BK101, BK105, HB⟩ := hcut; cases kq with
        | zero => exact absurd HA.1 (by simp [spec_IndexOk.j2])
        | succ kj13 =>
         have H := HA.1; clear HA; simp only [spec_IndexOk.j2] at H
         by_cases c30 : x48_13 = true
         ·subst c30; replace H := zy1 H; obtain rfl := Option.some.inj H
          go_wp2
          repeat (go_quiet (fail); try go_wp2)
          go_ret
          exact ⟨by first | rfl | (simp [errW_none, errW_some] <;> rfl) | (simp [*, errW_none, errW_some] <;> rfl), by exact zB2 HB.1 GE101.1 GE105.1⟩
         ·replace c30 := Bool.eq_false_iff.mpr c30; subst c30; replace H := zy0 H
          by_cases c31 : x3_2 > 0
          ·rw [if_pos c31] at H; have c31b0 : decide (0 < x3_2) = true := decide_eq_true c31; clear c31; obtain ⟨ji32, hji32⟩ : ∃ j_ : Int, (wrap64 (x3_2 - 1)) = j_ := ⟨_, rfl⟩
           replace H : (if 0 ≤ (ji32) then (if (ji32) < (l0_2.length : Int) then ((spec_l3Less.f ((rd_T40 l0_2 (ji32)).f0) ((rd_T40 l0_2 (ji32)).f1) ((rd_T40 l0_2 x3_2).f0) ((rd_T40 l0_2 x3_2).f1)).bind fun t111 => (if t111 = true then (spec_IndexOk.l0 kj13 (wrap64 (x3_2 + 1)) a0_0 a0_1 l0_2) else (some false))) else (none)) else (none)) = some r := by first | (rw [hji32] at H; exact H) | (simp only [hji32] at H ⊢; exact H)
           have hji32w : (IntKind.i64.wrap (x3_2 - 1)) = ji32 := (i64_w _).trans hji32; replace H := zif H; obtain ⟨c33, H⟩ := H; have c33b0 : decide (0 ≤ (ji32)) = true := decide_eq_true c33; clear c33; replace H := zif H; obtain ⟨c34, H⟩ := H; have c34b0 : decide ((ji32) < (l0_2.length : Int)) = true := decide_eq_true c34; clear c34; replace H := Option.bind_eq_some_iff.mp H; obtain ⟨t111, A350, H⟩ := H; (try dsimp only at H); have A35 := aM A350; clear A350
           by_cases c36 : t111 = true
           ·subst c36; replace H := zy1 H; have H' := aM H; clear H; have hnb37 := NB101_105.1; have hnc37 := NB105_101.1; obtain ⟨hcz38_0, hcz38_1, hcz38_2, hfz38_0, hfz38_1, hfz38_2⟩ := zc3f BK101.1; have p109 : 0 ≤ ((ji32) : Int) := zd; have q109 : (ji32) < (l0_2.length : Int) := zd; obtain ⟨ad109, e109, hx109_0, hx109_1, hx109_2⟩ := at_T40 HR0_2.1 (ji32) p109 q109; obtain rfl : ad104 = ad109 := (by injection e109); replace hx109_0 := (HB.1.cell (World.block_lt_of_cell? w _ hx109_0)).trans hx109_0; replace hx109_1 := (HB.1.cell (World.block_lt_of_cell? w _ hx109_1)).trans hx109_1; replace hx109_2 := (HB.1.cell (World.block_lt_of_cell? w _ hx109_2)).trans hx109_2; replace p109 := eq_true p109; replace q109 := eq_true q109; have p110 : 0 ≤ ((ji32) : Int) := zd; have q110 : (ji32) < (l0_2.length : Int) := zd; obtain ⟨ad110, e110, hx110_0, hx110_1, hx110_2⟩ := at_T40 HR0_2.1 (ji32) p110 q110; obtain rfl : ad104 = ad110 := (by injection e110); replace hx110_0 := (HB.1.cell (World.block_lt_of_cell? w _ hx110_0)).trans hx110_0; replace hx110_1 := (HB.1.cell (World.block_lt_of_cell? w _ hx110_1)).trans hx110_1; replace hx110_2 := (HB.1.cell (World.block_lt_of_cell? w _ hx110_2)).trans hx110_2; replace p110 := eq_true p110; replace q110 := eq_true q110; obtain ⟨hcz39_0, hcz39_1, hcz39_2, hfz39_0, hfz39_1, hfz39_2⟩ := zc3f BK105.1
            go_wp2_with (first | (go_at_call 55; (with_reducible refine (spec_l3Less.calls ((rd_T40 l0_2 (ji32)).f0) ((rd_T40 l0_2 (ji32)).f1) ((rd_T40 l0_2 x3_2).f0) ((rd_T40 l0_2 x3_2).f1) true _ A35.1).mono ?_); rintro e w' ⟨rfl, ⟨nd, rfl⟩⟩; (try first | exact ⟨rfl, _, World.drewN_drewN _ _ _⟩ | exact ⟨rfl, _, Eq.trans (World.drewN_drewN _ _ _) (congrArg (World.drewN _) (Nat.add_assoc _ _ _))⟩)))
            repeat (go_quiet (first | (go_at_call 55; (with_reducible refine (spec_l3Less.calls ((rd_T40 l0_2 (ji32)).f0) ((rd_T40 l0_2 (ji32)).f1) ((rd_T40 l0_2 x3_2).f0) ((rd_T40 l0_2 x3_2).f1) true _ A35.1).mono ?_); rintro e w' ⟨rfl, ⟨nd, rfl⟩⟩; (try first | exact ⟨rfl, _, World.drewN_drewN _ _ _⟩ | exact ⟨rfl, _, Eq.trans (World.drewN_drewN _ _ _) (congrArg (World.drewN _) (Nat.add_assoc _ _ _))⟩))); try go_wp2_with (first | (go_at_call 55; (with_reducible refine (spec_l3Less.calls ((rd_T40 l0_2 (ji32)).f0) ((rd_T40 l0_2 (ji32)).f1) ((rd_T40 l0_2 x3_2).f0) ((rd_T40 l0_2 x3_2).f1) true _ A35.1).mono ?_); rintro e w' ⟨rfl, ⟨nd, rfl⟩⟩; (try first | exact ⟨rfl, _, World.drewN_drewN _ _ _⟩ | exact ⟨rfl, _, Eq.trans (World.drewN_drewN _ _ _) (congrArg (World.drewN _) (Nat.add_assoc _ _ _))⟩))))
            go_roundg kj13
            case measure => have := HJ1.1; have := HK2.1; have := HJ13.1; omega
            case rel => exact ⟨(wrap64 (x3_2 + 1)), (by first | rfl | (simp; done) | (simp [*]; done)), H', ⟨by have := HJ1.1; have := HK2.1; have := HJ13.1; omega⟩, ⟨zK BK101.1⟩, ⟨zB2 HB.1 GE101.1 GE105.1⟩⟩
           ·replace c36 := Bool.eq_false_iff.mpr c36; subst c36; replace H := zy0 H; obtain rfl := Option.some.inj H; have hnb40 := NB101_105.1; have hnc40 := NB105_101.1; obtain ⟨hcz41_0, hcz41_1, hcz41_2, hfz41_0, hfz41_1, hfz41_2⟩ := zc3f BK101.1; have p109 : 0 ≤ ((ji32) : Int) := zd; have q109 : (ji32) < (l0_2.length : Int) := zd; obtain ⟨ad109, e109, hx109_0, hx109_1, hx109_2⟩ := at_T40 HR0_2.1 (ji32) p109 q109; obtain rfl : ad104 = ad109 := (by injection e109); replace hx109_0 := (HB.1.cell (World.block_lt_of_cell? w _ hx109_0)).trans hx109_0; replace hx109_1 := (HB.1.cell (World.block_lt_of_cell? w _ hx109_1)).trans hx109_1; replace hx109_2 := (HB.1.cell (World.block_lt_of_cell? w _ hx109_2)).trans hx109_2; replace p109 := eq_true p109; replace q109 := eq_true q109; have p110 : 0 ≤ ((ji32) : Int) := zd; have q110 : (ji32) < (l0_2.length : Int) := zd; obtain ⟨ad110, e110, hx110_0, hx110_1, hx110_2⟩ := at_T40 HR0_2.1 (ji32) p110 q110; obtain rfl : ad104 = ad110 := (by injection e110); replace hx110_0 := (HB.1.cell (World.block_lt_of_cell? w _ hx110_0)).trans hx110_0; replace hx110_1 := (HB.1.cell (World.block_lt_of_cell? w _ hx110_1)).trans hx110_1; replace hx110_2 := (HB.1.cell (World.block_lt_of_cell? w _ hx110_2)).trans hx110_2; replace p110 := eq_true p110; replace q110 := eq_true q110; obtain ⟨hcz42_0, hcz42_1, hcz42_2, hfz42_0, hfz42_1, hfz42_2⟩ := zc3f BK105.1
            go_wp2_with (first | (go_at_call 55; (with_reducible refine (spec_l3Less.calls ((rd_T40 l0_2 (ji32)).f0) ((rd_T40 l0_2 (ji32)).f1) ((rd_T40 l0_2 x3_2).f0) ((rd_T40 l0_2 x3_2).f1) false _ A35.1).mono ?_); rintro e w' ⟨rfl, ⟨nd, rfl⟩⟩; (try first | exact ⟨rfl, _, World.drewN_drewN _ _ _⟩ | exact ⟨rfl, _, Eq.trans (World.drewN_drewN _ _ _) (congrArg (World.drewN _) (Nat.add_assoc _ _ _))⟩)))
            repeat (go_quiet (first | (go_at_call 55; (with_reducible refine (spec_l3Less.calls ((rd_T40 l0_2 (ji32)).f0) ((rd_T40 l0_2 (ji32)).f1) ((rd_T40 l0_2 x3_2).f0) ((rd_T40 l0_2 x3_2).f1) false _ A35.1).mono ?_); rintro e w' ⟨rfl, ⟨nd, rfl⟩⟩; (try first | exact ⟨rfl, _, World.drewN_drewN _ _ _⟩ | exact ⟨rfl, _, Eq.trans (World.drewN_drewN _ _ _) (congrArg (World.drewN _) (Nat.add_assoc _ _ _))⟩))); try go_wp2_with (first | (go_at_call 55; (with_reducible refine (spec_l3Less.calls ((rd_T40 l0_2 (ji32)).f0) ((rd_T40 l0_2 (ji32)).f1) ((rd_T40 l0_2 x3_2).f0) ((rd_T40 l0_2 x3_2).f1) false _ A35.1).mono ?_); rintro e w' ⟨rfl, ⟨nd, rfl⟩⟩; (try first | exact ⟨rfl, _, World.drewN_drewN _ _ _⟩ | exact ⟨rfl, _, Eq.trans (World.drewN_drewN _ _ _) (congrArg (World.drewN _) (Nat.add_assoc _ _ _))⟩))))
            go_ret
            exact ⟨by first | rfl | (simp [errW_none, errW_some] <;> rfl) | (simp only [← hji32]; first | rfl | (simp [errW_none, errW_some] <;> rfl)) | (simp [*, errW_none, errW_some] <;> rfl), by exact zB2 HB.1 GE101.1 GE105.1⟩
          ·rw [if_neg c31] at H; have c31b0 : decide (0 < x3_2) = false := decide_eq_false c31; clear c31; have H' := aM H; clear H
           go_wp2
           repeat (go_quiet (fail); try go_wp2)
           go_roundg kj13
           case measure => have := HJ1.1; have := HK2.1; have := HJ13.1; omega
           case rel => exact ⟨(wrap64 (x3_2 + 1)), (by first | rfl | (simp; done) | (simp [*]; done)), H', ⟨by have := HJ1.1; have := HK2.1; have := HJ13.1; omega⟩, ⟨zK BK101.1⟩, ⟨zB2 HB.1 GE101.1 GE105.1⟩⟩
      ·rw [if_neg c12] at H; have c12b0 : decide (x3_2 < (l0_2.length : Int)) = false := decide_eq_false c12; clear c12; obtain rfl := Option.some.inj H; obtain ⟨hcz43_0, hcz43_1, hcz43_2, hfz43_0, hfz43_1, hfz43_2⟩ := zc3f BK101.1
       go_wp2
       repeat (go_quiet (fail); try go_wp2)
       go_ret
       exact ⟨by first | rfl | (simp [errW_none, errW_some] <;> rfl) | (simp [*, errW_none, errW_some] <;> rfl), by exact zB1 HB.1 GE101.1⟩

/-! ### spec_l6Dec: function 62 -/
def spec_l6Dec.f : Nat → Int → Option (ByteArray)
 | 0, _ => none
 | k + 1, a0 => if a0 < (-9223372036854775807) then (some (⟨#[45, 57, 50, 50, 51, 51, 55, 50, 48, 51, 54, 56, 53, 52, 55, 55, 53, 56, 48, 56]⟩ : ByteArray)) else (if a0 < 0 then ((spec_l6Dec.f k (wrap64 (-a0))).bind fun t112 => (if 1 + t112.size ≤ 9223372036854775807 then (some ((⟨#[45]⟩ : ByteArray) ++ t112)) else (none))) else (if a0 < 10 then (some (strOfNums (([(wrap64 (48 + a0)) % 256] : List Int)))) else ((spec_l6Dec.f k (wrap64 (Int.tdiv a0 10))).bind fun t116 => ((some (([(wrap64 (48 + (Int.tmod a0 10))) % 256] : List Int) : List Int)).bind fun y117 => (if t116.size + (strOfNums y117).size ≤ 9223372036854775807 then (some (t116 ++ (strOfNums y117))) else (none))))))
theorem spec_l6Dec.mono_l : ∀ k, (∀ y0, LeO (spec_l6Dec.f k y0) (spec_l6Dec.f (k + 1) y0))
 | 0 => fun _ r h => by simp [spec_l6Dec.f] at h
 | k + 1 => by
  have ih0 := spec_l6Dec.mono_l k
  ·intro y0
   unfold spec_l6Dec.f
   repeat' first
   | (with_reducible exact ih0 _)
   | (with_reducible exact LeO.refl _)
   | (with_reducible exact LeO.none _)
   | (with_reducible refine LeO.ite ?_ ?_)
   | (with_reducible refine LeO.bind ?_ (fun _ => ?_))
   | exact ih0 _
   | exact LeO.none _
   | refine LeO.ite ?_ ?_
   | refine LeO.bind ?_ (fun _ => ?_)
theorem spec_l6Dec.mono : ∀ a0 k, LeO (spec_l6Dec.f k a0) (spec_l6Dec.f (k + 1) a0) := by
 intro a0 k
 have ih0 := spec_l6Dec.mono_l k
 exact ih0 a0
def spec_l6Dec.T7 : Bool × List (List Nat × List Nat) := (true, [([], []), ([0], [0]), ([1], [1]), ([], []), ([3], [3]), ([4], [4]), ([5], [5]), ([6], [6]), ([7], [7]), ([2, 8], [2, 8]), ([9, 2, 0, 1, 2, 3, 4, 5, 6, 7, 8, 9], [9])])
def spec_l6Dec.B7 : List Nat := [0, 1, 3, 0, 8, 24, 56, 120, 248, 511, 1023]
theorem spec_l6Dec.tab7 : rtab .any (opsOf Tryd.f62 7) = spec_l6Dec.T7 := by kernel_rfl
theorem spec_l6Dec.bits7 : waitsOk spec_l6Dec.T7.2 spec_l6Dec.B7 = true := by kernel_rfl
set_option maxHeartbeats 8000000 in
set_option maxRecDepth 100000 in
theorem spec_l6Dec.calls (k : Nat) : ∀ (a0 : Int) (r : ByteArray) (w : World) (h : spec_l6Dec.f k a0 = some r),
  Calls Tryd.prog 62 #[.int .i64 a0] w fun e w' => e = .returned (.string r) ∧ Below w.heap.size w w' := by
 induction k using Nat.strongRecOn with
 | _ k ih =>
 intro a0 r w h; cases k with
 | zero => exact absurd h (by simp [spec_l6Dec.f])
 | succ k =>
 simp only [spec_l6Dec.f] at h; have HB := aM (Below.refl w.heap.size w); have H : (if a0 < (-9223372036854775807) then (some (⟨#[45, 57, 50, 50, 51, 51, 55, 50, 48, 51, 54, 56, 53, 52, 55, 55, 53, 56, 48, 56]⟩ : ByteArray)) else (if a0 < 0 then ((spec_l6Dec.f k (wrap64 (-a0))).bind fun t112 => (if 1 + t112.size ≤ 9223372036854775807 then (some ((⟨#[45]⟩ : ByteArray) ++ t112)) else (none))) else (if a0 < 10 then (some (strOfNums (([(wrap64 (48 + a0)) % 256] : List Int)))) else ((spec_l6Dec.f k (wrap64 (Int.tdiv a0 10))).bind fun t116 => ((some (([(wrap64 (48 + (Int.tmod a0 10))) % 256] : List Int) : List Int)).bind fun y117 => (if t116.size + (strOfNums y117).size ≤ 9223372036854775807 then (some (t116 ++ (strOfNums y117))) else (none))))))) = some r := h; clear h
 by_cases c2 : a0 < (-9223372036854775807)
 ·rw [if_pos c2] at H; have c2b0 : decide (a0 < (-9223372036854775807)) = true := decide_eq_true c2; clear c2; obtain rfl := Option.some.inj H
  go_enter Tryd.func62, Tryd.ntmps62
  go_wp2
  go_ret
  exact ⟨by first | rfl | (simp [errW_none, errW_some] <;> rfl) | (simp [*, errW_none, errW_some] <;> rfl), by exact zB HB.1⟩
 ·rw [if_neg c2] at H; have c2b0 : decide (a0 < (-9223372036854775807)) = false := decide_eq_false c2; clear c2
  by_cases c3 : a0 < 0
  ·rw [if_pos c3] at H; have c3b0 : decide (a0 < 0) = true := decide_eq_true c3; clear c3; replace H := Option.bind_eq_some_iff.mp H; obtain ⟨t112, A40, H⟩ := H; (try dsimp only at H); have A4 := aM A40; clear A40; replace H := zif H; obtain ⟨c5, H⟩ := H; have c5b0 := eq_true c5; have c5b1 : decide (1 + t112.size ≤ 9223372036854775807) = true := decide_eq_true c5
   try have c5b2 : (9223372036854775807 < 1 + t112.size) = False := eq_false (Nat.not_lt.2 c5)
   obtain rfl := Option.some.inj H
   go_enter Tryd.func62, Tryd.ntmps62
   go_wp2_with (first | ((with_reducible refine gate_callee (f := 62) rfl ?_); refine zgL (some 9) Tryd.func62 #[.int .i64 (wrap64 (-a0))] ?_; (with_reducible refine (ih k (by omega) (wrap64 (-a0)) t112 _ A4.1).mono ?_); rintro e w6 ⟨rfl, hb⟩; refine ⟨_, rfl, ?_⟩; have _ := aM (below_step (zB HB.1) hb); clear HB; rename_i HB; (try clear hb); (try clear hb2); (try clear hk); (try clear hi)))
   go_ret
   exact ⟨by first | rfl | (simp [errW_none, errW_some] <;> rfl) | (simp [*, errW_none, errW_some] <;> rfl), by exact zB HB.1⟩
  ·rw [if_neg c3] at H; have c3b0 : decide (a0 < 0) = false := decide_eq_false c3; clear c3
   by_cases c7 : a0 < 10
   ·rw [if_pos c7] at H; have c7b0 : decide (a0 < 10) = true := decide_eq_true c7; clear c7; obtain ⟨y113, hy113⟩ : ∃ y_ : List Int, y_ = (([(wrap64 (48 + a0)) % 256] : List Int)) := ⟨_, rfl⟩; (first | (replace H := zbs hy113 H; try dsimp only at H) | rw [← hy113] at H); have Ny113 := aM hy113; clear hy113; obtain rfl := Option.some.inj H
    go_enter Tryd.func62, Tryd.ntmps62
    go_wp2_with (first | ((with_reducible refine gate_dst (N := 16) rfl ?_); refine Kd.R_lit (Kd.int .u8) _ 5 ?hg (N := 16) ?hd (xs := ([(wrap64 (48 + a0)) % 256] : List Int)) (inner := [.int .u8 ((wrap64 (48 + a0)) % 256)]) (ok := fun _ => True) (okp := fun _ => True) ?hr ?hp (fun _ hk => hk) trivial (Below.refl _ _) (Nat.le_refl _) (by simp) ?_; (case hd => rfl); (case hg => rfl); (case hr => first | (go_simp; done) | (go_simp; rfl)); (case hp => exact (Reps.one (show Kd.M (Kd.int .u8) _ _ _ ((wrap64 (48 + a0)) % 256) [.int .u8 ((wrap64 (48 + a0)) % 256)] from rfl) (Reps.none _ _))); intro v114 w8 ho9 hb hg_ hnew_; clear hg_ hnew_; (first | rw [← Ny113.1] at ho9 | (simp only [Int.reduceToNat] at ho9; rw [← Ny113.1] at ho9)); have _ := aM (Kd.R_lower ho9 (below_size (zB HB.1))); have _ := aM (below_step (zB HB.1) hb); clear HB; rename_i HO115 HB; clear hb ho9; have hcv10 := own_string (P := Tryd.prog) Tryd.underlying22 Tryd.underlying5 Tryd.underlying9 (Kd.own_of_R HO115.1)))
    go_ret
    exact ⟨by first | rfl | (simp [errW_none, errW_some] <;> rfl) | (simp [*, errW_none, errW_some] <;> rfl), by exact zB HB.1⟩
   ·rw [if_neg c7] at H; have c7b0 : decide (a0 < 10) = false := decide_eq_false c7; clear c7; replace H := Option.bind_eq_some_iff.mp H; obtain ⟨t116, A110, H⟩ := H; (try dsimp only at H); have A11 := aM A110; clear A110; obtain ⟨y117, hy117⟩ : ∃ y_ : List Int, y_ = (([(wrap64 (48 + (Int.tmod a0 10))) % 256] : List Int)) := ⟨_, rfl⟩; (first | (replace H := zbs hy117 H; try dsimp only at H) | rw [← hy117] at H); have Ny117 := aM hy117; clear hy117; replace H := zif H; obtain ⟨c12, H⟩ := H; have c12b0 := eq_true c12; have c12b1 : decide (t116.size + (strOfNums y117).size ≤ 9223372036854775807) = true := decide_eq_true c12
    try have c12b2 : (9223372036854775807 < t116.size + (strOfNums y117).size) = False := eq_false (Nat.not_lt.2 c12)
    obtain rfl := Option.some.inj H
    go_enter Tryd.func62, Tryd.ntmps62
    try go_wp2
    have _ := aM (below_drew1 HB.1); clear HB; rename_i HB
    refine start_ (n := 11) (S := fun w' => True) (ds := []) (zA 11 0) (by kernel_rfl) rfl rfl trivial (fun hHeld => ?_); refine with_tabW spec_l6Dec.tab7 spec_l6Dec.bits7 (fun HT_ HW_ => ?_)
    generalize w.drew = w13 at HB hHeld ⊢; refine zu HT_ 0 (some 18) (zA 11 1) ?_; refine zu HT_ 1 (some 19) (zA 11 3) ?_; refine zu HT_ 3 (some 21) (zA 11 11) ?_; refine zu HT_ 4 (some 22) (zA 11 27) ?_; refine zu HT_ 5 (some 23) (zA 11 59) ?_; refine zu HT_ 6 (some 24) (zA 11 123) ?_; refine join_ (σ := Value) 2 (zA 11 511) (fun s_ => [(20, .string t116), (25, s_), (26, .string (strOfNums y117))]) (fun s_ w' => (Kd.R (Kd.int .u8) 5 w' w.heap.size (fun _ => True) s_ y117) ∧ (Below w.heap.size w w')) ?_ ?_; rotate_left
    ·intro hCont; refine two_ (i := 2) (j := 7) (Ni := some 20) (Nj := some 25) (zA 11 127) (zA 11 251) rfl rfl rfl rfl (two_of HT_.1 (by kernel_rfl)) (by decide) (by decide) (fun K hK => ?_) (fun K hK => ?_)
     ·skip
      refine zg Tryd.func62 #[.int .i64 (wrap64 (Int.tdiv a0 10))] ?_; (with_reducible refine (ih k (by omega) (wrap64 (Int.tdiv a0 10)) t116 _ A11.1).mono ?_); rintro e w14 ⟨rfl, hb⟩; refine ⟨_, rfl, ?_⟩; have _ := aM (below_step (zB HB.1) hb); clear HB; rename_i HB; (try clear hb); (try clear hb2); (try clear hk); (try clear hi); refine hK.out _ _ trivial (fun hHeld => ?_); clear hK K; refine zn (some 20) ?_; refine zo HT_ 7 (some 25) (zA 11 255) (fun K hK => ?_)
      refine Kd.R_lit_step (Kd.int .u8) _ 5 ?hg (N := 25) ?hd (xs := ([(wrap64 (48 + (Int.tmod a0 10))) % 256] : List Int)) (inner := [.int .u8 ((wrap64 (48 + (Int.tmod a0 10))) % 256)]) (ok := fun _ => True) (okp := fun _ => True) ?hr ?hp (fun _ hk => hk) trivial (Below.refl _ _) (Nat.le_refl _) (by simp) ?_; (case hd => rfl); (case hg => rfl); (case hr => first | (go_simp; done) | (go_simp; rfl)); (case hp => exact (Reps.one (show Kd.M (Kd.int .u8) _ _ _ ((wrap64 (48 + (Int.tmod a0 10))) % 256) [.int .u8 ((wrap64 (48 + (Int.tmod a0 10))) % 256)] from rfl) (Reps.none _ _)))
      intro v118 w15 ho16 hb hg_ hnew_; clear hg_ hnew_; (first | rw [← Ny117.1] at ho16 | (simp only [Int.reduceToNat] at ho16; rw [← Ny117.1] at ho16)); have _ := aM (Kd.R_lower ho16 (below_size (zB HB.1))); have _ := aM (below_step (zB HB.1) hb); clear HB; rename_i HO119 HB; clear hb ho16; refine hK.out _ _ trivial (fun hHeld => ?_); clear hK K; refine zn (some 25) ?_; refine zo HT_ 8 (some 26) (zA 11 511) (fun K hK => ?_); have hcv17 := own_string (P := Tryd.prog) Tryd.underlying22 Tryd.underlying5 Tryd.underlying9 (Kd.own_of_R HO119.1); refine value_ (w1 := ?_) (v := ?_) (by rfl) rfl ?_ ?_; rotate_left 2
      ·go_simp
       constructor
       ·rfl
       ·rfl
      clear hcv17; refine hK.out _ _ trivial (fun hHeld => ?_); clear hK K; refine zn (some 26) ?_; exact norm_ (by simp only [putAll, zp0, zp1, zp2, zp3, zp4]) (hCont (v118) _ ⟨(zR HO119.1), (zB HB.1)⟩)
     ·skip
      refine Kd.R_lit_step (Kd.int .u8) _ 5 ?hg (N := 25) ?hd (xs := ([(wrap64 (48 + (Int.tmod a0 10))) % 256] : List Int)) (inner := [.int .u8 ((wrap64 (48 + (Int.tmod a0 10))) % 256)]) (ok := fun _ => True) (okp := fun _ => True) ?hr ?hp (fun _ hk => hk) trivial (Below.refl _ _) (Nat.le_refl _) (by simp) ?_; (case hd => rfl); (case hg => rfl); (case hr => first | (go_simp; done) | (go_simp; rfl)); (case hp => exact (Reps.one (show Kd.M (Kd.int .u8) _ _ _ ((wrap64 (48 + (Int.tmod a0 10))) % 256) [.int .u8 ((wrap64 (48 + (Int.tmod a0 10))) % 256)] from rfl) (Reps.none _ _)))
      intro v118 w14 ho15 hb hg_ hnew_; clear hg_ hnew_; (first | rw [← Ny117.1] at ho15 | (simp only [Int.reduceToNat] at ho15; rw [← Ny117.1] at ho15)); have _ := aM (Kd.R_lower ho15 (below_size (zB HB.1))); have _ := aM (below_step (zB HB.1) hb); clear HB; rename_i HO119 HB; clear hb ho15; refine hK.out _ _ trivial (fun hHeld => ?_); clear hK K; refine zn (some 25) ?_; refine two_ (i := 2) (j := 8) (Ni := some 20) (Nj := some 26) (zA 11 255) (zA 11 507) rfl rfl rfl rfl (two_of HT_.1 (by kernel_rfl)) (by decide) (by decide) (fun K hK => ?_) (fun K hK => ?_)
      ·skip
       refine zg Tryd.func62 #[.int .i64 (wrap64 (Int.tdiv a0 10))] ?_; (with_reducible refine (ih k (by omega) (wrap64 (Int.tdiv a0 10)) t116 _ A11.1).mono ?_); rintro e w16 ⟨rfl, hb⟩; refine ⟨_, rfl, ?_⟩; have _ := aM (Kd.R_below (zR HO119.1) hb); have _ := aM (below_step (zB HB.1) hb); clear HO119 HB; rename_i HO119 HB; (try clear hb); (try clear hb2); (try clear hk); (try clear hi); refine hK.out _ _ trivial (fun hHeld => ?_); clear hK K; refine zn (some 20) ?_; refine zo HT_ 8 (some 26) (zA 11 511) (fun K hK => ?_); have hcv17 := own_string (P := Tryd.prog) Tryd.underlying22 Tryd.underlying5 Tryd.underlying9 (Kd.own_of_R HO119.1); refine value_ (w1 := ?_) (v := ?_) (by rfl) rfl ?_ ?_; rotate_left 2
       ·go_simp
        constructor
        ·rfl
        ·rfl
       clear hcv17; refine hK.out _ _ trivial (fun hHeld => ?_); clear hK K; refine zn (some 26) ?_; exact norm_ (by simp only [putAll, zp0, zp1, zp2, zp3, zp4]) (hCont (v118) _ ⟨(zR HO119.1), (zB HB.1)⟩)
      ·skip
       have hcv16 := own_string (P := Tryd.prog) Tryd.underlying22 Tryd.underlying5 Tryd.underlying9 (Kd.own_of_R HO119.1); refine value_ (w1 := ?_) (v := ?_) (by rfl) rfl ?_ ?_; rotate_left 2
       ·go_simp
        constructor
        ·rfl
        ·rfl
       clear hcv16; refine hK.out _ _ trivial (fun hHeld => ?_); clear hK K; refine zn (some 26) ?_; refine zo HT_ 2 (some 20) (zA 11 511) (fun K hK => ?_); refine zg Tryd.func62 #[.int .i64 (wrap64 (Int.tdiv a0 10))] ?_; (with_reducible refine (ih k (by omega) (wrap64 (Int.tdiv a0 10)) t116 _ A11.1).mono ?_); rintro e w17 ⟨rfl, hb⟩; refine ⟨_, rfl, ?_⟩; have _ := aM (Kd.R_below (zR HO119.1) hb); have _ := aM (below_step (zB HB.1) hb); clear HO119 HB; rename_i HO119 HB; (try clear hb); (try clear hb2); (try clear hk); (try clear hi); refine hK.out _ _ trivial (fun hHeld => ?_); clear hK K; refine zn (some 20) ?_; exact norm_ (by simp only [putAll, zp0, zp1, zp2, zp3, zp4]) (hCont (v118) _ ⟨(zR HO119.1), (zB HB.1)⟩)
    rintro v118 w18 ⟨h0_, h1_⟩; have n0_ : Aside0 (Kd.R (Kd.int .u8) 5 w18 w.heap.size (fun _ => True) v118 y117) := ⟨h0_⟩; have n1_ : Aside0 (Below w.heap.size w w18) := ⟨h1_⟩; clear HB h0_ h1_; have HO119 := n0_; have HB := n1_; clear n0_ n1_; have hHeld := trivial; refine norm_ (a' := ?_) ?_ ?_; rotate_left
    ·simp only [putAll, zp0, zp1, zp2, zp3, zp4]; rfl
    refine zu HT_ 9 (some 27) (zA 11 1023) ?_; refine zu HT_ 10 (some 2) (zA 11 2047) ?_; refine done_ (done_of HT_.1 (by kernel_rfl)) ?_
    try go_wp2
    go_ret
    exact ⟨by first | rfl | (simp [errW_none, errW_some] <;> rfl) | (simp [*, errW_none, errW_some] <;> rfl), by exact zB HB.1⟩

/-! ### spec_l1Name: function 61 -/
def spec_l1Name.f (k : Nat) (a0 : Int) (a1 : Int) : Option (ByteArray) := (some (([(wrap64 ((wrap64 (97 + a0)) - 1)) % 256] : List Int) : List Int)).bind fun y120 => ((spec_l6Dec.f k a1).bind fun t123 => (if (strOfNums y120).size + t123.size ≤ 9223372036854775807 then (some ((strOfNums y120) ++ t123)) else (none)))
theorem spec_l1Name.mono : ∀ a0 a1 k, LeO (spec_l1Name.f k a0 a1) (spec_l1Name.f (k + 1) a0 a1) := by
 intro a0 a1 k
 unfold spec_l1Name.f
 repeat' with_reducible first | apply spec_l6Dec.mono | exact LeO.refl _ | exact LeO.none _ | refine LeO.ite ?_ ?_ | refine LeO.bind ?_ (fun _ => ?_)
def spec_l1Name.T1 : Bool × List (List Nat × List Nat) := (true, [([], []), ([0], [0]), ([1], [1]), ([2], [2]), ([3], [3]), ([4], [4]), ([], []), ([6], [6]), ([5, 7], [5, 7]), ([8, 7, 0, 1, 2, 3, 4, 5, 6, 7, 8], [8])])
def spec_l1Name.B1 : List Nat := [0, 1, 3, 7, 15, 31, 0, 64, 255, 511]
theorem spec_l1Name.tab1 : rtab .any (opsOf Tryd.f61 1) = spec_l1Name.T1 := by kernel_rfl
theorem spec_l1Name.bits1 : waitsOk spec_l1Name.T1.2 spec_l1Name.B1 = true := by kernel_rfl
set_option maxHeartbeats 8000000 in
set_option maxRecDepth 100000 in
theorem spec_l1Name.calls (k : Nat) (a0 : Int) (a1 : Int) (r : ByteArray) (w : World) (h : spec_l1Name.f k a0 a1 = some r) :
  Calls Tryd.prog 61 #[.int .i64 a0, .int .i64 a1] w fun e w' => e = .returned (.string r) ∧ Below w.heap.size w w' := by
 have HB := aM (Below.refl w.heap.size w); have H : ((some (([(wrap64 ((wrap64 (97 + a0)) - 1)) % 256] : List Int) : List Int)).bind fun y120 => ((spec_l6Dec.f k a1).bind fun t123 => (if (strOfNums y120).size + t123.size ≤ 9223372036854775807 then (some ((strOfNums y120) ++ t123)) else (none)))) = some r := h; clear h; obtain ⟨y120, hy120⟩ : ∃ y_ : List Int, y_ = (([(wrap64 ((wrap64 (97 + a0)) - 1)) % 256] : List Int)) := ⟨_, rfl⟩; (first | (replace H := zbs hy120 H; try dsimp only at H) | rw [← hy120] at H); have Ny120 := aM hy120; clear hy120; replace H := Option.bind_eq_some_iff.mp H; obtain ⟨t123, A30, H⟩ := H; (try dsimp only at H); have A3 := aM A30; clear A30; replace H := zif H; obtain ⟨c4, H⟩ := H; have c4b0 := eq_true c4; have c4b1 : decide ((strOfNums y120).size + t123.size ≤ 9223372036854775807) = true := decide_eq_true c4
 try have c4b2 : (9223372036854775807 < (strOfNums y120).size + t123.size) = False := eq_false (Nat.not_lt.2 c4)
 obtain rfl := Option.some.inj H
 go_enter Tryd.func61, Tryd.ntmps61
 try go_wp2
 have _ := aM (below_drew1 HB.1); clear HB; rename_i HB
 refine start_ (n := 10) (S := fun w' => True) (ds := []) (zA 10 0) (by kernel_rfl) rfl rfl trivial (fun hHeld => ?_); refine with_tabW spec_l1Name.tab1 spec_l1Name.bits1 (fun HT_ HW_ => ?_)
 generalize w.drew = w5 at HB hHeld ⊢; refine zu HT_ 0 (some 5) (zA 10 1) ?_; refine zu HT_ 1 (some 6) (zA 10 3) ?_; refine zu HT_ 2 (some 7) (zA 10 7) ?_; refine zu HT_ 3 (some 8) (zA 10 15) ?_; refine zu HT_ 6 (some 11) (zA 10 79) ?_; refine join_ (σ := Value) 2 (zA 10 255) (fun s_ => [(9, s_), (10, .string (strOfNums y120)), (12, .string t123)]) (fun s_ w' => (Kd.R (Kd.int .u8) 5 w' w.heap.size (fun _ => True) s_ y120) ∧ (Below w.heap.size w w')) ?_ ?_; rotate_left
 ·intro hCont; refine two_ (i := 4) (j := 7) (Ni := some 9) (Nj := some 12) (zA 10 95) (zA 10 207) rfl rfl rfl rfl (two_of HT_.1 (by kernel_rfl)) (by decide) (by decide) (fun K hK => ?_) (fun K hK => ?_)
  ·skip
   refine Kd.R_lit_step (Kd.int .u8) _ 5 ?hg (N := 9) ?hd (xs := ([(wrap64 ((wrap64 (97 + a0)) - 1)) % 256] : List Int)) (inner := [.int .u8 ((wrap64 ((wrap64 (97 + a0)) - 1)) % 256)]) (ok := fun _ => True) (okp := fun _ => True) ?hr ?hp (fun _ hk => hk) trivial (Below.refl _ _) (Nat.le_refl _) (by simp) ?_; (case hd => rfl); (case hg => rfl); (case hr => first | (go_simp; done) | (go_simp; rfl)); (case hp => exact (Reps.one (show Kd.M (Kd.int .u8) _ _ _ ((wrap64 ((wrap64 (97 + a0)) - 1)) % 256) [.int .u8 ((wrap64 ((wrap64 (97 + a0)) - 1)) % 256)] from rfl) (Reps.none _ _)))
   intro v121 w6 ho7 hb hg_ hnew_; clear hg_ hnew_; (first | rw [← Ny120.1] at ho7 | (simp only [Int.reduceToNat] at ho7; rw [← Ny120.1] at ho7)); have _ := aM (Kd.R_lower ho7 (below_size (zB HB.1))); have _ := aM (below_step (zB HB.1) hb); clear HB; rename_i HO122 HB; clear hb ho7; refine hK.out _ _ trivial (fun hHeld => ?_); clear hK K; refine zn (some 9) ?_; refine two_ (i := 5) (j := 7) (Ni := some 10) (Nj := some 12) (zA 10 127) (zA 10 223) rfl rfl rfl rfl (two_of HT_.1 (by kernel_rfl)) (by decide) (by decide) (fun K hK => ?_) (fun K hK => ?_)
   ·skip
    have hcv8 := own_string (P := Tryd.prog) Tryd.underlying22 Tryd.underlying5 Tryd.underlying9 (Kd.own_of_R HO122.1); refine value_ (w1 := ?_) (v := ?_) (by rfl) rfl ?_ ?_; rotate_left 2
    ·go_simp
     constructor
     ·rfl
     ·rfl
    clear hcv8; refine hK.out _ _ trivial (fun hHeld => ?_); clear hK K; refine zn (some 10) ?_; refine zo HT_ 7 (some 12) (zA 10 255) (fun K hK => ?_); refine zg Tryd.func62 #[.int .i64 a1] ?_; (with_reducible refine (spec_l6Dec.calls k a1 t123 _ A3.1).mono ?_); rintro e w9 ⟨rfl, hb⟩; refine ⟨_, rfl, ?_⟩; have _ := aM (Kd.R_below (zR HO122.1) hb); have _ := aM (below_step (zB HB.1) hb); clear HO122 HB; rename_i HO122 HB; (try clear hb); (try clear hb2); (try clear hk); (try clear hi); refine hK.out _ _ trivial (fun hHeld => ?_); clear hK K; refine zn (some 12) ?_; exact norm_ (by simp only [putAll, zp0, zp1, zp2, zp3, zp4]) (hCont (v121) _ ⟨(zR HO122.1), (zB HB.1)⟩)
   ·skip
    refine zg Tryd.func62 #[.int .i64 a1] ?_; (with_reducible refine (spec_l6Dec.calls k a1 t123 _ A3.1).mono ?_); rintro e w8 ⟨rfl, hb⟩; refine ⟨_, rfl, ?_⟩; have _ := aM (Kd.R_below (zR HO122.1) hb); have _ := aM (below_step (zB HB.1) hb); clear HO122 HB; rename_i HO122 HB; (try clear hb); (try clear hb2); (try clear hk); (try clear hi); refine hK.out _ _ trivial (fun hHeld => ?_); clear hK K; refine zn (some 12) ?_; refine zo HT_ 5 (some 10) (zA 10 255) (fun K hK => ?_); have hcv9 := own_string (P := Tryd.prog) Tryd.underlying22 Tryd.underlying5 Tryd.underlying9 (Kd.own_of_R HO122.1); refine value_ (w1 := ?_) (v := ?_) (by rfl) rfl ?_ ?_; rotate_left 2
    ·go_simp
     constructor
     ·rfl
     ·rfl
    clear hcv9; refine hK.out _ _ trivial (fun hHeld => ?_); clear hK K; refine zn (some 10) ?_; exact norm_ (by simp only [putAll, zp0, zp1, zp2, zp3, zp4]) (hCont (v121) _ ⟨(zR HO122.1), (zB HB.1)⟩)
  ·skip
   refine zg Tryd.func62 #[.int .i64 a1] ?_; (with_reducible refine (spec_l6Dec.calls k a1 t123 _ A3.1).mono ?_); rintro e w6 ⟨rfl, hb⟩; refine ⟨_, rfl, ?_⟩; have _ := aM (below_step (zB HB.1) hb); clear HB; rename_i HB; (try clear hb); (try clear hb2); (try clear hk); (try clear hi); refine hK.out _ _ trivial (fun hHeld => ?_); clear hK K; refine zn (some 12) ?_; refine zo HT_ 4 (some 9) (zA 10 223) (fun K hK => ?_)
   refine Kd.R_lit_step (Kd.int .u8) _ 5 ?hg (N := 9) ?hd (xs := ([(wrap64 ((wrap64 (97 + a0)) - 1)) % 256] : List Int)) (inner := [.int .u8 ((wrap64 ((wrap64 (97 + a0)) - 1)) % 256)]) (ok := fun _ => True) (okp := fun _ => True) ?hr ?hp (fun _ hk => hk) trivial (Below.refl _ _) (Nat.le_refl _) (by simp) ?_; (case hd => rfl); (case hg => rfl); (case hr => first | (go_simp; done) | (go_simp; rfl)); (case hp => exact (Reps.one (show Kd.M (Kd.int .u8) _ _ _ ((wrap64 ((wrap64 (97 + a0)) - 1)) % 256) [.int .u8 ((wrap64 ((wrap64 (97 + a0)) - 1)) % 256)] from rfl) (Reps.none _ _)))
   intro v121 w7 ho8 hb hg_ hnew_; clear hg_ hnew_; (first | rw [← Ny120.1] at ho8 | (simp only [Int.reduceToNat] at ho8; rw [← Ny120.1] at ho8)); have _ := aM (Kd.R_lower ho8 (below_size (zB HB.1))); have _ := aM (below_step (zB HB.1) hb); clear HB; rename_i HO122 HB; clear hb ho8; refine hK.out _ _ trivial (fun hHeld => ?_); clear hK K; refine zn (some 9) ?_; refine zo HT_ 5 (some 10) (zA 10 255) (fun K hK => ?_); have hcv9 := own_string (P := Tryd.prog) Tryd.underlying22 Tryd.underlying5 Tryd.underlying9 (Kd.own_of_R HO122.1); refine value_ (w1 := ?_) (v := ?_) (by rfl) rfl ?_ ?_; rotate_left 2
   ·go_simp
    constructor
    ·rfl
    ·rfl
   clear hcv9; refine hK.out _ _ trivial (fun hHeld => ?_); clear hK K; refine zn (some 10) ?_; exact norm_ (by simp only [putAll, zp0, zp1, zp2, zp3, zp4]) (hCont (v121) _ ⟨(zR HO122.1), (zB HB.1)⟩)
 rintro v121 w10 ⟨h0_, h1_⟩; have n0_ : Aside0 (Kd.R (Kd.int .u8) 5 w10 w.heap.size (fun _ => True) v121 y120) := ⟨h0_⟩; have n1_ : Aside0 (Below w.heap.size w w10) := ⟨h1_⟩; clear HB h0_ h1_; have HO122 := n0_; have HB := n1_; clear n0_ n1_; have hHeld := trivial; refine norm_ (a' := ?_) ?_ ?_; rotate_left
 ·simp only [putAll, zp0, zp1, zp2, zp3, zp4]; rfl
 refine zu HT_ 8 (some 13) (zA 10 511) ?_; refine zu HT_ 9 (some 4) (zA 10 1023) ?_; refine done_ (done_of HT_.1 (by kernel_rfl)) ?_
 try go_wp2
 go_ret
 exact ⟨by first | rfl | (simp [errW_none, errW_some] <;> rfl) | (simp [*, errW_none, errW_some] <;> rfl), by exact zB HB.1⟩

/-! ### spec_IndexText: function 36 -/
def spec_IndexText.l0 : Nat → ByteArray → Int → Int → Int → List (S40) → Option (ByteArray)
 | 0, _, _, _, _, _ => none
 | k + 1, x3, x4, x125000, x125001, x125002 => if x4 < (x125002.length : Int) then (if 0 ≤ x4 then ((spec_l1Name.f k ((rd_T40 x125002 x4).f0) ((rd_T40 x125002 x4).f1)).bind fun t130 => (if x3.size + t130.size ≤ 9223372036854775807 then (if (x3 ++ t130).size + 1 ≤ 9223372036854775807 then ((spec_l6Dec.f k ((rd_T40 x125002 x4).f2)).bind fun t132 => (if ((x3 ++ t130) ++ (⟨#[32]⟩ : ByteArray)).size + t132.size ≤ 9223372036854775807 then (if (((x3 ++ t130) ++ (⟨#[32]⟩ : ByteArray)) ++ t132).size + 1 ≤ 9223372036854775807 then (spec_IndexText.l0 k ((((x3 ++ t130) ++ (⟨#[32]⟩ : ByteArray)) ++ t132) ++ (⟨#[10]⟩ : ByteArray)) (wrap64 (x4 + 1)) x125000 x125001 x125002) else (none)) else (none))) else (none)) else (none))) else (none)) else (some x3)
def spec_IndexText.f (k : Nat) (a0_0 : Int) (a0_1 : Int) (l0_2 : List (S40)) : Option (ByteArray) := (spec_IndexOk.f k a0_0 a0_1 l0_2).bind fun t125 => (if t125 = true then ((spec_l6Dec.f k a0_0).bind fun t126 => (if t126.size + 1 ≤ 9223372036854775807 then ((spec_l6Dec.f k a0_1).bind fun t127 => (if (t126 ++ (⟨#[32]⟩ : ByteArray)).size + t127.size ≤ 9223372036854775807 then (if ((t126 ++ (⟨#[32]⟩ : ByteArray)) ++ t127).size + 1 ≤ 9223372036854775807 then (spec_IndexText.l0 k (((t126 ++ (⟨#[32]⟩ : ByteArray)) ++ t127) ++ (⟨#[10]⟩ : ByteArray)) 0 a0_0 a0_1 l0_2) else (none)) else (none))) else (none))) else (some (⟨#[]⟩ : ByteArray)))
theorem spec_IndexText.mono_l : ∀ k, (∀ y0 y1 y2 y3 y4, LeO (spec_IndexText.l0 k y0 y1 y2 y3 y4) (spec_IndexText.l0 (k + 1) y0 y1 y2 y3 y4))
 | 0 => fun _ _ _ _ _ r h => by simp [spec_IndexText.l0] at h
 | k + 1 => by
  have ih0 := spec_IndexText.mono_l k
  ·intro y0 y1 y2 y3 y4
   unfold spec_IndexText.l0
   repeat' first
   | (with_reducible exact ih0 _ _ _ _ _)
   | (with_reducible exact spec_IndexOk.mono _ _ _ _)
   | (with_reducible exact spec_l1Name.mono _ _ _)
   | (with_reducible exact spec_l6Dec.mono _ _)
   | (with_reducible exact LeO.refl _)
   | (with_reducible exact LeO.none _)
   | (with_reducible refine LeO.ite ?_ ?_)
   | (with_reducible refine LeO.bind ?_ (fun _ => ?_))
   | exact ih0 _ _ _ _ _
   | exact spec_IndexOk.mono _ _ _ _
   | exact spec_l1Name.mono _ _ _
   | exact spec_l6Dec.mono _ _
   | exact LeO.none _
   | refine LeO.ite ?_ ?_
   | refine LeO.bind ?_ (fun _ => ?_)
theorem spec_IndexText.mono : ∀ a0 a1 a2 k, LeO (spec_IndexText.f k a0 a1 a2) (spec_IndexText.f (k + 1) a0 a1 a2) := by
 intro a0 a1 a2 k
 have ih0 := spec_IndexText.mono_l k
 unfold spec_IndexText.f
 repeat' with_reducible first | apply ih0 | apply spec_IndexOk.mono | apply spec_l1Name.mono | apply spec_l6Dec.mono | exact LeO.refl _ | exact LeO.none _ | refine LeO.ite ?_ ?_ | refine LeO.bind ?_ (fun _ => ?_)
def spec_IndexText.T3 : Bool × List (List Nat × List Nat) := (true, [([], []), ([0], [0]), ([1], [1]), ([2], [2]), ([], []), ([4], [4]), ([5, 2], [5]), ([3, 6], [3, 6]), ([7], [7]), ([8, 6, 0, 1, 2, 3, 4, 5, 6, 7, 8], [8])])
def spec_IndexText.B3 : List Nat := [0, 1, 3, 7, 0, 16, 55, 127, 255, 511]
theorem spec_IndexText.tab3 : rtab .any (opsOf Tryd.f36 3) = spec_IndexText.T3 := by kernel_rfl
theorem spec_IndexText.bits3 : waitsOk spec_IndexText.T3.2 spec_IndexText.B3 = true := by kernel_rfl
def spec_IndexText.T7 : Bool × List (List Nat × List Nat) := (true, [([], []), ([], []), ([1], [1]), ([], []), ([2, 3], [2, 3]), ([4], [4]), ([5], [5]), ([], []), ([7], [7]), ([], []), ([8, 9], [8, 9]), ([10], [10]), ([11], [11]), ([6, 12], [6, 12]), ([0, 13], [0, 13]), ([14], [14]), ([], []), ([16], [16]), ([], []), ([17, 18], [17, 18]), ([19], [19]), ([20], [20]), ([21, 13], [21]), ([15, 22], [15, 22]), ([23], [23]), ([24, 22, 0, 1, 2, 3, 4, 5, 6, 7, 8, 9, 10, 11, 12, 13, 14, 15, 16, 17, 18, 19, 20, 21, 22, 23, 24], [0, 24])])
def spec_IndexText.B7 : List Nat := [0, 0, 2, 0, 14, 30, 62, 0, 128, 0, 896, 1920, 3968, 8190, 16383, 32767, 0, 65536, 0, 458752, 983040, 2031616, 4145150, 8388607, 16777215, 33554431]
theorem spec_IndexText.tab7 : rtab .any (opsOf Tryd.f36 7) = spec_IndexText.T7 := by kernel_rfl
theorem spec_IndexText.bits7 : waitsOk spec_IndexText.T7.2 spec_IndexText.B7 = true := by kernel_rfl
set_option maxHeartbeats 8000000 in
set_option maxRecDepth 100000 in
theorem spec_IndexText.calls (k : Nat) (a0_0 : Int) (a0_1 : Int) (A0_2 : Option Addr) (c0_2 : Nat) (l0_2 : List (S40)) (r : ByteArray) (w : World) (hr0_2 : Kd.C k40 w A0_2 l0_2.length l0_2) (hc0_2 : l0_2.length ≤ c0_2) (h : spec_IndexText.f k a0_0 a0_1 l0_2 = some r) :
  Calls Tryd.prog 36 #[.agg #[.int .i64 a0_0, .int .i64 a0_1, .slice A0_2 l0_2.length c0_2]] w fun e w' => e = .returned (.string r) ∧ Below w.heap.size w w' := by
 have hu25 := Tryd.underlying25; have HR0_2 := aM hr0_2; have HC0_2 := aM hc0_2; clear hr0_2 hc0_2; have HB := aM (Below.refl w.heap.size w); have H : ((spec_IndexOk.f k a0_0 a0_1 l0_2).bind fun t125 => (if t125 = true then ((spec_l6Dec.f k a0_0).bind fun t126 => (if t126.size + 1 ≤ 9223372036854775807 then ((spec_l6Dec.f k a0_1).bind fun t127 => (if (t126 ++ (⟨#[32]⟩ : ByteArray)).size + t127.size ≤ 9223372036854775807 then (if ((t126 ++ (⟨#[32]⟩ : ByteArray)) ++ t127).size + 1 ≤ 9223372036854775807 then (spec_IndexText.l0 k (((t126 ++ (⟨#[32]⟩ : ByteArray)) ++ t127) ++ (⟨#[10]⟩ : ByteArray)) 0 a0_0 a0_1 l0_2) else (none)) else (none))) else (none))) else (some (⟨#[]⟩ : ByteArray)))) = some r := h; clear h; replace H := Option.bind_eq_some_iff.mp H; obtain ⟨t125, A20, H⟩ := H; (try dsimp only at H); have A2 := aM A20; clear A20
 by_cases c3 : t125 = true
 ·subst c3; replace H := zy1 H; replace H := Option.bind_eq_some_iff.mp H; obtain ⟨t126, A40, H⟩ := H; (try dsimp only at H); have A4 := aM A40; clear A40; replace H := zif H; obtain ⟨c5, H⟩ := H; have c5b0 := eq_true c5; have c5b1 : decide (t126.size + 1 ≤ 9223372036854775807) = true := decide_eq_true c5
  try have c5b2 : (9223372036854775807 < t126.size + 1) = False := eq_false (Nat.not_lt.2 c5)
  replace H := Option.bind_eq_some_iff.mp H; obtain ⟨t127, A60, H⟩ := H; (try dsimp only at H); have A6 := aM A60; clear A60; replace H := zif H; obtain ⟨c7, H⟩ := H; have c7b0 := eq_true c7; have c7b1 : decide ((t126 ++ (⟨#[32]⟩ : ByteArray)).size + t127.size ≤ 9223372036854775807) = true := decide_eq_true c7
  try have c7b2 : (9223372036854775807 < (t126 ++ (⟨#[32]⟩ : ByteArray)).size + t127.size) = False := eq_false (Nat.not_lt.2 c7)
  have c7b9 : (9223372036854775807 < t126.size + 1 + t127.size) = False := eq_false (by have h_ := c7; simp only [ByteArray.size_append, show (⟨#[32]⟩ : ByteArray).size = 1 from rfl, show (⟨#[58]⟩ : ByteArray).size = 1 from rfl] at h_; omega); replace H := zif H; obtain ⟨c8, H⟩ := H; have c8b0 := eq_true c8; have c8b1 : decide (((t126 ++ (⟨#[32]⟩ : ByteArray)) ++ t127).size + 1 ≤ 9223372036854775807) = true := decide_eq_true c8
  try have c8b2 : (9223372036854775807 < ((t126 ++ (⟨#[32]⟩ : ByteArray)) ++ t127).size + 1) = False := eq_false (Nat.not_lt.2 c8)
  have c8b9 : (9223372036854775807 < t126.size + 1 + t127.size + 1) = False := eq_false (by have h_ := c8; simp only [ByteArray.size_append, show (⟨#[32]⟩ : ByteArray).size = 1 from rfl, show (⟨#[58]⟩ : ByteArray).size = 1 from rfl] at h_; omega); have H' := aM H; clear H
  go_enter Tryd.func36, Tryd.ntmps36
  try go_wp2_with (first | ((with_reducible refine gate_dst (N := 1) rfl ?_); refine zbx 1 #[.int .i64 a0_0, .int .i64 a0_1, .slice A0_2 l0_2.length c0_2] 25 ?_; intro gb124 hg w9 hbox hb; have _ := aM (below_step (zB HB.1) hb); have _ := aM (hbox); have _ := aM (zge hg (zB HB.1)); have _ := aM (zge hg (zB HB.1)); clear HB; rename_i HB BK124 GW124 GE124; clear hb hbox hg; obtain ⟨hcz10_0, hcz10_1, hcz10_2, hfz10_0, hfz10_1, hfz10_2⟩ := zc3f BK124.1) | ((with_reducible refine gate_callee (f := 18) rfl ?_); refine zgL (some 6) Tryd.func18 #[.agg #[.int .i64 a0_0, .int .i64 a0_1, .slice A0_2 l0_2.length c0_2]] ?_; (with_reducible refine (spec_IndexOk.calls k a0_0 a0_1 _ _ l0_2 true _ ?side1 ?side2 A2.1).mono ?_); (case side1 => exact zC (Kd.C_below HR0_2.1 HB.1)); (case side2 => exact HC0_2.1); rintro e w11 ⟨rfl, hb⟩; refine ⟨_, rfl, ?_⟩; have _ := aM (blk_below (zK BK124.1) hb); have _ := aM (below_step (zB1 HB.1 GE124.1) hb); clear BK124 HB; rename_i BK124 HB; (try clear hb); (try clear hb2); (try clear hk); (try clear hi)))
  have _ := aM (blk_drew BK124.1); have _ := aM (below_drew1 HB.1); clear BK124 HB; rename_i BK124 HB
  refine start_ (n := 10) (S := fun w' => w'.cell? ⟨gb124, 0, none⟩ = some (.int .i64 a0_0) ∧ w'.cell? ⟨gb124, 1, none⟩ = some (.int .i64 a0_1) ∧ w'.cell? ⟨gb124, 2, none⟩ = some (.slice A0_2 l0_2.length c0_2)) (ds := []) (zA 10 0) (by kernel_rfl) rfl rfl ⟨(blk_cell BK124.1 0).trans rfl, (blk_cell BK124.1 1).trans rfl, (blk_cell BK124.1 2).trans rfl⟩ (fun hHeld => ?_); refine with_tabW spec_IndexText.tab3 spec_IndexText.bits3 (fun HT_ HW_ => ?_)
  generalize w11.drew = w12 at BK124 HB hHeld ⊢; refine zu HT_ 0 (some 8) (zA 10 1) ?_; refine zu HT_ 4 (some 12) (zA 10 17) ?_; refine take_ (i := 1) (N := some 9) (v := ?_) (a' := ?_) (zA 10 19) rfl rfl (take_ofW HT_.1 HW_.1 (by kernel_rfl)) (fun _ _ _ h => h) (Or.inl ⟨by rfl, ?_⟩) hHeld ?_ ?_; rotate_left
  ·rintro w' ⟨s0, s1, s2⟩
   go_simp
   (with_reducible rfl)
  rotate_left
  ·simp only [zp0, zp1, zp2, zp3, zp4, i64_w, i32_w]; rfl
  refine take_ (i := 5) (N := some 13) (v := ?_) (a' := ?_) (zA 10 51) rfl rfl (take_ofW HT_.1 HW_.1 (by kernel_rfl)) (fun _ _ _ h => h) (Or.inl ⟨by rfl, ?_⟩) hHeld ?_ ?_; rotate_left
  ·rintro w' ⟨s0, s1, s2⟩
   go_simp
   (with_reducible rfl)
  rotate_left
  ·simp only [zp0, zp1, zp2, zp3, zp4, i64_w, i32_w]; rfl
  refine zo HT_ 2 (some 10) (zA 10 55) (fun K hK => ?_); refine zg Tryd.func62 #[.int .i64 a0_0] ?_; (with_reducible refine (spec_l6Dec.calls k a0_0 t126 _ A4.1).mono ?_); rintro e w13 ⟨rfl, hb⟩; refine ⟨_, rfl, ?_⟩; have _ := aM (blk_below (zK BK124.1) hb); have _ := aM (below_step (zB1 HB.1 GE124.1) hb); clear BK124 HB; rename_i BK124 HB; (try clear hb); (try clear hb2); (try clear hk); (try clear hi); refine hK.out _ _ ⟨(blk_cell BK124.1 0).trans rfl, (blk_cell BK124.1 1).trans rfl, (blk_cell BK124.1 2).trans rfl⟩ (fun hHeld => ?_); clear hK K; refine zn (some 10) ?_; refine zu HT_ 3 (some 11) (zA 10 63) ?_; refine zo HT_ 6 (some 14) (zA 10 127) (fun K hK => ?_); refine zg Tryd.func62 #[.int .i64 a0_1] ?_; (with_reducible refine (spec_l6Dec.calls k a0_1 t127 _ A6.1).mono ?_); rintro e w14 ⟨rfl, hb⟩; refine ⟨_, rfl, ?_⟩; have _ := aM (blk_below (zK BK124.1) hb); have _ := aM (below_step (zB1 HB.1 GE124.1) hb); clear BK124 HB; rename_i BK124 HB; (try clear hb); (try clear hb2); (try clear hk); (try clear hi); refine hK.out _ _ ⟨(blk_cell BK124.1 0).trans rfl, (blk_cell BK124.1 1).trans rfl, (blk_cell BK124.1 2).trans rfl⟩ (fun hHeld => ?_); clear hK K; refine zn (some 14) ?_; refine zu HT_ 7 (some 15) (zA 10 255) ?_; refine zu HT_ 8 (some 16) (zA 10 511) ?_; refine zu HT_ 9 (some 3) (zA 10 1023) ?_; refine done_ (done_of HT_.1 (by kernel_rfl)) ?_
  try go_wp2
  go_loopg [3, 4] k (fun kq v3 v4 w' => ∃ (x3_1 : ByteArray) (x4_1 : Int), v3 = .string x3_1 ∧ v4 = .int .i64 x4_1 ∧ Aside0 (spec_IndexText.l0 kq x3_1 x4_1 a0_0 a0_1 l0_2 = some r) ∧ Aside0 (kq ≤ k) ∧ Aside0 (w'.heap[gb124]? = some (.cells #[.int .i64 a0_0, .int .i64 a0_1, (.slice A0_2 l0_2.length c0_2)] 25 (0, 0))) ∧ Aside0 (Below w.heap.size w w'))
  case atStart => exact ⟨(((t126 ++ (⟨#[32]⟩ : ByteArray)) ++ t127) ++ (⟨#[10]⟩ : ByteArray)), (0), (by first | rfl | (simp; done) | (simp [*]; done)), (by first | rfl | (simp; done) | (simp [*]; done)), H', ⟨Nat.le_refl _⟩, ⟨zK BK124.1⟩, ⟨zB1 HB.1 GE124.1⟩⟩
  case round =>
   clear H'
   try clear c1
   try clear p2
   try clear c3
   try clear c5
   try clear c5b0
   try clear c5b1
   try clear c5b2
   try clear c6
   try clear c7
   try clear c7b0
   try clear c7b1
   try clear c7b2
   try clear c8
   try clear c8b0
   try clear c8b1
   try clear c8b2
   try clear hcz10_0
   try clear hcz10_1
   try clear hcz10_2
   try clear hfz10_0
   try clear hfz10_1
   try clear hfz10_2
   obtain ⟨x3_1, x4_1, rfl, rfl, HA, HK1, BK124, HB⟩ := hrel; cases gk with
   | zero => exact absurd HA.1 (by simp [spec_IndexText.l0])
   | succ k1 =>
    have H := HA.1; clear HA; simp only [spec_IndexText.l0] at H
    by_cases c15 : x4_1 < (l0_2.length : Int)
    ·rw [if_pos c15] at H; have c15b0 : decide (x4_1 < (l0_2.length : Int)) = true := decide_eq_true c15; clear c15; replace H := zif H; obtain ⟨c16, H⟩ := H; have c16b0 : decide (0 ≤ x4_1) = true := decide_eq_true c16; clear c16; replace H := Option.bind_eq_some_iff.mp H; obtain ⟨t130, A170, H⟩ := H; (try dsimp only at H); have A17 := aM A170; clear A170; replace H := zif H; obtain ⟨c18, H⟩ := H; have c18b0 := eq_true c18; have c18b1 : decide (x3_1.size + t130.size ≤ 9223372036854775807) = true := decide_eq_true c18
     try have c18b2 : (9223372036854775807 < x3_1.size + t130.size) = False := eq_false (Nat.not_lt.2 c18)
     replace H := zif H; obtain ⟨c19, H⟩ := H; have c19b0 := eq_true c19; have c19b1 : decide ((x3_1 ++ t130).size + 1 ≤ 9223372036854775807) = true := decide_eq_true c19
     try have c19b2 : (9223372036854775807 < (x3_1 ++ t130).size + 1) = False := eq_false (Nat.not_lt.2 c19)
     have c19b9 : (9223372036854775807 < x3_1.size + t130.size + 1) = False := eq_false (by have h_ := c19; simp only [ByteArray.size_append, show (⟨#[32]⟩ : ByteArray).size = 1 from rfl, show (⟨#[58]⟩ : ByteArray).size = 1 from rfl] at h_; omega); replace H := Option.bind_eq_some_iff.mp H; obtain ⟨t132, A200, H⟩ := H; (try dsimp only at H); have A20 := aM A200; clear A200; replace H := zif H; obtain ⟨c21, H⟩ := H; have c21b0 := eq_true c21; have c21b1 : decide (((x3_1 ++ t130) ++ (⟨#[32]⟩ : ByteArray)).size + t132.size ≤ 9223372036854775807) = true := decide_eq_true c21
     try have c21b2 : (9223372036854775807 < ((x3_1 ++ t130) ++ (⟨#[32]⟩ : ByteArray)).size + t132.size) = False := eq_false (Nat.not_lt.2 c21)
     have c21b9 : (9223372036854775807 < x3_1.size + t130.size + 1 + t132.size) = False := eq_false (by have h_ := c21; simp only [ByteArray.size_append, show (⟨#[32]⟩ : ByteArray).size = 1 from rfl, show (⟨#[58]⟩ : ByteArray).size = 1 from rfl] at h_; omega); replace H := zif H; obtain ⟨c22, H⟩ := H; have c22b0 := eq_true c22; have c22b1 : decide ((((x3_1 ++ t130) ++ (⟨#[32]⟩ : ByteArray)) ++ t132).size + 1 ≤ 9223372036854775807) = true := decide_eq_true c22
     try have c22b2 : (9223372036854775807 < (((x3_1 ++ t130) ++ (⟨#[32]⟩ : ByteArray)) ++ t132).size + 1) = False := eq_false (Nat.not_lt.2 c22)
     have c22b9 : (9223372036854775807 < x3_1.size + t130.size + 1 + t132.size + 1) = False := eq_false (by have h_ := c22; simp only [ByteArray.size_append, show (⟨#[32]⟩ : ByteArray).size = 1 from rfl, show (⟨#[58]⟩ : ByteArray).size = 1 from rfl] at h_; omega); have H' := aM H; clear H; obtain ⟨hcz23_0, hcz23_1, hcz23_2, hfz23_0, hfz23_1, hfz23_2⟩ := zc3f BK124.1
     try go_wp2
     have _ := aM (blk_drew BK124.1); have _ := aM (below_drew1 HB.1); clear BK124 HB; rename_i BK124 HB; have p128 : 0 ≤ (x4_1 : Int) := zd; have q128 : x4_1 < (l0_2.length : Int) := zd; obtain ⟨ad128, e128, hx128_0, hx128_1, hx128_2⟩ := at_T40 HR0_2.1 x4_1 p128 q128; have hw128_2 := hx128_2; have hw128_1 := hx128_1; have hw128_0 := hx128_0; cases e128; replace hx128_0 := (HB.1.cell (World.block_lt_of_cell? w _ hx128_0)).trans hx128_0; replace hx128_1 := (HB.1.cell (World.block_lt_of_cell? w _ hx128_1)).trans hx128_1; replace hx128_2 := (HB.1.cell (World.block_lt_of_cell? w _ hx128_2)).trans hx128_2; replace p128 := eq_true p128; replace q128 := eq_true q128; have p129 : 0 ≤ (x4_1 : Int) := zd; have q129 : x4_1 < (l0_2.length : Int) := zd; obtain ⟨ad129, e129, hx129_0, hx129_1, hx129_2⟩ := at_T40 HR0_2.1 x4_1 p129 q129; have hw129_2 := hx129_2; have hw129_1 := hx129_1; have hw129_0 := hx129_0; obtain rfl : ad128 = ad129 := (by injection e129); replace hx129_0 := (HB.1.cell (World.block_lt_of_cell? w _ hx129_0)).trans hx129_0; replace hx129_1 := (HB.1.cell (World.block_lt_of_cell? w _ hx129_1)).trans hx129_1; replace hx129_2 := (HB.1.cell (World.block_lt_of_cell? w _ hx129_2)).trans hx129_2; replace p129 := eq_true p129; replace q129 := eq_true q129; have p131 : 0 ≤ (x4_1 : Int) := zd; have q131 : x4_1 < (l0_2.length : Int) := zd; obtain ⟨ad131, e131, hx131_0, hx131_1, hx131_2⟩ := at_T40 HR0_2.1 x4_1 p131 q131; have hw131_2 := hx131_2; have hw131_1 := hx131_1; have hw131_0 := hx131_0; obtain rfl : ad128 = ad131 := (by injection e131); replace hx131_0 := (HB.1.cell (World.block_lt_of_cell? w _ hx131_0)).trans hx131_0; replace hx131_1 := (HB.1.cell (World.block_lt_of_cell? w _ hx131_1)).trans hx131_1; replace hx131_2 := (HB.1.cell (World.block_lt_of_cell? w _ hx131_2)).trans hx131_2; replace p131 := eq_true p131; replace q131 := eq_true q131
     refine start_ (n := 26) (S := fun w' => w'.cell? ⟨gb124, 0, none⟩ = some (.int .i64 a0_0) ∧ w'.cell? ⟨gb124, 1, none⟩ = some (.int .i64 a0_1) ∧ w'.cell? ⟨gb124, 2, none⟩ = some (.slice (some ad128) l0_2.length c0_2) ∧ w'.cell? (ad128.add ((x4_1).toNat * 3)) = some (.int .i64 ((rd_T40 l0_2 x4_1).f0)) ∧ w'.cell? ⟨(ad128.add ((x4_1).toNat * 3)).block, (ad128.add ((x4_1).toNat * 3)).off + 1, none⟩ = some (.int .i64 ((rd_T40 l0_2 x4_1).f1)) ∧ w'.cell? ⟨(ad128.add ((x4_1).toNat * 3)).block, (ad128.add ((x4_1).toNat * 3)).off + 2, none⟩ = some (.int .i64 ((rd_T40 l0_2 x4_1).f2)) ∧ w'.cell? (ad128.add ((x4_1).toNat * 3)) = some (.int .i64 ((rd_T40 l0_2 x4_1).f0)) ∧ w'.cell? ⟨(ad128.add ((x4_1).toNat * 3)).block, (ad128.add ((x4_1).toNat * 3)).off + 1, none⟩ = some (.int .i64 ((rd_T40 l0_2 x4_1).f1)) ∧ w'.cell? ⟨(ad128.add ((x4_1).toNat * 3)).block, (ad128.add ((x4_1).toNat * 3)).off + 2, none⟩ = some (.int .i64 ((rd_T40 l0_2 x4_1).f2)) ∧ w'.cell? (ad128.add ((x4_1).toNat * 3)) = some (.int .i64 ((rd_T40 l0_2 x4_1).f0)) ∧ w'.cell? ⟨(ad128.add ((x4_1).toNat * 3)).block, (ad128.add ((x4_1).toNat * 3)).off + 1, none⟩ = some (.int .i64 ((rd_T40 l0_2 x4_1).f1)) ∧ w'.cell? ⟨(ad128.add ((x4_1).toNat * 3)).block, (ad128.add ((x4_1).toNat * 3)).off + 2, none⟩ = some (.int .i64 ((rd_T40 l0_2 x4_1).f2))) (ds := []) (zA 26 0) (by kernel_rfl) rfl rfl ⟨(blk_cell BK124.1 0).trans rfl, (blk_cell BK124.1 1).trans rfl, (blk_cell BK124.1 2).trans rfl, ((HB.1.cell (World.block_lt_of_cell? w _ hw128_0)).trans hw128_0), ((HB.1.cell (World.block_lt_of_cell? w _ hw128_1)).trans hw128_1), ((HB.1.cell (World.block_lt_of_cell? w _ hw128_2)).trans hw128_2), ((HB.1.cell (World.block_lt_of_cell? w _ hw129_0)).trans hw129_0), ((HB.1.cell (World.block_lt_of_cell? w _ hw129_1)).trans hw129_1), ((HB.1.cell (World.block_lt_of_cell? w _ hw129_2)).trans hw129_2), ((HB.1.cell (World.block_lt_of_cell? w _ hw131_0)).trans hw131_0), ((HB.1.cell (World.block_lt_of_cell? w _ hw131_1)).trans hw131_1), ((HB.1.cell (World.block_lt_of_cell? w _ hw131_2)).trans hw131_2)⟩ (fun hHeld => ?_); refine with_tabW spec_IndexText.tab7 spec_IndexText.bits7 (fun HT_ HW_ => ?_)
     generalize wr.drew = w24 at BK124 HB hx128_0 hx128_1 hx128_2 hx129_0 hx129_1 hx129_2 hx131_0 hx131_1 hx131_2 hHeld ⊢; refine zu HT_ 0 (some 24) (zA 26 1) ?_; refine zu HT_ 1 (some 25) (zA 26 3) ?_; refine zu HT_ 3 (some 27) (zA 26 11) ?_; refine zu HT_ 7 (some 31) (zA 26 139) ?_; refine zu HT_ 9 (some 33) (zA 26 651) ?_; refine zu HT_ 16 (some 40) (zA 26 66187) ?_; refine zu HT_ 18 (some 42) (zA 26 328331) ?_; refine take_ (i := 2) (N := some 26) (v := ?_) (a' := ?_) (zA 26 328335) rfl rfl (take_ofW HT_.1 HW_.1 (by kernel_rfl)) (fun _ _ _ h => h) (Or.inl ⟨by rfl, ?_⟩) hHeld ?_ ?_; rotate_left
     ·rintro w' ⟨s0, s1, s2, s3, s4, s5, s6, s7, s8, s9, s10, s11⟩
      go_simp
      (with_reducible rfl)
     rotate_left
     ·simp only [zp0, zp1, zp2, zp3, zp4, i64_w, i32_w]; rfl
     refine zu HT_ 4 (some 28) (zA 26 328351) ?_; refine zu HT_ 5 (some 29) (zA 26 328383) ?_; refine take_ (i := 6) (N := some 30) (v := ?_) (a' := ?_) (zA 26 328447) rfl rfl (take_ofW HT_.1 HW_.1 (by kernel_rfl)) (fun _ _ _ h => h) (Or.inl ⟨by rfl, ?_⟩) hHeld ?_ ?_; rotate_left
     ·rintro w' ⟨s0, s1, s2, s3, s4, s5, s6, s7, s8, s9, s10, s11⟩
      go_simp
      (with_reducible rfl)
     rotate_left
     ·simp only [zp0, zp1, zp2, zp3, zp4, i64_w, i32_w]; rfl
     refine take_ (i := 8) (N := some 32) (v := ?_) (a' := ?_) (zA 26 328703) rfl rfl (take_ofW HT_.1 HW_.1 (by kernel_rfl)) (fun _ _ _ h => h) (Or.inl ⟨by rfl, ?_⟩) hHeld ?_ ?_; rotate_left
     ·rintro w' ⟨s0, s1, s2, s3, s4, s5, s6, s7, s8, s9, s10, s11⟩
      go_simp
      (with_reducible rfl)
     rotate_left
     ·simp only [zp0, zp1, zp2, zp3, zp4, i64_w, i32_w]; rfl
     refine zu HT_ 10 (some 34) (zA 26 329727) ?_; refine zu HT_ 11 (some 35) (zA 26 331775) ?_; refine take_ (i := 12) (N := some 36) (v := ?_) (a' := ?_) (zA 26 335871) rfl rfl (take_ofW HT_.1 HW_.1 (by kernel_rfl)) (fun _ _ _ h => h) (Or.inl ⟨by rfl, ?_⟩) hHeld ?_ ?_; rotate_left
     ·rintro w' ⟨s0, s1, s2, s3, s4, s5, s6, s7, s8, s9, s10, s11⟩
      go_simp
      (with_reducible rfl)
     rotate_left
     ·simp only [zp0, zp1, zp2, zp3, zp4, i64_w, i32_w]; rfl
     refine take_ (i := 17) (N := some 41) (v := ?_) (a' := ?_) (zA 26 466943) rfl rfl (take_ofW HT_.1 HW_.1 (by kernel_rfl)) (fun _ _ _ h => h) (Or.inl ⟨by rfl, ?_⟩) hHeld ?_ ?_; rotate_left
     ·rintro w' ⟨s0, s1, s2, s3, s4, s5, s6, s7, s8, s9, s10, s11⟩
      go_simp
      (with_reducible rfl)
     rotate_left
     ·simp only [zp0, zp1, zp2, zp3, zp4, i64_w, i32_w]; rfl
     refine zu HT_ 19 (some 43) (zA 26 991231) ?_; refine zu HT_ 20 (some 44) (zA 26 2039807) ?_; refine take_ (i := 21) (N := some 45) (v := ?_) (a' := ?_) (zA 26 4136959) rfl rfl (take_ofW HT_.1 HW_.1 (by kernel_rfl)) (fun _ _ _ h => h) (Or.inl ⟨by rfl, ?_⟩) hHeld ?_ ?_; rotate_left
     ·rintro w' ⟨s0, s1, s2, s3, s4, s5, s6, s7, s8, s9, s10, s11⟩
      go_simp
      (with_reducible rfl)
     rotate_left
     ·simp only [zp0, zp1, zp2, zp3, zp4, i64_w, i32_w]; rfl
     refine zo HT_ 13 (some 37) (zA 26 4145151) (fun K hK => ?_); refine zg Tryd.func61 #[.int .i64 ((rd_T40 l0_2 x4_1).f0), .int .i64 ((rd_T40 l0_2 x4_1).f1)] ?_; (with_reducible refine (spec_l1Name.calls k1 ((rd_T40 l0_2 x4_1).f0) ((rd_T40 l0_2 x4_1).f1) t130 _ A17.1).mono ?_); rintro e w25 ⟨rfl, hb⟩; refine ⟨_, rfl, ?_⟩; have _ := aM (blk_below (zK BK124.1) hb); have _ := aM (below_step (zB1 HB.1 GE124.1) hb); clear BK124 HB; rename_i BK124 HB; (try clear hb); (try clear hb2); (try clear hk); (try clear hi); refine hK.out _ _ ⟨(blk_cell BK124.1 0).trans rfl, (blk_cell BK124.1 1).trans rfl, (blk_cell BK124.1 2).trans rfl, ((HB.1.cell (World.block_lt_of_cell? w _ hw128_0)).trans hw128_0), ((HB.1.cell (World.block_lt_of_cell? w _ hw128_1)).trans hw128_1), ((HB.1.cell (World.block_lt_of_cell? w _ hw128_2)).trans hw128_2), ((HB.1.cell (World.block_lt_of_cell? w _ hw129_0)).trans hw129_0), ((HB.1.cell (World.block_lt_of_cell? w _ hw129_1)).trans hw129_1), ((HB.1.cell (World.block_lt_of_cell? w _ hw129_2)).trans hw129_2), ((HB.1.cell (World.block_lt_of_cell? w _ hw131_0)).trans hw131_0), ((HB.1.cell (World.block_lt_of_cell? w _ hw131_1)).trans hw131_1), ((HB.1.cell (World.block_lt_of_cell? w _ hw131_2)).trans hw131_2)⟩ (fun hHeld => ?_); clear hK K; refine zn (some 37) ?_; refine zu HT_ 14 (some 38) (zA 26 4161535) ?_; refine zu HT_ 15 (some 39) (zA 26 4194303) ?_; refine zo HT_ 22 (some 46) (zA 26 8388607) (fun K hK => ?_); refine zg Tryd.func62 #[.int .i64 ((rd_T40 l0_2 x4_1).f2)] ?_; (with_reducible refine (spec_l6Dec.calls k1 ((rd_T40 l0_2 x4_1).f2) t132 _ A20.1).mono ?_); rintro e w26 ⟨rfl, hb⟩; refine ⟨_, rfl, ?_⟩; have _ := aM (blk_below (zK BK124.1) hb); have _ := aM (below_step (zB1 HB.1 GE124.1) hb); clear BK124 HB; rename_i BK124 HB; (try clear hb); (try clear hb2); (try clear hk); (try clear hi); refine hK.out _ _ ⟨(blk_cell BK124.1 0).trans rfl, (blk_cell BK124.1 1).trans rfl, (blk_cell BK124.1 2).trans rfl, ((HB.1.cell (World.block_lt_of_cell? w _ hw128_0)).trans hw128_0), ((HB.1.cell (World.block_lt_of_cell? w _ hw128_1)).trans hw128_1), ((HB.1.cell (World.block_lt_of_cell? w _ hw128_2)).trans hw128_2), ((HB.1.cell (World.block_lt_of_cell? w _ hw129_0)).trans hw129_0), ((HB.1.cell (World.block_lt_of_cell? w _ hw129_1)).trans hw129_1), ((HB.1.cell (World.block_lt_of_cell? w _ hw129_2)).trans hw129_2), ((HB.1.cell (World.block_lt_of_cell? w _ hw131_0)).trans hw131_0), ((HB.1.cell (World.block_lt_of_cell? w _ hw131_1)).trans hw131_1), ((HB.1.cell (World.block_lt_of_cell? w _ hw131_2)).trans hw131_2)⟩ (fun hHeld => ?_); clear hK K; refine zn (some 46) ?_; refine zu HT_ 23 (some 47) (zA 26 16777215) ?_; refine zu HT_ 24 (some 48) (zA 26 33554431) ?_; refine zu HT_ 25 (some 3) (zA 26 67108863) ?_; refine done_ (done_of HT_.1 (by kernel_rfl)) ?_
     try go_wp2
     go_roundg k1
     case measure => have := HK1.1; omega
     case rel => exact ⟨((((x3_1 ++ t130) ++ (⟨#[32]⟩ : ByteArray)) ++ t132) ++ (⟨#[10]⟩ : ByteArray)), (wrap64 (x4_1 + 1)), (by first | rfl | (simp; done) | (simp [*]; done)), (by first | rfl | (simp; done) | (simp [*]; done)), H', ⟨by have := HK1.1; omega⟩, ⟨zK BK124.1⟩, ⟨zB1 HB.1 GE124.1⟩⟩
    ·rw [if_neg c15] at H; have c15b0 : decide (x4_1 < (l0_2.length : Int)) = false := decide_eq_false c15; clear c15; obtain rfl := Option.some.inj H; obtain ⟨hcz27_0, hcz27_1, hcz27_2, hfz27_0, hfz27_1, hfz27_2⟩ := zc3f BK124.1
     go_wp2
     go_ret
     exact ⟨by first | rfl | (simp [errW_none, errW_some] <;> rfl) | (simp [*, errW_none, errW_some] <;> rfl), by exact zB1 HB.1 GE124.1⟩
 ·replace c3 := Bool.eq_false_iff.mpr c3; subst c3; replace H := zy0 H; obtain rfl := Option.some.inj H
  go_enter Tryd.func36, Tryd.ntmps36
  go_wp2_with (first | ((with_reducible refine gate_dst (N := 1) rfl ?_); refine zbx 1 #[.int .i64 a0_0, .int .i64 a0_1, .slice A0_2 l0_2.length c0_2] 25 ?_; intro gb124 hg w28 hbox hb; have _ := aM (below_step (zB HB.1) hb); have _ := aM (hbox); have _ := aM (zge hg (zB HB.1)); have _ := aM (zge hg (zB HB.1)); clear HB; rename_i HB BK124 GW124 GE124; clear hb hbox hg; obtain ⟨hcz29_0, hcz29_1, hcz29_2, hfz29_0, hfz29_1, hfz29_2⟩ := zc3f BK124.1) | ((with_reducible refine gate_callee (f := 18) rfl ?_); refine zgL (some 6) Tryd.func18 #[.agg #[.int .i64 a0_0, .int .i64 a0_1, .slice A0_2 l0_2.length c0_2]] ?_; (with_reducible refine (spec_IndexOk.calls k a0_0 a0_1 _ _ l0_2 false _ ?side1 ?side2 A2.1).mono ?_); (case side1 => exact zC (Kd.C_below HR0_2.1 HB.1)); (case side2 => exact HC0_2.1); rintro e w30 ⟨rfl, hb⟩; refine ⟨_, rfl, ?_⟩; have _ := aM (blk_below (zK BK124.1) hb); have _ := aM (below_step (zB1 HB.1 GE124.1) hb); clear BK124 HB; rename_i BK124 HB; (try clear hb); (try clear hb2); (try clear hk); (try clear hi)))
  go_ret
  exact ⟨by first | rfl | (simp [errW_none, errW_some] <;> rfl) | (simp [*, errW_none, errW_some] <;> rfl), by exact zB1 HB.1 GE124.1⟩

/-! ### spec_l1Cut: function 66 -/
def cutStep (at_ : Int) (out : List ByteArray) (b : Int) : List ByteArray := if b = at_ then out ++ [⟨#[]⟩] else out.set (out.length - 1) (out.getD (out.length - 1) ByteArray.empty ++ strOfNums [b])
def cutN (s : ByteArray) (at_ : Int) : Nat → List ByteArray
 | 0 => [⟨#[]⟩]
 | n + 1 => cutStep at_ (cutN s at_ n) (bt s (n : Int))
theorem cutN_len (s : ByteArray) (at_ : Int) : ∀ n, 1 ≤ (cutN s at_ n).length ∧ (cutN s at_ n).length ≤ n + 1
 | 0 => ⟨by simp [cutN], by simp [cutN]⟩
 | n + 1 => by
  obtain ⟨h1, h2⟩ := cutN_len s at_ n
  unfold cutN cutStep
  split
  ·rw [List.length_append]; simp only [List.length_cons, List.length_nil]; omega
  ·rw [List.length_set]; omega
theorem cutN_size (s : ByteArray) (at_ : Int) : ∀ n, ∀ b ∈ cutN s at_ n, b.size ≤ n
 | 0, b, hb => by
  rw [List.mem_singleton.1 hb]
  exact Nat.le_refl _
 | n + 1, b, hb => by
  have ih := cutN_size s at_ n
  unfold cutN cutStep at hb
  split at hb
  ·rcases List.mem_append.1 hb with h | h
   ·have := ih b h; omega
   ·rw [List.mem_singleton.1 h]; exact Nat.zero_le _
  ·rcases List.mem_or_eq_of_mem_set hb with h | rfl
   ·have := ih b h; omega
   ·obtain ⟨h1, _⟩ := cutN_len s at_ n
    have h3 : (cutN s at_ n).getD ((cutN s at_ n).length - 1) ByteArray.empty ∈ cutN s at_ n := by
     rw [List.getD_eq_getElem?_getD, List.getElem?_eq_getElem (by omega : (cutN s at_ n).length - 1 < (cutN s at_ n).length)]
     exact List.getElem_mem _
    have := ih _ h3
    rw [ByteArray.size_append, strOfNums_size]
    simp only [List.length_cons, List.length_nil]
    omega
def spec_l1Cut.f (s : ByteArray) (at_ : Int) : Option (List ByteArray) := if s.size ≤ 4096 then some (cutN s at_ s.size) else none
theorem l1c_info : (Tryd.prog.info? 9).map (fun i => (i.zero, i.size, i.bytes)) = some (some (.string ⟨#[]⟩), 1, 16) := by kernel_rfl
set_option maxHeartbeats 8000000 in
set_option maxRecDepth 100000 in
theorem l1c_walk (a0 : ByteArray) (a1 : Int) (w : World) (hsz : a0.size ≤ 4096) :
  Calls Tryd.prog 66 #[.string a0, .int .u8 a1] w fun e w' => ∃ v0_ : Value, e = .returned v0_ ∧ Kd.R Kd.string 9 w' w.heap.size (fun _ => True) v0_ (cutN a0 a1 a0.size) ∧ Below w.heap.size w w' := by
 go_enter Tryd.func66, Tryd.ntmps66
 go_wp2_with ((with_reducible refine gate_dst (N := 7) rfl ?_); refine Kd.R_lit Kd.string w.heap.size 9 ?hg (N := 7) ?hd (xs := ([⟨#[]⟩] : List ByteArray)) (inner := [.string ⟨#[]⟩]) (ok := fun _ => True) (okp := fun _ => True) ?hr ?hp (fun _ hk => hk) trivial (Below.refl _ _) (Nat.le_refl _) (by simp) ?_; (case hd => rfl); (case hg => rfl); (case hr => first | (go_simp; done) | (go_simp; rfl)); (case hp => exact (Reps.one (show Kd.M Kd.string _ _ _ (⟨#[]⟩ : ByteArray) [.string ⟨#[]⟩] from rfl) (Reps.none _ _))); intro v1 w1 ho hb hg_ hn_; have HO := Aside0.mk ho; have HB := Aside0.mk hb; clear ho hb hg_ hn_)
 go_loopw [5, 6] (fun v5 v6 w' => ∃ x : Int, 0 ≤ x ∧ x ≤ (a0.size : Int) ∧ v6 = .int .i64 x ∧ Aside0 (Kd.R Kd.string 9 w' w.heap.size (fun _ => True) v5 (cutN a0 a1 x.toNat)) ∧ Aside0 (Below w.heap.size w w')) (fun _ v6 _ => a0.size - (intOf v6).toNat)
 case atStart => exact ⟨0, by omega, by omega, rfl, HO, HB⟩
 case round =>
  clear HO HB
  obtain ⟨x, hx0, hx1, rfl, HO, HB⟩ := hrel
  have hln := cutN_len a0 a1 x.toNat
  have hls := cutN_size a0 a1 x.toNat
  have HC := Aside0.mk (fun (h : x < (a0.size : Int)) => show cutN a0 a1 (x + 1).toNat = cutStep a1 (cutN a0 a1 x.toNat) (bt a0 x) by
   rw [show (x + 1).toNat = x.toNat + 1 by omega]
   show cutStep _ _ (bt a0 (x.toNat : Int)) = _
   rw [show ((x.toNat : Nat) : Int) = x by omega])
  by_cases hlt : x < (a0.size : Int)
  ·replace HC := Aside0.mk (HC.out hlt)
   obtain ⟨xs, hxs⟩ : ∃ xs, xs = cutN a0 a1 x.toNat := ⟨_, rfl⟩
   rw [← hxs] at HO HC hln hls
   obtain ⟨g, cap, rfl, _, _, _⟩ := Kd.R_form HO.out (by omega)
   have hx4 := bt_at a0 x
   have q0 : (0 ≤ x) = True := eq_true hx0
   have q1 : decide (x < (a0.size : Int)) = true := decide_eq_true hlt
   have q2 : (x < (a0.size : Int)) = True := eq_true hlt
   by_cases hb : bt a0 x = a1
   ·have cb : (bt a0 x == a1) = true := beq_iff_eq.mpr hb
    have HE := Aside0.mk (HC.out.trans (if_pos hb))
    have HN := Aside0.mk hln
    clear hb HC hln hls hxs
    go_wp2_with ((with_reducible refine gate_builtin (b := .append) (xs := #[.tmp 19, .tmp 20]) rfl ?_); at_builtin; refine Kd.R_append Kd.string (w0 := w) w.heap.size rfl (.tmp 19) (.tmp 20) 63 9 (.string ⟨#[]⟩) 16 rfl Tryd.underlying63 l1c_info rfl (by decide) (by omega) (.slice (some ⟨g, 0, none⟩) xs.length cap) xs (⟨#[]⟩ : ByteArray) [.string ⟨#[]⟩] (fun _ => True) (fun _ => False) rfl rfl ?aP (fun _ hk => hk.elim) ?aF ?aO ?aB ?aS ?aL ?_; (case aP => rfl); (case aB => exact HB.out); (case aF => exact (fun _ _ => trivial)); (case aO => exact HO.out); (case aS => exact HB.out.size); (case aL => have := HN.out; omega); intro v3 w3 ho hb hg hat; have HO2 := Aside0.mk ho; have HB2 := Aside0.mk hb; clear ho hb hg hat)
    rw [← HE.out] at HO2
    go_wp2
    go_roundw
    case rel => exact ⟨x + 1, by omega, by omega, by first | rfl | simp, HO2, HB2⟩
    case measure => simp [intOf]; omega
   ·have cb : (bt a0 x == a1) = false := beq_eq_false_iff_ne.mpr hb
    have HE := Aside0.mk (HC.out.trans (if_neg hb))
    obtain ⟨cur, hcu⟩ : ∃ c, c = xs.getD (xs.length - 1) ByteArray.empty := ⟨_, rfl⟩
    rw [← hcu] at HE
    have HCL := Aside0.mk (fun (W : World) (h : Kd.R Kd.string 9 W w.heap.size (fun _ => True) (.slice (some ⟨g, 0, none⟩) xs.length cap) xs) => show W.cell? ⟨g, xs.length - 1, none⟩ = some (.string cur) ∧ W.frozen? ⟨g, xs.length - 1, none⟩ = false by
     have h1 := Kd.R_celln ByteArray.empty h ((xs.length : Int) - 1) (by omega) (by omega)
     unfold rdOf at h1
     rw [show ((xs.length : Int) - 1).toNat = xs.length - 1 by omega, ← hcu] at h1
     exact h1)
    have q3 : (1 ≤ (xs.length : Int)) = True := eq_true (by omega)
    have q4 : ((xs.length : Int) - 1 < (xs.length : Int)) = True := eq_true (by omega)
    have hcur : cur.size ≤ x.toNat := by
     rw [hcu, List.getD_eq_getElem?_getD, List.getElem?_eq_getElem (by omega : xs.length - 1 < xs.length)]
     exact hls _ (List.getElem_mem _)
    have q5 : (9223372036854775807 < cur.size + 1) = False := eq_false (by omega)
    have q6 : (9223372036854775807 < cur.size + (strOfNums [bt a0 x]).size) = False := eq_false (by rw [strOfNums_size]; simp only [List.length_cons, List.length_nil]; omega)
    have hw1 : wrap64 ((xs.length : Int) - 1) = (xs.length : Int) - 1 := by unfold wrap64; omega
    clear hb HC hxs hls hcur hcu
    go_wp2
    refine start_ (n := 18) (S := fun w' => w'.cell? ⟨g, xs.length - 1, none⟩ = some (.string cur)) (ds := [17]) #[false, false, false, false, false, false, false, false, false, false, false, false, false, false, false, false, false, false] (by kernel_rfl) rfl rfl (HCL.out _ (Kd.R_drew HO.out)).1 (fun hHeld => ?_)
    have n0_ := Aside0.mk (Kd.R_drew HO.out)
    have n1_ := Aside0.mk (below_drew HB.out)
    clear HO HB
    generalize wr.drew = wd at n0_ n1_ hHeld ⊢
    have HO := n0_
    have HB := n1_
    clear n0_ n1_
    refine pure_ (i := 0) (N := some 22) (v := ?_) (a' := ?_) #[true, false, false, false, false, false, false, false, false, false, false, false, false, false, false, false, false, false] rfl rfl (by kernel_rfl) (fun _ _ _ h => h) (Or.inl ⟨by rfl, ?_⟩) ?_ ?_
    rotate_left
    ·intro w'
     go_simp
     with_reducible rfl
    rotate_left
    ·simp only [zp0, zp1, zp2, zp3, zp4, i64_w, i32_w]
     rfl
    refine pure_ (i := 1) (N := some 23) (v := ?_) (a' := ?_) #[true, true, false, false, false, false, false, false, false, false, false, false, false, false, false, false, false, false] rfl rfl (by kernel_rfl) (fun _ _ _ h => h) (Or.inl ⟨by rfl, ?_⟩) ?_ ?_
    rotate_left
    ·intro w'
     go_simp
     with_reducible rfl
    rotate_left
    ·simp only [zp0, zp1, zp2, zp3, zp4, i64_w, i32_w]
     rfl
    refine pure_ (i := 2) (N := some 24) (v := ?_) (a' := ?_) #[true, true, true, false, false, false, false, false, false, false, false, false, false, false, false, false, false, false] rfl rfl (by kernel_rfl) (fun _ _ _ h => h) (Or.inl ⟨by rfl, ?_⟩) ?_ ?_
    rotate_left
    ·intro w'
     go_simp
     with_reducible rfl
    rotate_left
    ·simp only [zp0, zp1, zp2, zp3, zp4, i64_w, i32_w]
     rfl
    refine pure_ (i := 3) (N := some 25) (v := ?_) (a' := ?_) #[true, true, true, true, false, false, false, false, false, false, false, false, false, false, false, false, false, false] rfl rfl (by kernel_rfl) (fun _ _ _ h => h) (Or.inl ⟨by rfl, ?_⟩) ?_ ?_
    rotate_left
    ·intro w'
     go_simp
     with_reducible rfl
    rotate_left
    ·simp only [zp0, zp1, zp2, zp3, zp4, i64_w, i32_w]
     rfl
    refine pure_ (i := 4) (N := some 26) (v := ?_) (a' := ?_) #[true, true, true, true, true, false, false, false, false, false, false, false, false, false, false, false, false, false] rfl rfl (by kernel_rfl) (fun _ _ _ h => h) (Or.inl ⟨by rfl, ?_⟩) ?_ ?_
    rotate_left
    ·intro w'
     go_simp
     with_reducible rfl
    rotate_left
    ·simp only [zp0, zp1, zp2, zp3, zp4, i64_w, i32_w]
     rfl
    refine pure_ (i := 5) (N := some 27) (v := ?_) (a' := ?_) #[true, true, true, true, true, true, false, false, false, false, false, false, false, false, false, false, false, false] rfl rfl (by kernel_rfl) (fun _ _ _ h => h) (Or.inl ⟨by rfl, ?_⟩) ?_ ?_
    rotate_left
    ·intro w'
     go_simp
     with_reducible rfl
    rotate_left
    ·simp only [zp0, zp1, zp2, zp3, zp4, i64_w, i32_w]
     rfl
    refine pure_ (i := 6) (N := some 28) (v := ?_) (a' := ?_) #[true, true, true, true, true, true, true, false, false, false, false, false, false, false, false, false, false, false] rfl rfl (by kernel_rfl) (fun _ _ _ h => h) (Or.inl ⟨by rfl, ?_⟩) ?_ ?_
    rotate_left
    ·intro w'
     go_simp
     with_reducible rfl
    rotate_left
    ·simp only [zp0, zp1, zp2, zp3, zp4, i64_w, i32_w]
     rfl
    refine pure_ (i := 7) (N := some 29) (v := ?_) (a' := ?_) #[true, true, true, true, true, true, true, true, false, false, false, false, false, false, false, false, false, false] rfl rfl (by kernel_rfl) (fun _ _ _ h => h) (Or.inl ⟨by rfl, ?_⟩) ?_ ?_
    rotate_left
    ·intro w'
     go_simp
     with_reducible rfl
    rotate_left
    ·simp only [zp0, zp1, zp2, zp3, zp4, i64_w, i32_w]
     rfl
    refine pure_ (i := 8) (N := some 30) (v := ?_) (a' := ?_) #[true, true, true, true, true, true, true, true, true, false, false, false, false, false, false, false, false, false] rfl rfl (by kernel_rfl) (fun _ _ _ h => h) (Or.inl ⟨by rfl, ?_⟩) ?_ ?_
    rotate_left
    ·intro w'
     go_simp
     with_reducible rfl
    rotate_left
    ·simp only [zp0, zp1, zp2, zp3, zp4, i64_w, i32_w]
     rfl
    refine take_ (i := 9) (N := some 31) (v := ?_) (a' := ?_) #[true, true, true, true, true, true, true, true, true, true, false, false, false, false, false, false, false, false] rfl rfl (by kernel_rfl) (fun _ _ _ h => h) (Or.inl ⟨by rfl, ?_⟩) hHeld ?_ ?_
    rotate_left
    ·intro w' s0
     go_simp
     with_reducible rfl
    rotate_left
    ·simp only [zp0, zp1, zp2, zp3, zp4, i64_w, i32_w]
     rfl
    refine pure_ (i := 10) (N := some 32) (v := ?_) (a' := ?_) #[true, true, true, true, true, true, true, true, true, true, true, false, false, false, false, false, false, false] rfl rfl (by kernel_rfl) (fun _ _ _ h => h) (Or.inl ⟨by rfl, ?_⟩) ?_ ?_
    rotate_left
    ·intro w'
     go_simp
     with_reducible rfl
    rotate_left
    ·simp only [zp0, zp1, zp2, zp3, zp4, i64_w, i32_w]
     rfl
    refine pure_ (i := 11) (N := some 33) (v := ?_) (a' := ?_) #[true, true, true, true, true, true, true, true, true, true, true, true, false, false, false, false, false, false] rfl rfl (by kernel_rfl) (fun _ _ _ h => h) (Or.inl ⟨by rfl, ?_⟩) ?_ ?_
    rotate_left
    ·intro w'
     go_simp
     with_reducible rfl
    rotate_left
    ·simp only [zp0, zp1, zp2, zp3, zp4, i64_w, i32_w]
     rfl
    refine pure_ (i := 12) (N := some 34) (v := ?_) (a' := ?_) #[true, true, true, true, true, true, true, true, true, true, true, true, true, false, false, false, false, false] rfl rfl (by kernel_rfl) (fun _ _ _ h => h) (Or.inl ⟨by rfl, ?_⟩) ?_ ?_
    rotate_left
    ·intro w'
     go_simp
     with_reducible rfl
    rotate_left
    ·simp only [zp0, zp1, zp2, zp3, zp4, i64_w, i32_w]
     rfl
    refine one_ (i := 13) (N := some 35) #[true, true, true, true, true, true, true, true, true, true, true, true, true, true, false, false, false, false] rfl rfl (by kernel_rfl) (by decide) (fun K hK => ?_)
    refine Kd.R_lit_step (Kd.int .u8) _ 5 ?hg (N := 35) ?hd (xs := ([bt a0 x] : List Int)) (inner := [.int .u8 (bt a0 x)]) (ok := fun _ => True) (okp := fun _ => True) ?hr ?hp (fun _ hk => hk) trivial (Below.refl _ _) (Nat.le_refl _) (by simp) ?_
    case hd => rfl
    case hg => rfl
    case hr => first | (go_simp; done) | (go_simp; rfl)
    case hp => exact (Reps.one (show Kd.M (Kd.int .u8) _ _ _ (bt a0 x) [.int .u8 (bt a0 x)] from rfl) (Reps.none _ _))
    intro v2 w2 ho2 hb2 hg2 hn2
    have HL := Aside0.mk ho2
    have n0_ := Aside0.mk (Kd.R_below HO.out hb2)
    have n1_ := Aside0.mk (below_step HB.out hb2)
    clear HO HB ho2 hb2 hg2 hn2
    have HO := n0_
    have HB := n1_
    clear n0_ n1_
    refine hK.out _ _ (HCL.out _ HO.out).1 (fun hHeld => ?_)
    clear hK K
    refine norm_ (a' := ?_) ?_ ?_
    rotate_left
    ·show Act.put _ (some 35) _ = _
     simp only [zp0, zp1, zp2, zp3, zp4, i64_w, i32_w]
     rfl
    refine one_ (i := 14) (N := some 36) #[true, true, true, true, true, true, true, true, true, true, true, true, true, true, true, false, false, false] rfl rfl (by kernel_rfl) (by decide) (fun K hK => ?_)
    have hcv := own_string (P := Tryd.prog) Tryd.underlying22 Tryd.underlying5 Tryd.underlying9 (Kd.own_of_R HL.out)
    refine value_ (w1 := ?_) (v := ?_) (by rfl) rfl ?_ ?_
    rotate_left 2
    ·go_simp
     constructor
     ·rfl
     ·rfl
    clear hcv
    refine hK.out _ _ (HCL.out _ HO.out).1 (fun hHeld => ?_)
    clear hK K
    refine norm_ (a' := ?_) ?_ ?_
    rotate_left
    ·show Act.put _ (some 36) _ = _
     simp only [zp0, zp1, zp2, zp3, zp4, i64_w, i32_w]
     rfl
    refine pure_ (i := 15) (N := some 37) (v := ?_) (a' := ?_) #[true, true, true, true, true, true, true, true, true, true, true, true, true, true, true, true, false, false] rfl rfl (by kernel_rfl) (fun _ _ _ h => h) (Or.inl ⟨by rfl, ?_⟩) ?_ ?_
    rotate_left
    ·intro w'
     go_simp
     with_reducible rfl
    rotate_left
    ·simp only [zp0, zp1, zp2, zp3, zp4, i64_w, i32_w]
     rfl
    refine pure_ (i := 16) (N := some 38) (v := ?_) (a' := ?_) #[true, true, true, true, true, true, true, true, true, true, true, true, true, true, true, true, true, false] rfl rfl (by kernel_rfl) (fun _ _ _ h => h) (Or.inl ⟨by rfl, ?_⟩) ?_ ?_
    rotate_left
    ·intro w'
     go_simp
     with_reducible rfl
    rotate_left
    ·simp only [zp0, zp1, zp2, zp3, zp4, i64_w, i32_w]
     rfl
    refine last_ (i := 17) (N := none) #[true, true, true, true, true, true, true, true, true, true, true, true, true, true, true, true, true, true] rfl rfl (by kernel_rfl) (by decide) (fun K hK => ?_)
    have hs1 := (HCL.out _ HO.out).1
    have hs2 := (HCL.out _ HO.out).2
    refine skip_ (w1 := ?_) (by rfl) rfl ?_ ?_
    rotate_left
    ·go_simp
     rfl
    refine hK.out _ _ ?_
    clear hK K
    refine done_ (by kernel_rfl) ?_
    have n0_ := Aside0.mk (Kd.R_putn HO.out ((xs.length : Int) - 1) (cur ++ strOfNums [bt a0 x]))
    rw [show ((xs.length : Int) - 1).toNat = xs.length - 1 by omega, ← HE.out] at n0_
    have n1_ := Aside0.mk (below_set (g := g) (j := xs.length - 1) (v := .string (cur ++ strOfNums [bt a0 x])) HB.out (Kd.R_base HO.out g rfl))
    try go_wp2
    go_roundw
    case rel => exact ⟨x + 1, by omega, by omega, by first | rfl | simp, n0_, n1_⟩
    case measure => simp [intOf]; omega
  ·have hxe : x = (a0.size : Int) := by omega
   have q1 : decide (x < (a0.size : Int)) = false := decide_eq_false hlt
   have HO2 := Aside0.mk (show Kd.R Kd.string 9 wr w.heap.size (fun _ => True) _ (cutN a0 a1 a0.size) by
    have h_ := HO.out
    rw [hxe, Int.toNat_natCast] at h_
    exact h_)
   clear hln hls HC hxe HO
   go_wp2
   go_ret
   exact ⟨_, rfl, HO2.out, HB.out⟩
theorem spec_l1Cut.calls (a0 : ByteArray) (a1 : Int) (r : List ByteArray) (w : World) (h : spec_l1Cut.f a0 a1 = some r) :
  Calls Tryd.prog 66 #[.string a0, .int .u8 a1] w fun e w' => ∃ v0_ : Value, e = .returned v0_ ∧ Kd.R Kd.string 9 w' w.heap.size (fun _ => True) v0_ r ∧ Below w.heap.size w w' := by
 unfold spec_l1Cut.f at h
 split at h
 ·rename_i hc; obtain rfl := Option.some.inj h; exact l1c_walk a0 a1 w hc
 ·cases h

/-! ### spec_l3Dec: function 67 -/
def spec_l3Dec.l0 : Nat → ByteArray → Int → Int → Option (Int)
 | 0, _, _, _ => none
 | k + 1, x0, x3, x4 => if x4 < (x0.size : Int) then (if 0 ≤ x4 then (if (bt x0 x4) < 48 then (some (-1)) else (if (bt x0 x4) > 57 then (some (-1)) else (spec_l3Dec.l0 k x0 (wrap64 ((wrap64 (10 * x3)) + (((bt x0 x4) - 48) % 256))) (wrap64 (x4 + 1))))) else (none)) else (some x3)
def spec_l3Dec.f (k : Nat) (a0 : ByteArray) : Option (Int) := (spec_l6In.f (a0.size : Int) 1 4).bind fun t133 => (if t133 = true then (spec_l3Dec.l0 k a0 0 0) else (some (-1)))
theorem spec_l3Dec.mono_l : ∀ k, (∀ y0 y1 y2, LeO (spec_l3Dec.l0 k y0 y1 y2) (spec_l3Dec.l0 (k + 1) y0 y1 y2))
 | 0 => fun _ _ _ r h => by simp [spec_l3Dec.l0] at h
 | k + 1 => by
  have ih0 := spec_l3Dec.mono_l k
  ·intro y0 y1 y2
   unfold spec_l3Dec.l0
   repeat' first
   | (with_reducible exact ih0 _ _ _)
   | (with_reducible exact LeO.refl _)
   | (with_reducible exact LeO.none _)
   | (with_reducible refine LeO.ite ?_ ?_)
   | (with_reducible refine LeO.bind ?_ (fun _ => ?_))
   | exact ih0 _ _ _
   | exact LeO.none _
   | refine LeO.ite ?_ ?_
   | refine LeO.bind ?_ (fun _ => ?_)
theorem spec_l3Dec.mono : ∀ a0 k, LeO (spec_l3Dec.f k a0) (spec_l3Dec.f (k + 1) a0) := by
 intro a0 k
 have ih0 := spec_l3Dec.mono_l k
 unfold spec_l3Dec.f
 repeat' with_reducible first | apply ih0 | exact LeO.refl _ | exact LeO.none _ | refine LeO.ite ?_ ?_ | refine LeO.bind ?_ (fun _ => ?_)
set_option maxHeartbeats 8000000 in
set_option maxRecDepth 100000 in
theorem spec_l3Dec.calls (k : Nat) (a0 : ByteArray) (r : Int) (w : World) (h : spec_l3Dec.f k a0 = some r) :
  Calls Tryd.prog 67 #[.string a0] w fun e w' => e = .returned (.int .i64 r) ∧ Drawn0 w w' := by
 have H : ((spec_l6In.f (a0.size : Int) 1 4).bind fun t133 => (if t133 = true then (spec_l3Dec.l0 k a0 0 0) else (some (-1)))) = some r := h; clear h; replace H := Option.bind_eq_some_iff.mp H; obtain ⟨t133, A20, H⟩ := H; (try dsimp only at H); have A2 := aM A20; clear A20
 by_cases c3 : t133 = true
 ·subst c3; replace H := zy1 H; have H' := aM H; clear H
  go_enter Tryd.func67, Tryd.ntmps67
  go_wp2_with (first | ((with_reducible refine gate_callee (f := 54) rfl ?_); refine zgL (some 7) Tryd.func54 #[.int .i64 (a0.size : Int), .int .i64 1, .int .i64 4] ?_; (with_reducible refine (spec_l6In.calls (a0.size : Int) 1 4 true _ A2.1).mono ?_); rintro e w' ⟨rfl, ⟨nd, rfl⟩⟩; refine ⟨_, rfl, ?_⟩))
  go_loopg [3, 4] k (fun kq v3 v4 w' => ∃ (x3_1 : Int) (x4_1 : Int), v3 = .int .i64 x3_1 ∧ v4 = .int .i64 x4_1 ∧ Aside0 (spec_l3Dec.l0 kq a0 x3_1 x4_1 = some r) ∧ Aside0 (kq ≤ k) ∧ Drawn0 w w')
  case atStart => exact ⟨(0), (0), (by first | rfl | (simp; done) | (simp [*]; done)), (by first | rfl | (simp; done) | (simp [*]; done)), H', ⟨Nat.le_refl _⟩, by repeat (first | exact Drawn0.refl _ | apply Drawn0.step)⟩
  case round =>
   clear H'
   try clear p2
   try clear c3
   obtain ⟨x3_1, x4_1, rfl, rfl, HA, HK1, ⟨m1, rfl⟩⟩ := hrel; cases gk with
   | zero => exact absurd HA.1 (by simp [spec_l3Dec.l0])
   | succ k1 =>
    have H := HA.1; clear HA; simp only [spec_l3Dec.l0] at H
    by_cases c4 : x4_1 < (a0.size : Int)
    ·rw [if_pos c4] at H; have c4b0 : decide (x4_1 < (a0.size : Int)) = true := decide_eq_true c4; clear c4; replace H := zif H; obtain ⟨c5, H⟩ := H; have c5b0 : decide (0 ≤ x4_1) = true := decide_eq_true c5; clear c5
     by_cases c7 : (bt a0 x4_1) < 48
     ·rw [if_pos c7] at H; have c7b0 : decide ((bt a0 x4_1) < 48) = true := decide_eq_true c7; clear c7; obtain rfl := Option.some.inj H; have p6 : 0 ≤ (x4_1 : Int) := zd; have q6 : x4_1 < (a0.size : Int) := zd; have hx6 := bt_at a0 x4_1; replace p6 := eq_true p6; replace q6 := eq_true q6
      go_wp2
      go_ret
      exact ⟨by first | rfl | (simp; done) | (simp [*]; done), by repeat (first | exact Drawn0.refl _ | apply Drawn0.step)⟩
     ·rw [if_neg c7] at H; have c7b0 : decide ((bt a0 x4_1) < 48) = false := decide_eq_false c7; clear c7
      by_cases c9 : (bt a0 x4_1) > 57
      ·rw [if_pos c9] at H; have c9b0 : decide (57 < (bt a0 x4_1)) = true := decide_eq_true c9; clear c9; obtain rfl := Option.some.inj H; have p6 : 0 ≤ (x4_1 : Int) := zd; have q6 : x4_1 < (a0.size : Int) := zd; have hx6 := bt_at a0 x4_1; replace p6 := eq_true p6; replace q6 := eq_true q6; have p8 : 0 ≤ (x4_1 : Int) := zd; have q8 : x4_1 < (a0.size : Int) := zd; have hx8 := bt_at a0 x4_1; replace p8 := eq_true p8; replace q8 := eq_true q8
       go_wp2
       go_ret
       exact ⟨by first | rfl | (simp; done) | (simp [*]; done), by repeat (first | exact Drawn0.refl _ | apply Drawn0.step)⟩
      ·rw [if_neg c9] at H; have c9b0 : decide (57 < (bt a0 x4_1)) = false := decide_eq_false c9; clear c9; have H' := aM H; clear H; have p6 : 0 ≤ (x4_1 : Int) := zd; have q6 : x4_1 < (a0.size : Int) := zd; have hx6 := bt_at a0 x4_1; replace p6 := eq_true p6; replace q6 := eq_true q6; have p8 : 0 ≤ (x4_1 : Int) := zd; have q8 : x4_1 < (a0.size : Int) := zd; have hx8 := bt_at a0 x4_1; replace p8 := eq_true p8; replace q8 := eq_true q8; have p10 : 0 ≤ (x4_1 : Int) := zd; have q10 : x4_1 < (a0.size : Int) := zd; have hx10 := bt_at a0 x4_1; replace p10 := eq_true p10; replace q10 := eq_true q10
       go_wp2
       go_roundg k1
       case measure => have := HK1.1; omega
       case rel => exact ⟨(wrap64 ((wrap64 (10 * x3_1)) + (((bt a0 x4_1) - 48) % 256))), (wrap64 (x4_1 + 1)), (by first | rfl | (simp; done) | (simp [*]; done)), (by first | rfl | (simp; done) | (simp [*]; done)), H', ⟨by have := HK1.1; omega⟩, by repeat (first | exact Drawn0.refl _ | apply Drawn0.step)⟩
    ·rw [if_neg c4] at H; have c4b0 : decide (x4_1 < (a0.size : Int)) = false := decide_eq_false c4; clear c4; obtain rfl := Option.some.inj H
     go_wp2
     go_ret
     exact ⟨by first | rfl | (simp; done) | (simp [*]; done), by repeat (first | exact Drawn0.refl _ | apply Drawn0.step)⟩
 ·replace c3 := Bool.eq_false_iff.mpr c3; subst c3; replace H := zy0 H; obtain rfl := Option.some.inj H
  go_enter Tryd.func67, Tryd.ntmps67
  go_wp2_with (first | ((with_reducible refine gate_callee (f := 54) rfl ?_); refine zgL (some 7) Tryd.func54 #[.int .i64 (a0.size : Int), .int .i64 1, .int .i64 4] ?_; (with_reducible refine (spec_l6In.calls (a0.size : Int) 1 4 false _ A2.1).mono ?_); rintro e w' ⟨rfl, ⟨nd, rfl⟩⟩; refine ⟨_, rfl, ?_⟩))
  go_ret
  exact ⟨by first | rfl | (simp; done) | (simp [*]; done), by repeat (first | exact Drawn0.refl _ | apply Drawn0.step)⟩

/-! ### spec_IndexRead: function 26 -/
def spec_IndexRead.l0 : Nat → ByteArray → List ByteArray → Int → Int → Int → List (S40) → Option (Int × Int × (List (S40)) × Bool)
 | 0, _, _, _, _, _, _ => none
 | k + 1, x0, x4, x6, x142000, x142001, x142002 => if (wrap64 (x6 + 1)) < (x4.length : Int) then (if 0 ≤ x6 then (if x6 < (x4.length : Int) then ((spec_l1Cut.f (rdOf ByteArray.empty x4 x6) 32).bind fun t143 => (if (t143.length : Int) = 2 then (if x6 = 0 then (if 0 < (t143.length : Int) then ((spec_l3Dec.f k (rdOf ByteArray.empty t143 0)).bind fun t147 => (if 1 < (t143.length : Int) then ((spec_l3Dec.f k (rdOf ByteArray.empty t143 1)).bind fun t149 => (spec_IndexRead.l0 k x0 x4 (wrap64 (x6 + 1)) t147 t149 x142002)) else (none))) else (none)) else (if 0 < (t143.length : Int) then (if ((rdOf ByteArray.empty t143 0).size : Int) = 2 then (if 0 < ((rdOf ByteArray.empty t143 0).size : Int) then (if 1 < ((rdOf ByteArray.empty t143 0).size : Int) then (if 1 < (t143.length : Int) then ((spec_l3Dec.f k (rdOf ByteArray.empty t143 1)).bind fun t154 => (if x142002.length < 5864062014805 then (spec_IndexRead.l0 k x0 x4 (wrap64 (x6 + 1)) x142000 x142001 (x142002 ++ [(⟨wrap64 ((wrap64 ((wrap64 (bt (rdOf ByteArray.empty t143 0) 0)) - 97)) + 1), wrap64 ((wrap64 (bt (rdOf ByteArray.empty t143 0) 1)) - 48), t154⟩ : S40)])) else (none))) else (none)) else (none)) else (none)) else (some (0, 0, ([] : List (S40)), false))) else (none))) else (some (0, 0, ([] : List (S40)), false)))) else (none)) else (none)) else ((spec_IndexText.f k x142000 x142001 x142002).bind fun t158 => (if t158.toList = x0.toList then (if x0.toList = ([] : List UInt8) then (some (0, 0, ([] : List (S40)), false)) else (some (x142000, x142001, x142002, true))) else (some (0, 0, ([] : List (S40)), false))))
def spec_IndexRead.f (k : Nat) (a0 : ByteArray) : Option (Int × Int × (List (S40)) × Bool) := if (a0.size : Int) > 120 then (some (0, 0, ([] : List (S40)), false)) else ((spec_l1Cut.f a0 10).bind fun t135 => (spec_IndexRead.l0 k a0 t135 0 0 0 (([] : List (S40)))))
theorem spec_IndexRead.mono_l : ∀ k, (∀ y0 y1 y2 y3 y4 y5, LeO (spec_IndexRead.l0 k y0 y1 y2 y3 y4 y5) (spec_IndexRead.l0 (k + 1) y0 y1 y2 y3 y4 y5))
 | 0 => fun _ _ _ _ _ _ r h => by simp [spec_IndexRead.l0] at h
 | k + 1 => by
  have ih0 := spec_IndexRead.mono_l k
  ·intro y0 y1 y2 y3 y4 y5
   unfold spec_IndexRead.l0
   repeat' first
   | (with_reducible exact ih0 _ _ _ _ _ _)
   | (with_reducible exact spec_IndexText.mono _ _ _ _)
   | (with_reducible exact spec_l3Dec.mono _ _)
   | (with_reducible exact LeO.refl _)
   | (with_reducible exact LeO.none _)
   | (with_reducible refine LeO.ite ?_ ?_)
   | (with_reducible refine LeO.bind ?_ (fun _ => ?_))
   | exact ih0 _ _ _ _ _ _
   | exact spec_IndexText.mono _ _ _ _
   | exact spec_l3Dec.mono _ _
   | exact LeO.none _
   | refine LeO.ite ?_ ?_
   | refine LeO.bind ?_ (fun _ => ?_)
theorem spec_IndexRead.mono : ∀ a0 k, LeO (spec_IndexRead.f k a0) (spec_IndexRead.f (k + 1) a0) := by
 intro a0 k
 have ih0 := spec_IndexRead.mono_l k
 unfold spec_IndexRead.f
 repeat' with_reducible first | apply ih0 | apply spec_IndexText.mono | apply spec_l3Dec.mono | exact LeO.refl _ | exact LeO.none _ | refine LeO.ite ?_ ?_ | refine LeO.bind ?_ (fun _ => ?_)
def spec_IndexRead.T16 : Bool × List (List Nat × List Nat) := (true, [([], []), ([0], [0]), ([], []), ([2], [2]), ([3], [3]), ([4], [4]), ([5], [5]), ([6], [6]), ([7], [7]), ([], []), ([9], [9]), ([10], [10]), ([11], [11]), ([12], [12]), ([13], [13]), ([], []), ([15], [15]), ([16], [16]), ([17], [17]), ([8, 14, 18], [8, 14, 18]), ([19], [19]), ([1, 20, 18], [1, 20]), ([0, 1, 2, 3, 4, 5, 6, 7, 8, 9, 10, 11, 12, 13, 14, 15, 16, 17, 18, 19, 20, 21], []), ([22, 21, 21, 0, 1, 2, 3, 4, 5, 6, 7, 8, 9, 10, 11, 12, 13, 14, 15, 16, 17, 18, 19, 20, 21], [21, 22])])
def spec_IndexRead.B16 : List Nat := [0, 1, 0, 4, 12, 28, 60, 124, 252, 0, 512, 1536, 3584, 7680, 15872, 0, 32768, 98304, 229376, 524284, 1048572, 2097151, 4194303, 8388607]
theorem spec_IndexRead.tab16 : rtab .any (opsOf Tryd.f26 16) = spec_IndexRead.T16 := by kernel_rfl
theorem spec_IndexRead.bits16 : waitsOk spec_IndexRead.T16.2 spec_IndexRead.B16 = true := by kernel_rfl
set_option maxHeartbeats 8000000 in
set_option maxRecDepth 100000 in
theorem spec_IndexRead.calls (k : Nat) (a0 : ByteArray) (r1 : Int) (r2 : Int) (r3 : List (S40)) (r4 : Bool) (w : World) (h : spec_IndexRead.f k a0 = some (r1, r2, r3, r4)) :
  Calls Tryd.prog 26 #[.string a0] w fun e w' => ∃ v2_ : Value, e = .returned (.tuple #[.agg #[.int .i64 r1, .int .i64 r2, v2_], .bool r4]) ∧ Kd.R k40 40 w' w.heap.size (fun _ => True) v2_ r3 ∧ Below w.heap.size w w' := by
 have hu25 := Tryd.underlying25; have hu40 := Tryd.underlying40; have HB := aM (Below.refl w.heap.size w); have H : (if (a0.size : Int) > 120 then (some (0, 0, ([] : List (S40)), false)) else ((spec_l1Cut.f a0 10).bind fun t135 => (spec_IndexRead.l0 k a0 t135 0 0 0 (([] : List (S40)))))) = some (r1, r2, r3, r4) := h; clear h
 by_cases c2 : (a0.size : Int) > 120
 ·rw [if_pos c2] at H; have c2b0 : decide (120 < (a0.size : Int)) = true := decide_eq_true c2; have c2b1 : decide (120 < a0.size) = true := decide_eq_true (by omega); clear c2; simp only [Option.some.injEq, Prod.mk.injEq] at H; obtain ⟨rfl, rfl, rfl, rfl⟩ := H
  go_enter Tryd.func26, Tryd.ntmps26
  go_wp2_with (first | ((with_reducible refine gate_dst (N := 2) rfl ?_); refine zbx 2 #[.int .i64 0, .int .i64 0, .slice none 0 0] 25 ?_; intro gb134 hg w3 hbox hb; have _ := aM (below_step (zB HB.1) hb); have _ := aM (hbox); have _ := aM (zge hg (zB HB.1)); have _ := aM (zge hg (zB HB.1)); clear HB; rename_i HB BK134 GW134 GE134; clear hb hbox hg; obtain ⟨hcz4_0, hcz4_1, hcz4_2, hfz4_0, hfz4_1, hfz4_2⟩ := zc3f BK134.1))
  refine bodyPost_ret (results_ct rfl _ _ gb134 25 #[.int .i64 0, .int .i64 0, .slice none 0 0] (0, 0) _ rfl (by exact zP BK134.1 (by rfl)) Tryd.underlying25 rfl (by kernel_rfl)) rfl ?_; exact ⟨_, by first | rfl | (simp [errW_none, errW_some] <;> rfl) | (simp [*, errW_none, errW_some] <;> rfl), by first | exact Kd.R_nil _ _ _ _ _ | exact Kd.N_nil _ _ _ _ _ | exact Kd.V_nil _ _ _ _ _ | exact Kd.Q_nil _ _ _ _ _ | exact Kd.S_nil _ _ _ _ _, by exact zB1 HB.1 GE134.1⟩
 ·rw [if_neg c2] at H; have c2b0 : decide (120 < (a0.size : Int)) = false := decide_eq_false c2; have c2b1 : decide (120 < a0.size) = false := decide_eq_false (by omega); clear c2; replace H := Option.bind_eq_some_iff.mp H; obtain ⟨t135, A50, H⟩ := H; (try dsimp only at H); have A5 := aM A50; clear A50; obtain ⟨y138, hy138⟩ : ∃ y_ : List (S40), y_ = (([] : List (S40))) := ⟨_, rfl⟩
  replace H : (spec_IndexRead.l0 k a0 t135 0 0 0 y138) = some (r1, r2, r3, r4) := by first | (rw [hy138]; with_reducible exact H) | (have H2_ := (Option.bind_some _ _).symm.trans H; rw [hy138]; with_reducible exact H2_) | (have H2_ := (Option.bind_some _ _).symm.trans H; with_reducible exact H2_) | with_reducible exact H | (rw [hy138]; exact H) | exact H
  have Ny138 := aM hy138; clear hy138; have H' := aM H; clear H
  go_enter Tryd.func26, Tryd.ntmps26
  go_wp2_with (first | ((with_reducible refine gate_dst (N := 2) rfl ?_); refine zbx 2 #[.int .i64 0, .int .i64 0, .slice none 0 0] 25 ?_; intro gb134 hg w6 hbox hb; have _ := aM (below_step (zB HB.1) hb); have _ := aM (hbox); have _ := aM (zge hg (zB HB.1)); have _ := aM (zge hg (zB HB.1)); clear HB; rename_i HB BK134 GW134 GE134; clear hb hbox hg) | ((with_reducible refine gate_callee (f := 66) rfl ?_); refine zgL (some 13) Tryd.func66 #[.string a0, .int .u8 10] ?_; (with_reducible refine (spec_l1Cut.calls a0 10 t135 _ A5.1).mono ?_); rintro e w7 ⟨v136, rfl, ho0, hb⟩; refine ⟨_, rfl, ?_⟩; have _ := aM (Kd.R_lower ho0 (below_size (zB1 HB.1 GE134.1))); have _ := aM (blk_below (zK BK134.1) hb); have _ := aM (below_step (zB1 HB.1 GE134.1) hb); clear BK134 HB; rename_i HO137 BK134 HB; (try clear hb); (try clear hb2); (try clear hk); (try clear hi); (try clear ho0)) | ((with_reducible refine gate_dst (N := 14) rfl ?_); refine Kd.R_lit k40 _ 40 ?hg (N := 14) ?hd (xs := ([] : List (S40))) (inner := []) (ok := fun _ => True) (okp := fun _ => True) ?hr ?hp (fun _ hk => hk) trivial (Below.refl _ _) (Nat.le_refl _) (by simp) ?_; (case hd => rfl); (case hg => rfl); (case hr => first | (go_simp; done) | (go_simp; rfl)); (case hp => exact (Reps.none _ _)); intro v139 w8 ho9 hb hg_ hnew_; clear hg_ hnew_; (first | rw [← Ny138.1] at ho9 | (simp only [Int.reduceToNat] at ho9; rw [← Ny138.1] at ho9)); have _ := aM (Kd.R_below (zR HO137.1) hb); have _ := aM (Kd.R_lower ho9 (below_size (zB1 HB.1 GE134.1))); have _ := aM (blk_below (zK BK134.1) hb); have _ := aM (below_step (zB1 HB.1 GE134.1) hb); clear HO137 BK134 HB; rename_i HO137 HO140 BK134 HB; clear hb ho9; obtain ⟨Ao10, co10, eo10⟩ := Kd.R_slice HO140.1; subst eo10) | ((with_reducible refine gate_dst (N := 5) rfl ?_); refine zbx 5 #[.int .i64 0, .int .i64 0, .slice none 0 0] 25 ?_; intro gb141 hg w11 hbox hb; have _ := aM (Kd.R_below (zR HO137.1) hb); have _ := aM (Kd.R_below (zR HO140.1) hb); have _ := aM (blk_below (zK BK134.1) hb); have _ := aM (below_step (zB1 HB.1 GE134.1) hb); have _ := aM (hbox); have _ := aM (zge hg (zB1 HB.1 GE134.1)); have _ := aM (zge hg (zB1 HB.1 GE134.1)); have _ := aM (znl hg (zK BK134.1)); have _ := aM (zng hg (zK BK134.1)); clear HO137 HO140 BK134 HB; rename_i HO137 HO140 BK134 HB BK141 GW141 GE141 NB134_141 NB141_134; clear hb hbox hg; have hnb12 := NB141_134.1; have hnc12 := NB134_141.1; obtain ⟨hcz13_0, hcz13_1, hcz13_2, hfz13_0, hfz13_1, hfz13_2⟩ := zc3f BK141.1))
  go_loopg [6] k (fun kq v6 w' => ∃ (x6_1 : Int) (x135000_1 : Int) (x135001_1 : Int) (x142000_1 : Int) (x142001_1 : Int) (x142002_1 : List (S40)) (u142002 : Value), v6 = .int .i64 x6_1 ∧ Aside0 (spec_IndexRead.l0 kq a0 t135 x6_1 x142000_1 x142001_1 x142002_1 = some (r1, r2, r3, r4)) ∧ Aside0 (kq ≤ k) ∧ Aside0 (Kd.R Kd.string 9 w' w.heap.size (fun _ => True) v136 t135) ∧ Aside0 (Kd.R k40 40 w' w.heap.size (fun _ => True) u142002 x142002_1) ∧ Aside0 (w'.heap[gb134]? = some (.cells #[.int .i64 x135000_1, .int .i64 x135001_1, (.slice none 0 0)] 25 (0, 0))) ∧ Aside0 (w'.heap[gb141]? = some (.cells #[.int .i64 x142000_1, .int .i64 x142001_1, u142002] 25 (0, 0))) ∧ Aside0 (Below w.heap.size w w'))
  case atStart => exact ⟨(0), (0), (0), (0), (0), (y138), (.slice Ao10 y138.length co10), (by first | rfl | (simp; done) | (simp [*]; done)), H', ⟨Nat.le_refl _⟩, ⟨by (with_reducible repeat (first | apply Kd.R_alloc | apply Kd.R_drewN | apply Kd.R_drew)); exact Kd.R_mono (zFR (g := gb141) (Kd.R_types HO137.1 BK141.1 (by decide)) (fun _ hk => hk.2)) (fun _ hk => trivial)⟩, ⟨by (with_reducible repeat (first | apply Kd.R_alloc | apply Kd.R_drewN | apply Kd.R_drew)); exact Kd.R_mono (zFR (g := gb141) (Kd.R_types HO140.1 BK141.1 (by decide)) (fun _ hk => hk.2)) (fun _ hk => trivial)⟩, ⟨zK1 BK134.1 NB134_141.1⟩, ⟨by exact zP BK141.1 (by rfl)⟩, ⟨zB2 HB.1 GE134.1 GE141.1⟩⟩
  case round =>
   clear H'
   try clear c1
   try clear c2
   try clear c2b0
   try clear c2b1
   try clear p2
   try clear c6
   try clear c12
   try clear hcz13_0
   try clear hcz13_1
   try clear hcz13_2
   try clear hcz4_0
   try clear hcz4_1
   try clear hcz4_2
   try clear hfz13_0
   try clear hfz13_1
   try clear hfz13_2
   try clear hfz4_0
   try clear hfz4_1
   try clear hfz4_2
   obtain ⟨x6_1, x135000_1, x135001_1, x142000_1, x142001_1, x142002_1, u142002, rfl, HA, HK1, HO_4, HO_142002, BK134, BK141, HB⟩ := hrel; cases gk with
   | zero => exact absurd HA.1 (by simp [spec_IndexRead.l0])
   | succ k1 =>
    have H := HA.1; clear HA; simp only [spec_IndexRead.l0] at H
    by_cases c14 : (wrap64 (x6_1 + 1)) < (t135.length : Int)
    ·rw [if_pos c14] at H; have c14b0 : decide ((wrap64 (x6_1 + 1)) < (t135.length : Int)) = true := decide_eq_true c14; clear c14; replace H := zif H; obtain ⟨c15, H⟩ := H; have c15b0 : decide (0 ≤ x6_1) = true := decide_eq_true c15; clear c15; replace H := zif H; obtain ⟨c16, H⟩ := H; have c16b0 : decide (x6_1 < (t135.length : Int)) = true := decide_eq_true c16; clear c16; replace H := Option.bind_eq_some_iff.mp H; obtain ⟨t143, A170, H⟩ := H; (try dsimp only at H); have A17 := aM A170; clear A170
     by_cases c18 : (t143.length : Int) = 2
     ·rw [if_pos c18] at H; have c18b0 : ((t143.length : Int) == 2) = true := beq_iff_eq.mpr c18; have c18b1 : ((t143.length : Int) != 2) = false := bne_eq_false_iff_eq.mpr c18; clear c18
      by_cases c19 : x6_1 = 0
      ·rw [if_pos c19] at H; have c19b0 : (x6_1 == 0) = true := beq_iff_eq.mpr c19; have c19b1 : (x6_1 != 0) = false := bne_eq_false_iff_eq.mpr c19; clear c19; replace H := zif H; obtain ⟨c20, H⟩ := H; have c20b0 : decide (0 < (t143.length : Int)) = true := decide_eq_true c20; have c20b1 : decide (0 < t143.length) = true := decide_eq_true (by omega); clear c20; replace H := Option.bind_eq_some_iff.mp H; obtain ⟨t147, A210, H⟩ := H; (try dsimp only at H); have A21 := aM A210; clear A210; replace H := zif H; obtain ⟨c22, H⟩ := H; have c22b0 : decide (1 < (t143.length : Int)) = true := decide_eq_true c22; have c22b1 : decide (1 < t143.length) = true := decide_eq_true (by omega); clear c22; replace H := Option.bind_eq_some_iff.mp H; obtain ⟨t149, A230, H⟩ := H; (try dsimp only at H); have A23 := aM A230; clear A230; have H' := aM H; clear H; obtain ⟨Ao24, co24, eo24⟩ := Kd.R_slice HO_4.1; subst eo24; have p142 : 0 ≤ (x6_1 : Int) := zd; have q142 : x6_1 < (t135.length : Int) := zd; obtain ⟨ad142, e142, hx142_0⟩ := Kd.at_string (Kd.R_reads' HO_4.1).2.2 x6_1 p142 q142; cases e142; replace p142 := eq_true p142; replace q142 := eq_true q142
       go_wp2_with (first | ((with_reducible refine gate_callee (f := 66) rfl ?_); refine zgL (some 27) Tryd.func66 #[.string (rdOf ByteArray.empty t135 x6_1), .int .u8 32] ?_; (with_reducible refine (spec_l1Cut.calls (rdOf ByteArray.empty t135 x6_1) 32 t143 _ A17.1).mono ?_); rintro e w25 ⟨v144, rfl, ho0, hb⟩; refine ⟨_, rfl, ?_⟩; have _ := aM (Kd.R_elder' (zR HO_4.1) (Kd.R_base ho0) hb); have _ := aM (Kd.R_below (zR HO_142002.1) hb); have _ := aM (Kd.R_lower (Kd.R_new' ho0 (Kd.R_lt (zR HO_4.1))) (below_size (zB2 HB.1 GE134.1 GE141.1))); have _ := aM (blk_below (zK BK134.1) hb); have _ := aM (blk_below (zK BK141.1) hb); have _ := aM (below_step (zB2 HB.1 GE134.1 GE141.1) hb); clear HO_4 HO_142002 BK134 BK141 HB; rename_i HO_4 HO_142002 HO145 BK134 BK141 HB; (try clear hb); (try clear hb2); (try clear hk); (try clear hi); (try clear ho0); obtain ⟨Ao26, co26, eo26⟩ := Kd.R_slice HO145.1; subst eo26; have p146 : 0 ≤ (0 : Int) := (by omega); have q146 : 0 < (t143.length : Int) := zd; obtain ⟨ad146, e146, hx146_0⟩ := Kd.at_string (Kd.R_reads' HO145.1).2.2 0 p146 q146; cases e146; have qi146 : (0 < t143.length) = True := eq_true (by omega); (try rw [show ((0 : Int)).toNat = 0 from rfl] at hx146_0); (try rw [Addr.add_zero'] at hx146_0); replace p146 := eq_true p146; replace q146 := eq_true q146) | ((with_reducible refine gate_callee (f := 67) rfl ?_); refine zgL (some 37) Tryd.func67 #[.string (rdOf ByteArray.empty t143 0)] ?_; (with_reducible refine (spec_l3Dec.calls k1 (rdOf ByteArray.empty t143 0) t147 _ A21.1).mono ?_); rintro e w' ⟨rfl, ⟨nd, rfl⟩⟩; refine ⟨_, rfl, ?_⟩; (try (rw [drewN_self w25]; generalize hq_ : World.drewN w25 _ = w25; have n0_ : Aside0 (Kd.R Kd.string 9 w25 w.heap.size (fun k_ => some k_ ≠ (.slice (some ad142) t135.length co24 : Value).ownBlock) (.slice (some ad146) t143.length co26) t143) := ⟨by rw [← hq_]; exact (by exact zR (Kd.R_mono HO145.1 (fun _ hk => hk.2)))⟩; have n1_ : Aside0 (Kd.R k40 40 w25 w.heap.size (fun _ => True) u142002 x142002_1) := ⟨by rw [← hq_]; exact (zR HO_142002.1)⟩; have n2_ : Aside0 (Kd.R Kd.string 9 w25 w.heap.size (fun k_ => some k_ ≠ (.slice (some ad146) t143.length co26 : Value).ownBlock) (.slice (some ad142) t135.length co24) t135) := ⟨by rw [← hq_]; exact (by exact zR (Kd.R_mono HO_4.1 (fun _ hk => hk.2)))⟩; have n3_ : Aside0 (w25.heap[gb134]? = some (.cells #[.int .i64 x135000_1, .int .i64 x135001_1, .slice none 0 0] 25 (0, 0))) := ⟨by rw [← hq_]; exact (zK BK134.1)⟩; have n4_ : Aside0 (w25.heap[gb141]? = some (.cells #[.int .i64 x142000_1, .int .i64 x142001_1, u142002] 25 (0, 0))) := ⟨by rw [← hq_]; exact (zK BK141.1)⟩; have n5_ : Aside0 (Below w.heap.size w w25) := ⟨by rw [← hq_]; exact (zB2 HB.1 GE134.1 GE141.1)⟩; clear HO145 HO_142002 HO_4 BK134 BK141 HB hq_; have HO145 := n0_; have HO_142002 := n1_; have HO_4 := n2_; have BK134 := n3_; have BK141 := n4_; have HB := n5_; clear n0_ n1_ n2_ n3_ n4_ n5_)); have hnb27 := NB141_134.1; have hnc27 := NB134_141.1; obtain ⟨hcz28_0, hcz28_1, hcz28_2, hfz28_0, hfz28_1, hfz28_2⟩ := zc3f BK141.1; have p148 : 0 ≤ (1 : Int) := (by omega); have q148 : 1 < (t143.length : Int) := zd; obtain ⟨ad148, e148, hx148_0⟩ := Kd.at_string (Kd.R_reads' HO145.1).2.2 1 p148 q148; obtain rfl : ad146 = ad148 := (by injection e148); (try simp only [show (1 : Int).toNat = 1 from rfl, Nat.reduceMul, Nat.reduceEqDiff, Go.Addr.add, ↓reduceIte] at hx148_0); have qi148 : (1 < t143.length) = True := eq_true (by omega); (try rw [show ((1 : Int)).toNat = 1 from rfl] at hx148_0); have hn148_0 : ad146.block ≠ gb141 := Kd.own_blk (Kd.R_ne HO145.1 BK141.1 (by decide)); replace hx148_0 := (cell_far (p := ⟨gb141, 0, none⟩) (by first | (rw [add_block]; exact hn148_0) | (show (Addr.add _ _).block ≠ _; rw [add_block]; exact hn148_0) | exact hn148_0) (.int .i64 t147)).trans hx148_0; clear hn148_0; replace p148 := eq_true p148; replace q148 := eq_true q148) | ((with_reducible refine gate_callee (f := 67) rfl ?_); refine zgL (some 42) Tryd.func67 #[.string (rdOf ByteArray.empty t143 1)] ?_; (with_reducible refine (spec_l3Dec.calls k1 (rdOf ByteArray.empty t143 1) t149 _ A23.1).mono ?_); rintro e w' ⟨rfl, ⟨nd, rfl⟩⟩; refine ⟨_, rfl, ?_⟩))
       go_roundg k1
       case measure => have := HK1.1; omega
       case rel => exact ⟨(wrap64 (x6_1 + 1)), (x135000_1), (x135001_1), (t147), (t149), (x142002_1), (u142002), (by first | rfl | (simp; done) | (simp [*]; done)), H', ⟨by have := HK1.1; omega⟩, ⟨by (with_reducible repeat (first | apply Kd.R_alloc | apply Kd.R_drewN | apply Kd.R_drew)); exact Kd.R_mono (zFR (g := gb141) (Kd.R_types HO_4.1 BK141.1 (by decide)) (fun _ hk => hk.2)) (fun _ hk => trivial)⟩, ⟨by (with_reducible repeat (first | apply Kd.R_alloc | apply Kd.R_drewN | apply Kd.R_drew)); exact Kd.R_mono (zFR (g := gb141) (Kd.R_types HO_142002.1 BK141.1 (by decide)) (fun _ hk => hk.2)) (fun _ hk => trivial)⟩, ⟨zK1 BK134.1 NB134_141.1⟩, ⟨by exact zP BK141.1 (by rfl)⟩, ⟨zB2 HB.1 GE134.1 GE141.1⟩⟩
      ·rw [if_neg c19] at H; have c19b0 : (x6_1 == 0) = false := beq_eq_false_iff_ne.mpr c19; have c19b1 : (x6_1 != 0) = true := bne_iff_ne.mpr c19; replace H := zif H; obtain ⟨c29, H⟩ := H; have c29b0 : decide (0 < (t143.length : Int)) = true := decide_eq_true c29; have c29b1 : decide (0 < t143.length) = true := decide_eq_true (by omega); clear c29
       by_cases c30 : ((rdOf ByteArray.empty t143 0).size : Int) = 2
       ·rw [if_pos c30] at H; have c30b0 : (((rdOf ByteArray.empty t143 0).size : Int) == 2) = true := beq_iff_eq.mpr c30; have c30b1 : (((rdOf ByteArray.empty t143 0).size : Int) != 2) = false := bne_eq_false_iff_eq.mpr c30; clear c30; replace H := zif H; obtain ⟨c31, H⟩ := H; have c31b0 : decide (0 < ((rdOf ByteArray.empty t143 0).size : Int)) = true := decide_eq_true c31; have c31b1 : decide (0 < (rdOf ByteArray.empty t143 0).size) = true := decide_eq_true (by omega); clear c31; replace H := zif H; obtain ⟨c33, H⟩ := H; have c33b0 : decide (1 < ((rdOf ByteArray.empty t143 0).size : Int)) = true := decide_eq_true c33; have c33b1 : decide (1 < (rdOf ByteArray.empty t143 0).size) = true := decide_eq_true (by omega); clear c33; replace H := zif H; obtain ⟨c35, H⟩ := H; have c35b0 : decide (1 < (t143.length : Int)) = true := decide_eq_true c35; have c35b1 : decide (1 < t143.length) = true := decide_eq_true (by omega); clear c35; replace H := Option.bind_eq_some_iff.mp H; obtain ⟨t154, A360, H⟩ := H; (try dsimp only at H); have A36 := aM A360; clear A360; replace H := zif H; obtain ⟨c37, H⟩ := H; have LMc37 := aM c37; clear c37; obtain ⟨y155, hy155⟩ : ∃ y_ : List (S40), y_ = (x142002_1 ++ [(⟨wrap64 ((wrap64 ((wrap64 (bt (rdOf ByteArray.empty t143 0) 0)) - 97)) + 1), wrap64 ((wrap64 (bt (rdOf ByteArray.empty t143 0) 1)) - 48), t154⟩ : S40)]) := ⟨_, rfl⟩; (first | (replace H := zbs hy155 H; try dsimp only at H) | rw [← hy155] at H); have Ny155 := aM hy155; clear hy155; have H' := aM H; clear H; obtain ⟨Ao38, co38, eo38⟩ := Kd.R_slice HO_4.1; subst eo38; have p142 : 0 ≤ (x6_1 : Int) := zd; have q142 : x6_1 < (t135.length : Int) := zd; obtain ⟨ad142, e142, hx142_0⟩ := Kd.at_string (Kd.R_reads' HO_4.1).2.2 x6_1 p142 q142; cases e142; replace p142 := eq_true p142; replace q142 := eq_true q142
        try go_wp2_with (first | ((with_reducible refine gate_callee (f := 66) rfl ?_); refine zgL (some 27) Tryd.func66 #[.string (rdOf ByteArray.empty t135 x6_1), .int .u8 32] ?_; (with_reducible refine (spec_l1Cut.calls (rdOf ByteArray.empty t135 x6_1) 32 t143 _ A17.1).mono ?_); rintro e w39 ⟨v144, rfl, ho0, hb⟩; refine ⟨_, rfl, ?_⟩; have _ := aM (Kd.R_elder' (zR HO_4.1) (Kd.R_base ho0) hb); have _ := aM (Kd.R_below (zR HO_142002.1) hb); have _ := aM (Kd.R_lower (Kd.R_new' ho0 (Kd.R_lt (zR HO_4.1))) (below_size (zB2 HB.1 GE134.1 GE141.1))); have _ := aM (blk_below (zK BK134.1) hb); have _ := aM (blk_below (zK BK141.1) hb); have _ := aM (below_step (zB2 HB.1 GE134.1 GE141.1) hb); clear HO_4 HO_142002 BK134 BK141 HB; rename_i HO_4 HO_142002 HO145 BK134 BK141 HB; (try clear hb); (try clear hb2); (try clear hk); (try clear hi); (try clear ho0); obtain ⟨Ao40, co40, eo40⟩ := Kd.R_slice HO145.1; subst eo40; have p150 : 0 ≤ (0 : Int) := (by omega); have q150 : 0 < (t143.length : Int) := zd; obtain ⟨ad150, e150, hx150_0⟩ := Kd.at_string (Kd.R_reads' HO145.1).2.2 0 p150 q150; cases e150; have qi150 : (0 < t143.length) = True := eq_true (by omega); (try rw [show ((0 : Int)).toNat = 0 from rfl] at hx150_0); (try rw [Addr.add_zero'] at hx150_0); replace p150 := eq_true p150; replace q150 := eq_true q150))
        have _ := aM (Kd.R_drew HO_4.1); have _ := aM (Kd.R_drew HO_142002.1); have _ := aM (Kd.R_drew HO145.1); have _ := aM (blk_drew BK134.1); have _ := aM (blk_drew BK141.1); have _ := aM (below_drew1 HB.1); clear HO_4 HO_142002 HO145 BK134 BK141 HB; rename_i HO_4 HO_142002 HO145 BK134 BK141 HB; have p151 : 0 ≤ (0 : Int) := (by omega); have q151 : 0 < (t143.length : Int) := zd; obtain ⟨ad151, e151, hx151_0⟩ := Kd.at_string (Kd.R_reads' HO145.1).2.2 0 p151 q151; obtain rfl : ad150 = ad151 := (by injection e151); have qi151 : (0 < t143.length) = True := eq_true (by omega); (try rw [show ((0 : Int)).toNat = 0 from rfl] at hx151_0); (try rw [Addr.add_zero'] at hx151_0); replace p151 := eq_true p151; replace q151 := eq_true q151; have p32 : 0 ≤ (0 : Int) := (by omega); have q32 : 0 < (rdOf ByteArray.empty t143 0).size := (by have : (0 : Int) < ((rdOf ByteArray.empty t143 0).size : Int) := zd; omega); have hx32 : ∀ h : 0 < (rdOf ByteArray.empty t143 0).size, (((rdOf ByteArray.empty t143 0)[0]'h).toNat : Int) = bt (rdOf ByteArray.empty t143 0) 0 := bt_at (rdOf ByteArray.empty t143 0) 0; clear p32; have qi32 : (0 < ((rdOf ByteArray.empty t143 0).size : Int)) = True := eq_true (zd); replace q32 := eq_true q32; have p152 : 0 ≤ (0 : Int) := (by omega); have q152 : 0 < (t143.length : Int) := zd; obtain ⟨ad152, e152, hx152_0⟩ := Kd.at_string (Kd.R_reads' HO145.1).2.2 0 p152 q152; obtain rfl : ad150 = ad152 := (by injection e152); have qi152 : (0 < t143.length) = True := eq_true (by omega); (try rw [show ((0 : Int)).toNat = 0 from rfl] at hx152_0); (try rw [Addr.add_zero'] at hx152_0); replace p152 := eq_true p152; replace q152 := eq_true q152; have p34 : 0 ≤ (1 : Int) := (by omega); have q34 : 1 < (rdOf ByteArray.empty t143 0).size := (by have : (1 : Int) < ((rdOf ByteArray.empty t143 0).size : Int) := zd; omega); have hx34 : ∀ h : 1 < (rdOf ByteArray.empty t143 0).size, (((rdOf ByteArray.empty t143 0)[1]'h).toNat : Int) = bt (rdOf ByteArray.empty t143 0) 1 := bt_at (rdOf ByteArray.empty t143 0) 1; clear p34; have qi34 : (1 < ((rdOf ByteArray.empty t143 0).size : Int)) = True := eq_true (zd); replace q34 := eq_true q34; have p153 : 0 ≤ (1 : Int) := (by omega); have q153 : 1 < (t143.length : Int) := zd; obtain ⟨ad153, e153, hx153_0⟩ := Kd.at_string (Kd.R_reads' HO145.1).2.2 1 p153 q153; obtain rfl : ad150 = ad153 := (by injection e153); (try simp only [show (1 : Int).toNat = 1 from rfl, Nat.reduceMul, Nat.reduceEqDiff, Go.Addr.add, ↓reduceIte] at hx153_0); have qi153 : (1 < t143.length) = True := eq_true (by omega); (try rw [show ((1 : Int)).toNat = 1 from rfl] at hx153_0); replace p153 := eq_true p153; replace q153 := eq_true q153
        refine start_ (n := 24) (S := fun w' => w'.cell? ⟨gb141, 0, none⟩ = some (.int .i64 x142000_1) ∧ w'.cell? ⟨gb141, 1, none⟩ = some (.int .i64 x142001_1) ∧ w'.cell? ⟨gb141, 2, none⟩ = some (u142002) ∧ w'.cell? ad150 = some (.string (rdOf ByteArray.empty t143 0)) ∧ w'.cell? ad150 = some (.string (rdOf ByteArray.empty t143 0)) ∧ w'.cell? ⟨ad150.block, ad150.off + 1, none⟩ = some (.string (rdOf ByteArray.empty t143 1))) (ds := [23]) (zA 24 0) (by kernel_rfl) rfl rfl ⟨(blk_cell BK141.1 0).trans rfl, (blk_cell BK141.1 1).trans rfl, (blk_cell BK141.1 2).trans rfl, hx151_0, hx152_0, hx153_0⟩ (fun hHeld => ?_); refine with_tabW spec_IndexRead.tab16 spec_IndexRead.bits16 (fun HT_ HW_ => ?_)
        generalize w39.drew = w41 at HO_4 HO_142002 HO145 BK134 BK141 HB hx151_0 hx152_0 hx153_0 hHeld ⊢; refine zu HT_ 0 (some 50) (zA 24 1) ?_; refine zu HT_ 2 (some 52) (zA 24 5) ?_; refine zu HT_ 3 (some 53) (zA 24 13) ?_; refine zu HT_ 9 (some 59) (zA 24 525) ?_; refine zu HT_ 10 (some 60) (zA 24 1549) ?_; refine zu HT_ 15 (some 65) (zA 24 34317) ?_; refine zu HT_ 16 (some 66) (zA 24 99853) ?_; refine take_ (i := 1) (N := some 51) (v := ?_) (a' := ?_) (zA 24 99855) rfl rfl (take_ofW HT_.1 HW_.1 (by kernel_rfl)) (fun _ _ _ h => h) (Or.inl ⟨by rfl, ?_⟩) hHeld ?_ ?_; rotate_left
        ·rintro w' ⟨s0, s1, s2, s3, s4, s5⟩
         go_simp
         (with_reducible rfl)
        rotate_left
        ·simp only [zp0, zp1, zp2, zp3, zp4, i64_w, i32_w]; rfl
        refine take_ (i := 4) (N := some 54) (v := ?_) (a' := ?_) (zA 24 99871) rfl rfl (take_ofW HT_.1 HW_.1 (by kernel_rfl)) (fun _ _ _ h => h) (Or.inl ⟨by rfl, ?_⟩) hHeld ?_ ?_; rotate_left
        ·rintro w' ⟨s0, s1, s2, s3, s4, s5⟩
         go_simp
         (with_reducible rfl)
        rotate_left
        ·simp only [zp0, zp1, zp2, zp3, zp4, i64_w, i32_w]; rfl
        refine take_ (i := 5) (N := some 55) (v := ?_) (a' := ?_) (zA 24 99903) rfl rfl (take_ofW HT_.1 HW_.1 (by kernel_rfl)) (fun _ _ _ h => h) (Or.inl ⟨by rfl, ?_⟩) hHeld ?_ ?_; rotate_left
        ·rintro w' ⟨s0, s1, s2, s3, s4, s5⟩
         go_simp
         (with_reducible rfl)
        rotate_left
        ·simp only [zp0, zp1, zp2, zp3, zp4, i64_w, i32_w]; rfl
        refine zu HT_ 6 (some 56) (zA 24 99967) ?_; refine zu HT_ 7 (some 57) (zA 24 100095) ?_; refine zu HT_ 8 (some 58) (zA 24 100351) ?_; refine take_ (i := 11) (N := some 61) (v := ?_) (a' := ?_) (zA 24 102399) rfl rfl (take_ofW HT_.1 HW_.1 (by kernel_rfl)) (fun _ _ _ h => h) (Or.inl ⟨by rfl, ?_⟩) hHeld ?_ ?_; rotate_left
        ·rintro w' ⟨s0, s1, s2, s3, s4, s5⟩
         go_simp
         (with_reducible rfl)
        rotate_left
        ·simp only [zp0, zp1, zp2, zp3, zp4, i64_w, i32_w]; rfl
        refine take_ (i := 12) (N := some 62) (v := ?_) (a' := ?_) (zA 24 106495) rfl rfl (take_ofW HT_.1 HW_.1 (by kernel_rfl)) (fun _ _ _ h => h) (Or.inl ⟨by rfl, ?_⟩) hHeld ?_ ?_; rotate_left
        ·rintro w' ⟨s0, s1, s2, s3, s4, s5⟩
         go_simp
         (with_reducible rfl)
        rotate_left
        ·simp only [zp0, zp1, zp2, zp3, zp4, i64_w, i32_w]; rfl
        refine zu HT_ 13 (some 63) (zA 24 114687) ?_; refine zu HT_ 14 (some 64) (zA 24 131071) ?_; refine take_ (i := 17) (N := some 67) (v := ?_) (a' := ?_) (zA 24 262143) rfl rfl (take_ofW HT_.1 HW_.1 (by kernel_rfl)) (fun _ _ _ h => h) (Or.inl ⟨by rfl, ?_⟩) hHeld ?_ ?_; rotate_left
        ·rintro w' ⟨s0, s1, s2, s3, s4, s5⟩
         go_simp
         (with_reducible rfl)
        rotate_left
        ·simp only [zp0, zp1, zp2, zp3, zp4, i64_w, i32_w]; rfl
        refine zo HT_ 18 (some 68) (zA 24 524287) (fun K hK => ?_); refine zg Tryd.func67 #[.string (rdOf ByteArray.empty t143 1)] ?_; (with_reducible refine (spec_l3Dec.calls k1 (rdOf ByteArray.empty t143 1) t154 _ A36.1).mono ?_); rintro e w' ⟨rfl, ⟨nd, rfl⟩⟩; refine ⟨_, rfl, ?_⟩; refine hK.out _ _ ⟨(blk_cell BK141.1 0).trans rfl, (blk_cell BK141.1 1).trans rfl, (blk_cell BK141.1 2).trans rfl, hHeld.2.2.2.1, hHeld.2.2.2.2.1, hHeld.2.2.2.2.2⟩ (fun hHeld => ?_); clear hK K; refine zn (some 68) ?_; refine zu HT_ 19 (some 69) (zA 24 1048575) ?_; refine zo HT_ 20 (some 70) (zA 24 2097151) (fun K hK => ?_); refine value_ (w1 := ?_) (v := ?_) (by rfl) rfl ?_ ?_; rotate_left 2
        ·go_simp
         constructor
         ·rfl
         ·rfl
        refine hK.out _ _ ⟨(blk_cell (blk_alloc BK141.1 _) 0).trans rfl, (blk_cell (blk_alloc BK141.1 _) 1).trans rfl, (blk_cell (blk_alloc BK141.1 _) 2).trans rfl, (World.cell?_alloc_lt _ _ _ (World.block_lt_of_cell? _ _ (hHeld.2.2.2.1))).trans (hHeld.2.2.2.1), (World.cell?_alloc_lt _ _ _ (World.block_lt_of_cell? _ _ (hHeld.2.2.2.2.1))).trans (hHeld.2.2.2.2.1), (World.cell?_alloc_lt _ _ _ (World.block_lt_of_cell? _ _ (hHeld.2.2.2.2.2))).trans (hHeld.2.2.2.2.2)⟩ (fun hHeld => ?_); clear hK K; refine zn (some 70) ?_; refine zo HT_ 21 (some 71) (zA 24 4194303) (fun K hK => ?_); refine Kd.R_append_step k40 (w0 := w) w.heap.size (by rfl) (.tmp 51) (.tmp 70) 23 40 (.agg #[(.int .i64 0), (.int .i64 0), (.int .i64 0)]) 24 rfl Tryd.underlying23 info40 rfl (by decide) (by omega) u142002 x142002_1 (⟨wrap64 ((wrap64 ((wrap64 (bt (rdOf ByteArray.empty t143 0) 0)) - 97)) + 1), wrap64 ((wrap64 (bt (rdOf ByteArray.empty t143 0) 1)) - 48), t154⟩ : S40) [.int .i64 (wrap64 ((wrap64 ((wrap64 (bt (rdOf ByteArray.empty t143 0) 0)) - 97)) + 1)), .int .i64 (wrap64 ((wrap64 (bt (rdOf ByteArray.empty t143 0) 1)) - 48)), .int .i64 t154] (fun _ => True) (fun _ => False) rfl rfl ?aP (fun _ hk => hk.elim) ?aF ?aO ?aB ?aS ?aL ?_; (case aP => exact k40_mkM _ _ _ (⟨wrap64 ((wrap64 ((wrap64 (bt (rdOf ByteArray.empty t143 0) 0)) - 97)) + 1), wrap64 ((wrap64 (bt (rdOf ByteArray.empty t143 0) 1)) - 48), t154⟩ : S40)); (case aB => exact (zB2 HB.1 GE134.1 GE141.1)); (case aF => exact (fun _ _ => trivial)); (case aO => exact (zR HO_142002.1)); (case aS => exact (below_size (zB2 HB.1 GE134.1 GE141.1))); (case aL => have := LMc37.1; omega); intro v156 w42 ho hb hg hat
        have hneS_ : some ad150.block ≠ Value.ownBlock u142002 := by obtain ⟨gS_, cS_, eS_, _, _, CS, hS_⟩ := Kd.R_form HO145.1 (of_eq_true ‹(0 < t143.length) = True›); have h_ := Kd.R_ne HO_142002.1 hS_ (by decide); have hB_ : ad150.block = gS_ := (by injection eS_ with e1; injection e1 with e1; rw [e1]); rw [hB_]; exact h_
        have HS3_ := cell_grown hg (a := ad150) (show World.cell? (World.drewN _ _) _ = _ from (by simpa using hx151_0)) hneS_; have HS4_ := cell_grown hg (a := ad150) (show World.cell? (World.drewN _ _) _ = _ from (by simpa using hx152_0)) hneS_; have HS5_ := cell_grown hg (a := ⟨ad150.block, ad150.off + 1, none⟩) (show World.cell? (World.drewN _ _) _ = _ from (by simpa using hx153_0)) hneS_; rw [← Ny155.1] at ho; have _ := aM (Kd.R_over' (zR HO_4.1) (Kd.R_typed (zR HO_142002.1)) (by decide) hg); have _ := aM (blk_grown (zK BK134.1) hg (Kd.R_ne HO_142002.1 BK134.1 (by decide))); have _ := aM (blk_grown (zK BK141.1) hg (Kd.R_ne HO_142002.1 BK141.1 (by decide))); have _ := aM (Kd.R_over' (zR HO145.1) (Kd.R_typed (zR HO_142002.1)) (by decide) hg); have _ := aM (hb); have _ := aM (ho); clear HO_4 BK134 BK141 HO145 HB HO_142002; rename_i HO_4 BK134 BK141 HO145 HB HO157; clear ho hb hg hat; obtain ⟨Ao43, co43, eo43⟩ := Kd.R_slice HO157.1; (first | subst eo43 | (injection eo43 with f1_ f2_ f3_; have f4_ := f1_.symm; have f5_ := f3_.symm; clear f1_ f2_ f3_; subst f4_; subst f5_)); refine hK.out _ _ ⟨(blk_cell BK141.1 0).trans rfl, (blk_cell BK141.1 1).trans rfl, (blk_cell BK141.1 2).trans rfl, HS3_, HS4_, HS5_⟩ (fun hHeld => ?_); clear hK K; refine zn (some 71) ?_; refine zu HT_ 22 (some 72) (zA 24 8388607) ?_; refine last_ (i := 23) (N := none) (zA 24 16777215) rfl rfl (one_of HT_.1 (by kernel_rfl)) (by decide) (fun K hK => ?_); have hs44 : w42.cell? ⟨gb141, 2, none⟩ = some (u142002) := (blk_cell BK141.1 2).trans rfl; have hfs44 := blk_frozen BK141.1 2; have hns44_0 := NB134_141.1; have hms44_0 := NB141_134.1; refine skip_ (w1 := ?_) (by rfl) rfl ?_ ?_; rotate_left
        ·go_simp
         rfl
        refine hK.out _ _ ?_; clear hK K; refine done_ (done_of HT_.1 (by kernel_rfl)) ?_
        try go_wp2
        go_roundg k1
        case measure => have := HK1.1; omega
        case rel => exact ⟨(wrap64 (x6_1 + 1)), (x135000_1), (x135001_1), (x142000_1), (x142001_1), (y155), (.slice Ao43 y155.length co43), (by first | rfl | (simp; done) | (simp [*]; done)), H', ⟨by have := HK1.1; omega⟩, ⟨by exact (Kd.R_mono (zFR (g := gb141) (Kd.R_types HO_4.1 BK141.1 (by decide)) (fun _ hk => hk.2)) (fun _ hk => trivial))⟩, ⟨by exact (Kd.R_mono (zFR (g := gb141) (Kd.R_types HO157.1 BK141.1 (by decide)) (fun _ hk => hk.2)) (fun _ hk => trivial))⟩, ⟨zK1 BK134.1 NB134_141.1⟩, ⟨by exact zP BK141.1 (by rfl)⟩, ⟨zB2 HB.1 GE134.1 GE141.1⟩⟩
       ·rw [if_neg c30] at H; have c30b0 : (((rdOf ByteArray.empty t143 0).size : Int) == 2) = false := beq_eq_false_iff_ne.mpr c30; have c30b1 : (((rdOf ByteArray.empty t143 0).size : Int) != 2) = true := bne_iff_ne.mpr c30; simp only [Option.some.injEq, Prod.mk.injEq] at H; obtain ⟨rfl, rfl, rfl, rfl⟩ := H; obtain ⟨Ao45, co45, eo45⟩ := Kd.R_slice HO_4.1; subst eo45; have p142 : 0 ≤ (x6_1 : Int) := zd; have q142 : x6_1 < (t135.length : Int) := zd; obtain ⟨ad142, e142, hx142_0⟩ := Kd.at_string (Kd.R_reads' HO_4.1).2.2 x6_1 p142 q142; cases e142; replace p142 := eq_true p142; replace q142 := eq_true q142
        go_wp2_with (first | ((with_reducible refine gate_callee (f := 66) rfl ?_); refine zgL (some 27) Tryd.func66 #[.string (rdOf ByteArray.empty t135 x6_1), .int .u8 32] ?_; (with_reducible refine (spec_l1Cut.calls (rdOf ByteArray.empty t135 x6_1) 32 t143 _ A17.1).mono ?_); rintro e w46 ⟨v144, rfl, ho0, hb⟩; refine ⟨_, rfl, ?_⟩; have _ := aM (Kd.R_elder' (zR HO_4.1) (Kd.R_base ho0) hb); have _ := aM (Kd.R_below (zR HO_142002.1) hb); have _ := aM (Kd.R_lower (Kd.R_new' ho0 (Kd.R_lt (zR HO_4.1))) (below_size (zB2 HB.1 GE134.1 GE141.1))); have _ := aM (blk_below (zK BK134.1) hb); have _ := aM (blk_below (zK BK141.1) hb); have _ := aM (below_step (zB2 HB.1 GE134.1 GE141.1) hb); clear HO_4 HO_142002 BK134 BK141 HB; rename_i HO_4 HO_142002 HO145 BK134 BK141 HB; (try clear hb); (try clear hb2); (try clear hk); (try clear hi); (try clear ho0); obtain ⟨Ao47, co47, eo47⟩ := Kd.R_slice HO145.1; subst eo47; have p150 : 0 ≤ (0 : Int) := (by omega); have q150 : 0 < (t143.length : Int) := zd; obtain ⟨ad150, e150, hx150_0⟩ := Kd.at_string (Kd.R_reads' HO145.1).2.2 0 p150 q150; cases e150; have qi150 : (0 < t143.length) = True := eq_true (by omega); (try rw [show ((0 : Int)).toNat = 0 from rfl] at hx150_0); (try rw [Addr.add_zero'] at hx150_0); replace p150 := eq_true p150; replace q150 := eq_true q150; have hnb48 := NB134_141.1; have hnc48 := NB141_134.1; obtain ⟨hcz49_0, hcz49_1, hcz49_2, hfz49_0, hfz49_1, hfz49_2⟩ := zc3f BK134.1))
        refine bodyPost_ret (results_ct rfl _ _ gb134 25 #[.int .i64 0, .int .i64 0, .slice none 0 0] (0, 0) _ rfl (by exact zP BK134.1 (by rfl)) Tryd.underlying25 rfl (by kernel_rfl)) rfl ?_; exact ⟨_, by first | rfl | (simp [errW_none, errW_some] <;> rfl) | (simp [*, errW_none, errW_some] <;> rfl), by first | exact Kd.R_nil _ _ _ _ _ | exact Kd.N_nil _ _ _ _ _ | exact Kd.V_nil _ _ _ _ _ | exact Kd.Q_nil _ _ _ _ _ | exact Kd.S_nil _ _ _ _ _, by exact zB2 HB.1 GE134.1 GE141.1⟩
     ·rw [if_neg c18] at H; have c18b0 : ((t143.length : Int) == 2) = false := beq_eq_false_iff_ne.mpr c18; have c18b1 : ((t143.length : Int) != 2) = true := bne_iff_ne.mpr c18; simp only [Option.some.injEq, Prod.mk.injEq] at H; obtain ⟨rfl, rfl, rfl, rfl⟩ := H; obtain ⟨Ao50, co50, eo50⟩ := Kd.R_slice HO_4.1; subst eo50; have p142 : 0 ≤ (x6_1 : Int) := zd; have q142 : x6_1 < (t135.length : Int) := zd; obtain ⟨ad142, e142, hx142_0⟩ := Kd.at_string (Kd.R_reads' HO_4.1).2.2 x6_1 p142 q142; cases e142; replace p142 := eq_true p142; replace q142 := eq_true q142
      go_wp2_with (first | ((with_reducible refine gate_callee (f := 66) rfl ?_); refine zgL (some 27) Tryd.func66 #[.string (rdOf ByteArray.empty t135 x6_1), .int .u8 32] ?_; (with_reducible refine (spec_l1Cut.calls (rdOf ByteArray.empty t135 x6_1) 32 t143 _ A17.1).mono ?_); rintro e w51 ⟨v144, rfl, ho0, hb⟩; refine ⟨_, rfl, ?_⟩; have _ := aM (Kd.R_elder' (zR HO_4.1) (Kd.R_base ho0) hb); have _ := aM (Kd.R_below (zR HO_142002.1) hb); have _ := aM (Kd.R_lower (Kd.R_new' ho0 (Kd.R_lt (zR HO_4.1))) (below_size (zB2 HB.1 GE134.1 GE141.1))); have _ := aM (blk_below (zK BK134.1) hb); have _ := aM (blk_below (zK BK141.1) hb); have _ := aM (below_step (zB2 HB.1 GE134.1 GE141.1) hb); clear HO_4 HO_142002 BK134 BK141 HB; rename_i HO_4 HO_142002 HO145 BK134 BK141 HB; (try clear hb); (try clear hb2); (try clear hk); (try clear hi); (try clear ho0); obtain ⟨Ao52, co52, eo52⟩ := Kd.R_slice HO145.1; subst eo52; have hnb53 := NB134_141.1; have hnc53 := NB141_134.1; obtain ⟨hcz54_0, hcz54_1, hcz54_2, hfz54_0, hfz54_1, hfz54_2⟩ := zc3f BK134.1))
      refine bodyPost_ret (results_ct rfl _ _ gb134 25 #[.int .i64 0, .int .i64 0, .slice none 0 0] (0, 0) _ rfl (by exact zP BK134.1 (by rfl)) Tryd.underlying25 rfl (by kernel_rfl)) rfl ?_; exact ⟨_, by first | rfl | (simp [errW_none, errW_some] <;> rfl) | (simp [*, errW_none, errW_some] <;> rfl), by first | exact Kd.R_nil _ _ _ _ _ | exact Kd.N_nil _ _ _ _ _ | exact Kd.V_nil _ _ _ _ _ | exact Kd.Q_nil _ _ _ _ _ | exact Kd.S_nil _ _ _ _ _, by exact zB2 HB.1 GE134.1 GE141.1⟩
    ·rw [if_neg c14] at H; have c14b0 : decide ((wrap64 (x6_1 + 1)) < (t135.length : Int)) = false := decide_eq_false c14; clear c14; replace H := Option.bind_eq_some_iff.mp H; obtain ⟨t158, A550, H⟩ := H; (try dsimp only at H); have A55 := aM A550; clear A550
     by_cases c56 : t158.toList = a0.toList
     ·rw [if_pos c56] at H; have c56b0 : (t158.toList == a0.toList) = true := beq_iff_eq.mpr c56; have c56b1 : (t158.toList != a0.toList) = false := bne_eq_false_iff_eq.mpr c56; clear c56
      by_cases c57 : a0.toList = ([] : List UInt8)
      ·rw [if_pos c57] at H; have c57b0 : (a0.toList == ([] : List UInt8)) = true := beq_iff_eq.mpr c57; have c57b1 : (a0.toList != ([] : List UInt8)) = false := bne_eq_false_iff_eq.mpr c57; clear c57; simp only [Option.some.injEq, Prod.mk.injEq] at H; obtain ⟨rfl, rfl, rfl, rfl⟩ := H; obtain ⟨Ao58, co58, eo58⟩ := Kd.R_slice HO_4.1; subst eo58; have hnb59 := NB141_134.1; have hnc59 := NB134_141.1; obtain ⟨hcz60_0, hcz60_1, hcz60_2, hfz60_0, hfz60_1, hfz60_2⟩ := zc3f BK141.1; obtain ⟨Ao61, co61, eo61⟩ := Kd.R_slice HO_142002.1; subst eo61
       go_wp2_with (first | ((with_reducible refine gate_callee (f := 36) rfl ?_); refine zgL (some 74) Tryd.func36 #[.agg #[.int .i64 x142000_1, .int .i64 x142001_1, .slice Ao61 x142002_1.length co61]] ?_; (with_reducible refine (spec_IndexText.calls k1 x142000_1 x142001_1 _ _ x142002_1 t158 _ ?side1 ?side2 A55.1).mono ?_); (case side1 => exact zC (Kd.R_reads' HO_142002.1).2.2); (case side2 => exact (Kd.R_reads' HO_142002.1).2.1); rintro e w62 ⟨rfl, hb⟩; refine ⟨_, rfl, ?_⟩; have _ := aM (Kd.R_below (zR HO_4.1) hb); have _ := aM (Kd.R_below (zR HO_142002.1) hb); have _ := aM (blk_below (zK BK134.1) hb); have _ := aM (blk_below (zK BK141.1) hb); have _ := aM (below_step (zB2 HB.1 GE134.1 GE141.1) hb); clear HO_4 HO_142002 BK134 BK141 HB; rename_i HO_4 HO_142002 BK134 BK141 HB; (try clear hb); (try clear hb2); (try clear hk); (try clear hi); obtain ⟨hcz63_0, hcz63_1, hcz63_2, hfz63_0, hfz63_1, hfz63_2⟩ := zc3f BK134.1))
       refine bodyPost_ret (results_ct rfl _ _ gb134 25 #[.int .i64 0, .int .i64 0, .slice none 0 0] (0, 0) _ rfl (by exact zP BK134.1 (by rfl)) Tryd.underlying25 rfl (by kernel_rfl)) rfl ?_; exact ⟨_, by first | rfl | (simp [errW_none, errW_some] <;> rfl) | (simp [*, errW_none, errW_some] <;> rfl), by first | exact Kd.R_nil _ _ _ _ _ | exact Kd.N_nil _ _ _ _ _ | exact Kd.V_nil _ _ _ _ _ | exact Kd.Q_nil _ _ _ _ _ | exact Kd.S_nil _ _ _ _ _, by exact zB2 HB.1 GE134.1 GE141.1⟩
      ·rw [if_neg c57] at H; have c57b0 : (a0.toList == ([] : List UInt8)) = false := beq_eq_false_iff_ne.mpr c57; have c57b1 : (a0.toList != ([] : List UInt8)) = true := bne_iff_ne.mpr c57; simp only [Option.some.injEq, Prod.mk.injEq] at H; obtain ⟨rfl, rfl, rfl, rfl⟩ := H; obtain ⟨Ao64, co64, eo64⟩ := Kd.R_slice HO_4.1; subst eo64; have hnb65 := NB141_134.1; have hnc65 := NB134_141.1; obtain ⟨hcz66_0, hcz66_1, hcz66_2, hfz66_0, hfz66_1, hfz66_2⟩ := zc3f BK141.1; obtain ⟨Ao67, co67, eo67⟩ := Kd.R_slice HO_142002.1; subst eo67
       go_wp2_with (first | ((with_reducible refine gate_callee (f := 36) rfl ?_); refine zgL (some 74) Tryd.func36 #[.agg #[.int .i64 x142000_1, .int .i64 x142001_1, .slice Ao67 x142002_1.length co67]] ?_; (with_reducible refine (spec_IndexText.calls k1 x142000_1 x142001_1 _ _ x142002_1 t158 _ ?side1 ?side2 A55.1).mono ?_); (case side1 => exact zC (Kd.R_reads' HO_142002.1).2.2); (case side2 => exact (Kd.R_reads' HO_142002.1).2.1); rintro e w68 ⟨rfl, hb⟩; refine ⟨_, rfl, ?_⟩; have _ := aM (Kd.R_below (zR HO_4.1) hb); have _ := aM (Kd.R_below (zR HO_142002.1) hb); have _ := aM (blk_below (zK BK134.1) hb); have _ := aM (blk_below (zK BK141.1) hb); have _ := aM (below_step (zB2 HB.1 GE134.1 GE141.1) hb); clear HO_4 HO_142002 BK134 BK141 HB; rename_i HO_4 HO_142002 BK134 BK141 HB; (try clear hb); (try clear hb2); (try clear hk); (try clear hi); obtain ⟨hcz69_0, hcz69_1, hcz69_2, hfz69_0, hfz69_1, hfz69_2⟩ := zc3f BK141.1; obtain ⟨hcz70_0, hcz70_1, hcz70_2, hfz70_0, hfz70_1, hfz70_2⟩ := zc3f BK134.1))
       refine bodyPost_ret (results_ct rfl _ _ gb134 25 #[.int .i64 x142000_1, .int .i64 x142001_1, .slice Ao67 x142002_1.length co67] (0, 0) _ rfl (by exact zP BK134.1 (by rfl)) Tryd.underlying25 rfl (by kernel_rfl)) rfl ?_; exact ⟨_, by first | rfl | (simp [errW_none, errW_some] <;> rfl) | (simp [*, errW_none, errW_some] <;> rfl), by (with_reducible repeat (first | apply Kd.R_alloc | apply Kd.R_drewN | apply Kd.R_drew)); exact Kd.R_mono (zFR (g := gb134) (Kd.R_types HO_142002.1 BK134.1 (by decide)) (fun _ hk => hk.2)) (fun _ hk => trivial), by exact zB2 HB.1 GE134.1 GE141.1⟩
     ·rw [if_neg c56] at H; have c56b0 : (t158.toList == a0.toList) = false := beq_eq_false_iff_ne.mpr c56; have c56b1 : (t158.toList != a0.toList) = true := bne_iff_ne.mpr c56; simp only [Option.some.injEq, Prod.mk.injEq] at H; obtain ⟨rfl, rfl, rfl, rfl⟩ := H; obtain ⟨Ao71, co71, eo71⟩ := Kd.R_slice HO_4.1; subst eo71; have hnb72 := NB141_134.1; have hnc72 := NB134_141.1; obtain ⟨hcz73_0, hcz73_1, hcz73_2, hfz73_0, hfz73_1, hfz73_2⟩ := zc3f BK141.1; obtain ⟨Ao74, co74, eo74⟩ := Kd.R_slice HO_142002.1; subst eo74
      go_wp2_with (first | ((with_reducible refine gate_callee (f := 36) rfl ?_); refine zgL (some 74) Tryd.func36 #[.agg #[.int .i64 x142000_1, .int .i64 x142001_1, .slice Ao74 x142002_1.length co74]] ?_; (with_reducible refine (spec_IndexText.calls k1 x142000_1 x142001_1 _ _ x142002_1 t158 _ ?side1 ?side2 A55.1).mono ?_); (case side1 => exact zC (Kd.R_reads' HO_142002.1).2.2); (case side2 => exact (Kd.R_reads' HO_142002.1).2.1); rintro e w75 ⟨rfl, hb⟩; refine ⟨_, rfl, ?_⟩; have _ := aM (Kd.R_below (zR HO_4.1) hb); have _ := aM (Kd.R_below (zR HO_142002.1) hb); have _ := aM (blk_below (zK BK134.1) hb); have _ := aM (blk_below (zK BK141.1) hb); have _ := aM (below_step (zB2 HB.1 GE134.1 GE141.1) hb); clear HO_4 HO_142002 BK134 BK141 HB; rename_i HO_4 HO_142002 BK134 BK141 HB; (try clear hb); (try clear hb2); (try clear hk); (try clear hi); obtain ⟨hcz76_0, hcz76_1, hcz76_2, hfz76_0, hfz76_1, hfz76_2⟩ := zc3f BK134.1))
      refine bodyPost_ret (results_ct rfl _ _ gb134 25 #[.int .i64 0, .int .i64 0, .slice none 0 0] (0, 0) _ rfl (by exact zP BK134.1 (by rfl)) Tryd.underlying25 rfl (by kernel_rfl)) rfl ?_; exact ⟨_, by first | rfl | (simp [errW_none, errW_some] <;> rfl) | (simp [*, errW_none, errW_some] <;> rfl), by first | exact Kd.R_nil _ _ _ _ _ | exact Kd.N_nil _ _ _ _ _ | exact Kd.V_nil _ _ _ _ _ | exact Kd.Q_nil _ _ _ _ _ | exact Kd.S_nil _ _ _ _ _, by exact zB2 HB.1 GE134.1 GE141.1⟩

/-! ### impl_in: function 65 -/
theorem impl_in_b (w : World) (n a b : Int) (v : Bool) (h : inB_ n a b = v) : Calls Tryd.prog 65 #[.int .i64 n, .int .i64 a, .int .i64 b] w fun e w' => e = .returned (.bool v) ∧ w' = w := by
 subst h
 go_enter Tryd.func65, Tryd.ntmps65
 by_cases h1 : a ≤ n
 ·by_cases h2 : n ≤ b
  ·have e1 : inB_ n a b = true := by unfold inB_; rw [decide_eq_true h1, decide_eq_true h2]; rfl
   have d1 : decide (a ≤ n) = true := decide_eq_true h1
   have d2 : decide (n ≤ b) = true := decide_eq_true h2
   rw [e1]
   clear h1 h2 e1
   go_wp2
   go_ret
   exact ⟨by first | rfl | simp [*], rfl⟩
  ·have e1 : inB_ n a b = false := by unfold inB_; rw [decide_eq_false h2, Bool.and_false]
   have d1 : decide (a ≤ n) = true := decide_eq_true h1
   have d2 : decide (n ≤ b) = false := decide_eq_false h2
   rw [e1]
   clear h1 h2 e1
   go_wp2
   go_ret
   exact ⟨by first | rfl | simp [*], rfl⟩
 ·have e1 : inB_ n a b = false := by unfold inB_; rw [decide_eq_false h1, Bool.false_and]
  have d1 : decide (a ≤ n) = false := decide_eq_false h1
  rw [e1]
  clear h1 e1
  go_wp2
  go_ret
  exact ⟨by first | rfl | simp [*], rfl⟩
def impl_in.f (a0 : Int) (a1 : Int) (a2 : Int) : Option (Bool) := if a0 ≥ a1 then (some (decide (a0 ≤ a2))) else (some (false))
theorem impl_in.calls (a0 : Int) (a1 : Int) (a2 : Int) (r : Bool) (w : World) (h : impl_in.f a0 a1 a2 = some r) :
  Calls Tryd.prog 65 #[.int .i64 a0, .int .i64 a1, .int .i64 a2] w fun e w' => e = .returned (.bool r) ∧ Drawn0 w w' := by
 have e : inB_ a0 a1 a2 = r := by
  unfold impl_in.f at h; unfold inB_
  by_cases c : a0 ≥ a1
  ·rw [if_pos c] at h; rw [decide_eq_true c, Bool.true_and]; exact Option.some.inj h
  ·rw [if_neg c] at h; rw [decide_eq_false c, Bool.false_and]; exact Option.some.inj h
 exact (impl_in_b w a0 a1 a2 r e).mono fun _ _ h => ⟨h.1, by rw [h.2]; exact Drawn0.refl _⟩

/-! ### impl_isName: function 63 -/
theorem impl_isName_b (w : World) (n : Int) (v : Bool) (h : inB_ n 1 4 = v) : Calls Tryd.prog 63 #[.int .i64 n] w fun e w' => e = .returned (.bool v) ∧ w' = w := by
 subst h
 go_enter Tryd.func63, Tryd.ntmps63
 by_cases h1 : 1 ≤ n
 ·by_cases h2 : n ≤ 4
  ·have e1 : inB_ n 1 4 = true := by unfold inB_; rw [decide_eq_true h1, decide_eq_true h2]; rfl
   have d1 : decide (1 ≤ n) = true := decide_eq_true h1
   have d2 : decide (n ≤ 4) = true := decide_eq_true h2
   rw [e1]
   clear h1 h2 e1
   go_wp2
   go_ret
   exact ⟨by first | rfl | simp [*], rfl⟩
  ·have e1 : inB_ n 1 4 = false := by unfold inB_; rw [decide_eq_false h2, Bool.and_false]
   have d1 : decide (1 ≤ n) = true := decide_eq_true h1
   have d2 : decide (n ≤ 4) = false := decide_eq_false h2
   rw [e1]
   clear h1 h2 e1
   go_wp2
   go_ret
   exact ⟨by first | rfl | simp [*], rfl⟩
 ·have e1 : inB_ n 1 4 = false := by unfold inB_; rw [decide_eq_false h1, Bool.false_and]
  have d1 : decide (1 ≤ n) = false := decide_eq_false h1
  rw [e1]
  clear h1 e1
  go_wp2
  go_ret
  exact ⟨by first | rfl | simp [*], rfl⟩
def impl_isName.f (a0 : Int) : Option (Bool) := impl_in.f a0 1 4
theorem impl_isName.calls (a0 : Int) (r : Bool) (w : World) (h : impl_isName.f a0 = some r) :
  Calls Tryd.prog 63 #[.int .i64 a0] w fun e w' => e = .returned (.bool r) ∧ Drawn0 w w' := by
 have e : inB_ a0 1 4 = r := by
  unfold impl_isName.f impl_in.f at h; unfold inB_
  by_cases c : a0 ≥ 1
  ·rw [if_pos c] at h; rw [decide_eq_true c, Bool.true_and]; exact Option.some.inj h
  ·rw [if_neg c] at h; rw [decide_eq_false c, Bool.false_and]; exact Option.some.inj h
 exact (impl_isName_b w a0 r e).mono fun _ _ h => ⟨h.1, by rw [h.2]; exact Drawn0.refl _⟩

/-! ### impl_isVer: function 64 -/
theorem impl_isVer_b (w : World) (n : Int) (v : Bool) (h : inB_ n 1 5 = v) : Calls Tryd.prog 64 #[.int .i64 n] w fun e w' => e = .returned (.bool v) ∧ w' = w := by
 subst h
 go_enter Tryd.func64, Tryd.ntmps64
 by_cases h1 : 1 ≤ n
 ·by_cases h2 : n ≤ 5
  ·have e1 : inB_ n 1 5 = true := by unfold inB_; rw [decide_eq_true h1, decide_eq_true h2]; rfl
   have d1 : decide (1 ≤ n) = true := decide_eq_true h1
   have d2 : decide (n ≤ 5) = true := decide_eq_true h2
   rw [e1]
   clear h1 h2 e1
   go_wp2
   go_ret
   exact ⟨by first | rfl | simp [*], rfl⟩
  ·have e1 : inB_ n 1 5 = false := by unfold inB_; rw [decide_eq_false h2, Bool.and_false]
   have d1 : decide (1 ≤ n) = true := decide_eq_true h1
   have d2 : decide (n ≤ 5) = false := decide_eq_false h2
   rw [e1]
   clear h1 h2 e1
   go_wp2
   go_ret
   exact ⟨by first | rfl | simp [*], rfl⟩
 ·have e1 : inB_ n 1 5 = false := by unfold inB_; rw [decide_eq_false h1, Bool.false_and]
  have d1 : decide (1 ≤ n) = false := decide_eq_false h1
  rw [e1]
  clear h1 e1
  go_wp2
  go_ret
  exact ⟨by first | rfl | simp [*], rfl⟩
def impl_isVer.f (a0 : Int) : Option (Bool) := impl_in.f a0 1 5
theorem impl_isVer.calls (a0 : Int) (r : Bool) (w : World) (h : impl_isVer.f a0 = some r) :
  Calls Tryd.prog 64 #[.int .i64 a0] w fun e w' => e = .returned (.bool r) ∧ Drawn0 w w' := by
 have e : inB_ a0 1 5 = r := by
  unfold impl_isVer.f impl_in.f at h; unfold inB_
  by_cases c : a0 ≥ 1
  ·rw [if_pos c] at h; rw [decide_eq_true c, Bool.true_and]; exact Option.some.inj h
  ·rw [if_neg c] at h; rw [decide_eq_false c, Bool.false_and]; exact Option.some.inj h
 exact (impl_isVer_b w a0 r e).mono fun _ _ h => ⟨h.1, by rw [h.2]; exact Drawn0.refl _⟩

/-! ### impl_IndexOk: function 38 -/
def ixm1 (l : List S40) (i : Nat) : Bool := inB_ (l.getD i z40).f0 1 4 && (inB_ (l.getD i z40).f1 1 5 && (inB_ (l.getD i z40).f2 0 9972 && (i == 0 || (decide ((l.getD (i - 1) z40).f0 < (l.getD i z40).f0) || (decide ((l.getD (i - 1) z40).f0 = (l.getD i z40).f0) && decide ((l.getD (i - 1) z40).f1 < (l.getD i z40).f1))))))
def ixB (a u : Int) (l : List S40) : Bool := okFrom (ixm1 l) l.length 0 && (inB_ a 1 30 && (inB_ u 0 60 && decide (l.length ≤ 8)))
set_option maxHeartbeats 8000000 in
set_option maxRecDepth 100000 in
theorem ixo_calls (a u : Int) (A2 : Option Addr) (c2 : Nat) (l2 : List S40) (w : World) (hr2 : Kd.C k40 w A2 l2.length l2) :
  Calls Tryd.prog 38 #[.agg #[.int .i64 a, .int .i64 u, .slice A2 l2.length c2]] w fun e w' => e = .returned (.bool (ixB a u l2)) ∧ Below w.heap.size w w' := by
 have HR2 := Aside0.mk hr2
 have HL2 := Aside0.mk hr2.2.1
 clear hr2
 have HE : Aside0 (ixB a u l2 = (okFrom (ixm1 l2) (l2.length - (0 : Int).toNat) (0 : Int).toNat && (inB_ a 1 30 && (inB_ u 0 60 && decide (l2.length ≤ 8))))) := ⟨rfl⟩
 go_enter Tryd.func38, Tryd.ntmps38
 go_wp2
 have n0_ := Aside0.mk (below_alloc (Below.refl w.heap.size w) (Obj.cells #[.int .i64 a, .int .i64 u, .slice A2 l2.length c2] 25))
 have n1_ := Aside0.mk (blk_new w (Obj.cells #[.int .i64 a, .int .i64 u, .slice A2 l2.length c2] 25))
 generalize w.alloc (Obj.cells #[.int .i64 a, .int .i64 u, .slice A2 l2.length c2] 25) = W0 at n0_ n1_ ⊢
 obtain ⟨gb, hgb⟩ : ∃ g, g = w.heap.size := ⟨_, rfl⟩
 rw [← hgb] at n1_ ⊢
 have HB := n0_
 have BK := n1_
 clear n0_ n1_ hgb
 go_loopw [8] (fun v5 w' => ∃ x : Int, 0 ≤ x ∧ x ≤ (l2.length : Int) ∧ v5 = .int .i64 x ∧ Aside0 (ixB a u l2 = (okFrom (ixm1 l2) (l2.length - x.toNat) x.toNat && (inB_ a 1 30 && (inB_ u 0 60 && decide (l2.length ≤ 8))))) ∧ Aside0 (w'.heap[gb]? = some (.cells #[.int .i64 a, .int .i64 u, .slice A2 l2.length c2] 25 (0, 0))) ∧ Aside0 (Below w.heap.size w w')) (fun v5 _ => l2.length - (intOf v5).toNat)
 case atStart => exact ⟨0, by omega, by omega, rfl, HE, BK, HB⟩
 case round =>
  clear HE HB BK
  obtain ⟨x, hx0, hx1, rfl, HE, BK, HB⟩ := hrel
  have HL := HL2.out
  by_cases hlt : x < (l2.length : Int)
  ·obtain ⟨ad, e, m0, m1, m2⟩ := at_T40 HR2.out x hx0 hlt
   cases e
   replace m0 := (HB.out.cell (World.block_lt_of_cell? w _ m0)).trans m0
   replace m1 := (HB.out.cell (World.block_lt_of_cell? w _ m1)).trans m1
   replace m2 := (HB.out.cell (World.block_lt_of_cell? w _ m2)).trans m2
   obtain ⟨F0, hF0⟩ : ∃ F0, F0 = (rd_T40 l2 x).f0 := ⟨_, rfl⟩
   obtain ⟨F1, hF1⟩ : ∃ F1, F1 = (rd_T40 l2 x).f1 := ⟨_, rfl⟩
   obtain ⟨F2, hF2⟩ : ∃ F2, F2 = (rd_T40 l2 x).f2 := ⟨_, rfl⟩
   rw [← hF0] at m0
   rw [← hF1] at m1
   rw [← hF2] at m2
   have HF := Aside0.mk (And.intro hF0 (And.intro hF1 hF2))
   clear hF0 hF1 hF2
   have q1 : decide (x < (l2.length : Int)) = true := decide_eq_true hlt
   have q2 : 0 ≤ x := hx0
   obtain ⟨b1, hb1⟩ : ∃ b, inB_ F0 1 4 = b := ⟨_, rfl⟩
   obtain ⟨b2, hb2⟩ : ∃ b, inB_ F1 1 5 = b := ⟨_, rfl⟩
   obtain ⟨b3, hb3⟩ : ∃ b, inB_ F2 0 9972 = b := ⟨_, rfl⟩
   have C1 := Aside0.mk (fun W => (impl_isName_b W F0 b1 hb1).mono fun _ _ h => And.intro h.1 h.2.symm)
   have C2 := Aside0.mk (fun W => (impl_isVer_b W F1 b2 hb2).mono fun _ _ h => And.intro h.1 h.2.symm)
   have C3 := Aside0.mk (fun W => (impl_in_b W F2 0 9972 b3 hb3).mono fun _ _ h => And.intro h.1 h.2.symm)
   have B1 := Aside0.mk hb1
   have B2 := Aside0.mk hb2
   have B3 := Aside0.mk hb3
   clear hb1 hb2 hb3
   have HN := Aside0.mk (okFrom_at (p := ixm1 l2) hx0 hlt)
   have no : Aside0 (ixm1 l2 x.toNat = false → ixB a u l2 = false) := ⟨fun h_ => by rw [HE.out, HN.out, h_]; rfl⟩
   have yes : Aside0 (ixm1 l2 x.toNat = true → ixB a u l2 = (okFrom (ixm1 l2) (l2.length - (x + 1).toNat) (x + 1).toNat && (inB_ a 1 30 && (inB_ u 0 60 && decide (l2.length ≤ 8))))) := ⟨fun h_ => by rw [HE.out, HN.out, h_]; rfl⟩
   have D : Aside0 (ixm1 l2 x.toNat = (b1 && (b2 && (b3 && (x.toNat == 0 || (decide ((l2.getD (x.toNat - 1) z40).f0 < F0) || (decide ((l2.getD (x.toNat - 1) z40).f0 = F0) && decide ((l2.getD (x.toNat - 1) z40).f1 < F1)))))))) := ⟨by
    unfold ixm1
    rw [← show _ = (l2.getD x.toNat z40).f0 from HF.out.1, ← show _ = (l2.getD x.toNat z40).f1 from HF.out.2.1, ← show _ = (l2.getD x.toNat z40).f2 from HF.out.2.2, B1.out, B2.out, B3.out]⟩
   clear HE HN HF B1 B2 B3
   have HNB := Aside0.mk (show w.heap.size ≤ wr.heap.size from HB.out.size)
   cases b1 with
   | false =>
    go_wp2_with (first | (go_at_call 63; with_reducible refine (C1.out _).mono ?_; rintro e wz ⟨rfl, rfl⟩) | (go_at_call 64; with_reducible refine (C2.out _).mono ?_; rintro e wz ⟨rfl, rfl⟩) | (go_at_call 65; with_reducible refine (C3.out _).mono ?_; rintro e wz ⟨rfl, rfl⟩))
    go_wp2
    go_ret
    rw [no.out (by rw [D.out]; rfl)]
    exact ⟨by first | rfl | simp [*], by repeat (first | exact HB.out | apply pw_below_drewN | apply below_alloc)⟩
   | true =>
    cases b2 with
    | false =>
     go_wp2_with (first | (go_at_call 63; with_reducible refine (C1.out _).mono ?_; rintro e wz ⟨rfl, rfl⟩) | (go_at_call 64; with_reducible refine (C2.out _).mono ?_; rintro e wz ⟨rfl, rfl⟩) | (go_at_call 65; with_reducible refine (C3.out _).mono ?_; rintro e wz ⟨rfl, rfl⟩))
     go_wp2
     go_ret
     rw [no.out (by rw [D.out]; rfl)]
     exact ⟨by first | rfl | simp [*], by repeat (first | exact HB.out | apply pw_below_drewN | apply below_alloc)⟩
    | true =>
     cases b3 with
     | false =>
      go_wp2_with (first | (go_at_call 63; with_reducible refine (C1.out _).mono ?_; rintro e wz ⟨rfl, rfl⟩) | (go_at_call 64; with_reducible refine (C2.out _).mono ?_; rintro e wz ⟨rfl, rfl⟩) | (go_at_call 65; with_reducible refine (C3.out _).mono ?_; rintro e wz ⟨rfl, rfl⟩))
      go_wp2
      go_ret
      rw [no.out (by rw [D.out]; rfl)]
      exact ⟨by first | rfl | simp [*], by repeat (first | exact HB.out | apply pw_below_drewN | apply below_alloc)⟩
     | true =>
      go_wp2_with (first | (go_at_call 63; with_reducible refine (C1.out _).mono ?_; rintro e wz ⟨rfl, rfl⟩) | (go_at_call 64; with_reducible refine (C2.out _).mono ?_; rintro e wz ⟨rfl, rfl⟩) | (go_at_call 65; with_reducible refine (C3.out _).mono ?_; rintro e wz ⟨rfl, rfl⟩))
      have n0_ := Aside0.mk (below_alloc HB.out (Obj.cells #[.int .i64 F0, .int .i64 F1, .int .i64 F2] 40))
      have n1_ := Aside0.mk (blk_alloc BK.out (Obj.cells #[.int .i64 F0, .int .i64 F1, .int .i64 F2] 40))
      have f0 : (wr.alloc (Obj.cells #[.int .i64 F0, .int .i64 F1, .int .i64 F2] 40)).cell? ⟨wr.heap.size, 0, none⟩ = some (.int .i64 F0) := by simp
      have f1 : (wr.alloc (Obj.cells #[.int .i64 F0, .int .i64 F1, .int .i64 F2] 40)).cell? ⟨wr.heap.size, 1, none⟩ = some (.int .i64 F1) := by simp
      clear HB BK m0 m1 m2
      generalize wr.alloc (Obj.cells #[.int .i64 F0, .int .i64 F1, .int .i64 F2] 40) = W at n0_ n1_ f0 f1 ⊢
      generalize wr.heap.size = gf at f0 f1 ⊢
      have HB := n0_
      have BK := n1_
      clear n0_ n1_
      have k2 : W.cell? ⟨gb, 2, none⟩ = some (.slice (some ad) l2.length c2) := (blk_cell BK.out 2).trans rfl
      by_cases hz : x ≤ 0
      ·have hx4 : decide (0 < x) = false := decide_eq_false (by omega)
       have Y := Aside0.mk (yes.out (by rw [D.out, show (x.toNat == 0) = true by rw [beq_iff_eq]; omega]; rfl))
       clear yes no D hz
       go_quiet (fail)
       go_wp2
       go_roundw
       case rel => exact ⟨x + 1, by omega, by omega, by first | rfl | simp, Y, ⟨by (with_reducible repeat (first | refine blk_drewN ?_ _)); exact BK.out⟩, ⟨by repeat (first | exact HB.out | apply pw_below_drewN)⟩⟩
       case measure => simp [intOf]; omega
      ·have g0 : 0 < x := by omega
       clear hz
       obtain ⟨y, hy⟩ : ∃ y, y = x - 1 := ⟨_, rfl⟩
       have hw : IntKind.i64.wrap (x - 1) = y := by rw [i64_w, hy]; unfold wrap64; omega
       obtain ⟨ad2, e2, d0, d1, d2⟩ := at_T40 HR2.out y (by omega) (by omega)
       obtain ⟨G0, hG0⟩ : ∃ G0, G0 = (rd_T40 l2 y).f0 := ⟨_, rfl⟩
       obtain ⟨G1, hG1⟩ : ∃ G1, G1 = (rd_T40 l2 y).f1 := ⟨_, rfl⟩
       rw [← hG0] at d0
       rw [← hG1] at d1
       cases e2
       replace d0 := (HB.out.cell (World.block_lt_of_cell? w _ d0)).trans d0
       replace d1 := (HB.out.cell (World.block_lt_of_cell? w _ d1)).trans d1
       have HG := Aside0.mk (And.intro hG0 hG1)
       clear hG0 hG1 d2
       have hx2 : 0 ≤ y := by omega
       have hx3 : decide (y < (l2.length : Int)) = true := decide_eq_true (by omega)
       have hx4 : decide (0 < x) = true := decide_eq_true g0
       have hx5 : y < (l2.length : Int) := by omega
       have HY := Aside0.mk hy
       clear hy
       have FD : Aside0 (ixm1 l2 x.toNat = (decide (G0 < F0) || (decide (G0 = F0) && decide (G1 < F1)))) := ⟨by
        rw [D.out, show (x.toNat == 0) = false by rw [beq_eq_false_iff_ne]; omega, show x.toNat - 1 = y.toNat by have := HY.out; omega, ← show _ = (l2.getD y.toNat z40).f0 from HG.out.1, ← show _ = (l2.getD y.toNat z40).f1 from HG.out.2]; rfl⟩
       by_cases hc : F0 < G0
       ·have cb : decide (F0 < G0) = true := decide_eq_true hc
        have N := Aside0.mk (no.out (by rw [FD.out, decide_eq_false (show ¬ G0 < F0 by omega), decide_eq_false (show ¬ G0 = F0 by omega)]; rfl))
        clear yes no hc D FD
        go_quiet (fail)
        go_wp2
        go_ret
        rw [N.out]
        exact ⟨by first | rfl | simp [*], by repeat (first | exact HB.out | apply pw_below_drewN | apply below_alloc)⟩
       ·have cb : decide (F0 < G0) = false := decide_eq_false hc
        by_cases hc2 : F0 = G0
        ·have cb2 : (F0 == G0) = true := beq_iff_eq.mpr hc2
         by_cases hc3 : F1 ≤ G1
         ·have cb3 : decide (F1 ≤ G1) = true := decide_eq_true hc3
          have N := Aside0.mk (no.out (by rw [FD.out, decide_eq_false (show ¬ G0 < F0 by omega), decide_eq_false (show ¬ G1 < F1 by omega), Bool.and_false]; rfl))
          clear yes no hc hc2 hc3 D FD
          go_quiet (fail)
          go_wp2
          go_ret
          rw [N.out]
          exact ⟨by first | rfl | simp [*], by repeat (first | exact HB.out | apply pw_below_drewN | apply below_alloc)⟩
         ·have cb3 : decide (F1 ≤ G1) = false := decide_eq_false hc3
          have Y := Aside0.mk (yes.out (by rw [FD.out, decide_eq_true (show G0 = F0 by omega), decide_eq_true (show G1 < F1 by omega), Bool.and_true, Bool.or_true]))
          clear yes no hc hc2 hc3 D FD
          go_quiet (fail)
          go_wp2
          go_roundw
          case rel => exact ⟨x + 1, by omega, by omega, by first | rfl | simp, Y, ⟨by (with_reducible repeat (first | refine blk_drewN ?_ _)); exact BK.out⟩, ⟨by repeat (first | exact HB.out | apply pw_below_drewN)⟩⟩
          case measure => simp [intOf]; omega
        ·have cb2 : (F0 == G0) = false := beq_eq_false_iff_ne.mpr hc2
         have Y := Aside0.mk (yes.out (by rw [FD.out, decide_eq_true (show G0 < F0 by omega)]; rfl))
         clear yes no hc hc2 D FD
         go_quiet (fail)
         go_wp2
         go_roundw
         case rel => exact ⟨x + 1, by omega, by omega, by first | rfl | simp, Y, ⟨by (with_reducible repeat (first | refine blk_drewN ?_ _)); exact BK.out⟩, ⟨by repeat (first | exact HB.out | apply pw_below_drewN)⟩⟩
         case measure => simp [intOf]; omega
  ·have hxe : x = (l2.length : Int) := by omega
   have q1 : decide (x < (l2.length : Int)) = false := decide_eq_false hlt
   have E := Aside0.mk (show ixB a u l2 = (inB_ a 1 30 && (inB_ u 0 60 && decide (l2.length ≤ 8))) by
    rw [HE.out, hxe, Int.toNat_natCast, Nat.sub_self]
    rfl)
   clear hxe HE
   have k0 : wr.cell? ⟨gb, 0, none⟩ = some (.int .i64 a) := (blk_cell BK.out 0).trans rfl
   have k1 : wr.cell? ⟨gb, 1, none⟩ = some (.int .i64 u) := (blk_cell BK.out 1).trans rfl
   have k2 : wr.cell? ⟨gb, 2, none⟩ = some (.slice A2 l2.length c2) := (blk_cell BK.out 2).trans rfl
   obtain ⟨bA, hbA⟩ : ∃ b, inB_ a 1 30 = b := ⟨_, rfl⟩
   obtain ⟨bB, hbB⟩ : ∃ b, inB_ u 0 60 = b := ⟨_, rfl⟩
   have CA := Aside0.mk (fun W => (impl_in_b W a 1 30 bA hbA).mono fun _ _ h => And.intro h.1 h.2.symm)
   have CB := Aside0.mk (fun W => (impl_in_b W u 0 60 bB hbB).mono fun _ _ h => And.intro h.1 h.2.symm)
   rw [hbA, hbB] at E
   clear hbA hbB
   cases bA with
   | false =>
    go_wp2_with (first | (go_at_call 65; with_reducible refine (CA.out _).mono ?_; rintro e wz ⟨rfl, rfl⟩) | (go_at_call 65; with_reducible refine (CB.out _).mono ?_; rintro e wz ⟨rfl, rfl⟩))
    go_ret
    rw [E.out]
    exact ⟨by first | rfl | simp [*], by exact HB.out⟩
   | true =>
    cases bB with
    | false =>
     go_wp2_with (first | (go_at_call 65; with_reducible refine (CA.out _).mono ?_; rintro e wz ⟨rfl, rfl⟩) | (go_at_call 65; with_reducible refine (CB.out _).mono ?_; rintro e wz ⟨rfl, rfl⟩))
     go_ret
     rw [E.out]
     exact ⟨by first | rfl | simp [*], by exact HB.out⟩
    | true =>
     have E2 := Aside0.mk (E.out.trans (show (true && (true && decide (l2.length ≤ 8))) = decide ((l2.length : Int) ≤ 8) by rw [Bool.true_and, Bool.true_and, Bool.eq_iff_iff, decide_eq_true_eq, decide_eq_true_eq]; omega))
     go_wp2_with (first | (go_at_call 65; with_reducible refine (CA.out _).mono ?_; rintro e wz ⟨rfl, rfl⟩) | (go_at_call 65; with_reducible refine (CB.out _).mono ?_; rintro e wz ⟨rfl, rfl⟩))
     go_ret
     rw [E2.out]
     exact ⟨by first | rfl | simp [*], by exact HB.out⟩
def impl_IndexOk.f (_k : Nat) (a u : Int) (l2 : List S40) : Option Bool := some (ixB a u l2)
theorem impl_IndexOk.mono : ∀ a0 a1 a2 k, LeO (impl_IndexOk.f k a0 a1 a2) (impl_IndexOk.f (k + 1) a0 a1 a2) := fun _ _ _ _ _ h => h
theorem impl_IndexOk.calls (k : Nat) (a0_0 : Int) (a0_1 : Int) (A0_2 : Option Addr) (c0_2 : Nat) (l0_2 : List S40) (r : Bool) (w : World) (hr0_2 : Kd.C k40 w A0_2 l0_2.length l0_2) (hc0_2 : l0_2.length ≤ c0_2) (h : impl_IndexOk.f k a0_0 a0_1 l0_2 = some r) :
  Calls Tryd.prog 38 #[.agg #[.int .i64 a0_0, .int .i64 a0_1, .slice A0_2 l0_2.length c0_2]] w fun e w' => e = .returned (.bool r) ∧ Below w.heap.size w w' := by
 obtain rfl := Option.some.inj h; exact ixo_calls a0_0 a0_1 A0_2 c0_2 l0_2 w hr0_2

/-! ### impl_IndexText: function 35 -/
def itM (m : S40) : List Int := [96 + m.f0, 48 + m.f1, 32] ++ dg m.f2 ++ [10]
def itL (n u : Int) (l2 : List S40) : List Int := (dg n ++ [32] ++ dg u ++ [10]) ++ l2.flatMap itM
def itS (n u : Int) (l2 : List S40) : ByteArray := if ixB n u l2 = true then strOfNums (itL n u l2) else strOfNums []
set_option maxHeartbeats 8000000 in
set_option maxRecDepth 100000 in
theorem it_no (n u : Int) (A2 : Option Addr) (c2 : Nat) (l2 : List S40) (w : World) (hr2 : Kd.C k40 w A2 l2.length l2) (hc2 : l2.length ≤ c2) (hno : ixB n u l2 = false) :
  Calls Tryd.prog 35 #[.agg #[.int .i64 n, .int .i64 u, .slice A2 l2.length c2]] w fun e w' => e = .returned (.string ⟨#[]⟩) ∧ Below w.heap.size w w' := by
 have HR2 := Aside0.mk hr2
 have HC2 := Aside0.mk hc2
 have HN := Aside0.mk (show impl_IndexOk.f 0 n u l2 = some false from congrArg some hno)
 clear hr2 hc2 hno
 go_enter Tryd.func35, Tryd.ntmps35
 go_wp2_with (go_at_call 38; with_reducible refine (impl_IndexOk.calls 0 n u A2 c2 l2 false _ ?h1 HC2.out HN.out).mono ?_; (case h1 => exact zC HR2.out); rintro e w' ⟨rfl, hb⟩)
 go_wp2
 go_ret
 exact ⟨rfl, below_then (below_alloc (Below.refl _ _) _) (by simp) hb⟩
theorem ixB_nums {n u : Int} {l2 : List S40} (h : ixB n u l2 = true) :
  (1 ≤ n ∧ n ≤ 30) ∧ (0 ≤ u ∧ u ≤ 60) ∧ l2.length ≤ 8 ∧ (∀ x : Int, 0 ≤ x → x < l2.length → (1 ≤ (rd_T40 l2 x).f0 ∧ (rd_T40 l2 x).f0 ≤ 4) ∧ (1 ≤ (rd_T40 l2 x).f1 ∧ (rd_T40 l2 x).f1 ≤ 5) ∧ (0 ≤ (rd_T40 l2 x).f2 ∧ (rd_T40 l2 x).f2 ≤ 9972)) := by
 unfold ixB at h
 simp only [Bool.and_eq_true, decide_eq_true_eq] at h
 obtain ⟨h5, h1, h2, h3⟩ := h
 refine ⟨inB_b h1, inB_b h2, h3, fun x h0 hx => ?_⟩
 have := okFrom_all _ _ h5 x.toNat (by omega) (by omega)
 unfold ixm1 at this
 simp only [Bool.and_eq_true] at this
 exact ⟨inB_b this.1, inB_b this.2.1, inB_b this.2.2.1⟩
theorem it_row (F0 F1 F2 : Nat) : ((⟨#[UInt8.ofNat (96 + F0)]⟩ ++ ⟨#[UInt8.ofNat (48 + F1)]⟩) ++ ⟨#[32]⟩ ++ strOfNums (dg F2) ++ ⟨#[10]⟩ : ByteArray) = strOfNums ([96 + (F0 : Int), 48 + (F1 : Int), 32] ++ dg F2 ++ [10]) := by
 rw [one_str, one_str, show (⟨#[32]⟩ : ByteArray) = strOfNums [32] from rfl, show (⟨#[10]⟩ : ByteArray) = strOfNums [10] from rfl, str_cat, str_cat, str_cat, str_cat]
 rfl
theorem it_head (n u : Int) : (strOfNums (dg n) ++ ⟨#[32]⟩ ++ strOfNums (dg u) ++ ⟨#[10]⟩ : ByteArray) = strOfNums (dg n ++ [32] ++ dg u ++ [10]) := by
 rw [show (⟨#[32]⟩ : ByteArray) = strOfNums [32] from rfl, show (⟨#[10]⟩ : ByteArray) = strOfNums [10] from rfl, str_cat, str_cat, str_cat]
theorem itM_len (m : S40) : (itM m).length ≤ 8 := by
 have := dg_len m.f2
 unfold itM
 simp only [List.length_append, List.length_cons, List.length_nil]
 omega
set_option maxHeartbeats 8000000 in
set_option maxRecDepth 100000 in
theorem it_yes (n u : Nat) (A2 : Option Addr) (c2 : Nat) (l2 : List S40) (w : World) (hr2 : Kd.C k40 w A2 l2.length l2) (hc2 : l2.length ≤ c2) (hLD : LaidW w) (hyes : ixB n u l2 = true) :
  Calls Tryd.prog 35 #[.agg #[.int .i64 n, .int .i64 u, .slice A2 l2.length c2]] w fun e w' => e = .returned (.string (strOfNums (itL n u l2))) ∧ Below w.heap.size w w' := by
 have HR2 := Aside0.mk hr2
 have HC2 := Aside0.mk hc2
 have HLD := Aside0.mk hLD
 obtain ⟨hn, hu, hl2, hf2⟩ := ixB_nums hyes
 have HN := Aside0.mk (show impl_IndexOk.f 0 n u l2 = some true from congrArg some hyes)
 have I0 := fun W => Tryd.strconv_Itoa_small n (by omega) W
 have I1 := fun W => Tryd.strconv_Itoa_small u (by omega) W
 rw [dg_str n (by omega)] at I0
 rw [dg_str u (by omega)] at I1
 have HL2 := Aside0.mk hl2
 have HF2 := Aside0.mk hf2
 clear hr2 hc2 hyes hn hu hl2 hf2 hLD
 obtain ⟨d0, hd0⟩ : ∃ s : ByteArray, s = strOfNums (dg n) := ⟨_, rfl⟩
 obtain ⟨d1, hd1⟩ : ∃ s : ByteArray, s = strOfNums (dg u) := ⟨_, rfl⟩
 rw [← hd0] at I0
 rw [← hd1] at I1
 have z0 : d0.size ≤ 4 := by rw [hd0, strOfNums_size]; exact dg_len _
 have z1 : d1.size ≤ 4 := by rw [hd1, strOfNums_size]; exact dg_len _
 have J0 := Aside0.mk I0
 have J1 := Aside0.mk I1
 have HD := Aside0.mk (And.intro hd0 hd1)
 clear I0 I1 hd0 hd1
 go_enter Tryd.func35, Tryd.ntmps35
 go_wp2_with (go_at_call 38; with_reducible refine (impl_IndexOk.calls 0 n u A2 c2 l2 true _ ?h1 HC2.out HN.out).mono ?_; (case h1 => exact zC HR2.out); rintro e w1 ⟨rfl, hb⟩; refine Go.RowKit.Hid.out ?_)
 refine Go.Lib.hid ?_
 have HB := Aside0.mk (below_then (below_alloc (Below.refl w.heap.size w) _) (by simp) hb)
 have BK := Aside0.mk (blk_below (blk_new w _) hb)
 clear hb
 obtain ⟨gb, hgb⟩ : ∃ g, g = w.heap.size := ⟨_, rfl⟩
 rw [← hgb] at BK ⊢
 clear hgb
 have k0 : w1.cell? ⟨gb, 0, none⟩ = some (.int .i64 n) := (blk_cell BK.out 0).trans rfl
 have k1 : w1.cell? ⟨gb, 1, none⟩ = some (.int .i64 u) := (blk_cell BK.out 1).trans rfl
 have k2 : w1.cell? ⟨gb, 2, none⟩ = some (.slice A2 l2.length c2) := (blk_cell BK.out 2).trans rfl
 go_wp2_with ((with_reducible refine gate_dst (N := 3) rfl ?_); refine box_event ?hg (N := 3) ?hd (cs := #[.pointer none, .slice none 0 0]) (t := 72) ?hr ?_; (case hd => rfl); (case hg => rfl); (case hr => first | (go_simp; done) | (go_simp; rfl)); intro b hbb w2 hbox hb; have HBB := Aside0.mk hbb; clear hbb; have HBX := Aside0.mk hbox; clear hbox; refine Go.RowKit.Hid.out ?_)
 refine Go.Lib.hid ?_
 have hbb := HBB.out
 have hbox := HBX.out
 clear HBB HBX
 have HI := Aside0.mk (show Lib.IsBuilder 72 5 b b [] w2 from .inl ⟨Nat.le_refl _, _, hbox, own_nil w2 b 5 1, by simp [Value.ownBlock]⟩)
 have n0_ := Aside0.mk (below_step HB.out hb)
 have n1_ := Aside0.mk (blk_below BK.out hb)
 have HG := Aside0.mk (show gb < b by rw [hbb]; exact blk_lt BK.out)
 have HS := Aside0.mk (show w.heap.size ≤ b by rw [hbb]; exact HB.out.size)
 have HT := Aside0.mk (blk_lt hbox)
 clear HB BK k0 k1 k2 hbox hb hbb
 have HB := n0_
 have BK := n1_
 clear n0_ n1_
 have k0 : w2.cell? ⟨gb, 0, none⟩ = some (.int .i64 n) := (blk_cell BK.out 0).trans rfl
 have k1 : w2.cell? ⟨gb, 1, none⟩ = some (.int .i64 u) := (blk_cell BK.out 1).trans rfl
 have s1 : (9223372036854775807 < d0.size + 1) = False := eq_false (by omega)
 have s2 : (9223372036854775807 < d0.size + 1 + d1.size) = False := eq_false (by omega)
 have s3 : (9223372036854775807 < d0.size + 1 + d1.size + 1) = False := eq_false (by omega)
 go_wp2
 refine wp_region_still_tail 9 (by kernel_rfl) (by kernel_rfl) ?_
 simp only [List.take_succ_cons, List.take_zero, List.drop_succ_cons, List.drop_zero]
 repeat still_step
 still_call (J0.out _)
 repeat still_step
 still_call (J1.out _)
 repeat still_step
 refine wpStill_nil ?_
 have n0_ := Aside0.mk (below_drew HB.out)
 have n1_ := Aside0.mk (blk_drew BK.out)
 have n2_ := Aside0.mk (ib_below HI.out (below_drew (Below.refl _ w2)))
 have n3_ := Aside0.mk (show b < w2.drew.heap.size from HT.out)
 clear HB BK HI HT k0 k1 s1 s2 s3
 have HB := n0_
 have BK := n1_
 have HI := n2_
 have HT := n3_
 clear n0_ n1_ n2_ n3_
 have HLN := Aside0.mk (show ([] : List Value).length + (d0 ++ ⟨#[32]⟩ ++ d1 ++ ⟨#[10]⟩ : ByteArray).size ≤ 140737488355328 by
  simp only [List.length_nil, ByteArray.size_append, show (⟨#[32]⟩ : ByteArray).size = 1 from rfl, show (⟨#[10]⟩ : ByteArray).size = 1 from rfl]
  omega)
 have HE := Aside0.mk (show Lib.strCells (d0 ++ ⟨#[32]⟩ ++ d1 ++ ⟨#[10]⟩) = Lib.strCells (strOfNums ((dg n ++ [32] ++ dg u ++ [10]) ++ (l2.take (0 : Int).toNat).flatMap itM)) by
  rw [HD.out.1, HD.out.2, it_head]
  congr 2
  simp)
 clear z0 z1
 go_wp2_with (go_at_call 50; with_reducible refine (bld_WriteString b b [] _ _ HI.out HLN.out (Nat.le_of_lt HT.out)).mono ?_; rintro e w3 ⟨rfl, hi, hb⟩; refine Go.RowKit.Hid.out ?_)
 refine Go.Lib.hid ?_
 rw [List.nil_append, HE.out] at hi
 have HI := Aside0.mk (show Lib.IsBuilder 72 5 b b (Lib.strCells (strOfNums ((dg n ++ [32] ++ dg u ++ [10]) ++ (l2.take (0 : Int).toNat).flatMap itM))) w3 from .inr hi)
 have n0_ := Aside0.mk (below_far HB.out HS.out hb)
 have n1_ := Aside0.mk ((hb.block gb HG.out).trans BK.out)
 have n2_ := Aside0.mk (Nat.lt_of_lt_of_le HT.out hb.size)
 clear HB BK hi hb HT HLN HE HD J0 J1
 have HB := n0_
 have BK := n1_
 have HT := n2_
 clear n0_ n1_ n2_
 have k0 : w3.cell? ⟨gb, 0, none⟩ = some (.int .i64 n) := (blk_cell BK.out 0).trans rfl
 have k1 : w3.cell? ⟨gb, 1, none⟩ = some (.int .i64 u) := (blk_cell BK.out 1).trans rfl
 have k2 : w3.cell? ⟨gb, 2, none⟩ = some (.slice A2 l2.length c2) := (blk_cell BK.out 2).trans rfl
 have hhl : (dg (n : Int) ++ [32] ++ dg (u : Int) ++ [10]).length ≤ 10 := by
  have := dg_len n
  have := dg_len u
  simp only [List.length_append, List.length_cons, List.length_nil]
  omega
 have HLD := Aside0.mk (fun (W : World) (h : Below w.heap.size w W) => HLD.out.on h)
 obtain ⟨hd, hhd⟩ : ∃ s, s = dg (n : Int) ++ [32] ++ dg (u : Int) ++ [10] := ⟨_, rfl⟩
 have HHD := Aside0.mk hhd
 rw [← hhd] at HI hhl
 clear hhd
 have HHL := Aside0.mk hhl
 clear hhl
 go_wp2
 go_loopw [22] (fun v5 w' => ∃ x : Int, 0 ≤ x ∧ x ≤ (l2.length : Int) ∧ v5 = .int .i64 x ∧ Aside0 (Lib.IsBuilder 72 5 b b (Lib.strCells (strOfNums (hd ++ (l2.take x.toNat).flatMap itM))) w') ∧ Aside0 (w'.heap[gb]? = some (.cells #[.int .i64 n, .int .i64 u, .slice A2 l2.length c2] 25 (0, 0))) ∧ Aside0 (Below w.heap.size w w') ∧ Aside0 (b < w'.heap.size)) (fun v5 _ => l2.length - (intOf v5).toNat)
 case atStart => exact ⟨0, by omega, by omega, rfl, HI, BK, HB, HT⟩
 case round =>
  clear HI HB BK k0 k1 k2 HT
  obtain ⟨x, hx0, hx1, rfl, HI, BK, HB, HT⟩ := hrel
  have hl2 := HL2.out
  by_cases hlt : x < (l2.length : Int)
  ·obtain ⟨ad, e, m0, m1, m2⟩ := at_T40 HR2.out x hx0 hlt
   cases e
   replace m0 := (HB.out.cell (World.block_lt_of_cell? w _ m0)).trans m0
   replace m1 := (HB.out.cell (World.block_lt_of_cell? w _ m1)).trans m1
   replace m2 := (HB.out.cell (World.block_lt_of_cell? w _ m2)).trans m2
   obtain ⟨⟨r0, r1⟩, ⟨r2, r3⟩, r4, r5⟩ := HF2.out x hx0 hlt
   obtain ⟨F0, hF0⟩ : ∃ F0 : Nat, (F0 : Int) = (rd_T40 l2 x).f0 := ⟨(rd_T40 l2 x).f0.toNat, by omega⟩
   obtain ⟨F1, hF1⟩ : ∃ F1 : Nat, (F1 : Int) = (rd_T40 l2 x).f1 := ⟨(rd_T40 l2 x).f1.toNat, by omega⟩
   obtain ⟨F2, hF2⟩ : ∃ F2 : Nat, (F2 : Int) = (rd_T40 l2 x).f2 := ⟨(rd_T40 l2 x).f2.toNat, by omega⟩
   rw [← hF0] at m0 r0 r1
   rw [← hF1] at m1 r2 r3
   rw [← hF2] at m2 r4 r5
   have HF := Aside0.mk (And.intro hF0 (And.intro hF1 hF2))
   clear hF0 hF1 hF2
   have q1 : decide (x < (l2.length : Int)) = true := decide_eq_true hlt
   have q2 : 0 ≤ x := hx0
   have I0 := fun W => named_b F0 F1 (by omega) (by omega) (by omega) W
   have I1 := fun W (h : LaidW W) => Tryd.strconv_Itoa F2 (by omega) (by omega) W h.pow
   rw [show Lib.itoa (F2 : Int) = Lib.decDigits F2 by unfold Lib.itoa; rw [if_neg (by omega), Int.toNat_natCast], dg_str F2 (by omega)] at I1
   obtain ⟨d0, hd0⟩ : ∃ s : ByteArray, s = (⟨#[UInt8.ofNat (96 + F0)]⟩ ++ ⟨#[UInt8.ofNat (48 + F1)]⟩) := ⟨_, rfl⟩
   obtain ⟨d1, hd1⟩ : ∃ s : ByteArray, s = strOfNums (dg F2) := ⟨_, rfl⟩
   rw [← hd0] at I0
   rw [← hd1] at I1
   have z0 : d0.size = 2 := by rw [hd0]; rfl
   have z1 : d1.size ≤ 4 := by rw [hd1, strOfNums_size]; exact dg_len _
   have HD := Aside0.mk (And.intro hd0 hd1)
   have J0 := Aside0.mk I0
   have J1 := Aside0.mk I1
   clear hd0 hd1 I0 I1 r0 r1 r2 r3 r4 r5
   go_wp2
   have n0_ := Aside0.mk (below_alloc HB.out (Obj.cells #[.int .i64 (F0 : Int), .int .i64 (F1 : Int), .int .i64 (F2 : Int)] 40))
   have n1_ := Aside0.mk (blk_alloc BK.out (Obj.cells #[.int .i64 (F0 : Int), .int .i64 (F1 : Int), .int .i64 (F2 : Int)] 40))
   have n2_ := Aside0.mk (ib_below HI.out (below_alloc (Below.refl _ wr) (Obj.cells #[.int .i64 (F0 : Int), .int .i64 (F1 : Int), .int .i64 (F2 : Int)] 40)))
   have n3_ := Aside0.mk (Nat.lt_of_lt_of_le HT.out (below_alloc (Below.refl _ wr) (Obj.cells #[.int .i64 (F0 : Int), .int .i64 (F1 : Int), .int .i64 (F2 : Int)] 40)).size)
   have f0 : (wr.alloc (Obj.cells #[.int .i64 (F0 : Int), .int .i64 (F1 : Int), .int .i64 (F2 : Int)] 40)).cell? ⟨wr.heap.size, 0, none⟩ = some (.int .i64 F0) := by simp
   have f1 : (wr.alloc (Obj.cells #[.int .i64 (F0 : Int), .int .i64 (F1 : Int), .int .i64 (F2 : Int)] 40)).cell? ⟨wr.heap.size, 1, none⟩ = some (.int .i64 F1) := by simp
   have f2 : (wr.alloc (Obj.cells #[.int .i64 (F0 : Int), .int .i64 (F1 : Int), .int .i64 (F2 : Int)] 40)).cell? ⟨wr.heap.size, 2, none⟩ = some (.int .i64 F2) := by simp
   clear HB BK m0 m1 m2 HI HT
   generalize wr.alloc (Obj.cells #[.int .i64 (F0 : Int), .int .i64 (F1 : Int), .int .i64 (F2 : Int)] 40) = W at n0_ n1_ n2_ n3_ f0 f1 f2 ⊢
   generalize wr.heap.size = gf at f0 f1 f2 ⊢
   have HB := n0_
   have BK := n1_
   have HI := n2_
   have HT := n3_
   clear n0_ n1_ n2_ n3_
   have f0 := gr_cell f0
   have f1 := gr_cell f1
   have f2 := gr_cell f2
   have s2 : (9223372036854775807 < 2 + 1 + d1.size) = False := eq_false (by omega)
   have s3 : (9223372036854775807 < 2 + 1 + d1.size + 1) = False := eq_false (by omega)
   have s4 : (9223372036854775807 < 3 + d1.size) = False := eq_false (by omega)
   have s5 : (9223372036854775807 < 3 + d1.size + 1) = False := eq_false (by omega)
   refine wp_region_quiet_tail (C := fun w' => ∃ p : GrB, w' = Go.Sort.grow (W.drewN p.n) p.os) 11 (by kernel_rfl) (by kernel_rfl) (grC_drew W) ?_
   simp only [List.take_succ_cons, List.take_zero, List.drop_succ_cons, List.drop_zero]
   repeat (quiet_step (first | (go_at_call 51; exact gr_same (J0.out _)) | (go_at_call 52; exact gr_grown (J1.out _ (HLD.out _ (below_step HB.out (gr_below W _ _)))))))
   refine wpQuiet_nil ?_
   intro _ hw'
   obtain ⟨⟨nq, osq⟩, hw''⟩ := hw'
   subst hw''
   have GW := gr_below W nq osq
   have n0_ := Aside0.mk (below_step HB.out GW)
   have n1_ := Aside0.mk (blk_below BK.out GW)
   have n2_ := Aside0.mk (ib_below HI.out GW)
   have n3_ := Aside0.mk (Nat.lt_of_lt_of_le HT.out GW.size)
   clear HB BK HI HT f0 f1 f2 GW J0 J1 s2 s3 s4 s5
   generalize Go.Sort.grow (W.drewN nq) osq = W at n0_ n1_ n2_ n3_ ⊢
   have HB := n0_
   have BK := n1_
   have HI := n2_
   have HT := n3_
   clear n0_ n1_ n2_ n3_
   have HLN := Aside0.mk (show (Lib.strCells (strOfNums (hd ++ (l2.take x.toNat).flatMap itM))).length + (d0 ++ ⟨#[32]⟩ ++ d1 ++ ⟨#[10]⟩ : ByteArray).size ≤ 140737488355328 by
    have h1 := flat_le itM 8 (l2.take x.toNat) (fun m _ => itM_len m)
    have h2 : (l2.take x.toNat).length ≤ l2.length := by rw [List.length_take]; omega
    have h3 := HHL.out
    simp only [Lib.strCells_length, strOfNums_size, List.length_append, ByteArray.size_append, z0, show (⟨#[32]⟩ : ByteArray).size = 1 from rfl, show (⟨#[10]⟩ : ByteArray).size = 1 from rfl]
    omega)
   have HE := Aside0.mk (show Lib.strCells (strOfNums (hd ++ (l2.take x.toNat).flatMap itM)) ++ Lib.strCells (d0 ++ ⟨#[32]⟩ ++ d1 ++ ⟨#[10]⟩) = Lib.strCells (strOfNums (hd ++ (l2.take (x + 1).toNat).flatMap itM)) by
    rw [HD.out.1, HD.out.2, it_row, take_next itM z40 l2 x hx0 hlt, ← str_cells, str_cat, List.append_assoc]
    congr 4
    rw [HF.out.1, HF.out.2.1, HF.out.2.2]
    rfl)
   clear z0 z1
   go_wp2_with (go_at_call 50; with_reducible refine (bld_WriteString b b _ _ _ HI.out HLN.out (Nat.le_of_lt HT.out)).mono ?_; rintro e w4 ⟨rfl, hi, hb⟩; refine Go.RowKit.Hid.out ?_)
   refine Go.Lib.hid ?_
   rw [HE.out] at hi
   have n0_ := Aside0.mk (below_far HB.out HS.out hb)
   have n1_ := Aside0.mk ((hb.block gb HG.out).trans BK.out)
   have n2_ := Aside0.mk (Nat.lt_of_lt_of_le HT.out hb.size)
   have HI2 := Aside0.mk hi
   clear HB BK hi hb HT HE HLN HI
   go_wp2
   go_roundw
   case rel => exact ⟨x + 1, by omega, by omega, by first | rfl | simp, ⟨.inr HI2.out⟩, n1_, n0_, n2_⟩
   case measure => simp [intOf]; omega
  ·have hxe : x = (l2.length : Int) := by omega
   have q1 : decide (x < (l2.length : Int)) = false := decide_eq_false hlt
   replace HI := Aside0.mk (show Lib.IsBuilder 72 5 b b (Lib.byteCells (strOfNums (itL n u l2)).data.toList) wr by
    have h_ := HI.out
    rw [hxe, Int.toNat_natCast, List.take_length, HHD.out] at h_
    exact h_)
   clear hxe hx0 hx1 hlt hl2
   go_wp2_with (go_at_call 53; with_reducible refine (Tryd.Builder_String_any b b _ _ HI.out (Nat.le_of_lt HT.out)).mono ?_; rintro e w5 ⟨rfl, hb⟩)
   go_ret
   exact ⟨by first | rfl | simp [*], below_far HB.out HS.out hb⟩
def impl_IndexText.f (_k : Nat) (n u : Int) (l2 : List S40) : Option ByteArray := some (itS n u l2)
theorem impl_IndexText.mono : ∀ a0 a1 a2 k, LeO (impl_IndexText.f k a0 a1 a2) (impl_IndexText.f (k + 1) a0 a1 a2) := fun _ _ _ _ _ h => h
theorem impl_IndexText.calls (k : Nat) (a0_0 : Int) (a0_1 : Int) (A0_2 : Option Addr) (c0_2 : Nat) (l0_2 : List S40) (r : ByteArray) (w : World) (hr0_2 : Kd.C k40 w A0_2 l0_2.length l0_2) (hc0_2 : l0_2.length ≤ c0_2) (hLD : LaidW w) (h : impl_IndexText.f k a0_0 a0_1 l0_2 = some r) :
  Calls Tryd.prog 35 #[.agg #[.int .i64 a0_0, .int .i64 a0_1, .slice A0_2 l0_2.length c0_2]] w fun e w' => e = .returned (.string r) ∧ Below w.heap.size w w' := by
 obtain rfl := Option.some.inj h; cases hp : ixB a0_0 a0_1 l0_2 with
 | true =>
  obtain ⟨⟨h1, _⟩, ⟨h2, _⟩, _⟩ := ixB_nums hp; obtain ⟨n, rfl⟩ : ∃ n : Nat, (n : Int) = a0_0 := ⟨a0_0.toNat, by omega⟩; obtain ⟨v, rfl⟩ : ∃ n : Nat, (n : Int) = a0_1 := ⟨a0_1.toNat, by omega⟩; rw [itS, if_pos hp]; exact it_yes n v A0_2 c0_2 l0_2 w hr0_2 hc0_2 hLD hp
 | false =>
  rw [itS, if_neg (by rw [hp]; decide)]; exact it_no a0_0 a0_1 A0_2 c0_2 l0_2 w hr0_2 hc0_2 hp

/-! ### strings_Split: function 56 -/
def strings_Split.f (s sep : ByteArray) : Option (List ByteArray) := if s.size < 4294967281 ∧ 1 ≤ sep.size then some (Lib.splitB sep 0 (Lib.countB s sep) s) else none
theorem strings_Split.calls (a0 a1 : ByteArray) (r : List ByteArray) (w : World) (hLD : LaidW w) (h : strings_Split.f a0 a1 = some r) :
  Calls Tryd.prog 56 #[.string a0, .string a1] w fun e w' => ∃ v0_ : Value, e = .returned v0_ ∧ Kd.R Kd.string 9 w' w.heap.size (fun _ => True) v0_ r ∧ Below w.heap.size w w' := by
 unfold strings_Split.f at h
 split at h
 ·rename_i hc; obtain rfl := Option.some.inj h; obtain ⟨m, hm⟩ := hLD.len; refine (Tryd.strings_Split a0 a1 m w hc.1 hm hc.2).mono ?_; rintro e w' ⟨rfl, rfl⟩; have hl := Lib.splitB_all a1 hc.2 0 (Lib.countB a0 a1) a0 rfl; have hb := Lib.countB_le a1 hc.2 a0.size a0 (Nat.le_refl _); refine ⟨_, rfl, Kd.R_of_own ?_ (fun _ _ => trivial), below_alloc (Below.refl _ _) _⟩; rw [← hl]; exact own_lit_of w w.heap.size 9 _ (Nat.le_refl _) (by omega)
 ·cases h

end Go.Proofs.YtkjgnnjcjkphbaaDoor.PFnIndexStrict
