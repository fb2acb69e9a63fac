-- printed for this claim by a program out of the translation, its tactics shortened by another
import Derived.Test.YtkjgnnjcjkphbaaGreatDoorPFnExactIndexHasx0
namespace Go.Proofs.YtkjgnnjcjkphbaaGreatDoor.PFnExactIndexHas
open Go.RowKit Go.Proofs.YtkjgnnjcjkphbaaGreatDoorW.PrintWords Go.Proofs.YtkjgnnjcjkphbaaGreatDoorW.PrintLast Go.Proofs.YtkjgnnjcjkphbaaGreatDoorW.PrintMore
attribute [local go_sem] max2_int min2_int max_two min_two max_three min_three max_four min_four   -- for this text's walks alone
set_option linter.unusedVariables false
set_option linter.unusedSimpArgs false

theorem eqA47 (d : Nat) (w : World) (x0 y0 : Int) (x1 y1 : Int) (x2 y2 : Int) :
  (Op.equalIn (d + 2) 47 (.agg #[.int .i64 x0, .int .i64 x1, .int .i64 x2]) (.agg #[.int .i64 y0, .int .i64 y1, .int .i64 y2])).run Tryz.prog w = .ok (x0 == y0 && (x1 == y1 && (x2 == y2))) w := by
 refine eqA_of Tryz.underlying47 (by kernel_rfl) ?_
 refine eqf_cons (by rfl) (by go_simp; rfl) (by go_simp; rfl) (by go_simp) ?_
 refine eqf_cons (by rfl) (by go_simp; rfl) (by go_simp; rfl) (by go_simp) ?_
 exact eqf_last (by rfl) (by go_simp; rfl) (by go_simp; rfl) (by go_simp)

/-! ### laws_szMetaS: function 13 -/
def laws_szMetaS.f (l0 : List (S59)) (a1 : Int) : Option (Int) := if (wrap64 (a1 - (l0.length : Int))) < 0 then (some (-1)) else (some (wrap64 (a1 - (l0.length : Int))))
set_option maxHeartbeats 8000000 in
set_option maxRecDepth 100000 in
theorem laws_szMetaS.calls (A0 : Option Addr) (c0 : Nat) (l0 : List (S59)) (a1 : Int) (r : Int) (w : World) (hr0 : Kd.C k59 w A0 l0.length l0) (hc0 : l0.length ≤ c0) (h : laws_szMetaS.f l0 a1 = some r) :
  Calls Tryz.prog 13 #[.slice A0 l0.length c0, .int .i64 a1] w fun e w' => e = .returned (.int .i64 r) ∧ Drawn0 w w' := by
 have HR0 := aM hr0; have HC0 := aM hc0; clear hr0 hc0; have H : (if (wrap64 (a1 - (l0.length : Int))) < 0 then (some (-1)) else (some (wrap64 (a1 - (l0.length : Int))))) = some r := h; clear h
 by_cases c3 : (wrap64 (a1 - (l0.length : Int))) < 0
 ·rw [if_pos c3] at H; have c3b0 : decide ((wrap64 (a1 - (l0.length : Int))) < 0) = true := decide_eq_true c3; clear c3; obtain rfl := Option.some.inj H
  go_enter Tryz.func13, Tryz.ntmps13
  go_wp2
  go_ret
  exact ⟨by first | rfl | (simp; done) | (simp [*]; done), by repeat (first | exact Drawn0.refl _ | apply Drawn0.step)⟩
 ·rw [if_neg c3] at H; have c3b0 : decide ((wrap64 (a1 - (l0.length : Int))) < 0) = false := decide_eq_false c3; clear c3; obtain rfl := Option.some.inj H
  go_enter Tryz.func13, Tryz.ntmps13
  go_wp2
  go_ret
  exact ⟨by first | rfl | (simp; done) | (simp [*]; done), by repeat (first | exact Drawn0.refl _ | apply Drawn0.step)⟩

/-! ### laws_szIndex: function 4 -/
def laws_szIndex.f (a0_0 : Int) (a0_1 : Int) (l0_2 : List (S59)) (a1 : Int) : Option (Int) := (laws_szMetaS.f l0_2 a1).bind fun t102 => (if t102 < 0 then (some (-1)) else (some t102))
set_option maxHeartbeats 8000000 in
set_option maxRecDepth 100000 in
theorem laws_szIndex.calls (a0_0 : Int) (a0_1 : Int) (A0_2 : Option Addr) (c0_2 : Nat) (l0_2 : List (S59)) (a1 : Int) (r : Int) (w : World) (hr0_2 : Kd.C k59 w A0_2 l0_2.length l0_2) (hc0_2 : l0_2.length ≤ c0_2) (h : laws_szIndex.f a0_0 a0_1 l0_2 a1 = some r) :
  Calls Tryz.prog 4 #[.agg #[.int .i64 a0_0, .int .i64 a0_1, .slice A0_2 l0_2.length c0_2], .int .i64 a1] w fun e w' => e = .returned (.int .i64 r) ∧ Below w.heap.size w w' := by
 have hu24 := Tryz.underlying24; have HR0_2 := aM hr0_2; have HC0_2 := aM hc0_2; clear hr0_2 hc0_2; have HB := aM (Below.refl w.heap.size w); have H : ((laws_szMetaS.f l0_2 a1).bind fun t102 => (if t102 < 0 then (some (-1)) else (some t102))) = some r := h; clear h; replace H := Option.bind_eq_some_iff.mp H; obtain ⟨t102, A30, H⟩ := H; (try dsimp only at H); have A3 := aM A30; clear A30
 by_cases c4 : t102 < 0
 ·rw [if_pos c4] at H; have c4b0 : decide (t102 < 0) = true := decide_eq_true c4; clear c4; obtain rfl := Option.some.inj H
  go_enter Tryz.func4, Tryz.ntmps4
  go_wp2_with (first | ((with_reducible refine gate_dst (N := 2) rfl ?_); refine zbx 2 #[.int .i64 a0_0, .int .i64 a0_1, .slice A0_2 l0_2.length c0_2] 24 ?_; intro gb101 hg w5 hbox hb; have _ := aM (below_step (zB HB.1) hb); have _ := aM (hbox); have _ := aM (zge hg (zB HB.1)); have _ := aM (zge hg (zB HB.1)); clear HB; rename_i HB BK101 GW101 GE101; clear hb hbox hg; obtain ⟨hcz6_0, hcz6_1, hcz6_2, hfz6_0, hfz6_1, hfz6_2⟩ := zc3f BK101.1) | ((with_reducible refine gate_callee (f := 13) rfl ?_); refine zgL (some 8) Tryz.func13 #[.slice A0_2 l0_2.length c0_2, .int .i64 a1] ?_; (with_reducible refine (laws_szMetaS.calls _ _ l0_2 a1 t102 _ ?side1 ?side2 A3.1).mono ?_); (case side1 => exact zC (Kd.C_below HR0_2.1 HB.1)); (case side2 => exact HC0_2.1); rintro e w' ⟨rfl, ⟨nd, rfl⟩⟩; refine ⟨_, rfl, ?_⟩))
  go_ret
  exact ⟨by first | rfl | (simp [errW_none, errW_some] <;> rfl) | (simp [*, errW_none, errW_some] <;> rfl), by exact zB1 HB.1 GE101.1⟩
 ·rw [if_neg c4] at H; have c4b0 : decide (t102 < 0) = false := decide_eq_false c4; clear c4; obtain rfl := Option.some.inj H
  go_enter Tryz.func4, Tryz.ntmps4
  go_wp2_with (first | ((with_reducible refine gate_dst (N := 2) rfl ?_); refine zbx 2 #[.int .i64 a0_0, .int .i64 a0_1, .slice A0_2 l0_2.length c0_2] 24 ?_; intro gb101 hg w7 hbox hb; have _ := aM (below_step (zB HB.1) hb); have _ := aM (hbox); have _ := aM (zge hg (zB HB.1)); have _ := aM (zge hg (zB HB.1)); clear HB; rename_i HB BK101 GW101 GE101; clear hb hbox hg; obtain ⟨hcz8_0, hcz8_1, hcz8_2, hfz8_0, hfz8_1, hfz8_2⟩ := zc3f BK101.1) | ((with_reducible refine gate_callee (f := 13) rfl ?_); refine zgL (some 8) Tryz.func13 #[.slice A0_2 l0_2.length c0_2, .int .i64 a1] ?_; (with_reducible refine (laws_szMetaS.calls _ _ l0_2 a1 t102 _ ?side1 ?side2 A3.1).mono ?_); (case side1 => exact zC (Kd.C_below HR0_2.1 HB.1)); (case side2 => exact HC0_2.1); rintro e w' ⟨rfl, ⟨nd, rfl⟩⟩; refine ⟨_, rfl, ?_⟩))
  go_ret
  exact ⟨by first | rfl | (simp [errW_none, errW_some] <;> rfl) | (simp [*, errW_none, errW_some] <;> rfl), by exact zB1 HB.1 GE101.1⟩

/-! ### spec_l6In: function 29 -/
theorem spec_l6In_b (w : World) (n a b : Int) (v : Bool) (h : inB_ n a b = v) : Calls Tryz.prog 29 #[.int .i64 n, .int .i64 a, .int .i64 b] w fun e w' => e = .returned (.bool v) ∧ w' = w := by
 subst h
 go_enter Tryz.func29, Tryz.ntmps29
 by_cases h1 : a ≤ n
 ·by_cases h2 : n ≤ b
  ·have e1 : inB_ n a b = true := by unfold inB_; rw [decide_eq_true h1, decide_eq_true h2]; rfl
   have d1 : decide (a ≤ n) = true := decide_eq_true h1
   have d2 : decide (n ≤ b) = true := decide_eq_true h2
   rw [e1]
   clear h1 h2 e1
   go_wp2
   go_ret
   exact ⟨by first | rfl | simp [*], rfl⟩
  ·have e1 : inB_ n a b = false := by unfold inB_; rw [decide_eq_false h2, Bool.and_false]
   have d1 : decide (a ≤ n) = true := decide_eq_true h1
   have d2 : decide (n ≤ b) = false := decide_eq_false h2
   rw [e1]
   clear h1 h2 e1
   go_wp2
   go_ret
   exact ⟨by first | rfl | simp [*], rfl⟩
 ·have e1 : inB_ n a b = false := by unfold inB_; rw [decide_eq_false h1, Bool.false_and]
  have d1 : decide (a ≤ n) = false := decide_eq_false h1
  rw [e1]
  clear h1 e1
  go_wp2
  go_ret
  exact ⟨by first | rfl | simp [*], rfl⟩
def spec_l6In.f (a0 : Int) (a1 : Int) (a2 : Int) : Option (Bool) := if a0 ≥ a1 then (some (decide (a0 ≤ a2))) else (some (false))
theorem spec_l6In.calls (a0 : Int) (a1 : Int) (a2 : Int) (r : Bool) (w : World) (h : spec_l6In.f a0 a1 a2 = some r) :
  Calls Tryz.prog 29 #[.int .i64 a0, .int .i64 a1, .int .i64 a2] w fun e w' => e = .returned (.bool r) ∧ Drawn0 w w' := by
 have e : inB_ a0 a1 a2 = r := by
  unfold spec_l6In.f at h; unfold inB_
  by_cases c : a0 ≥ a1
  ·rw [if_pos c] at h; rw [decide_eq_true c, Bool.true_and]; exact Option.some.inj h
  ·rw [if_neg c] at h; rw [decide_eq_false c, Bool.false_and]; exact Option.some.inj h
 exact (spec_l6In_b w a0 a1 a2 r e).mono fun _ _ h => ⟨h.1, by rw [h.2]; exact Drawn0.refl _⟩

/-! ### spec_l3Less: function 30 -/
def spec_l3Less.f (a0 : Int) (a1 : Int) (a2 : Int) (a3 : Int) : Option (Bool) := if a0 < a2 then (some true) else (if a0 = a2 then (some (decide (a1 < a3))) else (some false))
set_option maxHeartbeats 8000000 in
set_option maxRecDepth 100000 in
theorem spec_l3Less.calls (a0 : Int) (a1 : Int) (a2 : Int) (a3 : Int) (r : Bool) (w : World) (h : spec_l3Less.f a0 a1 a2 a3 = some r) :
  Calls Tryz.prog 30 #[.int .i64 a0, .int .i64 a1, .int .i64 a2, .int .i64 a3] w fun e w' => e = .returned (.bool r) ∧ Drawn0 w w' := by
 have H : (if a0 < a2 then (some true) else (if a0 = a2 then (some (decide (a1 < a3))) else (some false))) = some r := h; clear h
 by_cases c5 : a0 < a2
 ·rw [if_pos c5] at H; have c5b0 : decide (a0 < a2) = true := decide_eq_true c5; clear c5; obtain rfl := Option.some.inj H
  go_enter Tryz.func30, Tryz.ntmps30
  go_wp2
  go_ret
  exact ⟨by first | rfl | (simp; done) | (simp [*]; done), by repeat (first | exact Drawn0.refl _ | apply Drawn0.step)⟩
 ·rw [if_neg c5] at H; have c5b0 : decide (a0 < a2) = false := decide_eq_false c5; clear c5
  by_cases c6 : a0 = a2
  ·rw [if_pos c6] at H; have c6b0 : (a0 == a2) = true := beq_iff_eq.mpr c6; have c6b1 : (a0 != a2) = false := bne_eq_false_iff_eq.mpr c6; clear c6; obtain rfl := Option.some.inj H
   go_enter Tryz.func30, Tryz.ntmps30
   go_wp2
   go_ret
   exact ⟨by first | rfl | (simp; done) | (simp [*]; done), by repeat (first | exact Drawn0.refl _ | apply Drawn0.step)⟩
  ·rw [if_neg c6] at H; have c6b0 : (a0 == a2) = false := beq_eq_false_iff_ne.mpr c6; have c6b1 : (a0 != a2) = true := bne_iff_ne.mpr c6; obtain rfl := Option.some.inj H
   go_enter Tryz.func30, Tryz.ntmps30
   go_wp2
   go_ret
   exact ⟨by first | rfl | (simp; done) | (simp [*]; done), by repeat (first | exact Drawn0.refl _ | apply Drawn0.step)⟩

/-! ### spec_IndexOk: function 14 -/
mutual
def spec_IndexOk.j0 : Nat → Bool → Int → Int → List (S47) → Option (Bool)
 | 0, _, _, _, _ => none
 | k + 1, x20, x104000, x104001, x104002 => if x20 = true then (some false) else (spec_IndexOk.l0 k 0 x104000 x104001 x104002)
def spec_IndexOk.l0 : Nat → Int → Int → Int → List (S47) → Option (Bool)
 | 0, _, _, _, _ => none
 | k + 1, x3, x104000, x104001, x104002 => if x3 < (x104002.length : Int) then (if 0 ≤ x3 then ((spec_l6In.f ((rd_T47 x104002 x3).f0) 1 4).bind fun t108 => (if t108 = true then ((spec_l6In.f ((rd_T47 x104002 x3).f1) 1 5).bind fun t109 => (if t109 = true then ((spec_l6In.f ((rd_T47 x104002 x3).f2) 0 9972).bind fun t110 => (spec_IndexOk.j2 k x3 (!t110) x104000 x104001 x104002 ((rd_T47 x104002 x3).f0) ((rd_T47 x104002 x3).f1) ((rd_T47 x104002 x3).f2))) else (spec_IndexOk.j2 k x3 true x104000 x104001 x104002 ((rd_T47 x104002 x3).f0) ((rd_T47 x104002 x3).f1) ((rd_T47 x104002 x3).f2)))) else (spec_IndexOk.j2 k x3 true x104000 x104001 x104002 ((rd_T47 x104002 x3).f0) ((rd_T47 x104002 x3).f1) ((rd_T47 x104002 x3).f2)))) else (none)) else (some true)
def spec_IndexOk.j2 : Nat → Int → Bool → Int → Int → List (S47) → Int → Int → Int → Option (Bool)
 | 0, _, _, _, _, _, _, _, _ => none
 | k + 1, x3, x48, x104000, x104001, x104002, x108000, x108001, x108002 => if x48 = true then (some false) else (if x3 > 0 then (if 0 ≤ (wrap64 (x3 - 1)) then (if (wrap64 (x3 - 1)) < (x104002.length : Int) then ((spec_l3Less.f ((rd_T47 x104002 (wrap64 (x3 - 1))).f0) ((rd_T47 x104002 (wrap64 (x3 - 1))).f1) x108000 x108001).bind fun t113 => (if t113 = true then (spec_IndexOk.l0 k (wrap64 (x3 + 1)) x104000 x104001 x104002) else (some false))) else (none)) else (none)) else (spec_IndexOk.l0 k (wrap64 (x3 + 1)) x104000 x104001 x104002))
end
def spec_IndexOk.f (k : Nat) (a0_0 : Int) (a0_1 : Int) (l0_2 : List (S47)) : Option (Bool) := (spec_l6In.f a0_0 1 30).bind fun t104 => (if t104 = true then ((spec_l6In.f a0_1 0 60).bind fun t105 => (if t105 = true then (spec_IndexOk.j0 k (decide ((l0_2.length : Int) > 8)) a0_0 a0_1 l0_2) else (spec_IndexOk.j0 k true a0_0 a0_1 l0_2))) else (spec_IndexOk.j0 k true a0_0 a0_1 l0_2))
theorem spec_IndexOk.mono_l : ∀ k, (∀ y0 y1 y2 y3, LeO (spec_IndexOk.j0 k y0 y1 y2 y3) (spec_IndexOk.j0 (k + 1) y0 y1 y2 y3)) ∧ (∀ y0 y1 y2 y3, LeO (spec_IndexOk.l0 k y0 y1 y2 y3) (spec_IndexOk.l0 (k + 1) y0 y1 y2 y3)) ∧ (∀ y0 y1 y2 y3 y4 y5 y6 y7, LeO (spec_IndexOk.j2 k y0 y1 y2 y3 y4 y5 y6 y7) (spec_IndexOk.j2 (k + 1) y0 y1 y2 y3 y4 y5 y6 y7))
 | 0 => ⟨fun _ _ _ _ r h => by simp [spec_IndexOk.j0] at h, fun _ _ _ _ r h => by simp [spec_IndexOk.l0] at h, fun _ _ _ _ _ _ _ _ r h => by simp [spec_IndexOk.j2] at h⟩
 | k + 1 => by
  obtain ⟨ih0, ih1, ih2⟩ := spec_IndexOk.mono_l k
  refine ⟨?_, ?_, ?_⟩
  ·intro y0 y1 y2 y3
   unfold spec_IndexOk.j0
   repeat' first
   | (with_reducible exact ih0 _ _ _ _)
   | (with_reducible exact ih1 _ _ _ _)
   | (with_reducible exact ih2 _ _ _ _ _ _ _ _)
   | (with_reducible exact LeO.refl _)
   | (with_reducible exact LeO.none _)
   | (with_reducible refine LeO.ite ?_ ?_)
   | (with_reducible refine LeO.bind ?_ (fun _ => ?_))
   | exact ih0 _ _ _ _
   | exact ih1 _ _ _ _
   | exact ih2 _ _ _ _ _ _ _ _
   | exact LeO.none _
   | refine LeO.ite ?_ ?_
   | refine LeO.bind ?_ (fun _ => ?_)
  ·intro y0 y1 y2 y3
   unfold spec_IndexOk.l0
   repeat' first
   | (with_reducible exact ih0 _ _ _ _)
   | (with_reducible exact ih1 _ _ _ _)
   | (with_reducible exact ih2 _ _ _ _ _ _ _ _)
   | (with_reducible exact LeO.refl _)
   | (with_reducible exact LeO.none _)
   | (with_reducible refine LeO.ite ?_ ?_)
   | (with_reducible refine LeO.bind ?_ (fun _ => ?_))
   | exact ih0 _ _ _ _
   | exact ih1 _ _ _ _
   | exact ih2 _ _ _ _ _ _ _ _
   | exact LeO.none _
   | refine LeO.ite ?_ ?_
   | refine LeO.bind ?_ (fun _ => ?_)
  ·intro y0 y1 y2 y3 y4 y5 y6 y7
   unfold spec_IndexOk.j2
   repeat' first
   | (with_reducible exact ih0 _ _ _ _)
   | (with_reducible exact ih1 _ _ _ _)
   | (with_reducible exact ih2 _ _ _ _ _ _ _ _)
   | (with_reducible exact LeO.refl _)
   | (with_reducible exact LeO.none _)
   | (with_reducible refine LeO.ite ?_ ?_)
   | (with_reducible refine LeO.bind ?_ (fun _ => ?_))
   | exact ih0 _ _ _ _
   | exact ih1 _ _ _ _
   | exact ih2 _ _ _ _ _ _ _ _
   | exact LeO.none _
   | refine LeO.ite ?_ ?_
   | refine LeO.bind ?_ (fun _ => ?_)
theorem spec_IndexOk.mono : ∀ a0 a1 a2 k, LeO (spec_IndexOk.f k a0 a1 a2) (spec_IndexOk.f (k + 1) a0 a1 a2) := by
 intro a0 a1 a2 k
 obtain ⟨ih0, ih1, ih2⟩ := spec_IndexOk.mono_l k
 unfold spec_IndexOk.f
 repeat' with_reducible first | apply ih0 | apply ih1 | apply ih2 | exact LeO.refl _ | exact LeO.none _ | refine LeO.ite ?_ ?_ | refine LeO.bind ?_ (fun _ => ?_)
set_option maxHeartbeats 8000000 in
set_option maxRecDepth 100000 in
theorem spec_IndexOk.calls (k : Nat) (a0_0 : Int) (a0_1 : Int) (A0_2 : Option Addr) (c0_2 : Nat) (l0_2 : List (S47)) (r : Bool) (w : World) (hr0_2 : Kd.C k47 w A0_2 l0_2.length l0_2) (hc0_2 : l0_2.length ≤ c0_2) (h : spec_IndexOk.f k a0_0 a0_1 l0_2 = some r) :
  Calls Tryz.prog 14 #[.agg #[.int .i64 a0_0, .int .i64 a0_1, .slice A0_2 l0_2.length c0_2]] w fun e w' => e = .returned (.bool r) ∧ Below w.heap.size w w' := by
 have hu34 := Tryz.underlying34; have hu47 := Tryz.underlying47; have HR0_2 := aM hr0_2; have HC0_2 := aM hc0_2; clear hr0_2 hc0_2; have HB := aM (Below.refl w.heap.size w); have H : ((spec_l6In.f a0_0 1 30).bind fun t104 => (if t104 = true then ((spec_l6In.f a0_1 0 60).bind fun t105 => (if t105 = true then (spec_IndexOk.j0 k (decide ((l0_2.length : Int) > 8)) a0_0 a0_1 l0_2) else (spec_IndexOk.j0 k true a0_0 a0_1 l0_2))) else (spec_IndexOk.j0 k true a0_0 a0_1 l0_2))) = some r := h; clear h; have HC2 := aM H; clear H
 go_enter Tryz.func14, Tryz.ntmps14
 go_upto_region 1 with (first | ((with_reducible refine gate_dst (N := 1) rfl ?_); (try (refine gate_guard (by rfl) ?_; dsimp only)); refine box_event ?hg (N := 1) ?hd (cs := #[.int .i64 a0_0, .int .i64 a0_1, .slice A0_2 l0_2.length c0_2]) (t := 34) ?hr ?_; (case hd => rfl); (case hg => rfl); (case hr => first | (go_simp; done) | (go_simp; rfl)); intro gb103 hg w3 hbox hb; have _ := aM (below_step (zB HB.1) hb); have _ := aM (hbox); have _ := aM (zge hg (zB HB.1)); have _ := aM (zge hg (zB HB.1)); clear HB; rename_i HB BK103 GW103 GE103; clear hb hbox hg))
 repeat (go_quiet (fail); go_upto_region 1 with (first | ((with_reducible refine gate_dst (N := 1) rfl ?_); (try (refine gate_guard (by rfl) ?_; dsimp only)); refine box_event ?hg (N := 1) ?hd (cs := #[.int .i64 a0_0, .int .i64 a0_1, .slice A0_2 l0_2.length c0_2]) (t := 34) ?hr ?_; (case hd => rfl); (case hg => rfl); (case hr => first | (go_simp; done) | (go_simp; rfl)); intro gb103 hg w3 hbox hb; have _ := aM (below_step (zB HB.1) hb); have _ := aM (hbox); have _ := aM (zge hg (zB HB.1)); have _ := aM (zge hg (zB HB.1)); clear HB; rename_i HB BK103 GW103 GE103; clear hb hbox hg)))
 (try simp only [zp0, zp1, zp2, zp3, zp4])
 go_cut [20] (fun v20 wc => ∃ (kq : Nat) (x20_1 : Bool), v20 = .bool x20_1 ∧ Aside0 (spec_IndexOk.j0 kq x20_1 a0_0 a0_1 l0_2 = some r) ∧ Aside0 (kq ≤ k) ∧ Aside0 (wc.heap[gb103]? = some (.cells #[.int .i64 a0_0, .int .i64 a0_1, (.slice A0_2 l0_2.length c0_2)] 34 (0, 0))) ∧ Aside0 (Below w.heap.size w wc))
 case first =>
  have H := HC2.1; clear HC2; replace H := Option.bind_eq_some_iff.mp H; obtain ⟨t104, A40, H⟩ := H; (try dsimp only at H); have A4 := aM A40; clear A40
  by_cases c5 : t104 = true
  ·subst c5; replace H := zy1 H; replace H := Option.bind_eq_some_iff.mp H; obtain ⟨t105, A60, H⟩ := H; (try dsimp only at H); have A6 := aM A60; clear A60
   by_cases c7 : t105 = true
   ·subst c7; replace H := zy1 H; have H' := aM H; clear H; obtain ⟨hcz8_0, hcz8_1, hcz8_2, hfz8_0, hfz8_1, hfz8_2⟩ := zc3f BK103.1
    go_wp2_with (first | (go_at_call 29; (with_reducible refine (spec_l6In.calls a0_0 1 30 true _ A4.1).mono ?_); rintro e w' ⟨rfl, ⟨nd, rfl⟩⟩; (try first | exact ⟨rfl, _, World.drewN_drewN _ _ _⟩ | exact ⟨rfl, _, Eq.trans (World.drewN_drewN _ _ _) (congrArg (World.drewN _) (Nat.add_assoc _ _ _))⟩)) | (go_at_call 29; (with_reducible refine (spec_l6In.calls a0_1 0 60 true _ A6.1).mono ?_); rintro e w' ⟨rfl, ⟨nd, rfl⟩⟩; (try first | exact ⟨rfl, _, World.drewN_drewN _ _ _⟩ | exact ⟨rfl, _, Eq.trans (World.drewN_drewN _ _ _) (congrArg (World.drewN _) (Nat.add_assoc _ _ _))⟩)))
    repeat (go_quiet (first | (go_at_call 29; (with_reducible refine (spec_l6In.calls a0_0 1 30 true _ A4.1).mono ?_); rintro e w' ⟨rfl, ⟨nd, rfl⟩⟩; (try first | exact ⟨rfl, _, World.drewN_drewN _ _ _⟩ | exact ⟨rfl, _, Eq.trans (World.drewN_drewN _ _ _) (congrArg (World.drewN _) (Nat.add_assoc _ _ _))⟩)) | (go_at_call 29; (with_reducible refine (spec_l6In.calls a0_1 0 60 true _ A6.1).mono ?_); rintro e w' ⟨rfl, ⟨nd, rfl⟩⟩; (try first | exact ⟨rfl, _, World.drewN_drewN _ _ _⟩ | exact ⟨rfl, _, Eq.trans (World.drewN_drewN _ _ _) (congrArg (World.drewN _) (Nat.add_assoc _ _ _))⟩))); try go_wp2_with (first | (go_at_call 29; (with_reducible refine (spec_l6In.calls a0_0 1 30 true _ A4.1).mono ?_); rintro e w' ⟨rfl, ⟨nd, rfl⟩⟩; (try first | exact ⟨rfl, _, World.drewN_drewN _ _ _⟩ | exact ⟨rfl, _, Eq.trans (World.drewN_drewN _ _ _) (congrArg (World.drewN _) (Nat.add_assoc _ _ _))⟩)) | (go_at_call 29; (with_reducible refine (spec_l6In.calls a0_1 0 60 true _ A6.1).mono ?_); rintro e w' ⟨rfl, ⟨nd, rfl⟩⟩; (try first | exact ⟨rfl, _, World.drewN_drewN _ _ _⟩ | exact ⟨rfl, _, Eq.trans (World.drewN_drewN _ _ _) (congrArg (World.drewN _) (Nat.add_assoc _ _ _))⟩))))
    go_meet
    case rel => exact ⟨_, (decide ((l0_2.length : Int) > 8)), (by first | rfl | (simp; done) | (simp [*]; done)), H', ⟨by first | omega | exact Nat.le_refl _⟩, ⟨zK BK103.1⟩, ⟨zB1 HB.1 GE103.1⟩⟩
   ·replace c7 := Bool.eq_false_iff.mpr c7; subst c7; replace H := zy0 H; have H' := aM H; clear H; obtain ⟨hcz9_0, hcz9_1, hcz9_2, hfz9_0, hfz9_1, hfz9_2⟩ := zc3f BK103.1
    go_wp2_with (first | (go_at_call 29; (with_reducible refine (spec_l6In.calls a0_0 1 30 true _ A4.1).mono ?_); rintro e w' ⟨rfl, ⟨nd, rfl⟩⟩; (try first | exact ⟨rfl, _, World.drewN_drewN _ _ _⟩ | exact ⟨rfl, _, Eq.trans (World.drewN_drewN _ _ _) (congrArg (World.drewN _) (Nat.add_assoc _ _ _))⟩)) | (go_at_call 29; (with_reducible refine (spec_l6In.calls a0_1 0 60 false _ A6.1).mono ?_); rintro e w' ⟨rfl, ⟨nd, rfl⟩⟩; (try first | exact ⟨rfl, _, World.drewN_drewN _ _ _⟩ | exact ⟨rfl, _, Eq.trans (World.drewN_drewN _ _ _) (congrArg (World.drewN _) (Nat.add_assoc _ _ _))⟩)))
    repeat (go_quiet (first | (go_at_call 29; (with_reducible refine (spec_l6In.calls a0_0 1 30 true _ A4.1).mono ?_); rintro e w' ⟨rfl, ⟨nd, rfl⟩⟩; (try first | exact ⟨rfl, _, World.drewN_drewN _ _ _⟩ | exact ⟨rfl, _, Eq.trans (World.drewN_drewN _ _ _) (congrArg (World.drewN _) (Nat.add_assoc _ _ _))⟩)) | (go_at_call 29; (with_reducible refine (spec_l6In.calls a0_1 0 60 false _ A6.1).mono ?_); rintro e w' ⟨rfl, ⟨nd, rfl⟩⟩; (try first | exact ⟨rfl, _, World.drewN_drewN _ _ _⟩ | exact ⟨rfl, _, Eq.trans (World.drewN_drewN _ _ _) (congrArg (World.drewN _) (Nat.add_assoc _ _ _))⟩))); try go_wp2_with (first | (go_at_call 29; (with_reducible refine (spec_l6In.calls a0_0 1 30 true _ A4.1).mono ?_); rintro e w' ⟨rfl, ⟨nd, rfl⟩⟩; (try first | exact ⟨rfl, _, World.drewN_drewN _ _ _⟩ | exact ⟨rfl, _, Eq.trans (World.drewN_drewN _ _ _) (congrArg (World.drewN _) (Nat.add_assoc _ _ _))⟩)) | (go_at_call 29; (with_reducible refine (spec_l6In.calls a0_1 0 60 false _ A6.1).mono ?_); rintro e w' ⟨rfl, ⟨nd, rfl⟩⟩; (try first | exact ⟨rfl, _, World.drewN_drewN _ _ _⟩ | exact ⟨rfl, _, Eq.trans (World.drewN_drewN _ _ _) (congrArg (World.drewN _) (Nat.add_assoc _ _ _))⟩))))
    go_meet
    case rel => exact ⟨_, (true), (by first | rfl | (simp; done) | (simp [*]; done)), H', ⟨by first | omega | exact Nat.le_refl _⟩, ⟨zK BK103.1⟩, ⟨zB1 HB.1 GE103.1⟩⟩
  ·replace c5 := Bool.eq_false_iff.mpr c5; subst c5; replace H := zy0 H; have H' := aM H; clear H; obtain ⟨hcz10_0, hcz10_1, hcz10_2, hfz10_0, hfz10_1, hfz10_2⟩ := zc3f BK103.1
   go_wp2_with (first | (go_at_call 29; (with_reducible refine (spec_l6In.calls a0_0 1 30 false _ A4.1).mono ?_); rintro e w' ⟨rfl, ⟨nd, rfl⟩⟩; (try first | exact ⟨rfl, _, World.drewN_drewN _ _ _⟩ | exact ⟨rfl, _, Eq.trans (World.drewN_drewN _ _ _) (congrArg (World.drewN _) (Nat.add_assoc _ _ _))⟩)))
   repeat (go_quiet (first | (go_at_call 29; (with_reducible refine (spec_l6In.calls a0_0 1 30 false _ A4.1).mono ?_); rintro e w' ⟨rfl, ⟨nd, rfl⟩⟩; (try first | exact ⟨rfl, _, World.drewN_drewN _ _ _⟩ | exact ⟨rfl, _, Eq.trans (World.drewN_drewN _ _ _) (congrArg (World.drewN _) (Nat.add_assoc _ _ _))⟩))); try go_wp2_with (first | (go_at_call 29; (with_reducible refine (spec_l6In.calls a0_0 1 30 false _ A4.1).mono ?_); rintro e w' ⟨rfl, ⟨nd, rfl⟩⟩; (try first | exact ⟨rfl, _, World.drewN_drewN _ _ _⟩ | exact ⟨rfl, _, Eq.trans (World.drewN_drewN _ _ _) (congrArg (World.drewN _) (Nat.add_assoc _ _ _))⟩))))
   go_meet
   case rel => exact ⟨_, (true), (by first | rfl | (simp; done) | (simp [*]; done)), H', ⟨by first | omega | exact Nat.le_refl _⟩, ⟨zK BK103.1⟩, ⟨zB1 HB.1 GE103.1⟩⟩
 case rest =>
  clear HC2
  try clear c1
  try clear p2
  try clear c5
  try clear c7
  try clear hcz10_0
  try clear hcz10_1
  try clear hcz10_2
  try clear hcz8_0
  try clear hcz8_1
  try clear hcz8_2
  try clear hcz9_0
  try clear hcz9_1
  try clear hcz9_2
  try clear hfz10_0
  try clear hfz10_1
  try clear hfz10_2
  try clear hfz8_0
  try clear hfz8_1
  try clear hfz8_2
  try clear hfz9_0
  try clear hfz9_1
  try clear hfz9_2
  obtain ⟨kq, x20_1, rfl, HA, HJ1, BK103, HB⟩ := hcut; cases kq with
  | zero => exact absurd HA.1 (by simp [spec_IndexOk.j0])
  | succ kj1 =>
   have H := HA.1; clear HA; simp only [spec_IndexOk.j0] at H
   by_cases c11 : x20_1 = true
   ·subst c11; replace H := zy1 H; obtain rfl := Option.some.inj H
    go_wp2
    repeat (go_quiet (fail); try go_wp2)
    go_ret
    exact ⟨by first | rfl | (simp [errW_none, errW_some] <;> rfl) | (simp [*, errW_none, errW_some] <;> rfl), by exact zB1 HB.1 GE103.1⟩
   ·replace c11 := Bool.eq_false_iff.mpr c11; subst c11; replace H := zy0 H; have H' := aM H; clear H
    go_wp2
    repeat (go_quiet (fail); try go_wp2)
    go_loopg [3] kj1 (fun kq v3 w' => ∃ (x3_2 : Int), v3 = .int .i64 x3_2 ∧ Aside0 (spec_IndexOk.l0 kq x3_2 a0_0 a0_1 l0_2 = some r) ∧ Aside0 (kq ≤ kj1) ∧ Aside0 (w'.heap[gb103]? = some (.cells #[.int .i64 a0_0, .int .i64 a0_1, (.slice A0_2 l0_2.length c0_2)] 34 (0, 0))) ∧ Aside0 (Below w.heap.size w w'))
    case atStart => exact ⟨(0), (by first | rfl | (simp; done) | (simp [*]; done)), H', ⟨Nat.le_refl _⟩, ⟨zK BK103.1⟩, ⟨zB1 HB.1 GE103.1⟩⟩
    case round =>
     clear H'
     try clear c1
     try clear p2
     try clear c5
     try clear c7
     try clear c11
     try clear hcz10_0
     try clear hcz10_1
     try clear hcz10_2
     try clear hcz8_0
     try clear hcz8_1
     try clear hcz8_2
     try clear hcz9_0
     try clear hcz9_1
     try clear hcz9_2
     try clear hfz10_0
     try clear hfz10_1
     try clear hfz10_2
     try clear hfz8_0
     try clear hfz8_1
     try clear hfz8_2
     try clear hfz9_0
     try clear hfz9_1
     try clear hfz9_2
     try clear p2
     obtain ⟨x3_2, rfl, HA, HK2, BK103, HB⟩ := hrel; cases gk with
     | zero => exact absurd HA.1 (by simp [spec_IndexOk.l0])
     | succ k2 =>
      have H := HA.1; clear HA; simp only [spec_IndexOk.l0] at H
      by_cases c12 : x3_2 < (l0_2.length : Int)
      ·rw [if_pos c12] at H; have c12b0 : decide (x3_2 < (l0_2.length : Int)) = true := decide_eq_true c12; clear c12; replace H := zif H; obtain ⟨c13, H⟩ := H; have c13b0 : decide (0 ≤ x3_2) = true := decide_eq_true c13; clear c13; have HC14 := aM H; clear H; obtain ⟨hcz15_0, hcz15_1, hcz15_2, hfz15_0, hfz15_1, hfz15_2⟩ := zc3f BK103.1; have p106 : 0 ≤ (x3_2 : Int) := zd; have q106 : x3_2 < (l0_2.length : Int) := zd; obtain ⟨ad106, e106, hx106_0, hx106_1, hx106_2⟩ := at_T47 HR0_2.1 x3_2 p106 q106; cases e106; replace hx106_0 := (HB.1.cell (World.block_lt_of_cell? w _ hx106_0)).trans hx106_0; replace hx106_1 := (HB.1.cell (World.block_lt_of_cell? w _ hx106_1)).trans hx106_1; replace hx106_2 := (HB.1.cell (World.block_lt_of_cell? w _ hx106_2)).trans hx106_2; replace p106 := eq_true p106; replace q106 := eq_true q106
       go_upto_region 7 with (first | ((with_reducible refine gate_dst (N := 4) rfl ?_); (try (refine gate_guard (by rfl) ?_; dsimp only)); refine box_event ?hg (N := 4) ?hd (cs := #[.int .i64 0, .int .i64 0, .int .i64 0]) (t := 47) ?hr ?_; (case hd => rfl); (case hg => rfl); (case hr => first | (go_simp; done) | (go_simp; rfl)); intro gb107 hg w16 hbox hb; have _ := aM (blk_below (zK BK103.1) hb); have _ := aM (below_step (zB1 HB.1 GE103.1) hb); have _ := aM (hbox); have _ := aM (zge hg (zB1 HB.1 GE103.1)); have _ := aM (zge hg (zB1 HB.1 GE103.1)); have _ := aM (znl hg (zK BK103.1)); have _ := aM (zng hg (zK BK103.1)); clear BK103 HB; rename_i BK103 HB BK107 GW107 GE107 NB103_107 NB107_103; clear hb hbox hg; have hnb17 := NB107_103.1; have hnc17 := NB103_107.1; obtain ⟨hcz18_0, hcz18_1, hcz18_2, hfz18_0, hfz18_1, hfz18_2⟩ := zc3f BK107.1))
       repeat (go_quiet (fail); go_upto_region 7 with (first | ((with_reducible refine gate_dst (N := 4) rfl ?_); (try (refine gate_guard (by rfl) ?_; dsimp only)); refine box_event ?hg (N := 4) ?hd (cs := #[.int .i64 0, .int .i64 0, .int .i64 0]) (t := 47) ?hr ?_; (case hd => rfl); (case hg => rfl); (case hr => first | (go_simp; done) | (go_simp; rfl)); intro gb107 hg w16 hbox hb; have _ := aM (blk_below (zK BK103.1) hb); have _ := aM (below_step (zB1 HB.1 GE103.1) hb); have _ := aM (hbox); have _ := aM (zge hg (zB1 HB.1 GE103.1)); have _ := aM (zge hg (zB1 HB.1 GE103.1)); have _ := aM (znl hg (zK BK103.1)); have _ := aM (zng hg (zK BK103.1)); clear BK103 HB; rename_i BK103 HB BK107 GW107 GE107 NB103_107 NB107_103; clear hb hbox hg; have hnb17 := NB107_103.1; have hnc17 := NB103_107.1; obtain ⟨hcz18_0, hcz18_1, hcz18_2, hfz18_0, hfz18_1, hfz18_2⟩ := zc3f BK107.1)))
       (try simp only [zp0, zp1, zp2, zp3, zp4])
       go_cut [48] (fun v48 wc => ∃ (kq : Nat) (x48_13 : Bool), v48 = .bool x48_13 ∧ Aside0 (spec_IndexOk.j2 kq x3_2 x48_13 a0_0 a0_1 l0_2 ((rd_T47 l0_2 x3_2).f0) ((rd_T47 l0_2 x3_2).f1) ((rd_T47 l0_2 x3_2).f2) = some r) ∧ Aside0 (kq ≤ k2) ∧ Aside0 (wc.heap[gb103]? = some (.cells #[.int .i64 a0_0, .int .i64 a0_1, (.slice (some ad106) l0_2.length c0_2)] 34 (0, 0))) ∧ Aside0 (wc.heap[gb107]? = some (.cells #[.int .i64 ((rd_T47 l0_2 x3_2).f0), .int .i64 ((rd_T47 l0_2 x3_2).f1), .int .i64 ((rd_T47 l0_2 x3_2).f2)] 47 (0, 0))) ∧ Aside0 (Below w.heap.size w wc))
       case first =>
        have H := HC14.1; clear HC14; replace H := Option.bind_eq_some_iff.mp H; obtain ⟨t108, A190, H⟩ := H; (try dsimp only at H); have A19 := aM A190; clear A190
        by_cases c20 : t108 = true
        ·subst c20; replace H := zy1 H; replace H := Option.bind_eq_some_iff.mp H; obtain ⟨t109, A210, H⟩ := H; (try dsimp only at H); have A21 := aM A210; clear A210
         by_cases c22 : t109 = true
         ·subst c22; replace H := zy1 H; replace H := Option.bind_eq_some_iff.mp H; obtain ⟨t110, A230, H⟩ := H; (try dsimp only at H); have A23 := aM A230; clear A230; have H' := aM H; clear H; have hnb24 := NB107_103.1; have hnc24 := NB103_107.1; obtain ⟨hcz25_0, hcz25_1, hcz25_2, hfz25_0, hfz25_1, hfz25_2⟩ := zc3f BK107.1
          go_wp2_with (first | (go_at_call 29; (with_reducible refine (spec_l6In.calls ((rd_T47 l0_2 x3_2).f0) 1 4 true _ A19.1).mono ?_); rintro e w' ⟨rfl, ⟨nd, rfl⟩⟩; (try first | exact ⟨rfl, _, World.drewN_drewN _ _ _⟩ | exact ⟨rfl, _, Eq.trans (World.drewN_drewN _ _ _) (congrArg (World.drewN _) (Nat.add_assoc _ _ _))⟩)) | (go_at_call 29; (with_reducible refine (spec_l6In.calls ((rd_T47 l0_2 x3_2).f1) 1 5 true _ A21.1).mono ?_); rintro e w' ⟨rfl, ⟨nd, rfl⟩⟩; (try first | exact ⟨rfl, _, World.drewN_drewN _ _ _⟩ | exact ⟨rfl, _, Eq.trans (World.drewN_drewN _ _ _) (congrArg (World.drewN _) (Nat.add_assoc _ _ _))⟩)) | (go_at_call 29; (with_reducible refine (spec_l6In.calls ((rd_T47 l0_2 x3_2).f2) 0 9972 t110 _ A23.1).mono ?_); rintro e w' ⟨rfl, ⟨nd, rfl⟩⟩; (try first | exact ⟨rfl, _, World.drewN_drewN _ _ _⟩ | exact ⟨rfl, _, Eq.trans (World.drewN_drewN _ _ _) (congrArg (World.drewN _) (Nat.add_assoc _ _ _))⟩)))
          repeat (go_quiet (first | (go_at_call 29; (with_reducible refine (spec_l6In.calls ((rd_T47 l0_2 x3_2).f0) 1 4 true _ A19.1).mono ?_); rintro e w' ⟨rfl, ⟨nd, rfl⟩⟩; (try first | exact ⟨rfl, _, World.drewN_drewN _ _ _⟩ | exact ⟨rfl, _, Eq.trans (World.drewN_drewN _ _ _) (congrArg (World.drewN _) (Nat.add_assoc _ _ _))⟩)) | (go_at_call 29; (with_reducible refine (spec_l6In.calls ((rd_T47 l0_2 x3_2).f1) 1 5 true _ A21.1).mono ?_); rintro e w' ⟨rfl, ⟨nd, rfl⟩⟩; (try first | exact ⟨rfl, _, World.drewN_drewN _ _ _⟩ | exact ⟨rfl, _, Eq.trans (World.drewN_drewN _ _ _) (congrArg (World.drewN _) (Nat.add_assoc _ _ _))⟩)) | (go_at_call 29; (with_reducible refine (spec_l6In.calls ((rd_T47 l0_2 x3_2).f2) 0 9972 t110 _ A23.1).mono ?_); rintro e w' ⟨rfl, ⟨nd, rfl⟩⟩; (try first | exact ⟨rfl, _, World.drewN_drewN _ _ _⟩ | exact ⟨rfl, _, Eq.trans (World.drewN_drewN _ _ _) (congrArg (World.drewN _) (Nat.add_assoc _ _ _))⟩))); try go_wp2_with (first | (go_at_call 29; (with_reducible refine (spec_l6In.calls ((rd_T47 l0_2 x3_2).f0) 1 4 true _ A19.1).mono ?_); rintro e w' ⟨rfl, ⟨nd, rfl⟩⟩; (try first | exact ⟨rfl, _, World.drewN_drewN _ _ _⟩ | exact ⟨rfl, _, Eq.trans (World.drewN_drewN _ _ _) (congrArg (World.drewN _) (Nat.add_assoc _ _ _))⟩)) | (go_at_call 29; (with_reducible refine (spec_l6In.calls ((rd_T47 l0_2 x3_2).f1) 1 5 true _ A21.1).mono ?_); rintro e w' ⟨rfl, ⟨nd, rfl⟩⟩; (try first | exact ⟨rfl, _, World.drewN_drewN _ _ _⟩ | exact ⟨rfl, _, Eq.trans (World.drewN_drewN _ _ _) (congrArg (World.drewN _) (Nat.add_assoc _ _ _))⟩)) | (go_at_call 29; (with_reducible refine (spec_l6In.calls ((rd_T47 l0_2 x3_2).f2) 0 9972 t110 _ A23.1).mono ?_); rintro e w' ⟨rfl, ⟨nd, rfl⟩⟩; (try first | exact ⟨rfl, _, World.drewN_drewN _ _ _⟩ | exact ⟨rfl, _, Eq.trans (World.drewN_drewN _ _ _) (congrArg (World.drewN _) (Nat.add_assoc _ _ _))⟩))))
          go_meet
          case rel => exact ⟨_, (!t110), (by first | rfl | (simp; done) | (simp [*]; done)), H', ⟨by have := HJ1.1; have := HK2.1; first | omega | exact Nat.le_refl _⟩, ⟨zK1 BK103.1 NB103_107.1⟩, ⟨by exact zP BK107.1 (by rfl)⟩, ⟨zB2 HB.1 GE103.1 GE107.1⟩⟩
         ·replace c22 := Bool.eq_false_iff.mpr c22; subst c22; replace H := zy0 H; have H' := aM H; clear H; have hnb26 := NB107_103.1; have hnc26 := NB103_107.1; obtain ⟨hcz27_0, hcz27_1, hcz27_2, hfz27_0, hfz27_1, hfz27_2⟩ := zc3f BK107.1
          go_wp2_with (first | (go_at_call 29; (with_reducible refine (spec_l6In.calls ((rd_T47 l0_2 x3_2).f0) 1 4 true _ A19.1).mono ?_); rintro e w' ⟨rfl, ⟨nd, rfl⟩⟩; (try first | exact ⟨rfl, _, World.drewN_drewN _ _ _⟩ | exact ⟨rfl, _, Eq.trans (World.drewN_drewN _ _ _) (congrArg (World.drewN _) (Nat.add_assoc _ _ _))⟩)) | (go_at_call 29; (with_reducible refine (spec_l6In.calls ((rd_T47 l0_2 x3_2).f1) 1 5 false _ A21.1).mono ?_); rintro e w' ⟨rfl, ⟨nd, rfl⟩⟩; (try first | exact ⟨rfl, _, World.drewN_drewN _ _ _⟩ | exact ⟨rfl, _, Eq.trans (World.drewN_drewN _ _ _) (congrArg (World.drewN _) (Nat.add_assoc _ _ _))⟩)))
          repeat (go_quiet (first | (go_at_call 29; (with_reducible refine (spec_l6In.calls ((rd_T47 l0_2 x3_2).f0) 1 4 true _ A19.1).mono ?_); rintro e w' ⟨rfl, ⟨nd, rfl⟩⟩; (try first | exact ⟨rfl, _, World.drewN_drewN _ _ _⟩ | exact ⟨rfl, _, Eq.trans (World.drewN_drewN _ _ _) (congrArg (World.drewN _) (Nat.add_assoc _ _ _))⟩)) | (go_at_call 29; (with_reducible refine (spec_l6In.calls ((rd_T47 l0_2 x3_2).f1) 1 5 false _ A21.1).mono ?_); rintro e w' ⟨rfl, ⟨nd, rfl⟩⟩; (try first | exact ⟨rfl, _, World.drewN_drewN _ _ _⟩ | exact ⟨rfl, _, Eq.trans (World.drewN_drewN _ _ _) (congrArg (World.drewN _) (Nat.add_assoc _ _ _))⟩))); try go_wp2_with (first | (go_at_call 29; (with_reducible refine (spec_l6In.calls ((rd_T47 l0_2 x3_2).f0) 1 4 true _ A19.1).mono ?_); rintro e w' ⟨rfl, ⟨nd, rfl⟩⟩; (try first | exact ⟨rfl, _, World.drewN_drewN _ _ _⟩ | exact ⟨rfl, _, Eq.trans (World.drewN_drewN _ _ _) (congrArg (World.drewN _) (Nat.add_assoc _ _ _))⟩)) | (go_at_call 29; (with_reducible refine (spec_l6In.calls ((rd_T47 l0_2 x3_2).f1) 1 5 false _ A21.1).mono ?_); rintro e w' ⟨rfl, ⟨nd, rfl⟩⟩; (try first | exact ⟨rfl, _, World.drewN_drewN _ _ _⟩ | exact ⟨rfl, _, Eq.trans (World.drewN_drewN _ _ _) (congrArg (World.drewN _) (Nat.add_assoc _ _ _))⟩))))
          go_meet
          case rel => exact ⟨_, (true), (by first | rfl | (simp; done) | (simp [*]; done)), H', ⟨by have := HJ1.1; have := HK2.1; first | omega | exact Nat.le_refl _⟩, ⟨zK1 BK103.1 NB103_107.1⟩, ⟨by exact zP BK107.1 (by rfl)⟩, ⟨zB2 HB.1 GE103.1 GE107.1⟩⟩
        ·replace c20 := Bool.eq_false_iff.mpr c20; subst c20; replace H := zy0 H; have H' := aM H; clear H; have hnb28 := NB107_103.1; have hnc28 := NB103_107.1; obtain ⟨hcz29_0, hcz29_1, hcz29_2, hfz29_0, hfz29_1, hfz29_2⟩ := zc3f BK107.1
         go_wp2_with (first | (go_at_call 29; (with_reducible refine (spec_l6In.calls ((rd_T47 l0_2 x3_2).f0) 1 4 false _ A19.1).mono ?_); rintro e w' ⟨rfl, ⟨nd, rfl⟩⟩; (try first | exact ⟨rfl, _, World.drewN_drewN _ _ _⟩ | exact ⟨rfl, _, Eq.trans (World.drewN_drewN _ _ _) (congrArg (World.drewN _) (Nat.add_assoc _ _ _))⟩)))
         repeat (go_quiet (first | (go_at_call 29; (with_reducible refine (spec_l6In.calls ((rd_T47 l0_2 x3_2).f0) 1 4 false _ A19.1).mono ?_); rintro e w' ⟨rfl, ⟨nd, rfl⟩⟩; (try first | exact ⟨rfl, _, World.drewN_drewN _ _ _⟩ | exact ⟨rfl, _, Eq.trans (World.drewN_drewN _ _ _) (congrArg (World.drewN _) (Nat.add_assoc _ _ _))⟩))); try go_wp2_with (first | (go_at_call 29; (with_reducible refine (spec_l6In.calls ((rd_T47 l0_2 x3_2).f0) 1 4 false _ A19.1).mono ?_); rintro e w' ⟨rfl, ⟨nd, rfl⟩⟩; (try first | exact ⟨rfl, _, World.drewN_drewN _ _ _⟩ | exact ⟨rfl, _, Eq.trans (World.drewN_drewN _ _ _) (congrArg (World.drewN _) (Nat.add_assoc _ _ _))⟩))))
         go_meet
         case rel => exact ⟨_, (true), (by first | rfl | (simp; done) | (simp [*]; done)), H', ⟨by have := HJ1.1; have := HK2.1; first | omega | exact Nat.le_refl _⟩, ⟨zK1 BK103.1 NB103_107.1⟩, ⟨by exact zP BK107.1 (by rfl)⟩, ⟨zB2 HB.1 GE103.1 GE107.1⟩⟩
       case rest =>
        clear HC14
        try clear c1
        try clear p1
        try clear q1
        try clear hx1
        try clear c2
        try clear p2
        try clear c5
        try clear c7
        try clear p10
        try clear q10
        try clear hx10
        try clear c11
        try clear c12
        try clear c12b0
        try clear c13
        try clear c13b0
        try clear c14
        try clear c17
        try clear c20
        try clear c22
        try clear c24
        try clear c26
        try clear c28
        try clear hcz10_0
        try clear hcz10_1
        try clear hcz10_2
        try clear hcz15_0
        try clear hcz15_1
        try clear hcz15_2
        try clear hcz18_0
        try clear hcz18_1
        try clear hcz18_2
        try clear hcz25_0
        try clear hcz25_1
        try clear hcz25_2
        try clear hcz27_0
        try clear hcz27_1
        try clear hcz27_2
        try clear hcz29_0
        try clear hcz29_1
        try clear hcz29_2
        try clear hcz8_0
        try clear hcz8_1
        try clear hcz8_2
        try clear hcz9_0
        try clear hcz9_1
        try clear hcz9_2
        try clear hfz10_0
        try clear hfz10_1
        try clear hfz10_2
        try clear hfz15_0
        try clear hfz15_1
        try clear hfz15_2
        try clear hfz18_0
        try clear hfz18_1
        try clear hfz18_2
        try clear hfz25_0
        try clear hfz25_1
        try clear hfz25_2
        try clear hfz27_0
        try clear hfz27_1
        try clear hfz27_2
        try clear hfz29_0
        try clear hfz29_1
        try clear hfz29_2
        try clear hfz8_0
        try clear hfz8_1
        try clear hfz8_2
        try clear hfz9_0
        try clear hfz9_1
        try clear hfz9_2
        try clear hx106_0
        try clear hx106_1
        try clear hx106_2
        try clear p106
        try clear p2
        try clear q106
        obtain ⟨kq, x48_13, rfl, HA, HJ13, BK103, BK107, HB⟩ := hcut; cases kq with
        | zero => exact absurd HA.1 (by simp [spec_IndexOk.j2])
        | succ kj13 =>
         have H := HA.1; clear HA; simp only [spec_IndexOk.j2] at H
         by_cases c30 : x48_13 = true
         ·subst c30; replace H := zy1 H; obtain rfl := Option.some.inj H
          go_wp2
          repeat (go_quiet (fail); try go_wp2)
          go_ret
          exact ⟨by first | rfl | (simp [errW_none, errW_some] <;> rfl) | (simp [*, errW_none, errW_some] <;> rfl), by exact zB2 HB.1 GE103.1 GE107.1⟩
         ·replace c30 := Bool.eq_false_iff.mpr c30; subst c30; replace H := zy0 H
          by_cases c31 : x3_2 > 0
          ·rw [if_pos c31] at H; have c31b0 : decide (0 < x3_2) = true := decide_eq_true c31; clear c31; obtain ⟨ji32, hji32⟩ : ∃ j_ : Int, (wrap64 (x3_2 - 1)) = j_ := ⟨_, rfl⟩
           replace H : (if 0 ≤ (ji32) then (if (ji32) < (l0_2.length : Int) then ((spec_l3Less.f ((rd_T47 l0_2 (ji32)).f0) ((rd_T47 l0_2 (ji32)).f1) ((rd_T47 l0_2 x3_2).f0) ((rd_T47 l0_2 x3_2).f1)).bind fun t113 => (if t113 = true then (spec_IndexOk.l0 kj13 (wrap64 (x3_2 + 1)) a0_0 a0_1 l0_2) else (some false))) else (none)) else (none)) = some r := by first | (rw [hji32] at H; exact H) | (simp only [hji32] at H ⊢; exact H)
           have hji32w : (IntKind.i64.wrap (x3_2 - 1)) = ji32 := (i64_w _).trans hji32; replace H := zif H; obtain ⟨c33, H⟩ := H; have c33b0 : decide (0 ≤ (ji32)) = true := decide_eq_true c33; clear c33; replace H := zif H; obtain ⟨c34, H⟩ := H; have c34b0 : decide ((ji32) < (l0_2.length : Int)) = true := decide_eq_true c34; clear c34; replace H := Option.bind_eq_some_iff.mp H; obtain ⟨t113, A350, H⟩ := H; (try dsimp only at H); have A35 := aM A350; clear A350
           by_cases c36 : t113 = true
           ·subst c36; replace H := zy1 H; have H' := aM H; clear H; have hnb37 := NB103_107.1; have hnc37 := NB107_103.1; obtain ⟨hcz38_0, hcz38_1, hcz38_2, hfz38_0, hfz38_1, hfz38_2⟩ := zc3f BK103.1; have p111 : 0 ≤ ((ji32) : Int) := zd; have q111 : (ji32) < (l0_2.length : Int) := zd; obtain ⟨ad111, e111, hx111_0, hx111_1, hx111_2⟩ := at_T47 HR0_2.1 (ji32) p111 q111; obtain rfl : ad106 = ad111 := (by injection e111); replace hx111_0 := (HB.1.cell (World.block_lt_of_cell? w _ hx111_0)).trans hx111_0; replace hx111_1 := (HB.1.cell (World.block_lt_of_cell? w _ hx111_1)).trans hx111_1; replace hx111_2 := (HB.1.cell (World.block_lt_of_cell? w _ hx111_2)).trans hx111_2; replace p111 := eq_true p111; replace q111 := eq_true q111; have p112 : 0 ≤ ((ji32) : Int) := zd; have q112 : (ji32) < (l0_2.length : Int) := zd; obtain ⟨ad112, e112, hx112_0, hx112_1, hx112_2⟩ := at_T47 HR0_2.1 (ji32) p112 q112; obtain rfl : ad106 = ad112 := (by injection e112); replace hx112_0 := (HB.1.cell (World.block_lt_of_cell? w _ hx112_0)).trans hx112_0; replace hx112_1 := (HB.1.cell (World.block_lt_of_cell? w _ hx112_1)).trans hx112_1; replace hx112_2 := (HB.1.cell (World.block_lt_of_cell? w _ hx112_2)).trans hx112_2; replace p112 := eq_true p112; replace q112 := eq_true q112; obtain ⟨hcz39_0, hcz39_1, hcz39_2, hfz39_0, hfz39_1, hfz39_2⟩ := zc3f BK107.1
            go_wp2_with (first | (go_at_call 30; (with_reducible refine (spec_l3Less.calls ((rd_T47 l0_2 (ji32)).f0) ((rd_T47 l0_2 (ji32)).f1) ((rd_T47 l0_2 x3_2).f0) ((rd_T47 l0_2 x3_2).f1) true _ A35.1).mono ?_); rintro e w' ⟨rfl, ⟨nd, rfl⟩⟩; (try first | exact ⟨rfl, _, World.drewN_drewN _ _ _⟩ | exact ⟨rfl, _, Eq.trans (World.drewN_drewN _ _ _) (congrArg (World.drewN _) (Nat.add_assoc _ _ _))⟩)))
            repeat (go_quiet (first | (go_at_call 30; (with_reducible refine (spec_l3Less.calls ((rd_T47 l0_2 (ji32)).f0) ((rd_T47 l0_2 (ji32)).f1) ((rd_T47 l0_2 x3_2).f0) ((rd_T47 l0_2 x3_2).f1) true _ A35.1).mono ?_); rintro e w' ⟨rfl, ⟨nd, rfl⟩⟩; (try first | exact ⟨rfl, _, World.drewN_drewN _ _ _⟩ | exact ⟨rfl, _, Eq.trans (World.drewN_drewN _ _ _) (congrArg (World.drewN _) (Nat.add_assoc _ _ _))⟩))); try go_wp2_with (first | (go_at_call 30; (with_reducible refine (spec_l3Less.calls ((rd_T47 l0_2 (ji32)).f0) ((rd_T47 l0_2 (ji32)).f1) ((rd_T47 l0_2 x3_2).f0) ((rd_T47 l0_2 x3_2).f1) true _ A35.1).mono ?_); rintro e w' ⟨rfl, ⟨nd, rfl⟩⟩; (try first | exact ⟨rfl, _, World.drewN_drewN _ _ _⟩ | exact ⟨rfl, _, Eq.trans (World.drewN_drewN _ _ _) (congrArg (World.drewN _) (Nat.add_assoc _ _ _))⟩))))
            go_roundg kj13
            case measure => have := HJ1.1; have := HK2.1; have := HJ13.1; omega
            case rel => exact ⟨(wrap64 (x3_2 + 1)), (by first | rfl | (simp; done) | (simp [*]; done)), H', ⟨by have := HJ1.1; have := HK2.1; have := HJ13.1; omega⟩, ⟨zK BK103.1⟩, ⟨zB2 HB.1 GE103.1 GE107.1⟩⟩
           ·replace c36 := Bool.eq_false_iff.mpr c36; subst c36; replace H := zy0 H; obtain rfl := Option.some.inj H; have hnb40 := NB103_107.1; have hnc40 := NB107_103.1; obtain ⟨hcz41_0, hcz41_1, hcz41_2, hfz41_0, hfz41_1, hfz41_2⟩ := zc3f BK103.1; have p111 : 0 ≤ ((ji32) : Int) := zd; have q111 : (ji32) < (l0_2.length : Int) := zd; obtain ⟨ad111, e111, hx111_0, hx111_1, hx111_2⟩ := at_T47 HR0_2.1 (ji32) p111 q111; obtain rfl : ad106 = ad111 := (by injection e111); replace hx111_0 := (HB.1.cell (World.block_lt_of_cell? w _ hx111_0)).trans hx111_0; replace hx111_1 := (HB.1.cell (World.block_lt_of_cell? w _ hx111_1)).trans hx111_1; replace hx111_2 := (HB.1.cell (World.block_lt_of_cell? w _ hx111_2)).trans hx111_2; replace p111 := eq_true p111; replace q111 := eq_true q111; have p112 : 0 ≤ ((ji32) : Int) := zd; have q112 : (ji32) < (l0_2.length : Int) := zd; obtain ⟨ad112, e112, hx112_0, hx112_1, hx112_2⟩ := at_T47 HR0_2.1 (ji32) p112 q112; obtain rfl : ad106 = ad112 := (by injection e112); replace hx112_0 := (HB.1.cell (World.block_lt_of_cell? w _ hx112_0)).trans hx112_0; replace hx112_1 := (HB.1.cell (World.block_lt_of_cell? w _ hx112_1)).trans hx112_1; replace hx112_2 := (HB.1.cell (World.block_lt_of_cell? w _ hx112_2)).trans hx112_2; replace p112 := eq_true p112; replace q112 := eq_true q112; obtain ⟨hcz42_0, hcz42_1, hcz42_2, hfz42_0, hfz42_1, hfz42_2⟩ := zc3f BK107.1
            go_wp2_with (first | (go_at_call 30; (with_reducible refine (spec_l3Less.calls ((rd_T47 l0_2 (ji32)).f0) ((rd_T47 l0_2 (ji32)).f1) ((rd_T47 l0_2 x3_2).f0) ((rd_T47 l0_2 x3_2).f1) false _ A35.1).mono ?_); rintro e w' ⟨rfl, ⟨nd, rfl⟩⟩; (try first | exact ⟨rfl, _, World.drewN_drewN _ _ _⟩ | exact ⟨rfl, _, Eq.trans (World.drewN_drewN _ _ _) (congrArg (World.drewN _) (Nat.add_assoc _ _ _))⟩)))
            repeat (go_quiet (first | (go_at_call 30; (with_reducible refine (spec_l3Less.calls ((rd_T47 l0_2 (ji32)).f0) ((rd_T47 l0_2 (ji32)).f1) ((rd_T47 l0_2 x3_2).f0) ((rd_T47 l0_2 x3_2).f1) false _ A35.1).mono ?_); rintro e w' ⟨rfl, ⟨nd, rfl⟩⟩; (try first | exact ⟨rfl, _, World.drewN_drewN _ _ _⟩ | exact ⟨rfl, _, Eq.trans (World.drewN_drewN _ _ _) (congrArg (World.drewN _) (Nat.add_assoc _ _ _))⟩))); try go_wp2_with (first | (go_at_call 30; (with_reducible refine (spec_l3Less.calls ((rd_T47 l0_2 (ji32)).f0) ((rd_T47 l0_2 (ji32)).f1) ((rd_T47 l0_2 x3_2).f0) ((rd_T47 l0_2 x3_2).f1) false _ A35.1).mono ?_); rintro e w' ⟨rfl, ⟨nd, rfl⟩⟩; (try first | exact ⟨rfl, _, World.drewN_drewN _ _ _⟩ | exact ⟨rfl, _, Eq.trans (World.drewN_drewN _ _ _) (congrArg (World.drewN _) (Nat.add_assoc _ _ _))⟩))))
            go_ret
            exact ⟨by first | rfl | (simp [errW_none, errW_some] <;> rfl) | (simp only [← hji32]; first | rfl | (simp [errW_none, errW_some] <;> rfl)) | (simp [*, errW_none, errW_some] <;> rfl), by exact zB2 HB.1 GE103.1 GE107.1⟩
          ·rw [if_neg c31] at H; have c31b0 : decide (0 < x3_2) = false := decide_eq_false c31; clear c31; have H' := aM H; clear H
           go_wp2
           repeat (go_quiet (fail); try go_wp2)
           go_roundg kj13
           case measure => have := HJ1.1; have := HK2.1; have := HJ13.1; omega
           case rel => exact ⟨(wrap64 (x3_2 + 1)), (by first | rfl | (simp; done) | (simp [*]; done)), H', ⟨by have := HJ1.1; have := HK2.1; have := HJ13.1; omega⟩, ⟨zK BK103.1⟩, ⟨zB2 HB.1 GE103.1 GE107.1⟩⟩
      ·rw [if_neg c12] at H; have c12b0 : decide (x3_2 < (l0_2.length : Int)) = false := decide_eq_false c12; clear c12; obtain rfl := Option.some.inj H; obtain ⟨hcz43_0, hcz43_1, hcz43_2, hfz43_0, hfz43_1, hfz43_2⟩ := zc3f BK103.1
       go_wp2
       repeat (go_quiet (fail); try go_wp2)
       go_ret
       exact ⟨by first | rfl | (simp [errW_none, errW_some] <;> rfl) | (simp [*, errW_none, errW_some] <;> rfl), by exact zB1 HB.1 GE103.1⟩

/-! ### spec_l1Cut: function 48 -/
def cutStep (at_ : Int) (out : List ByteArray) (b : Int) : List ByteArray := if b = at_ then out ++ [⟨#[]⟩] else out.set (out.length - 1) (out.getD (out.length - 1) ByteArray.empty ++ strOfNums [b])
def cutN (s : ByteArray) (at_ : Int) : Nat → List ByteArray
 | 0 => [⟨#[]⟩]
 | n + 1 => cutStep at_ (cutN s at_ n) (bt s (n : Int))
theorem cutN_len (s : ByteArray) (at_ : Int) : ∀ n, 1 ≤ (cutN s at_ n).length ∧ (cutN s at_ n).length ≤ n + 1
 | 0 => ⟨by simp [cutN], by simp [cutN]⟩
 | n + 1 => by
  obtain ⟨h1, h2⟩ := cutN_len s at_ n
  unfold cutN cutStep
  split
  ·rw [List.length_append]; simp only [List.length_cons, List.length_nil]; omega
  ·rw [List.length_set]; omega
theorem cutN_size (s : ByteArray) (at_ : Int) : ∀ n, ∀ b ∈ cutN s at_ n, b.size ≤ n
 | 0, b, hb => by
  rw [List.mem_singleton.1 hb]
  exact Nat.le_refl _
 | n + 1, b, hb => by
  have ih := cutN_size s at_ n
  unfold cutN cutStep at hb
  split at hb
  ·rcases List.mem_append.1 hb with h | h
   ·have := ih b h; omega
   ·rw [List.mem_singleton.1 h]; exact Nat.zero_le _
  ·rcases List.mem_or_eq_of_mem_set hb with h | rfl
   ·have := ih b h; omega
   ·obtain ⟨h1, _⟩ := cutN_len s at_ n
    have h3 : (cutN s at_ n).getD ((cutN s at_ n).length - 1) ByteArray.empty ∈ cutN s at_ n := by
     rw [List.getD_eq_getElem?_getD, List.getElem?_eq_getElem (by omega : (cutN s at_ n).length - 1 < (cutN s at_ n).length)]
     exact List.getElem_mem _
    have := ih _ h3
    rw [ByteArray.size_append, strOfNums_size]
    simp only [List.length_cons, List.length_nil]
    omega
def spec_l1Cut.f (s : ByteArray) (at_ : Int) : Option (List ByteArray) := if s.size ≤ 4096 then some (cutN s at_ s.size) else none
theorem l1c_info : (Tryz.prog.info? 9).map (fun i => (i.zero, i.size, i.bytes)) = some (some (.string ⟨#[]⟩), 1, 16) := by kernel_rfl
set_option maxHeartbeats 8000000 in
set_option maxRecDepth 100000 in
theorem l1c_walk (a0 : ByteArray) (a1 : Int) (w : World) (hsz : a0.size ≤ 4096) :
  Calls Tryz.prog 48 #[.string a0, .int .u8 a1] w fun e w' => ∃ v0_ : Value, e = .returned v0_ ∧ Kd.R Kd.string 9 w' w.heap.size (fun _ => True) v0_ (cutN a0 a1 a0.size) ∧ Below w.heap.size w w' := by
 go_enter Tryz.func48, Tryz.ntmps48
 go_wp2_with ((with_reducible refine gate_dst (N := 7) rfl ?_); refine Kd.R_lit Kd.string w.heap.size 9 ?hg (N := 7) ?hd (xs := ([⟨#[]⟩] : List ByteArray)) (inner := [.string ⟨#[]⟩]) (ok := fun _ => True) (okp := fun _ => True) ?hr ?hp (fun _ hk => hk) trivial (Below.refl _ _) (Nat.le_refl _) (by simp) ?_; (case hd => rfl); (case hg => rfl); (case hr => first | (go_simp; done) | (go_simp; rfl)); (case hp => exact (Reps.one (show Kd.M Kd.string _ _ _ (⟨#[]⟩ : ByteArray) [.string ⟨#[]⟩] from rfl) (Reps.none _ _))); intro v1 w1 ho hb hg_ hn_; have HO := Aside0.mk ho; have HB := Aside0.mk hb; clear ho hb hg_ hn_)
 go_loopw [5, 6] (fun v5 v6 w' => ∃ x : Int, 0 ≤ x ∧ x ≤ (a0.size : Int) ∧ v6 = .int .i64 x ∧ Aside0 (Kd.R Kd.string 9 w' w.heap.size (fun _ => True) v5 (cutN a0 a1 x.toNat)) ∧ Aside0 (Below w.heap.size w w')) (fun _ v6 _ => a0.size - (intOf v6).toNat)
 case atStart => exact ⟨0, by omega, by omega, rfl, HO, HB⟩
 case round =>
  clear HO HB
  obtain ⟨x, hx0, hx1, rfl, HO, HB⟩ := hrel
  have hln := cutN_len a0 a1 x.toNat
  have hls := cutN_size a0 a1 x.toNat
  have HC := Aside0.mk (fun (h : x < (a0.size : Int)) => show cutN a0 a1 (x + 1).toNat = cutStep a1 (cutN a0 a1 x.toNat) (bt a0 x) by
   rw [show (x + 1).toNat = x.toNat + 1 by omega]
   show cutStep _ _ (bt a0 (x.toNat : Int)) = _
   rw [show ((x.toNat : Nat) : Int) = x by omega])
  by_cases hlt : x < (a0.size : Int)
  ·replace HC := Aside0.mk (HC.out hlt)
   obtain ⟨xs, hxs⟩ : ∃ xs, xs = cutN a0 a1 x.toNat := ⟨_, rfl⟩
   rw [← hxs] at HO HC hln hls
   obtain ⟨g, cap, rfl, _, _, _⟩ := Kd.R_form HO.out (by omega)
   have hx4 := bt_at a0 x
   have q0 : (0 ≤ x) = True := eq_true hx0
   have q1 : decide (x < (a0.size : Int)) = true := decide_eq_true hlt
   have q2 : (x < (a0.size : Int)) = True := eq_true hlt
   by_cases hb : bt a0 x = a1
   ·have cb : (bt a0 x == a1) = true := beq_iff_eq.mpr hb
    have HE := Aside0.mk (HC.out.trans (if_pos hb))
    have HN := Aside0.mk hln
    clear hb HC hln hls hxs
    go_wp2_with ((with_reducible refine gate_builtin (b := .append) (xs := #[.tmp 19, .tmp 20]) rfl ?_); at_builtin; refine Kd.R_append Kd.string (w0 := w) w.heap.size rfl (.tmp 19) (.tmp 20) 60 9 (.string ⟨#[]⟩) 16 rfl Tryz.underlying60 l1c_info rfl (by decide) (by omega) (.slice (some ⟨g, 0, none⟩) xs.length cap) xs (⟨#[]⟩ : ByteArray) [.string ⟨#[]⟩] (fun _ => True) (fun _ => False) rfl rfl ?aP (fun _ hk => hk.elim) ?aF ?aO ?aB ?aS ?aL ?_; (case aP => rfl); (case aB => exact HB.out); (case aF => exact (fun _ _ => trivial)); (case aO => exact HO.out); (case aS => exact HB.out.size); (case aL => have := HN.out; omega); intro v3 w3 ho hb hg hat; have HO2 := Aside0.mk ho; have HB2 := Aside0.mk hb; clear ho hb hg hat)
    rw [← HE.out] at HO2
    go_wp2
    go_roundw
    case rel => exact ⟨x + 1, by omega, by omega, by first | rfl | simp, HO2, HB2⟩
    case measure => simp [intOf]; omega
   ·have cb : (bt a0 x == a1) = false := beq_eq_false_iff_ne.mpr hb
    have HE := Aside0.mk (HC.out.trans (if_neg hb))
    obtain ⟨cur, hcu⟩ : ∃ c, c = xs.getD (xs.length - 1) ByteArray.empty := ⟨_, rfl⟩
    rw [← hcu] at HE
    have HCL := Aside0.mk (fun (W : World) (h : Kd.R Kd.string 9 W w.heap.size (fun _ => True) (.slice (some ⟨g, 0, none⟩) xs.length cap) xs) => show W.cell? ⟨g, xs.length - 1, none⟩ = some (.string cur) ∧ W.frozen? ⟨g, xs.length - 1, none⟩ = false by
     have h1 := Kd.R_celln ByteArray.empty h ((xs.length : Int) - 1) (by omega) (by omega)
     unfold rdOf at h1
     rw [show ((xs.length : Int) - 1).toNat = xs.length - 1 by omega, ← hcu] at h1
     exact h1)
    have q3 : (1 ≤ (xs.length : Int)) = True := eq_true (by omega)
    have q4 : ((xs.length : Int) - 1 < (xs.length : Int)) = True := eq_true (by omega)
    have hcur : cur.size ≤ x.toNat := by
     rw [hcu, List.getD_eq_getElem?_getD, List.getElem?_eq_getElem (by omega : xs.length - 1 < xs.length)]
     exact hls _ (List.getElem_mem _)
    have q5 : (9223372036854775807 < cur.size + 1) = False := eq_false (by omega)
    have q6 : (9223372036854775807 < cur.size + (strOfNums [bt a0 x]).size) = False := eq_false (by rw [strOfNums_size]; simp only [List.length_cons, List.length_nil]; omega)
    have hw1 : wrap64 ((xs.length : Int) - 1) = (xs.length : Int) - 1 := by unfold wrap64; omega
    clear hb HC hxs hls hcur hcu
    go_wp2
    refine start_ (n := 18) (S := fun w' => w'.cell? ⟨g, xs.length - 1, none⟩ = some (.string cur)) (ds := [17]) #[false, false, false, false, false, false, false, false, false, false, false, false, false, false, false, false, false, false] (by kernel_rfl) rfl rfl (HCL.out _ (Kd.R_drew HO.out)).1 (fun hHeld => ?_)
    have n0_ := Aside0.mk (Kd.R_drew HO.out)
    have n1_ := Aside0.mk (below_drew HB.out)
    clear HO HB
    generalize wr.drew = wd at n0_ n1_ hHeld ⊢
    have HO := n0_
    have HB := n1_
    clear n0_ n1_
    refine pure_ (i := 0) (N := some 22) (v := ?_) (a' := ?_) #[true, false, false, false, false, false, false, false, false, false, false, false, false, false, false, false, false, false] rfl rfl (by kernel_rfl) (fun _ _ _ h => h) (Or.inl ⟨by rfl, ?_⟩) ?_ ?_
    rotate_left
    ·intro w'
     go_simp
     with_reducible rfl
    rotate_left
    ·simp only [zp0, zp1, zp2, zp3, zp4, i64_w, i32_w]
     rfl
    refine pure_ (i := 1) (N := some 23) (v := ?_) (a' := ?_) #[true, true, false, false, false, false, false, false, false, false, false, false, false, false, false, false, false, false] rfl rfl (by kernel_rfl) (fun _ _ _ h => h) (Or.inl ⟨by rfl, ?_⟩) ?_ ?_
    rotate_left
    ·intro w'
     go_simp
     with_reducible rfl
    rotate_left
    ·simp only [zp0, zp1, zp2, zp3, zp4, i64_w, i32_w]
     rfl
    refine pure_ (i := 2) (N := some 24) (v := ?_) (a' := ?_) #[true, true, true, false, false, false, false, false, false, false, false, false, false, false, false, false, false, false] rfl rfl (by kernel_rfl) (fun _ _ _ h => h) (Or.inl ⟨by rfl, ?_⟩) ?_ ?_
    rotate_left
    ·intro w'
     go_simp
     with_reducible rfl
    rotate_left
    ·simp only [zp0, zp1, zp2, zp3, zp4, i64_w, i32_w]
     rfl
    refine pure_ (i := 3) (N := some 25) (v := ?_) (a' := ?_) #[true, true, true, true, false, false, false, false, false, false, false, false, false, false, false, false, false, false] rfl rfl (by kernel_rfl) (fun _ _ _ h => h) (Or.inl ⟨by rfl, ?_⟩) ?_ ?_
    rotate_left
    ·intro w'
     go_simp
     with_reducible rfl
    rotate_left
    ·simp only [zp0, zp1, zp2, zp3, zp4, i64_w, i32_w]
     rfl
    refine pure_ (i := 4) (N := some 26) (v := ?_) (a' := ?_) #[true, true, true, true, true, false, false, false, false, false, false, false, false, false, false, false, false, false] rfl rfl (by kernel_rfl) (fun _ _ _ h => h) (Or.inl ⟨by rfl, ?_⟩) ?_ ?_
    rotate_left
    ·intro w'
     go_simp
     with_reducible rfl
    rotate_left
    ·simp only [zp0, zp1, zp2, zp3, zp4, i64_w, i32_w]
     rfl
    refine pure_ (i := 5) (N := some 27) (v := ?_) (a' := ?_) #[true, true, true, true, true, true, false, false, false, false, false, false, false, false, false, false, false, false] rfl rfl (by kernel_rfl) (fun _ _ _ h => h) (Or.inl ⟨by rfl, ?_⟩) ?_ ?_
    rotate_left
    ·intro w'
     go_simp
     with_reducible rfl
    rotate_left
    ·simp only [zp0, zp1, zp2, zp3, zp4, i64_w, i32_w]
     rfl
    refine pure_ (i := 6) (N := some 28) (v := ?_) (a' := ?_) #[true, true, true, true, true, true, true, false, false, false, false, false, false, false, false, false, false, false] rfl rfl (by kernel_rfl) (fun _ _ _ h => h) (Or.inl ⟨by rfl, ?_⟩) ?_ ?_
    rotate_left
    ·intro w'
     go_simp
     with_reducible rfl
    rotate_left
    ·simp only [zp0, zp1, zp2, zp3, zp4, i64_w, i32_w]
     rfl
    refine pure_ (i := 7) (N := some 29) (v := ?_) (a' := ?_) #[true, true, true, true, true, true, true, true, false, false, false, false, false, false, false, false, false, false] rfl rfl (by kernel_rfl) (fun _ _ _ h => h) (Or.inl ⟨by rfl, ?_⟩) ?_ ?_
    rotate_left
    ·intro w'
     go_simp
     with_reducible rfl
    rotate_left
    ·simp only [zp0, zp1, zp2, zp3, zp4, i64_w, i32_w]
     rfl
    refine pure_ (i := 8) (N := some 30) (v := ?_) (a' := ?_) #[true, true, true, true, true, true, true, true, true, false, false, false, false, false, false, false, false, false] rfl rfl (by kernel_rfl) (fun _ _ _ h => h) (Or.inl ⟨by rfl, ?_⟩) ?_ ?_
    rotate_left
    ·intro w'
     go_simp
     with_reducible rfl
    rotate_left
    ·simp only [zp0, zp1, zp2, zp3, zp4, i64_w, i32_w]
     rfl
    refine take_ (i := 9) (N := some 31) (v := ?_) (a' := ?_) #[true, true, true, true, true, true, true, true, true, true, false, false, false, false, false, false, false, false] rfl rfl (by kernel_rfl) (fun _ _ _ h => h) (Or.inl ⟨by rfl, ?_⟩) hHeld ?_ ?_
    rotate_left
    ·intro w' s0
     go_simp
     with_reducible rfl
    rotate_left
    ·simp only [zp0, zp1, zp2, zp3, zp4, i64_w, i32_w]
     rfl
    refine pure_ (i := 10) (N := some 32) (v := ?_) (a' := ?_) #[true, true, true, true, true, true, true, true, true, true, true, false, false, false, false, false, false, false] rfl rfl (by kernel_rfl) (fun _ _ _ h => h) (Or.inl ⟨by rfl, ?_⟩) ?_ ?_
    rotate_left
    ·intro w'
     go_simp
     with_reducible rfl
    rotate_left
    ·simp only [zp0, zp1, zp2, zp3, zp4, i64_w, i32_w]
     rfl
    refine pure_ (i := 11) (N := some 33) (v := ?_) (a' := ?_) #[true, true, true, true, true, true, true, true, true, true, true, true, false, false, false, false, false, false] rfl rfl (by kernel_rfl) (fun _ _ _ h => h) (Or.inl ⟨by rfl, ?_⟩) ?_ ?_
    rotate_left
    ·intro w'
     go_simp
     with_reducible rfl
    rotate_left
    ·simp only [zp0, zp1, zp2, zp3, zp4, i64_w, i32_w]
     rfl
    refine pure_ (i := 12) (N := some 34) (v := ?_) (a' := ?_) #[true, true, true, true, true, true, true, true, true, true, true, true, true, false, false, false, false, false] rfl rfl (by kernel_rfl) (fun _ _ _ h => h) (Or.inl ⟨by rfl, ?_⟩) ?_ ?_
    rotate_left
    ·intro w'
     go_simp
     with_reducible rfl
    rotate_left
    ·simp only [zp0, zp1, zp2, zp3, zp4, i64_w, i32_w]
     rfl
    refine one_ (i := 13) (N := some 35) #[true, true, true, true, true, true, true, true, true, true, true, true, true, true, false, false, false, false] rfl rfl (by kernel_rfl) (by decide) (fun K hK => ?_)
    refine Kd.R_lit_step (Kd.int .u8) _ 5 ?hg (N := 35) ?hd (xs := ([bt a0 x] : List Int)) (inner := [.int .u8 (bt a0 x)]) (ok := fun _ => True) (okp := fun _ => True) ?hr ?hp (fun _ hk => hk) trivial (Below.refl _ _) (Nat.le_refl _) (by simp) ?_
    case hd => rfl
    case hg => rfl
    case hr => first | (go_simp; done) | (go_simp; rfl)
    case hp => exact (Reps.one (show Kd.M (Kd.int .u8) _ _ _ (bt a0 x) [.int .u8 (bt a0 x)] from rfl) (Reps.none _ _))
    intro v2 w2 ho2 hb2 hg2 hn2
    have HL := Aside0.mk ho2
    have n0_ := Aside0.mk (Kd.R_below HO.out hb2)
    have n1_ := Aside0.mk (below_step HB.out hb2)
    clear HO HB ho2 hb2 hg2 hn2
    have HO := n0_
    have HB := n1_
    clear n0_ n1_
    refine hK.out _ _ (HCL.out _ HO.out).1 (fun hHeld => ?_)
    clear hK K
    refine norm_ (a' := ?_) ?_ ?_
    rotate_left
    ·show Act.put _ (some 35) _ = _
     simp only [zp0, zp1, zp2, zp3, zp4, i64_w, i32_w]
     rfl
    refine one_ (i := 14) (N := some 36) #[true, true, true, true, true, true, true, true, true, true, true, true, true, true, true, false, false, false] rfl rfl (by kernel_rfl) (by decide) (fun K hK => ?_)
    have hcv := own_string (P := Tryz.prog) Tryz.underlying85 Tryz.underlying5 Tryz.underlying9 (Kd.own_of_R HL.out)
    refine value_ (w1 := ?_) (v := ?_) (by rfl) rfl ?_ ?_
    rotate_left 2
    ·go_simp
     constructor
     ·rfl
     ·rfl
    clear hcv
    refine hK.out _ _ (HCL.out _ HO.out).1 (fun hHeld => ?_)
    clear hK K
    refine norm_ (a' := ?_) ?_ ?_
    rotate_left
    ·show Act.put _ (some 36) _ = _
     simp only [zp0, zp1, zp2, zp3, zp4, i64_w, i32_w]
     rfl
    refine pure_ (i := 15) (N := some 37) (v := ?_) (a' := ?_) #[true, true, true, true, true, true, true, true, true, true, true, true, true, true, true, true, false, false] rfl rfl (by kernel_rfl) (fun _ _ _ h => h) (Or.inl ⟨by rfl, ?_⟩) ?_ ?_
    rotate_left
    ·intro w'
     go_simp
     with_reducible rfl
    rotate_left
    ·simp only [zp0, zp1, zp2, zp3, zp4, i64_w, i32_w]
     rfl
    refine pure_ (i := 16) (N := some 38) (v := ?_) (a' := ?_) #[true, true, true, true, true, true, true, true, true, true, true, true, true, true, true, true, true, false] rfl rfl (by kernel_rfl) (fun _ _ _ h => h) (Or.inl ⟨by rfl, ?_⟩) ?_ ?_
    rotate_left
    ·intro w'
     go_simp
     with_reducible rfl
    rotate_left
    ·simp only [zp0, zp1, zp2, zp3, zp4, i64_w, i32_w]
     rfl
    refine last_ (i := 17) (N := none) #[true, true, true, true, true, true, true, true, true, true, true, true, true, true, true, true, true, true] rfl rfl (by kernel_rfl) (by decide) (fun K hK => ?_)
    have hs1 := (HCL.out _ HO.out).1
    have hs2 := (HCL.out _ HO.out).2
    refine skip_ (w1 := ?_) (by rfl) rfl ?_ ?_
    rotate_left
    ·go_simp
     rfl
    refine hK.out _ _ ?_
    clear hK K
    refine done_ (by kernel_rfl) ?_
    have n0_ := Aside0.mk (Kd.R_putn HO.out ((xs.length : Int) - 1) (cur ++ strOfNums [bt a0 x]))
    rw [show ((xs.length : Int) - 1).toNat = xs.length - 1 by omega, ← HE.out] at n0_
    have n1_ := Aside0.mk (below_set (g := g) (j := xs.length - 1) (v := .string (cur ++ strOfNums [bt a0 x])) HB.out (Kd.R_base HO.out g rfl))
    try go_wp2
    go_roundw
    case rel => exact ⟨x + 1, by omega, by omega, by first | rfl | simp, n0_, n1_⟩
    case measure => simp [intOf]; omega
  ·have hxe : x = (a0.size : Int) := by omega
   have q1 : decide (x < (a0.size : Int)) = false := decide_eq_false hlt
   have HO2 := Aside0.mk (show Kd.R Kd.string 9 wr w.heap.size (fun _ => True) _ (cutN a0 a1 a0.size) by
    have h_ := HO.out
    rw [hxe, Int.toNat_natCast] at h_
    exact h_)
   clear hln hls HC hxe HO
   go_wp2
   go_ret
   exact ⟨_, rfl, HO2.out, HB.out⟩
theorem spec_l1Cut.calls (a0 : ByteArray) (a1 : Int) (r : List ByteArray) (w : World) (h : spec_l1Cut.f a0 a1 = some r) :
  Calls Tryz.prog 48 #[.string a0, .int .u8 a1] w fun e w' => ∃ v0_ : Value, e = .returned v0_ ∧ Kd.R Kd.string 9 w' w.heap.size (fun _ => True) v0_ r ∧ Below w.heap.size w w' := by
 unfold spec_l1Cut.f at h
 split at h
 ·rename_i hc; obtain rfl := Option.some.inj h; exact l1c_walk a0 a1 w hc
 ·cases h

/-! ### spec_l1Files: function 72 -/
def file1 (l : List S71) (i : Nat) : Bool := inB_ (l.getD i z71).f0 0 5 && (inB_ (l.getD i z71).f1 0 9 && (i == 0 || decide ((l.getD (i - 1) z71).f0 < (l.getD i z71).f0)))
def l1f (l : List S71) : Bool := okFrom (file1 l) l.length 0 && decide (l.length ≤ 2)
set_option maxHeartbeats 8000000 in
set_option maxRecDepth 100000 in
theorem l1f_calls (A0 : Option Addr) (c0 : Nat) (l0 : List S71) (w : World) (hr0 : Kd.C k71 w A0 l0.length l0) (hc0 : l0.length ≤ c0) :
  Calls Tryz.prog 72 #[.slice A0 l0.length c0] w fun e w' => e = .returned (.bool (l1f l0)) ∧ Drawn0 w w' := by
 have HR := Aside0.mk hr0
 have HC := Aside0.mk hc0
 have HL := Aside0.mk hr0.2.1
 clear hr0 hc0
 go_enter Tryz.func72, Tryz.ntmps72
 go_wp2
 go_loopw [3] (fun v3 w' => ∃ x : Int, 0 ≤ x ∧ x ≤ (l0.length : Int) ∧ v3 = .int .i64 x ∧ Aside0 (l1f l0 = (okFrom (file1 l0) (l0.length - x.toNat) x.toNat && decide (l0.length ≤ 2))) ∧ Drawn0 w w') (fun v3 _ => l0.length - (intOf v3).toNat)
 case atStart => exact ⟨0, by omega, by omega, rfl, ⟨rfl⟩, Drawn0.refl _⟩
 case round =>
  obtain ⟨x, hx0, hx1, rfl, HE, ⟨m1, rfl⟩⟩ := hrel
  by_cases hlt : x < (l0.length : Int)
  ·obtain ⟨ad, e, c0, c1⟩ := at_T71 HR.out x hx0 hlt
   cases e
   obtain ⟨F0, hF0⟩ : ∃ F0, F0 = (rd_T71 l0 x).f0 := ⟨_, rfl⟩
   obtain ⟨F1, hF1⟩ : ∃ F1, F1 = (rd_T71 l0 x).f1 := ⟨_, rfl⟩
   rw [← hF0] at c0
   rw [← hF1] at c1
   have HF := Aside0.mk (And.intro hF0 hF1)
   clear hF0 hF1
   obtain ⟨b1, hb1⟩ : ∃ b, inB_ F0 0 5 = b := ⟨_, rfl⟩
   obtain ⟨b2, hb2⟩ : ∃ b, inB_ F1 0 9 = b := ⟨_, rfl⟩
   have C1 := Aside0.mk (fun W => spec_l6In_b W F0 0 5 b1 hb1)
   have C2 := Aside0.mk (fun W => spec_l6In_b W F1 0 9 b2 hb2)
   have B1 := Aside0.mk hb1
   have B2 := Aside0.mk hb2
   clear hb1 hb2
   have q1 : decide (x < (l0.length : Int)) = true := decide_eq_true hlt
   have q2 : 0 ≤ x := hx0
   have HN := Aside0.mk (okFrom_at (p := file1 l0) hx0 hlt)
   have no : Aside0 (file1 l0 x.toNat = false → l1f l0 = false) := ⟨fun h_ => by rw [HE.out, HN.out, h_]; rfl⟩
   have yes : Aside0 (file1 l0 x.toNat = true → l1f l0 = (okFrom (file1 l0) (l0.length - (x + 1).toNat) (x + 1).toNat && decide (l0.length ≤ 2))) := ⟨fun h_ => by rw [HE.out, HN.out, h_]; rfl⟩
   clear HE HN
   have hb2 : b2 = true ∨ b2 = false := by cases b2 <;> simp
   have HL2 := HL.out
   cases b1 with
   | false =>
    go_wp2
    go_quiet ((go_at_call 29; (first | with_reducible refine (C1.out _).mono ?_ | with_reducible refine (C2.out _).mono ?_); exact fun _ _ h_ => ⟨h_.1, _, h_.2⟩))
    go_wp2
    go_ret
    rw [no.out (by unfold file1; rw [← show _ = (l0.getD x.toNat z71).f0 from HF.out.1, B1.out]; rfl)]
    exact ⟨by first | rfl | simp [*], by repeat (first | exact Drawn0.refl _ | apply Drawn0.step)⟩
   | true =>
    cases b2 with
    | false =>
     go_wp2
     go_quiet ((go_at_call 29; (first | with_reducible refine (C1.out _).mono ?_ | with_reducible refine (C2.out _).mono ?_); exact fun _ _ h_ => ⟨h_.1, _, h_.2⟩))
     go_wp2
     go_ret
     rw [no.out (by unfold file1; rw [← show _ = (l0.getD x.toNat z71).f0 from HF.out.1, ← show _ = (l0.getD x.toNat z71).f1 from HF.out.2, B1.out, B2.out]; rfl)]
     exact ⟨by first | rfl | simp [*], by repeat (first | exact Drawn0.refl _ | apply Drawn0.step)⟩
    | true =>
     by_cases hz : x ≤ 0
     ·have hx4 : decide (0 < x) = false := decide_eq_false (by omega)
      have Y := Aside0.mk (yes.out (by unfold file1; rw [← show _ = (l0.getD x.toNat z71).f0 from HF.out.1, ← show _ = (l0.getD x.toNat z71).f1 from HF.out.2, B1.out, B2.out, show (x.toNat == 0) = true by rw [beq_iff_eq]; omega]; rfl))
      clear yes no hz
      go_wp2
      go_quiet ((go_at_call 29; (first | with_reducible refine (C1.out _).mono ?_ | with_reducible refine (C2.out _).mono ?_); exact fun _ _ h_ => ⟨h_.1, _, h_.2⟩))
      go_wp2
      go_roundw
      case rel => exact ⟨x + 1, by omega, by omega, by first | rfl | simp, Y, by repeat (first | exact Drawn0.refl _ | apply Drawn0.step)⟩
      case measure => simp [intOf]; omega
     ·have g0 : 0 < x := by omega
      clear hz
      obtain ⟨y, hy⟩ : ∃ y, y = x - 1 := ⟨_, rfl⟩
      have hw : IntKind.i64.wrap (x - 1) = y := by rw [i64_w, hy]; unfold wrap64; omega
      obtain ⟨ad2, e2, d0, d1⟩ := at_T71 HR.out y (by omega) (by omega)
      obtain ⟨G0, hG0⟩ : ∃ G0, G0 = (rd_T71 l0 y).f0 := ⟨_, rfl⟩
      rw [← hG0] at d0
      cases e2
      have HG := Aside0.mk hG0
      clear hG0 d1
      have hx2 : 0 ≤ y := by omega
      have hx3 : decide (y < (l0.length : Int)) = true := decide_eq_true (by omega)
      have hx4 : decide (0 < x) = true := decide_eq_true g0
      have hx5 : y < (l0.length : Int) := by omega
      have HY := Aside0.mk hy
      clear hy
      have FD : Aside0 (file1 l0 x.toNat = decide (G0 < F0)) := ⟨by
       unfold file1
       rw [← show _ = (l0.getD x.toNat z71).f0 from HF.out.1, ← show _ = (l0.getD x.toNat z71).f1 from HF.out.2, B1.out, B2.out, show (x.toNat == 0) = false by rw [beq_eq_false_iff_ne]; omega, show x.toNat - 1 = y.toNat by have := HY.out; omega, ← show _ = (l0.getD y.toNat z71).f0 from HG.out]; rfl⟩
      by_cases hc : F0 ≤ G0
      ·have cb : decide (F0 ≤ G0) = true := decide_eq_true hc
       have N := Aside0.mk (no.out (by rw [FD.out, decide_eq_false (by omega)]))
       clear yes no hc
       go_wp2
       go_quiet ((go_at_call 29; (first | with_reducible refine (C1.out _).mono ?_ | with_reducible refine (C2.out _).mono ?_); exact fun _ _ h_ => ⟨h_.1, _, h_.2⟩))
       go_wp2
       go_ret
       rw [N.out]
       exact ⟨by first | rfl | simp [*], by repeat (first | exact Drawn0.refl _ | apply Drawn0.step)⟩
      ·have cb : decide (F0 ≤ G0) = false := decide_eq_false hc
       have Y := Aside0.mk (yes.out (by rw [FD.out, decide_eq_true (by omega)]))
       clear yes no hc
       go_wp2
       go_quiet ((go_at_call 29; (first | with_reducible refine (C1.out _).mono ?_ | with_reducible refine (C2.out _).mono ?_); exact fun _ _ h_ => ⟨h_.1, _, h_.2⟩))
       go_wp2
       go_roundw
       case rel => exact ⟨x + 1, by omega, by omega, by first | rfl | simp, Y, by repeat (first | exact Drawn0.refl _ | apply Drawn0.step)⟩
       case measure => simp [intOf]; omega
  ·have hxe : x = (l0.length : Int) := by omega
   have q1 : decide (x < (l0.length : Int)) = false := decide_eq_false hlt
   have E := Aside0.mk (show l1f l0 = decide ((l0.length : Int) ≤ 2) by
    rw [HE.out, hxe, Int.toNat_natCast, Nat.sub_self]
    simp only [okFrom, Bool.true_and]
    rw [Bool.eq_iff_iff, decide_eq_true_eq, decide_eq_true_eq]; omega)
   clear hxe HE
   go_wp2
   go_ret
   rw [E.out]
   exact ⟨by first | rfl | simp [*], by repeat (first | exact Drawn0.refl _ | apply Drawn0.step)⟩
def spec_l1Files.f (_k : Nat) (l0 : List S71) : Option Bool := some (l1f l0)
theorem spec_l1Files.mono : ∀ a0 k, LeO (spec_l1Files.f k a0) (spec_l1Files.f (k + 1) a0) := fun _ _ _ h => h
theorem spec_l1Files.calls (k : Nat) (A0 : Option Addr) (c0 : Nat) (l0 : List S71) (r : Bool) (w : World) (hr0 : Kd.C k71 w A0 l0.length l0) (hc0 : l0.length ≤ c0) (h : spec_l1Files.f k l0 = some r) :
  Calls Tryz.prog 72 #[.slice A0 l0.length c0] w fun e w' => e = .returned (.bool r) ∧ Below w.heap.size w w' := by
 obtain rfl := Option.some.inj h; refine (l1f_calls A0 c0 l0 w hr0 hc0).mono ?_; rintro e w' ⟨h1, n, rfl⟩; refine ⟨h1, ?_⟩; apply pw_below_drewN; exact Below.refl _ _

/-! ### spec_l1Deps: function 73 -/
def dep1 (name : Int) (l : List S73) (i : Nat) : Bool := inB_ (l.getD i z73).f0 1 4 && (!decide ((l.getD i z73).f0 = name) && (inB_ (l.getD i z73).f1 1 5 && (i == 0 || decide ((l.getD (i - 1) z73).f0 < (l.getD i z73).f0))))
def l1d (name : Int) (l : List S73) : Bool := okFrom (dep1 name l) l.length 0 && decide (l.length ≤ 2)
set_option maxHeartbeats 8000000 in
set_option maxRecDepth 100000 in
theorem l1d_calls (a0 : Int) (A0 : Option Addr) (c0 : Nat) (l0 : List S73) (w : World) (hr0 : Kd.C k73 w A0 l0.length l0) (hc0 : l0.length ≤ c0) :
  Calls Tryz.prog 73 #[.int .i64 a0, .slice A0 l0.length c0] w fun e w' => e = .returned (.bool (l1d a0 l0)) ∧ Below w.heap.size w w' := by
 have HR := Aside0.mk hr0
 have HC := Aside0.mk hc0
 have HL := Aside0.mk hr0.2.1
 have HB := Aside0.mk (Below.refl w.heap.size w)
 clear hr0 hc0
 go_enter Tryz.func73, Tryz.ntmps73
 go_wp2
 go_loopw [5] (fun v5 w' => ∃ x : Int, 0 ≤ x ∧ x ≤ (l0.length : Int) ∧ v5 = .int .i64 x ∧ Aside0 (l1d a0 l0 = (okFrom (dep1 a0 l0) (l0.length - x.toNat) x.toNat && decide (l0.length ≤ 2))) ∧ Aside0 (Below w.heap.size w w')) (fun v5 _ => l0.length - (intOf v5).toNat)
 case atStart => exact ⟨0, by omega, by omega, rfl, ⟨rfl⟩, HB⟩
 case round =>
  clear HB
  obtain ⟨x, hx0, hx1, rfl, HE, HB⟩ := hrel
  by_cases hlt : x < (l0.length : Int)
  ·obtain ⟨ad, e, c0, c1⟩ := at_T73 HR.out x hx0 hlt
   cases e
   replace c0 := (HB.out.cell (World.block_lt_of_cell? w _ c0)).trans c0
   replace c1 := (HB.out.cell (World.block_lt_of_cell? w _ c1)).trans c1
   obtain ⟨F0, hF0⟩ : ∃ F0, F0 = (rd_T73 l0 x).f0 := ⟨_, rfl⟩
   obtain ⟨F1, hF1⟩ : ∃ F1, F1 = (rd_T73 l0 x).f1 := ⟨_, rfl⟩
   rw [← hF0] at c0
   rw [← hF1] at c1
   have HF := Aside0.mk (And.intro hF0 hF1)
   clear hF0 hF1
   have q1 : decide (x < (l0.length : Int)) = true := decide_eq_true hlt
   have q2 : 0 ≤ x := hx0
   obtain ⟨b1, hb1⟩ : ∃ b, inB_ F0 1 4 = b := ⟨_, rfl⟩
   obtain ⟨b2, hb2⟩ : ∃ b, inB_ F1 1 5 = b := ⟨_, rfl⟩
   have C1 := Aside0.mk (fun W => spec_l6In_b W F0 1 4 b1 hb1)
   have C2 := Aside0.mk (fun W => spec_l6In_b W F1 1 5 b2 hb2)
   have B1 := Aside0.mk hb1
   have B2 := Aside0.mk hb2
   clear hb1 hb2
   have HN := Aside0.mk (okFrom_at (p := dep1 a0 l0) hx0 hlt)
   have no : Aside0 (dep1 a0 l0 x.toNat = false → l1d a0 l0 = false) := ⟨fun h_ => by rw [HE.out, HN.out, h_]; rfl⟩
   have yes : Aside0 (dep1 a0 l0 x.toNat = true → l1d a0 l0 = (okFrom (dep1 a0 l0) (l0.length - (x + 1).toNat) (x + 1).toNat && decide (l0.length ≤ 2))) := ⟨fun h_ => by rw [HE.out, HN.out, h_]; rfl⟩
   have D : Aside0 (dep1 a0 l0 x.toNat = (b1 && (!decide (F0 = a0) && (b2 && (x.toNat == 0 || decide ((l0.getD (x.toNat - 1) z73).f0 < F0)))))) := ⟨by
    unfold dep1
    rw [← show _ = (l0.getD x.toNat z73).f0 from HF.out.1, ← show _ = (l0.getD x.toNat z73).f1 from HF.out.2, B1.out, B2.out]⟩
   clear HE HN HF B1 B2
   have HL2 := HL.out
   go_wp2
   have n0_ := Aside0.mk (below_alloc HB.out (Obj.cells #[.int .i64 F0, .int .i64 F1] 73))
   have n1_ := (below_alloc (Below.refl wr.heap.size wr) (Obj.cells #[.int .i64 F0, .int .i64 F1] 73))
   have k0 : (wr.alloc (Obj.cells #[.int .i64 F0, .int .i64 F1] 73)).cell? ⟨wr.heap.size, 0, none⟩ = some (.int .i64 F0) := by simp
   have k1 : (wr.alloc (Obj.cells #[.int .i64 F0, .int .i64 F1] 73)).cell? ⟨wr.heap.size, 1, none⟩ = some (.int .i64 F1) := by simp
   clear HB c0 c1 n1_
   generalize wr.alloc (Obj.cells #[.int .i64 F0, .int .i64 F1] 73) = W at n0_ k0 k1 ⊢
   generalize wr.heap.size = gb at k0 k1 ⊢
   have HB := n0_
   clear n0_
   cases b1 with
   | false =>
    go_quiet ((go_at_call 29; (first | with_reducible refine (C1.out _).mono ?_ | with_reducible refine (C2.out _).mono ?_); exact fun _ _ h_ => ⟨h_.1, _, h_.2⟩))
    go_wp2
    go_ret
    rw [no.out (by rw [D.out]; rfl)]
    exact ⟨by first | rfl | simp [*], by repeat (first | exact HB.out | apply pw_below_drewN)⟩
   | true =>
    by_cases he : F0 = a0
    ·have N := Aside0.mk (no.out (by rw [D.out, decide_eq_true he]; rfl))
     have e1 : (F0 == a0) = true := beq_iff_eq.mpr he
     clear yes no D he
     go_quiet ((go_at_call 29; (first | with_reducible refine (C1.out _).mono ?_ | with_reducible refine (C2.out _).mono ?_); exact fun _ _ h_ => ⟨h_.1, _, h_.2⟩))
     go_wp2
     go_ret
     rw [N.out]
     exact ⟨by first | rfl | simp [*], by repeat (first | exact HB.out | apply pw_below_drewN)⟩
    ·have e1 : (F0 == a0) = false := beq_eq_false_iff_ne.mpr he
     replace D := Aside0.mk (D.out.trans (by rw [decide_eq_false he]))
     clear he
     cases b2 with
     | false =>
      go_quiet ((go_at_call 29; (first | with_reducible refine (C1.out _).mono ?_ | with_reducible refine (C2.out _).mono ?_); exact fun _ _ h_ => ⟨h_.1, _, h_.2⟩))
      go_wp2
      go_ret
      rw [no.out (by rw [D.out]; rfl)]
      exact ⟨by first | rfl | simp [*], by repeat (first | exact HB.out | apply pw_below_drewN)⟩
     | true =>
      by_cases hz : x ≤ 0
      ·have hx4 : decide (0 < x) = false := decide_eq_false (by omega)
       have Y := Aside0.mk (yes.out (by rw [D.out, show (x.toNat == 0) = true by rw [beq_iff_eq]; omega]; rfl))
       clear yes no D hz
       go_quiet ((go_at_call 29; (first | with_reducible refine (C1.out _).mono ?_ | with_reducible refine (C2.out _).mono ?_); exact fun _ _ h_ => ⟨h_.1, _, h_.2⟩))
       go_wp2
       go_roundw
       case rel => exact ⟨x + 1, by omega, by omega, by first | rfl | simp, Y, ⟨by repeat (first | exact HB.out | apply pw_below_drewN)⟩⟩
       case measure => simp [intOf]; omega
      ·have g0 : 0 < x := by omega
       clear hz
       obtain ⟨y, hy⟩ : ∃ y, y = x - 1 := ⟨_, rfl⟩
       have hw : IntKind.i64.wrap (x - 1) = y := by rw [i64_w, hy]; unfold wrap64; omega
       obtain ⟨ad2, e2, d0, d1⟩ := at_T73 HR.out y (by omega) (by omega)
       obtain ⟨G0, hG0⟩ : ∃ G0, G0 = (rd_T73 l0 y).f0 := ⟨_, rfl⟩
       obtain ⟨G1, hG1⟩ : ∃ G1, G1 = (rd_T73 l0 y).f1 := ⟨_, rfl⟩
       rw [← hG0] at d0
       rw [← hG1] at d1
       cases e2
       replace d0 := (HB.out.cell (World.block_lt_of_cell? w _ d0)).trans d0
       replace d1 := (HB.out.cell (World.block_lt_of_cell? w _ d1)).trans d1
       have HG := Aside0.mk hG0
       clear hG0 hG1
       have hx2 : 0 ≤ y := by omega
       have hx3 : decide (y < (l0.length : Int)) = true := decide_eq_true (by omega)
       have hx4 : decide (0 < x) = true := decide_eq_true g0
       have hx5 : y < (l0.length : Int) := by omega
       have HY := Aside0.mk hy
       clear hy
       have FD : Aside0 (dep1 a0 l0 x.toNat = decide (G0 < F0)) := ⟨by
        rw [D.out, show (x.toNat == 0) = false by rw [beq_eq_false_iff_ne]; omega, show x.toNat - 1 = y.toNat by have := HY.out; omega, ← show _ = (l0.getD y.toNat z73).f0 from HG.out]; rfl⟩
       by_cases hc : F0 ≤ G0
       ·have cb : decide (F0 ≤ G0) = true := decide_eq_true hc
        have N := Aside0.mk (no.out (by rw [FD.out, decide_eq_false (by omega)]))
        clear yes no hc D
        go_quiet ((go_at_call 29; (first | with_reducible refine (C1.out _).mono ?_ | with_reducible refine (C2.out _).mono ?_); exact fun _ _ h_ => ⟨h_.1, _, h_.2⟩))
        go_wp2
        go_ret
        rw [N.out]
        exact ⟨by first | rfl | simp [*], by repeat (first | exact HB.out | apply pw_below_drewN)⟩
       ·have cb : decide (F0 ≤ G0) = false := decide_eq_false hc
        have Y := Aside0.mk (yes.out (by rw [FD.out, decide_eq_true (by omega)]))
        clear yes no hc D
        go_quiet ((go_at_call 29; (first | with_reducible refine (C1.out _).mono ?_ | with_reducible refine (C2.out _).mono ?_); exact fun _ _ h_ => ⟨h_.1, _, h_.2⟩))
        go_wp2
        go_roundw
        case rel => exact ⟨x + 1, by omega, by omega, by first | rfl | simp, Y, ⟨by repeat (first | exact HB.out | apply pw_below_drewN)⟩⟩
        case measure => simp [intOf]; omega
  ·have hxe : x = (l0.length : Int) := by omega
   have q1 : decide (x < (l0.length : Int)) = false := decide_eq_false hlt
   have E := Aside0.mk (show l1d a0 l0 = decide ((l0.length : Int) ≤ 2) by
    rw [HE.out, hxe, Int.toNat_natCast, Nat.sub_self]
    simp only [okFrom, Bool.true_and]
    rw [Bool.eq_iff_iff, decide_eq_true_eq, decide_eq_true_eq]; omega)
   clear hxe HE
   go_wp2
   go_ret
   rw [E.out]
   exact ⟨by first | rfl | simp [*], by repeat (first | exact HB.out | apply pw_below_drewN)⟩
def spec_l1Deps.f (_k : Nat) (a0 : Int) (l1 : List S73) : Option Bool := some (l1d a0 l1)
theorem spec_l1Deps.mono : ∀ a0 a1 k, LeO (spec_l1Deps.f k a0 a1) (spec_l1Deps.f (k + 1) a0 a1) := fun _ _ _ _ h => h
theorem spec_l1Deps.calls (k : Nat) (a0 : Int) (A1 : Option Addr) (c1 : Nat) (l1 : List S73) (r : Bool) (w : World) (hr1 : Kd.C k73 w A1 l1.length l1) (hc1 : l1.length ≤ c1) (h : spec_l1Deps.f k a0 l1 = some r) :
  Calls Tryz.prog 73 #[.int .i64 a0, .slice A1 l1.length c1] w fun e w' => e = .returned (.bool r) ∧ Below w.heap.size w w' := by
 obtain rfl := Option.some.inj h; exact l1d_calls a0 A1 c1 l1 w hr1 hc1

/-! ### spec_PkgOk: function 58 -/
def spec_PkgOk.f (k : Nat) (a0_0 : Int) (a0_1 : Int) (l0_2 : List (S71)) (l0_3 : List (S73)) : Option (Bool) := (spec_l6In.f a0_0 1 4).bind fun t115 => (if t115 = true then ((spec_l6In.f a0_1 1 5).bind fun t116 => (if t116 = true then ((spec_l1Files.f k l0_2).bind fun t117 => (if t117 = true then ((spec_l1Deps.f k a0_0 l0_3).bind fun t118 => (some t118)) else (some false))) else (some false))) else (some false))
theorem spec_PkgOk.mono : ∀ a0 a1 a2 a3 k, LeO (spec_PkgOk.f k a0 a1 a2 a3) (spec_PkgOk.f (k + 1) a0 a1 a2 a3) := by
 intro a0 a1 a2 a3 k
 unfold spec_PkgOk.f
 repeat' with_reducible first | apply spec_l1Deps.mono | apply spec_l1Files.mono | exact LeO.refl _ | exact LeO.none _ | refine LeO.ite ?_ ?_ | refine LeO.bind ?_ (fun _ => ?_)
set_option maxHeartbeats 8000000 in
set_option maxRecDepth 100000 in
theorem spec_PkgOk.calls (k : Nat) (a0_0 : Int) (a0_1 : Int) (A0_2 : Option Addr) (c0_2 : Nat) (l0_2 : List (S71)) (A0_3 : Option Addr) (c0_3 : Nat) (l0_3 : List (S73)) (r : Bool) (w : World) (hr0_2 : Kd.C k71 w A0_2 l0_2.length l0_2) (hc0_2 : l0_2.length ≤ c0_2) (hr0_3 : Kd.C k73 w A0_3 l0_3.length l0_3) (hc0_3 : l0_3.length ≤ c0_3) (h : spec_PkgOk.f k a0_0 a0_1 l0_2 l0_3 = some r) :
  Calls Tryz.prog 58 #[.agg #[.int .i64 a0_0, .int .i64 a0_1, .slice A0_2 l0_2.length c0_2, .slice A0_3 l0_3.length c0_3]] w fun e w' => e = .returned (.bool r) ∧ Below w.heap.size w w' := by
 have hu29 := Tryz.underlying29; have HR0_2 := aM hr0_2; have HC0_2 := aM hc0_2; clear hr0_2 hc0_2; have HR0_3 := aM hr0_3; have HC0_3 := aM hc0_3; clear hr0_3 hc0_3; have HB := aM (Below.refl w.heap.size w); have H : ((spec_l6In.f a0_0 1 4).bind fun t115 => (if t115 = true then ((spec_l6In.f a0_1 1 5).bind fun t116 => (if t116 = true then ((spec_l1Files.f k l0_2).bind fun t117 => (if t117 = true then ((spec_l1Deps.f k a0_0 l0_3).bind fun t118 => (some t118)) else (some false))) else (some false))) else (some false))) = some r := h; clear h; replace H := Option.bind_eq_some_iff.mp H; obtain ⟨t115, A20, H⟩ := H; (try dsimp only at H); have A2 := aM A20; clear A20
 by_cases c3 : t115 = true
 ·subst c3; replace H := zy1 H; replace H := Option.bind_eq_some_iff.mp H; obtain ⟨t116, A40, H⟩ := H; (try dsimp only at H); have A4 := aM A40; clear A40
  by_cases c5 : t116 = true
  ·subst c5; replace H := zy1 H; replace H := Option.bind_eq_some_iff.mp H; obtain ⟨t117, A60, H⟩ := H; (try dsimp only at H); have A6 := aM A60; clear A60
   by_cases c7 : t117 = true
   ·subst c7; replace H := zy1 H; replace H := Option.bind_eq_some_iff.mp H; obtain ⟨t118, A80, H⟩ := H; (try dsimp only at H); have A8 := aM A80; clear A80; obtain rfl := Option.some.inj H
    go_enter Tryz.func58, Tryz.ntmps58
    go_wp2_with (first | ((with_reducible refine gate_dst (N := 1) rfl ?_); refine zbx 1 #[.int .i64 a0_0, .int .i64 a0_1, .slice A0_2 l0_2.length c0_2, .slice A0_3 l0_3.length c0_3] 29 ?_; intro gb114 hg w9 hbox hb; have _ := aM (below_step (zB HB.1) hb); have _ := aM (hbox); have _ := aM (zge hg (zB HB.1)); have _ := aM (zge hg (zB HB.1)); clear HB; rename_i HB BK114 GW114 GE114; clear hb hbox hg; obtain ⟨hcz10_0, hcz10_1, hcz10_2, hcz10_3, hfz10_0, hfz10_1, hfz10_2, hfz10_3⟩ := zc4f BK114.1) | ((with_reducible refine gate_callee (f := 29) rfl ?_); refine zgL (some 5) Tryz.func29 #[.int .i64 a0_0, .int .i64 1, .int .i64 4] ?_; (with_reducible refine (spec_l6In.calls a0_0 1 4 true _ A2.1).mono ?_); rintro e w' ⟨rfl, ⟨nd, rfl⟩⟩; refine ⟨_, rfl, ?_⟩) | (go_at_call 29; (with_reducible refine (spec_l6In.calls a0_1 1 5 true _ A4.1).mono ?_); rintro e w' ⟨rfl, ⟨nd, rfl⟩⟩) | (go_at_call 72; (with_reducible refine (spec_l1Files.calls k _ _ l0_2 true _ ?side1 ?side2 A6.1).mono ?_); (case side1 => exact (Kd.C_below HR0_2.1 (zB1 HB.1 GE114.1))); (case side2 => exact HC0_2.1); rintro e w11 ⟨rfl, hb⟩; have _ := aM (blk_below (zK BK114.1) hb); have _ := aM (below_step (zB1 HB.1 GE114.1) hb); clear BK114 HB; rename_i BK114 HB; (try clear hb); (try clear hb2); (try clear hk); (try clear hi); obtain ⟨hcz12_0, hcz12_1, hcz12_2, hcz12_3, hfz12_0, hfz12_1, hfz12_2, hfz12_3⟩ := zc4f BK114.1) | (go_at_call 73; (with_reducible refine (spec_l1Deps.calls k a0_0 _ _ l0_3 t118 _ ?side1 ?side2 A8.1).mono ?_); (case side1 => exact zC (Kd.C_below HR0_3.1 HB.1)); (case side2 => exact HC0_3.1); rintro e w13 ⟨rfl, hb⟩; have _ := aM (blk_below (zK BK114.1) hb); have _ := aM (below_step (zB1 HB.1 GE114.1) hb); clear BK114 HB; rename_i BK114 HB; (try clear hb); (try clear hb2); (try clear hk); (try clear hi)))
    go_ret
    exact ⟨by first | rfl | (simp [errW_none, errW_some] <;> rfl) | (simp [*, errW_none, errW_some] <;> rfl), by exact zB1 HB.1 GE114.1⟩
   ·replace c7 := Bool.eq_false_iff.mpr c7; subst c7; replace H := zy0 H; obtain rfl := Option.some.inj H
    go_enter Tryz.func58, Tryz.ntmps58
    go_wp2_with (first | ((with_reducible refine gate_dst (N := 1) rfl ?_); refine zbx 1 #[.int .i64 a0_0, .int .i64 a0_1, .slice A0_2 l0_2.length c0_2, .slice A0_3 l0_3.length c0_3] 29 ?_; intro gb114 hg w14 hbox hb; have _ := aM (below_step (zB HB.1) hb); have _ := aM (hbox); have _ := aM (zge hg (zB HB.1)); have _ := aM (zge hg (zB HB.1)); clear HB; rename_i HB BK114 GW114 GE114; clear hb hbox hg; obtain ⟨hcz15_0, hcz15_1, hcz15_2, hcz15_3, hfz15_0, hfz15_1, hfz15_2, hfz15_3⟩ := zc4f BK114.1) | ((with_reducible refine gate_callee (f := 29) rfl ?_); refine zgL (some 5) Tryz.func29 #[.int .i64 a0_0, .int .i64 1, .int .i64 4] ?_; (with_reducible refine (spec_l6In.calls a0_0 1 4 true _ A2.1).mono ?_); rintro e w' ⟨rfl, ⟨nd, rfl⟩⟩; refine ⟨_, rfl, ?_⟩) | (go_at_call 29; (with_reducible refine (spec_l6In.calls a0_1 1 5 true _ A4.1).mono ?_); rintro e w' ⟨rfl, ⟨nd, rfl⟩⟩) | (go_at_call 72; (with_reducible refine (spec_l1Files.calls k _ _ l0_2 false _ ?side1 ?side2 A6.1).mono ?_); (case side1 => exact (Kd.C_below HR0_2.1 (zB1 HB.1 GE114.1))); (case side2 => exact HC0_2.1); rintro e w16 ⟨rfl, hb⟩; have _ := aM (blk_below (zK BK114.1) hb); have _ := aM (below_step (zB1 HB.1 GE114.1) hb); clear BK114 HB; rename_i BK114 HB; (try clear hb); (try clear hb2); (try clear hk); (try clear hi)))
    go_ret
    exact ⟨by first | rfl | (simp [errW_none, errW_some] <;> rfl) | (simp [*, errW_none, errW_some] <;> rfl), by exact zB1 HB.1 GE114.1⟩
  ·replace c5 := Bool.eq_false_iff.mpr c5; subst c5; replace H := zy0 H; obtain rfl := Option.some.inj H
   go_enter Tryz.func58, Tryz.ntmps58
   go_wp2_with (first | ((with_reducible refine gate_dst (N := 1) rfl ?_); refine zbx 1 #[.int .i64 a0_0, .int .i64 a0_1, .slice A0_2 l0_2.length c0_2, .slice A0_3 l0_3.length c0_3] 29 ?_; intro gb114 hg w17 hbox hb; have _ := aM (below_step (zB HB.1) hb); have _ := aM (hbox); have _ := aM (zge hg (zB HB.1)); have _ := aM (zge hg (zB HB.1)); clear HB; rename_i HB BK114 GW114 GE114; clear hb hbox hg; obtain ⟨hcz18_0, hcz18_1, hcz18_2, hcz18_3, hfz18_0, hfz18_1, hfz18_2, hfz18_3⟩ := zc4f BK114.1) | ((with_reducible refine gate_callee (f := 29) rfl ?_); refine zgL (some 5) Tryz.func29 #[.int .i64 a0_0, .int .i64 1, .int .i64 4] ?_; (with_reducible refine (spec_l6In.calls a0_0 1 4 true _ A2.1).mono ?_); rintro e w' ⟨rfl, ⟨nd, rfl⟩⟩; refine ⟨_, rfl, ?_⟩) | (go_at_call 29; (with_reducible refine (spec_l6In.calls a0_1 1 5 false _ A4.1).mono ?_); rintro e w' ⟨rfl, ⟨nd, rfl⟩⟩))
   go_ret
   exact ⟨by first | rfl | (simp [errW_none, errW_some] <;> rfl) | (simp [*, errW_none, errW_some] <;> rfl), by exact zB1 HB.1 GE114.1⟩
 ·replace c3 := Bool.eq_false_iff.mpr c3; subst c3; replace H := zy0 H; obtain rfl := Option.some.inj H
  go_enter Tryz.func58, Tryz.ntmps58
  go_wp2_with (first | ((with_reducible refine gate_dst (N := 1) rfl ?_); refine zbx 1 #[.int .i64 a0_0, .int .i64 a0_1, .slice A0_2 l0_2.length c0_2, .slice A0_3 l0_3.length c0_3] 29 ?_; intro gb114 hg w19 hbox hb; have _ := aM (below_step (zB HB.1) hb); have _ := aM (hbox); have _ := aM (zge hg (zB HB.1)); have _ := aM (zge hg (zB HB.1)); clear HB; rename_i HB BK114 GW114 GE114; clear hb hbox hg; obtain ⟨hcz20_0, hcz20_1, hcz20_2, hcz20_3, hfz20_0, hfz20_1, hfz20_2, hfz20_3⟩ := zc4f BK114.1) | ((with_reducible refine gate_callee (f := 29) rfl ?_); refine zgL (some 5) Tryz.func29 #[.int .i64 a0_0, .int .i64 1, .int .i64 4] ?_; (with_reducible refine (spec_l6In.calls a0_0 1 4 false _ A2.1).mono ?_); rintro e w' ⟨rfl, ⟨nd, rfl⟩⟩; refine ⟨_, rfl, ?_⟩))
  go_ret
  exact ⟨by first | rfl | (simp [errW_none, errW_some] <;> rfl) | (simp [*, errW_none, errW_some] <;> rfl), by exact zB1 HB.1 GE114.1⟩

/-! ### spec_l6Dec: function 60 -/
def spec_l6Dec.f : Nat → Int → Option (ByteArray)
 | 0, _ => none
 | k + 1, a0 => if a0 < (-9223372036854775807) then (some (⟨#[45, 57, 50, 50, 51, 51, 55, 50, 48, 51, 54, 56, 53, 52, 55, 55, 53, 56, 48, 56]⟩ : ByteArray)) else (if a0 < 0 then ((spec_l6Dec.f k (wrap64 (-a0))).bind fun t119 => (if 1 + t119.size ≤ 9223372036854775807 then (some ((⟨#[45]⟩ : ByteArray) ++ t119)) else (none))) else (if a0 < 10 then (some (strOfNums (([(wrap64 (48 + a0)) % 256] : List Int)))) else ((spec_l6Dec.f k (wrap64 (Int.tdiv a0 10))).bind fun t123 => ((some (([(wrap64 (48 + (Int.tmod a0 10))) % 256] : List Int) : List Int)).bind fun y124 => (if t123.size + (strOfNums y124).size ≤ 9223372036854775807 then (some (t123 ++ (strOfNums y124))) else (none))))))
theorem spec_l6Dec.mono_l : ∀ k, (∀ y0, LeO (spec_l6Dec.f k y0) (spec_l6Dec.f (k + 1) y0))
 | 0 => fun _ r h => by simp [spec_l6Dec.f] at h
 | k + 1 => by
  have ih0 := spec_l6Dec.mono_l k
  ·intro y0
   unfold spec_l6Dec.f
   repeat' first
   | (with_reducible exact ih0 _)
   | (with_reducible exact LeO.refl _)
   | (with_reducible exact LeO.none _)
   | (with_reducible refine LeO.ite ?_ ?_)
   | (with_reducible refine LeO.bind ?_ (fun _ => ?_))
   | exact ih0 _
   | exact LeO.none _
   | refine LeO.ite ?_ ?_
   | refine LeO.bind ?_ (fun _ => ?_)
theorem spec_l6Dec.mono : ∀ a0 k, LeO (spec_l6Dec.f k a0) (spec_l6Dec.f (k + 1) a0) := by
 intro a0 k
 have ih0 := spec_l6Dec.mono_l k
 exact ih0 a0
def spec_l6Dec.T7 : Bool × List (List Nat × List Nat) := (true, [([], []), ([0], [0]), ([1], [1]), ([], []), ([3], [3]), ([4], [4]), ([5], [5]), ([6], [6]), ([7], [7]), ([2, 8], [2, 8]), ([9, 2, 0, 1, 2, 3, 4, 5, 6, 7, 8, 9], [9])])
def spec_l6Dec.B7 : List Nat := [0, 1, 3, 0, 8, 24, 56, 120, 248, 511, 1023]
theorem spec_l6Dec.tab7 : rtab .any (opsOf Tryz.f60 7) = spec_l6Dec.T7 := by kernel_rfl
theorem spec_l6Dec.bits7 : waitsOk spec_l6Dec.T7.2 spec_l6Dec.B7 = true := by kernel_rfl
set_option maxHeartbeats 8000000 in
set_option maxRecDepth 100000 in
theorem spec_l6Dec.calls (k : Nat) : ∀ (a0 : Int) (r : ByteArray) (w : World) (h : spec_l6Dec.f k a0 = some r),
  Calls Tryz.prog 60 #[.int .i64 a0] w fun e w' => e = .returned (.string r) ∧ Below w.heap.size w w' := by
 induction k using Nat.strongRecOn with
 | _ k ih =>
 intro a0 r w h; cases k with
 | zero => exact absurd h (by simp [spec_l6Dec.f])
 | succ k =>
 simp only [spec_l6Dec.f] at h; have HB := aM (Below.refl w.heap.size w); have H : (if a0 < (-9223372036854775807) then (some (⟨#[45, 57, 50, 50, 51, 51, 55, 50, 48, 51, 54, 56, 53, 52, 55, 55, 53, 56, 48, 56]⟩ : ByteArray)) else (if a0 < 0 then ((spec_l6Dec.f k (wrap64 (-a0))).bind fun t119 => (if 1 + t119.size ≤ 9223372036854775807 then (some ((⟨#[45]⟩ : ByteArray) ++ t119)) else (none))) else (if a0 < 10 then (some (strOfNums (([(wrap64 (48 + a0)) % 256] : List Int)))) else ((spec_l6Dec.f k (wrap64 (Int.tdiv a0 10))).bind fun t123 => ((some (([(wrap64 (48 + (Int.tmod a0 10))) % 256] : List Int) : List Int)).bind fun y124 => (if t123.size + (strOfNums y124).size ≤ 9223372036854775807 then (some (t123 ++ (strOfNums y124))) else (none))))))) = some r := h; clear h
 by_cases c2 : a0 < (-9223372036854775807)
 ·rw [if_pos c2] at H; have c2b0 : decide (a0 < (-9223372036854775807)) = true := decide_eq_true c2; clear c2; obtain rfl := Option.some.inj H
  go_enter Tryz.func60, Tryz.ntmps60
  go_wp2
  go_ret
  exact ⟨by first | rfl | (simp [errW_none, errW_some] <;> rfl) | (simp [*, errW_none, errW_some] <;> rfl), by exact zB HB.1⟩
 ·rw [if_neg c2] at H; have c2b0 : decide (a0 < (-9223372036854775807)) = false := decide_eq_false c2; clear c2
  by_cases c3 : a0 < 0
  ·rw [if_pos c3] at H; have c3b0 : decide (a0 < 0) = true := decide_eq_true c3; clear c3; replace H := Option.bind_eq_some_iff.mp H; obtain ⟨t119, A40, H⟩ := H; (try dsimp only at H); have A4 := aM A40; clear A40; replace H := zif H; obtain ⟨c5, H⟩ := H; have c5b0 := eq_true c5; have c5b1 : decide (1 + t119.size ≤ 9223372036854775807) = true := decide_eq_true c5
   try have c5b2 : (9223372036854775807 < 1 + t119.size) = False := eq_false (Nat.not_lt.2 c5)
   obtain rfl := Option.some.inj H
   go_enter Tryz.func60, Tryz.ntmps60
   go_wp2_with (first | ((with_reducible refine gate_callee (f := 60) rfl ?_); refine zgL (some 9) Tryz.func60 #[.int .i64 (wrap64 (-a0))] ?_; (with_reducible refine (ih k (by omega) (wrap64 (-a0)) t119 _ A4.1).mono ?_); rintro e w6 ⟨rfl, hb⟩; refine ⟨_, rfl, ?_⟩; have _ := aM (below_step (zB HB.1) hb); clear HB; rename_i HB; (try clear hb); (try clear hb2); (try clear hk); (try clear hi)))
   go_ret
   exact ⟨by first | rfl | (simp [errW_none, errW_some] <;> rfl) | (simp [*, errW_none, errW_some] <;> rfl), by exact zB HB.1⟩
  ·rw [if_neg c3] at H; have c3b0 : decide (a0 < 0) = false := decide_eq_false c3; clear c3
   by_cases c7 : a0 < 10
   ·rw [if_pos c7] at H; have c7b0 : decide (a0 < 10) = true := decide_eq_true c7; clear c7; obtain ⟨y120, hy120⟩ : ∃ y_ : List Int, y_ = (([(wrap64 (48 + a0)) % 256] : List Int)) := ⟨_, rfl⟩; (first | (replace H := zbs hy120 H; try dsimp only at H) | rw [← hy120] at H); have Ny120 := aM hy120; clear hy120; obtain rfl := Option.some.inj H
    go_enter Tryz.func60, Tryz.ntmps60
    go_wp2_with (first | ((with_reducible refine gate_dst (N := 16) rfl ?_); refine Kd.R_lit (Kd.int .u8) _ 5 ?hg (N := 16) ?hd (xs := ([(wrap64 (48 + a0)) % 256] : List Int)) (inner := [.int .u8 ((wrap64 (48 + a0)) % 256)]) (ok := fun _ => True) (okp := fun _ => True) ?hr ?hp (fun _ hk => hk) trivial (Below.refl _ _) (Nat.le_refl _) (by simp) ?_; (case hd => rfl); (case hg => rfl); (case hr => first | (go_simp; done) | (go_simp; rfl)); (case hp => exact (Reps.one (show Kd.M (Kd.int .u8) _ _ _ ((wrap64 (48 + a0)) % 256) [.int .u8 ((wrap64 (48 + a0)) % 256)] from rfl) (Reps.none _ _))); intro v121 w8 ho9 hb hg_ hnew_; clear hg_ hnew_; (first | rw [← Ny120.1] at ho9 | (simp only [Int.reduceToNat] at ho9; rw [← Ny120.1] at ho9)); have _ := aM (Kd.R_lower ho9 (below_size (zB HB.1))); have _ := aM (below_step (zB HB.1) hb); clear HB; rename_i HO122 HB; clear hb ho9; have hcv10 := own_string (P := Tryz.prog) Tryz.underlying85 Tryz.underlying5 Tryz.underlying9 (Kd.own_of_R HO122.1)))
    go_ret
    exact ⟨by first | rfl | (simp [errW_none, errW_some] <;> rfl) | (simp [*, errW_none, errW_some] <;> rfl), by exact zB HB.1⟩
   ·rw [if_neg c7] at H; have c7b0 : decide (a0 < 10) = false := decide_eq_false c7; clear c7; replace H := Option.bind_eq_some_iff.mp H; obtain ⟨t123, A110, H⟩ := H; (try dsimp only at H); have A11 := aM A110; clear A110; obtain ⟨y124, hy124⟩ : ∃ y_ : List Int, y_ = (([(wrap64 (48 + (Int.tmod a0 10))) % 256] : List Int)) := ⟨_, rfl⟩; (first | (replace H := zbs hy124 H; try dsimp only at H) | rw [← hy124] at H); have Ny124 := aM hy124; clear hy124; replace H := zif H; obtain ⟨c12, H⟩ := H; have c12b0 := eq_true c12; have c12b1 : decide (t123.size + (strOfNums y124).size ≤ 9223372036854775807) = true := decide_eq_true c12
    try have c12b2 : (9223372036854775807 < t123.size + (strOfNums y124).size) = False := eq_false (Nat.not_lt.2 c12)
    obtain rfl := Option.some.inj H
    go_enter Tryz.func60, Tryz.ntmps60
    try go_wp2
    have _ := aM (below_drew1 HB.1); clear HB; rename_i HB
    refine start_ (n := 11) (S := fun w' => True) (ds := []) (zA 11 0) (by kernel_rfl) rfl rfl trivial (fun hHeld => ?_); refine with_tabW spec_l6Dec.tab7 spec_l6Dec.bits7 (fun HT_ HW_ => ?_)
    generalize w.drew = w13 at HB hHeld ⊢; refine zu HT_ 0 (some 18) (zA 11 1) ?_; refine zu HT_ 1 (some 19) (zA 11 3) ?_; refine zu HT_ 3 (some 21) (zA 11 11) ?_; refine zu HT_ 4 (some 22) (zA 11 27) ?_; refine zu HT_ 5 (some 23) (zA 11 59) ?_; refine zu HT_ 6 (some 24) (zA 11 123) ?_; refine join_ (σ := Value) 2 (zA 11 511) (fun s_ => [(20, .string t123), (25, s_), (26, .string (strOfNums y124))]) (fun s_ w' => (Kd.R (Kd.int .u8) 5 w' w.heap.size (fun _ => True) s_ y124) ∧ (Below w.heap.size w w')) ?_ ?_; rotate_left
    ·intro hCont; refine two_ (i := 2) (j := 7) (Ni := some 20) (Nj := some 25) (zA 11 127) (zA 11 251) rfl rfl rfl rfl (two_of HT_.1 (by kernel_rfl)) (by decide) (by decide) (fun K hK => ?_) (fun K hK => ?_)
     ·skip
      refine zg Tryz.func60 #[.int .i64 (wrap64 (Int.tdiv a0 10))] ?_; (with_reducible refine (ih k (by omega) (wrap64 (Int.tdiv a0 10)) t123 _ A11.1).mono ?_); rintro e w14 ⟨rfl, hb⟩; refine ⟨_, rfl, ?_⟩; have _ := aM (below_step (zB HB.1) hb); clear HB; rename_i HB; (try clear hb); (try clear hb2); (try clear hk); (try clear hi); refine hK.out _ _ trivial (fun hHeld => ?_); clear hK K; refine zn (some 20) ?_; refine zo HT_ 7 (some 25) (zA 11 255) (fun K hK => ?_)
      refine Kd.R_lit_step (Kd.int .u8) _ 5 ?hg (N := 25) ?hd (xs := ([(wrap64 (48 + (Int.tmod a0 10))) % 256] : List Int)) (inner := [.int .u8 ((wrap64 (48 + (Int.tmod a0 10))) % 256)]) (ok := fun _ => True) (okp := fun _ => True) ?hr ?hp (fun _ hk => hk) trivial (Below.refl _ _) (Nat.le_refl _) (by simp) ?_; (case hd => rfl); (case hg => rfl); (case hr => first | (go_simp; done) | (go_simp; rfl)); (case hp => exact (Reps.one (show Kd.M (Kd.int .u8) _ _ _ ((wrap64 (48 + (Int.tmod a0 10))) % 256) [.int .u8 ((wrap64 (48 + (Int.tmod a0 10))) % 256)] from rfl) (Reps.none _ _)))
      intro v125 w15 ho16 hb hg_ hnew_; clear hg_ hnew_; (first | rw [← Ny124.1] at ho16 | (simp only [Int.reduceToNat] at ho16; rw [← Ny124.1] at ho16)); have _ := aM (Kd.R_lower ho16 (below_size (zB HB.1))); have _ := aM (below_step (zB HB.1) hb); clear HB; rename_i HO126 HB; clear hb ho16; refine hK.out _ _ trivial (fun hHeld => ?_); clear hK K; refine zn (some 25) ?_; refine zo HT_ 8 (some 26) (zA 11 511) (fun K hK => ?_); have hcv17 := own_string (P := Tryz.prog) Tryz.underlying85 Tryz.underlying5 Tryz.underlying9 (Kd.own_of_R HO126.1); refine value_ (w1 := ?_) (v := ?_) (by rfl) rfl ?_ ?_; rotate_left 2
      ·go_simp
       constructor
       ·rfl
       ·rfl
      clear hcv17; refine hK.out _ _ trivial (fun hHeld => ?_); clear hK K; refine zn (some 26) ?_; exact norm_ (by simp only [putAll, zp0, zp1, zp2, zp3, zp4]) (hCont (v125) _ ⟨(zR HO126.1), (zB HB.1)⟩)
     ·skip
      refine Kd.R_lit_step (Kd.int .u8) _ 5 ?hg (N := 25) ?hd (xs := ([(wrap64 (48 + (Int.tmod a0 10))) % 256] : List Int)) (inner := [.int .u8 ((wrap64 (48 + (Int.tmod a0 10))) % 256)]) (ok := fun _ => True) (okp := fun _ => True) ?hr ?hp (fun _ hk => hk) trivial (Below.refl _ _) (Nat.le_refl _) (by simp) ?_; (case hd => rfl); (case hg => rfl); (case hr => first | (go_simp; done) | (go_simp; rfl)); (case hp => exact (Reps.one (show Kd.M (Kd.int .u8) _ _ _ ((wrap64 (48 + (Int.tmod a0 10))) % 256) [.int .u8 ((wrap64 (48 + (Int.tmod a0 10))) % 256)] from rfl) (Reps.none _ _)))
      intro v125 w14 ho15 hb hg_ hnew_; clear hg_ hnew_; (first | rw [← Ny124.1] at ho15 | (simp only [Int.reduceToNat] at ho15; rw [← Ny124.1] at ho15)); have _ := aM (Kd.R_lower ho15 (below_size (zB HB.1))); have _ := aM (below_step (zB HB.1) hb); clear HB; rename_i HO126 HB; clear hb ho15; refine hK.out _ _ trivial (fun hHeld => ?_); clear hK K; refine zn (some 25) ?_; refine two_ (i := 2) (j := 8) (Ni := some 20) (Nj := some 26) (zA 11 255) (zA 11 507) rfl rfl rfl rfl (two_of HT_.1 (by kernel_rfl)) (by decide) (by decide) (fun K hK => ?_) (fun K hK => ?_)
      ·skip
       refine zg Tryz.func60 #[.int .i64 (wrap64 (Int.tdiv a0 10))] ?_; (with_reducible refine (ih k (by omega) (wrap64 (Int.tdiv a0 10)) t123 _ A11.1).mono ?_); rintro e w16 ⟨rfl, hb⟩; refine ⟨_, rfl, ?_⟩; have _ := aM (Kd.R_below (zR HO126.1) hb); have _ := aM (below_step (zB HB.1) hb); clear HO126 HB; rename_i HO126 HB; (try clear hb); (try clear hb2); (try clear hk); (try clear hi); refine hK.out _ _ trivial (fun hHeld => ?_); clear hK K; refine zn (some 20) ?_; refine zo HT_ 8 (some 26) (zA 11 511) (fun K hK => ?_); have hcv17 := own_string (P := Tryz.prog) Tryz.underlying85 Tryz.underlying5 Tryz.underlying9 (Kd.own_of_R HO126.1); refine value_ (w1 := ?_) (v := ?_) (by rfl) rfl ?_ ?_; rotate_left 2
       ·go_simp
        constructor
        ·rfl
        ·rfl
       clear hcv17; refine hK.out _ _ trivial (fun hHeld => ?_); clear hK K; refine zn (some 26) ?_; exact norm_ (by simp only [putAll, zp0, zp1, zp2, zp3, zp4]) (hCont (v125) _ ⟨(zR HO126.1), (zB HB.1)⟩)
      ·skip
       have hcv16 := own_string (P := Tryz.prog) Tryz.underlying85 Tryz.underlying5 Tryz.underlying9 (Kd.own_of_R HO126.1); refine value_ (w1 := ?_) (v := ?_) (by rfl) rfl ?_ ?_; rotate_left 2
       ·go_simp
        constructor
        ·rfl
        ·rfl
       clear hcv16; refine hK.out _ _ trivial (fun hHeld => ?_); clear hK K; refine zn (some 26) ?_; refine zo HT_ 2 (some 20) (zA 11 511) (fun K hK => ?_); refine zg Tryz.func60 #[.int .i64 (wrap64 (Int.tdiv a0 10))] ?_; (with_reducible refine (ih k (by omega) (wrap64 (Int.tdiv a0 10)) t123 _ A11.1).mono ?_); rintro e w17 ⟨rfl, hb⟩; refine ⟨_, rfl, ?_⟩; have _ := aM (Kd.R_below (zR HO126.1) hb); have _ := aM (below_step (zB HB.1) hb); clear HO126 HB; rename_i HO126 HB; (try clear hb); (try clear hb2); (try clear hk); (try clear hi); refine hK.out _ _ trivial (fun hHeld => ?_); clear hK K; refine zn (some 20) ?_; exact norm_ (by simp only [putAll, zp0, zp1, zp2, zp3, zp4]) (hCont (v125) _ ⟨(zR HO126.1), (zB HB.1)⟩)
    rintro v125 w18 ⟨h0_, h1_⟩; have n0_ : Aside0 (Kd.R (Kd.int .u8) 5 w18 w.heap.size (fun _ => True) v125 y124) := ⟨h0_⟩; have n1_ : Aside0 (Below w.heap.size w w18) := ⟨h1_⟩; clear HB h0_ h1_; have HO126 := n0_; have HB := n1_; clear n0_ n1_; have hHeld := trivial; refine norm_ (a' := ?_) ?_ ?_; rotate_left
    ·simp only [putAll, zp0, zp1, zp2, zp3, zp4]; rfl
    refine zu HT_ 9 (some 27) (zA 11 1023) ?_; refine zu HT_ 10 (some 2) (zA 11 2047) ?_; refine done_ (done_of HT_.1 (by kernel_rfl)) ?_
    try go_wp2
    go_ret
    exact ⟨by first | rfl | (simp [errW_none, errW_some] <;> rfl) | (simp [*, errW_none, errW_some] <;> rfl), by exact zB HB.1⟩

/-! ### spec_l1Name: function 59 -/
def spec_l1Name.f (k : Nat) (a0 : Int) (a1 : Int) : Option (ByteArray) := (some (([(wrap64 ((wrap64 (97 + a0)) - 1)) % 256] : List Int) : List Int)).bind fun y127 => ((spec_l6Dec.f k a1).bind fun t130 => (if (strOfNums y127).size + t130.size ≤ 9223372036854775807 then (some ((strOfNums y127) ++ t130)) else (none)))
theorem spec_l1Name.mono : ∀ a0 a1 k, LeO (spec_l1Name.f k a0 a1) (spec_l1Name.f (k + 1) a0 a1) := by
 intro a0 a1 k
 unfold spec_l1Name.f
 repeat' with_reducible first | apply spec_l6Dec.mono | exact LeO.refl _ | exact LeO.none _ | refine LeO.ite ?_ ?_ | refine LeO.bind ?_ (fun _ => ?_)
def spec_l1Name.T1 : Bool × List (List Nat × List Nat) := (true, [([], []), ([0], [0]), ([1], [1]), ([2], [2]), ([3], [3]), ([4], [4]), ([], []), ([6], [6]), ([5, 7], [5, 7]), ([8, 7, 0, 1, 2, 3, 4, 5, 6, 7, 8], [8])])
def spec_l1Name.B1 : List Nat := [0, 1, 3, 7, 15, 31, 0, 64, 255, 511]
theorem spec_l1Name.tab1 : rtab .any (opsOf Tryz.f59 1) = spec_l1Name.T1 := by kernel_rfl
theorem spec_l1Name.bits1 : waitsOk spec_l1Name.T1.2 spec_l1Name.B1 = true := by kernel_rfl
set_option maxHeartbeats 8000000 in
set_option maxRecDepth 100000 in
theorem spec_l1Name.calls (k : Nat) (a0 : Int) (a1 : Int) (r : ByteArray) (w : World) (h : spec_l1Name.f k a0 a1 = some r) :
  Calls Tryz.prog 59 #[.int .i64 a0, .int .i64 a1] w fun e w' => e = .returned (.string r) ∧ Below w.heap.size w w' := by
 have HB := aM (Below.refl w.heap.size w); have H : ((some (([(wrap64 ((wrap64 (97 + a0)) - 1)) % 256] : List Int) : List Int)).bind fun y127 => ((spec_l6Dec.f k a1).bind fun t130 => (if (strOfNums y127).size + t130.size ≤ 9223372036854775807 then (some ((strOfNums y127) ++ t130)) else (none)))) = some r := h; clear h; obtain ⟨y127, hy127⟩ : ∃ y_ : List Int, y_ = (([(wrap64 ((wrap64 (97 + a0)) - 1)) % 256] : List Int)) := ⟨_, rfl⟩; (first | (replace H := zbs hy127 H; try dsimp only at H) | rw [← hy127] at H); have Ny127 := aM hy127; clear hy127; replace H := Option.bind_eq_some_iff.mp H; obtain ⟨t130, A30, H⟩ := H; (try dsimp only at H); have A3 := aM A30; clear A30; replace H := zif H; obtain ⟨c4, H⟩ := H; have c4b0 := eq_true c4; have c4b1 : decide ((strOfNums y127).size + t130.size ≤ 9223372036854775807) = true := decide_eq_true c4
 try have c4b2 : (9223372036854775807 < (strOfNums y127).size + t130.size) = False := eq_false (Nat.not_lt.2 c4)
 obtain rfl := Option.some.inj H
 go_enter Tryz.func59, Tryz.ntmps59
 try go_wp2
 have _ := aM (below_drew1 HB.1); clear HB; rename_i HB
 refine start_ (n := 10) (S := fun w' => True) (ds := []) (zA 10 0) (by kernel_rfl) rfl rfl trivial (fun hHeld => ?_); refine with_tabW spec_l1Name.tab1 spec_l1Name.bits1 (fun HT_ HW_ => ?_)
 generalize w.drew = w5 at HB hHeld ⊢; refine zu HT_ 0 (some 5) (zA 10 1) ?_; refine zu HT_ 1 (some 6) (zA 10 3) ?_; refine zu HT_ 2 (some 7) (zA 10 7) ?_; refine zu HT_ 3 (some 8) (zA 10 15) ?_; refine zu HT_ 6 (some 11) (zA 10 79) ?_; refine join_ (σ := Value) 2 (zA 10 255) (fun s_ => [(9, s_), (10, .string (strOfNums y127)), (12, .string t130)]) (fun s_ w' => (Kd.R (Kd.int .u8) 5 w' w.heap.size (fun _ => True) s_ y127) ∧ (Below w.heap.size w w')) ?_ ?_; rotate_left
 ·intro hCont; refine two_ (i := 4) (j := 7) (Ni := some 9) (Nj := some 12) (zA 10 95) (zA 10 207) rfl rfl rfl rfl (two_of HT_.1 (by kernel_rfl)) (by decide) (by decide) (fun K hK => ?_) (fun K hK => ?_)
  ·skip
   refine Kd.R_lit_step (Kd.int .u8) _ 5 ?hg (N := 9) ?hd (xs := ([(wrap64 ((wrap64 (97 + a0)) - 1)) % 256] : List Int)) (inner := [.int .u8 ((wrap64 ((wrap64 (97 + a0)) - 1)) % 256)]) (ok := fun _ => True) (okp := fun _ => True) ?hr ?hp (fun _ hk => hk) trivial (Below.refl _ _) (Nat.le_refl _) (by simp) ?_; (case hd => rfl); (case hg => rfl); (case hr => first | (go_simp; done) | (go_simp; rfl)); (case hp => exact (Reps.one (show Kd.M (Kd.int .u8) _ _ _ ((wrap64 ((wrap64 (97 + a0)) - 1)) % 256) [.int .u8 ((wrap64 ((wrap64 (97 + a0)) - 1)) % 256)] from rfl) (Reps.none _ _)))
   intro v128 w6 ho7 hb hg_ hnew_; clear hg_ hnew_; (first | rw [← Ny127.1] at ho7 | (simp only [Int.reduceToNat] at ho7; rw [← Ny127.1] at ho7)); have _ := aM (Kd.R_lower ho7 (below_size (zB HB.1))); have _ := aM (below_step (zB HB.1) hb); clear HB; rename_i HO129 HB; clear hb ho7; refine hK.out _ _ trivial (fun hHeld => ?_); clear hK K; refine zn (some 9) ?_; refine two_ (i := 5) (j := 7) (Ni := some 10) (Nj := some 12) (zA 10 127) (zA 10 223) rfl rfl rfl rfl (two_of HT_.1 (by kernel_rfl)) (by decide) (by decide) (fun K hK => ?_) (fun K hK => ?_)
   ·skip
    have hcv8 := own_string (P := Tryz.prog) Tryz.underlying85 Tryz.underlying5 Tryz.underlying9 (Kd.own_of_R HO129.1); refine value_ (w1 := ?_) (v := ?_) (by rfl) rfl ?_ ?_; rotate_left 2
    ·go_simp
     constructor
     ·rfl
     ·rfl
    clear hcv8; refine hK.out _ _ trivial (fun hHeld => ?_); clear hK K; refine zn (some 10) ?_; refine zo HT_ 7 (some 12) (zA 10 255) (fun K hK => ?_); refine zg Tryz.func60 #[.int .i64 a1] ?_; (with_reducible refine (spec_l6Dec.calls k a1 t130 _ A3.1).mono ?_); rintro e w9 ⟨rfl, hb⟩; refine ⟨_, rfl, ?_⟩; have _ := aM (Kd.R_below (zR HO129.1) hb); have _ := aM (below_step (zB HB.1) hb); clear HO129 HB; rename_i HO129 HB; (try clear hb); (try clear hb2); (try clear hk); (try clear hi); refine hK.out _ _ trivial (fun hHeld => ?_); clear hK K; refine zn (some 12) ?_; exact norm_ (by simp only [putAll, zp0, zp1, zp2, zp3, zp4]) (hCont (v128) _ ⟨(zR HO129.1), (zB HB.1)⟩)
   ·skip
    refine zg Tryz.func60 #[.int .i64 a1] ?_; (with_reducible refine (spec_l6Dec.calls k a1 t130 _ A3.1).mono ?_); rintro e w8 ⟨rfl, hb⟩; refine ⟨_, rfl, ?_⟩; have _ := aM (Kd.R_below (zR HO129.1) hb); have _ := aM (below_step (zB HB.1) hb); clear HO129 HB; rename_i HO129 HB; (try clear hb); (try clear hb2); (try clear hk); (try clear hi); refine hK.out _ _ trivial (fun hHeld => ?_); clear hK K; refine zn (some 12) ?_; refine zo HT_ 5 (some 10) (zA 10 255) (fun K hK => ?_); have hcv9 := own_string (P := Tryz.prog) Tryz.underlying85 Tryz.underlying5 Tryz.underlying9 (Kd.own_of_R HO129.1); refine value_ (w1 := ?_) (v := ?_) (by rfl) rfl ?_ ?_; rotate_left 2
    ·go_simp
     constructor
     ·rfl
     ·rfl
    clear hcv9; refine hK.out _ _ trivial (fun hHeld => ?_); clear hK K; refine zn (some 10) ?_; exact norm_ (by simp only [putAll, zp0, zp1, zp2, zp3, zp4]) (hCont (v128) _ ⟨(zR HO129.1), (zB HB.1)⟩)
  ·skip
   refine zg Tryz.func60 #[.int .i64 a1] ?_; (with_reducible refine (spec_l6Dec.calls k a1 t130 _ A3.1).mono ?_); rintro e w6 ⟨rfl, hb⟩; refine ⟨_, rfl, ?_⟩; have _ := aM (below_step (zB HB.1) hb); clear HB; rename_i HB; (try clear hb); (try clear hb2); (try clear hk); (try clear hi); refine hK.out _ _ trivial (fun hHeld => ?_); clear hK K; refine zn (some 12) ?_; refine zo HT_ 4 (some 9) (zA 10 223) (fun K hK => ?_)
   refine Kd.R_lit_step (Kd.int .u8) _ 5 ?hg (N := 9) ?hd (xs := ([(wrap64 ((wrap64 (97 + a0)) - 1)) % 256] : List Int)) (inner := [.int .u8 ((wrap64 ((wrap64 (97 + a0)) - 1)) % 256)]) (ok := fun _ => True) (okp := fun _ => True) ?hr ?hp (fun _ hk => hk) trivial (Below.refl _ _) (Nat.le_refl _) (by simp) ?_; (case hd => rfl); (case hg => rfl); (case hr => first | (go_simp; done) | (go_simp; rfl)); (case hp => exact (Reps.one (show Kd.M (Kd.int .u8) _ _ _ ((wrap64 ((wrap64 (97 + a0)) - 1)) % 256) [.int .u8 ((wrap64 ((wrap64 (97 + a0)) - 1)) % 256)] from rfl) (Reps.none _ _)))
   intro v128 w7 ho8 hb hg_ hnew_; clear hg_ hnew_; (first | rw [← Ny127.1] at ho8 | (simp only [Int.reduceToNat] at ho8; rw [← Ny127.1] at ho8)); have _ := aM (Kd.R_lower ho8 (below_size (zB HB.1))); have _ := aM (below_step (zB HB.1) hb); clear HB; rename_i HO129 HB; clear hb ho8; refine hK.out _ _ trivial (fun hHeld => ?_); clear hK K; refine zn (some 9) ?_; refine zo HT_ 5 (some 10) (zA 10 255) (fun K hK => ?_); have hcv9 := own_string (P := Tryz.prog) Tryz.underlying85 Tryz.underlying5 Tryz.underlying9 (Kd.own_of_R HO129.1); refine value_ (w1 := ?_) (v := ?_) (by rfl) rfl ?_ ?_; rotate_left 2
   ·go_simp
    constructor
    ·rfl
    ·rfl
   clear hcv9; refine hK.out _ _ trivial (fun hHeld => ?_); clear hK K; refine zn (some 10) ?_; exact norm_ (by simp only [putAll, zp0, zp1, zp2, zp3, zp4]) (hCont (v128) _ ⟨(zR HO129.1), (zB HB.1)⟩)
 rintro v128 w10 ⟨h0_, h1_⟩; have n0_ : Aside0 (Kd.R (Kd.int .u8) 5 w10 w.heap.size (fun _ => True) v128 y127) := ⟨h0_⟩; have n1_ : Aside0 (Below w.heap.size w w10) := ⟨h1_⟩; clear HB h0_ h1_; have HO129 := n0_; have HB := n1_; clear n0_ n1_; have hHeld := trivial; refine norm_ (a' := ?_) ?_ ?_; rotate_left
 ·simp only [putAll, zp0, zp1, zp2, zp3, zp4]; rfl
 refine zu HT_ 8 (some 13) (zA 10 511) ?_; refine zu HT_ 9 (some 4) (zA 10 1023) ?_; refine done_ (done_of HT_.1 (by kernel_rfl)) ?_
 try go_wp2
 go_ret
 exact ⟨by first | rfl | (simp [errW_none, errW_some] <;> rfl) | (simp [*, errW_none, errW_some] <;> rfl), by exact zB HB.1⟩

/-! ### spec_PkgText: function 49 -/
mutual
def spec_PkgText.l0 : Nat → ByteArray → Int → Int → Int → List (S71) → List (S73) → Option (ByteArray)
 | 0, _, _, _, _, _, _ => none
 | k + 1, x3, x4, x132000, x132001, x132002, x132003 => if x4 < (x132002.length : Int) then (if x3.size + 1 ≤ 9223372036854775807 then (if 0 ≤ x4 then ((spec_l6Dec.f k ((rd_T71 x132002 x4).f0)).bind fun t135 => (if (x3 ++ (⟨#[32]⟩ : ByteArray)).size + t135.size ≤ 9223372036854775807 then (if ((x3 ++ (⟨#[32]⟩ : ByteArray)) ++ t135).size + 1 ≤ 9223372036854775807 then ((spec_l6Dec.f k ((rd_T71 x132002 x4).f1)).bind fun t137 => (if (((x3 ++ (⟨#[32]⟩ : ByteArray)) ++ t135) ++ (⟨#[58]⟩ : ByteArray)).size + t137.size ≤ 9223372036854775807 then (spec_PkgText.l0 k ((((x3 ++ (⟨#[32]⟩ : ByteArray)) ++ t135) ++ (⟨#[58]⟩ : ByteArray)) ++ t137) (wrap64 (x4 + 1)) x132000 x132001 x132002 x132003) else (none))) else (none)) else (none))) else (none)) else (none)) else (spec_PkgText.l1 k x3 0 x132000 x132001 x132002 x132003)
def spec_PkgText.l1 : Nat → ByteArray → Int → Int → Int → List (S71) → List (S73) → Option (ByteArray)
 | 0, _, _, _, _, _, _ => none
 | k + 1, x3, x5, x132000, x132001, x132002, x132003 => if x5 < (x132003.length : Int) then (if x3.size + 1 ≤ 9223372036854775807 then (if 0 ≤ x5 then ((spec_l1Name.f k ((rd_T73 x132003 x5).f0) ((rd_T73 x132003 x5).f1)).bind fun t140 => (if (x3 ++ (⟨#[32]⟩ : ByteArray)).size + t140.size ≤ 9223372036854775807 then (spec_PkgText.l1 k ((x3 ++ (⟨#[32]⟩ : ByteArray)) ++ t140) (wrap64 (x5 + 1)) x132000 x132001 x132002 x132003) else (none))) else (none)) else (none)) else (some x3)
end
def spec_PkgText.f (k : Nat) (a0_0 : Int) (a0_1 : Int) (l0_2 : List (S71)) (l0_3 : List (S73)) : Option (ByteArray) := (spec_PkgOk.f k a0_0 a0_1 l0_2 l0_3).bind fun t132 => (if t132 = true then ((spec_l1Name.f k a0_0 a0_1).bind fun t133 => (spec_PkgText.l0 k t133 0 a0_0 a0_1 l0_2 l0_3)) else (some (⟨#[]⟩ : ByteArray)))
theorem spec_PkgText.mono_l : ∀ k, (∀ y0 y1 y2 y3 y4 y5, LeO (spec_PkgText.l0 k y0 y1 y2 y3 y4 y5) (spec_PkgText.l0 (k + 1) y0 y1 y2 y3 y4 y5)) ∧ (∀ y0 y1 y2 y3 y4 y5, LeO (spec_PkgText.l1 k y0 y1 y2 y3 y4 y5) (spec_PkgText.l1 (k + 1) y0 y1 y2 y3 y4 y5))
 | 0 => ⟨fun _ _ _ _ _ _ r h => by simp [spec_PkgText.l0] at h, fun _ _ _ _ _ _ r h => by simp [spec_PkgText.l1] at h⟩
 | k + 1 => by
  obtain ⟨ih0, ih1⟩ := spec_PkgText.mono_l k
  refine ⟨?_, ?_⟩
  ·intro y0 y1 y2 y3 y4 y5
   unfold spec_PkgText.l0
   repeat' first
   | (with_reducible exact ih0 _ _ _ _ _ _)
   | (with_reducible exact ih1 _ _ _ _ _ _)
   | (with_reducible exact spec_PkgOk.mono _ _ _ _ _)
   | (with_reducible exact spec_l1Name.mono _ _ _)
   | (with_reducible exact spec_l6Dec.mono _ _)
   | (with_reducible exact LeO.refl _)
   | (with_reducible exact LeO.none _)
   | (with_reducible refine LeO.ite ?_ ?_)
   | (with_reducible refine LeO.bind ?_ (fun _ => ?_))
   | exact ih0 _ _ _ _ _ _
   | exact ih1 _ _ _ _ _ _
   | exact spec_PkgOk.mono _ _ _ _ _
   | exact spec_l1Name.mono _ _ _
   | exact spec_l6Dec.mono _ _
   | exact LeO.none _
   | refine LeO.ite ?_ ?_
   | refine LeO.bind ?_ (fun _ => ?_)
  ·intro y0 y1 y2 y3 y4 y5
   unfold spec_PkgText.l1
   repeat' first
   | (with_reducible exact ih0 _ _ _ _ _ _)
   | (with_reducible exact ih1 _ _ _ _ _ _)
   | (with_reducible exact spec_PkgOk.mono _ _ _ _ _)
   | (with_reducible exact spec_l1Name.mono _ _ _)
   | (with_reducible exact spec_l6Dec.mono _ _)
   | (with_reducible exact LeO.refl _)
   | (with_reducible exact LeO.none _)
   | (with_reducible refine LeO.ite ?_ ?_)
   | (with_reducible refine LeO.bind ?_ (fun _ => ?_))
   | exact ih0 _ _ _ _ _ _
   | exact ih1 _ _ _ _ _ _
   | exact spec_PkgOk.mono _ _ _ _ _
   | exact spec_l1Name.mono _ _ _
   | exact spec_l6Dec.mono _ _
   | exact LeO.none _
   | refine LeO.ite ?_ ?_
   | refine LeO.bind ?_ (fun _ => ?_)
theorem spec_PkgText.mono : ∀ a0 a1 a2 a3 k, LeO (spec_PkgText.f k a0 a1 a2 a3) (spec_PkgText.f (k + 1) a0 a1 a2 a3) := by
 intro a0 a1 a2 a3 k
 obtain ⟨ih0, ih1⟩ := spec_PkgText.mono_l k
 unfold spec_PkgText.f
 repeat' with_reducible first | apply ih0 | apply ih1 | apply spec_PkgOk.mono | apply spec_l1Name.mono | apply spec_l6Dec.mono | exact LeO.refl _ | exact LeO.none _ | refine LeO.ite ?_ ?_ | refine LeO.bind ?_ (fun _ => ?_)
def spec_PkgText.T7 : Bool × List (List Nat × List Nat) := (true, [([], []), ([0], [0]), ([], []), ([2], [2]), ([], []), ([3, 4], [3, 4]), ([5], [5]), ([6], [6]), ([7], [7]), ([1, 8], [1, 8]), ([9], [9]), ([], []), ([11], [11]), ([], []), ([12, 13], [12, 13]), ([14], [14]), ([15], [15]), ([16, 8], [16]), ([10, 17], [10, 17]), ([18, 17, 0, 1, 2, 3, 4, 5, 6, 7, 8, 9, 10, 11, 12, 13, 14, 15, 16, 17, 18], [0, 18])])
def spec_PkgText.B7 : List Nat := [0, 1, 0, 4, 0, 28, 60, 124, 252, 511, 1023, 0, 2048, 0, 14336, 30720, 63488, 129532, 262143, 524287]
theorem spec_PkgText.tab7 : rtab .any (opsOf Tryz.f49 7) = spec_PkgText.T7 := by kernel_rfl
theorem spec_PkgText.bits7 : waitsOk spec_PkgText.T7.2 spec_PkgText.B7 = true := by kernel_rfl
def spec_PkgText.T11 : Bool × List (List Nat × List Nat) := (true, [([], []), ([0], [0]), ([], []), ([2], [2]), ([], []), ([3, 4], [3, 4]), ([5], [5]), ([6], [6]), ([], []), ([8], [8]), ([], []), ([9, 10], [9, 10]), ([11], [11]), ([12], [12]), ([7, 13], [7, 13]), ([1, 14], [1, 14]), ([15, 14, 0, 1, 2, 3, 4, 5, 6, 7, 8, 9, 10, 11, 12, 13, 14, 15], [0, 15])])
def spec_PkgText.B11 : List Nat := [0, 1, 0, 4, 0, 28, 60, 124, 0, 256, 0, 1792, 3840, 7936, 16380, 32767, 65535]
theorem spec_PkgText.tab11 : rtab .any (opsOf Tryz.f49 11) = spec_PkgText.T11 := by kernel_rfl
theorem spec_PkgText.bits11 : waitsOk spec_PkgText.T11.2 spec_PkgText.B11 = true := by kernel_rfl
set_option maxHeartbeats 8000000 in
set_option maxRecDepth 100000 in
theorem spec_PkgText.calls (k : Nat) (a0_0 : Int) (a0_1 : Int) (A0_2 : Option Addr) (c0_2 : Nat) (l0_2 : List (S71)) (A0_3 : Option Addr) (c0_3 : Nat) (l0_3 : List (S73)) (r : ByteArray) (w : World) (hr0_2 : Kd.C k71 w A0_2 l0_2.length l0_2) (hc0_2 : l0_2.length ≤ c0_2) (hr0_3 : Kd.C k73 w A0_3 l0_3.length l0_3) (hc0_3 : l0_3.length ≤ c0_3) (h : spec_PkgText.f k a0_0 a0_1 l0_2 l0_3 = some r) :
  Calls Tryz.prog 49 #[.agg #[.int .i64 a0_0, .int .i64 a0_1, .slice A0_2 l0_2.length c0_2, .slice A0_3 l0_3.length c0_3]] w fun e w' => e = .returned (.string r) ∧ Below w.heap.size w w' := by
 have hu29 := Tryz.underlying29; have HR0_2 := aM hr0_2; have HC0_2 := aM hc0_2; clear hr0_2 hc0_2; have HR0_3 := aM hr0_3; have HC0_3 := aM hc0_3; clear hr0_3 hc0_3; have HB := aM (Below.refl w.heap.size w); have H : ((spec_PkgOk.f k a0_0 a0_1 l0_2 l0_3).bind fun t132 => (if t132 = true then ((spec_l1Name.f k a0_0 a0_1).bind fun t133 => (spec_PkgText.l0 k t133 0 a0_0 a0_1 l0_2 l0_3)) else (some (⟨#[]⟩ : ByteArray)))) = some r := h; clear h; replace H := Option.bind_eq_some_iff.mp H; obtain ⟨t132, A20, H⟩ := H; (try dsimp only at H); have A2 := aM A20; clear A20
 by_cases c3 : t132 = true
 ·subst c3; replace H := zy1 H; replace H := Option.bind_eq_some_iff.mp H; obtain ⟨t133, A40, H⟩ := H; (try dsimp only at H); have A4 := aM A40; clear A40; have H' := aM H; clear H
  go_enter Tryz.func49, Tryz.ntmps49
  go_wp2_with (first | ((with_reducible refine gate_dst (N := 1) rfl ?_); refine zbx 1 #[.int .i64 a0_0, .int .i64 a0_1, .slice A0_2 l0_2.length c0_2, .slice A0_3 l0_3.length c0_3] 29 ?_; intro gb131 hg w5 hbox hb; have _ := aM (below_step (zB HB.1) hb); have _ := aM (hbox); have _ := aM (zge hg (zB HB.1)); have _ := aM (zge hg (zB HB.1)); clear HB; rename_i HB BK131 GW131 GE131; clear hb hbox hg; obtain ⟨hcz6_0, hcz6_1, hcz6_2, hcz6_3, hfz6_0, hfz6_1, hfz6_2, hfz6_3⟩ := zc4f BK131.1) | ((with_reducible refine gate_callee (f := 58) rfl ?_); refine zgL (some 7) Tryz.func58 #[.agg #[.int .i64 a0_0, .int .i64 a0_1, .slice A0_2 l0_2.length c0_2, .slice A0_3 l0_3.length c0_3]] ?_; (with_reducible refine (spec_PkgOk.calls k a0_0 a0_1 _ _ l0_2 _ _ l0_3 true _ ?side1 ?side2 ?side3 ?side4 A2.1).mono ?_); (case side1 => exact zC (Kd.C_below HR0_2.1 HB.1)); (case side2 => exact HC0_2.1); (case side3 => exact zC (Kd.C_below HR0_3.1 HB.1)); (case side4 => exact HC0_3.1); rintro e w7 ⟨rfl, hb⟩; refine ⟨_, rfl, ?_⟩; have _ := aM (blk_below (zK BK131.1) hb); have _ := aM (below_step (zB1 HB.1 GE131.1) hb); clear BK131 HB; rename_i BK131 HB; (try clear hb); (try clear hb2); (try clear hk); (try clear hi); obtain ⟨hcz8_0, hcz8_1, hcz8_2, hcz8_3, hfz8_0, hfz8_1, hfz8_2, hfz8_3⟩ := zc4f BK131.1) | ((with_reducible refine gate_callee (f := 59) rfl ?_); refine zgL (some 13) Tryz.func59 #[.int .i64 a0_0, .int .i64 a0_1] ?_; (with_reducible refine (spec_l1Name.calls k a0_0 a0_1 t133 _ A4.1).mono ?_); rintro e w9 ⟨rfl, hb⟩; refine ⟨_, rfl, ?_⟩; have _ := aM (blk_below (zK BK131.1) hb); have _ := aM (below_step (zB1 HB.1 GE131.1) hb); clear BK131 HB; rename_i BK131 HB; (try clear hb); (try clear hb2); (try clear hk); (try clear hi)))
  go_loopg [3, 4] k (fun kq v3 v4 w' => ∃ (x3_1 : ByteArray) (x4_1 : Int), v3 = .string x3_1 ∧ v4 = .int .i64 x4_1 ∧ Aside0 (spec_PkgText.l0 kq x3_1 x4_1 a0_0 a0_1 l0_2 l0_3 = some r) ∧ Aside0 (kq ≤ k) ∧ Aside0 (w'.heap[gb131]? = some (.cells #[.int .i64 a0_0, .int .i64 a0_1, (.slice A0_2 l0_2.length c0_2), (.slice A0_3 l0_3.length c0_3)] 29 (0, 0))) ∧ Aside0 (Below w.heap.size w w'))
  case atStart => exact ⟨(t133), (0), (by first | rfl | (simp; done) | (simp [*]; done)), (by first | rfl | (simp; done) | (simp [*]; done)), H', ⟨Nat.le_refl _⟩, ⟨zK BK131.1⟩, ⟨zB1 HB.1 GE131.1⟩⟩
  case round =>
   clear H'
   try clear p2
   try clear c3
   try clear c4
   try clear c5
   try clear hcz6_0
   try clear hcz6_1
   try clear hcz6_2
   try clear hcz6_3
   try clear hcz8_0
   try clear hcz8_1
   try clear hcz8_2
   try clear hcz8_3
   try clear hfz6_0
   try clear hfz6_1
   try clear hfz6_2
   try clear hfz6_3
   try clear hfz8_0
   try clear hfz8_1
   try clear hfz8_2
   try clear hfz8_3
   obtain ⟨x3_1, x4_1, rfl, rfl, HA, HK1, BK131, HB⟩ := hrel; cases gk with
   | zero => exact absurd HA.1 (by simp [spec_PkgText.l0])
   | succ k1 =>
    have H := HA.1; clear HA; simp only [spec_PkgText.l0] at H
    by_cases c10 : x4_1 < (l0_2.length : Int)
    ·rw [if_pos c10] at H; have c10b0 : decide (x4_1 < (l0_2.length : Int)) = true := decide_eq_true c10; clear c10; replace H := zif H; obtain ⟨c11, H⟩ := H; have c11b0 := eq_true c11; have c11b1 : decide (x3_1.size + 1 ≤ 9223372036854775807) = true := decide_eq_true c11
     try have c11b2 : (9223372036854775807 < x3_1.size + 1) = False := eq_false (Nat.not_lt.2 c11)
     replace H := zif H; obtain ⟨c12, H⟩ := H; have c12b0 : decide (0 ≤ x4_1) = true := decide_eq_true c12; clear c12; replace H := Option.bind_eq_some_iff.mp H; obtain ⟨t135, A130, H⟩ := H; (try dsimp only at H); have A13 := aM A130; clear A130; replace H := zif H; obtain ⟨c14, H⟩ := H; have c14b0 := eq_true c14; have c14b1 : decide ((x3_1 ++ (⟨#[32]⟩ : ByteArray)).size + t135.size ≤ 9223372036854775807) = true := decide_eq_true c14
     try have c14b2 : (9223372036854775807 < (x3_1 ++ (⟨#[32]⟩ : ByteArray)).size + t135.size) = False := eq_false (Nat.not_lt.2 c14)
     have c14b9 : (9223372036854775807 < x3_1.size + 1 + t135.size) = False := eq_false (by have h_ := c14; simp only [ByteArray.size_append, show (⟨#[32]⟩ : ByteArray).size = 1 from rfl, show (⟨#[58]⟩ : ByteArray).size = 1 from rfl] at h_; omega); replace H := zif H; obtain ⟨c15, H⟩ := H; have c15b0 := eq_true c15; have c15b1 : decide (((x3_1 ++ (⟨#[32]⟩ : ByteArray)) ++ t135).size + 1 ≤ 9223372036854775807) = true := decide_eq_true c15
     try have c15b2 : (9223372036854775807 < ((x3_1 ++ (⟨#[32]⟩ : ByteArray)) ++ t135).size + 1) = False := eq_false (Nat.not_lt.2 c15)
     have c15b9 : (9223372036854775807 < x3_1.size + 1 + t135.size + 1) = False := eq_false (by have h_ := c15; simp only [ByteArray.size_append, show (⟨#[32]⟩ : ByteArray).size = 1 from rfl, show (⟨#[58]⟩ : ByteArray).size = 1 from rfl] at h_; omega); replace H := Option.bind_eq_some_iff.mp H; obtain ⟨t137, A160, H⟩ := H; (try dsimp only at H); have A16 := aM A160; clear A160; replace H := zif H; obtain ⟨c17, H⟩ := H; have c17b0 := eq_true c17; have c17b1 : decide ((((x3_1 ++ (⟨#[32]⟩ : ByteArray)) ++ t135) ++ (⟨#[58]⟩ : ByteArray)).size + t137.size ≤ 9223372036854775807) = true := decide_eq_true c17
     try have c17b2 : (9223372036854775807 < (((x3_1 ++ (⟨#[32]⟩ : ByteArray)) ++ t135) ++ (⟨#[58]⟩ : ByteArray)).size + t137.size) = False := eq_false (Nat.not_lt.2 c17)
     have c17b9 : (9223372036854775807 < x3_1.size + 1 + t135.size + 1 + t137.size) = False := eq_false (by have h_ := c17; simp only [ByteArray.size_append, show (⟨#[32]⟩ : ByteArray).size = 1 from rfl, show (⟨#[58]⟩ : ByteArray).size = 1 from rfl] at h_; omega); have H' := aM H; clear H; obtain ⟨hcz18_0, hcz18_1, hcz18_2, hcz18_3, hfz18_0, hfz18_1, hfz18_2, hfz18_3⟩ := zc4f BK131.1
     try go_wp2
     have _ := aM (blk_drew BK131.1); have _ := aM (below_drew1 HB.1); clear BK131 HB; rename_i BK131 HB; have p134 : 0 ≤ (x4_1 : Int) := zd; have q134 : x4_1 < (l0_2.length : Int) := zd; obtain ⟨ad134, e134, hx134_0, hx134_1⟩ := at_T71 HR0_2.1 x4_1 p134 q134; have hw134_1 := hx134_1; have hw134_0 := hx134_0; cases e134; replace hx134_0 := (HB.1.cell (World.block_lt_of_cell? w _ hx134_0)).trans hx134_0; replace hx134_1 := (HB.1.cell (World.block_lt_of_cell? w _ hx134_1)).trans hx134_1; replace p134 := eq_true p134; replace q134 := eq_true q134; have p136 : 0 ≤ (x4_1 : Int) := zd; have q136 : x4_1 < (l0_2.length : Int) := zd; obtain ⟨ad136, e136, hx136_0, hx136_1⟩ := at_T71 HR0_2.1 x4_1 p136 q136; have hw136_1 := hx136_1; have hw136_0 := hx136_0; obtain rfl : ad134 = ad136 := (by injection e136); replace hx136_0 := (HB.1.cell (World.block_lt_of_cell? w _ hx136_0)).trans hx136_0; replace hx136_1 := (HB.1.cell (World.block_lt_of_cell? w _ hx136_1)).trans hx136_1; replace p136 := eq_true p136; replace q136 := eq_true q136
     refine start_ (n := 20) (S := fun w' => w'.cell? ⟨gb131, 0, none⟩ = some (.int .i64 a0_0) ∧ w'.cell? ⟨gb131, 1, none⟩ = some (.int .i64 a0_1) ∧ w'.cell? ⟨gb131, 2, none⟩ = some (.slice (some ad134) l0_2.length c0_2) ∧ w'.cell? ⟨gb131, 3, none⟩ = some (.slice A0_3 l0_3.length c0_3) ∧ w'.cell? (ad134.add ((x4_1).toNat * 2)) = some (.int .i64 ((rd_T71 l0_2 x4_1).f0)) ∧ w'.cell? ⟨(ad134.add ((x4_1).toNat * 2)).block, (ad134.add ((x4_1).toNat * 2)).off + 1, none⟩ = some (.int .i64 ((rd_T71 l0_2 x4_1).f1)) ∧ w'.cell? (ad134.add ((x4_1).toNat * 2)) = some (.int .i64 ((rd_T71 l0_2 x4_1).f0)) ∧ w'.cell? ⟨(ad134.add ((x4_1).toNat * 2)).block, (ad134.add ((x4_1).toNat * 2)).off + 1, none⟩ = some (.int .i64 ((rd_T71 l0_2 x4_1).f1))) (ds := []) (zA 20 0) (by kernel_rfl) rfl rfl ⟨(blk_cell BK131.1 0).trans rfl, (blk_cell BK131.1 1).trans rfl, (blk_cell BK131.1 2).trans rfl, (blk_cell BK131.1 3).trans rfl, ((HB.1.cell (World.block_lt_of_cell? w _ hw134_0)).trans hw134_0), ((HB.1.cell (World.block_lt_of_cell? w _ hw134_1)).trans hw134_1), ((HB.1.cell (World.block_lt_of_cell? w _ hw136_0)).trans hw136_0), ((HB.1.cell (World.block_lt_of_cell? w _ hw136_1)).trans hw136_1)⟩ (fun hHeld => ?_); refine with_tabW spec_PkgText.tab7 spec_PkgText.bits7 (fun HT_ HW_ => ?_)
     generalize wr.drew = w19 at BK131 HB hx134_0 hx134_1 hx136_0 hx136_1 hHeld ⊢; refine zu HT_ 0 (some 21) (zA 20 1) ?_; refine zu HT_ 1 (some 22) (zA 20 3) ?_; refine zu HT_ 2 (some 23) (zA 20 7) ?_; refine zu HT_ 4 (some 25) (zA 20 23) ?_; refine zu HT_ 11 (some 32) (zA 20 2071) ?_; refine zu HT_ 13 (some 34) (zA 20 10263) ?_; refine take_ (i := 3) (N := some 24) (v := ?_) (a' := ?_) (zA 20 10271) rfl rfl (take_ofW HT_.1 HW_.1 (by kernel_rfl)) (fun _ _ _ h => h) (Or.inl ⟨by rfl, ?_⟩) hHeld ?_ ?_; rotate_left
     ·rintro w' ⟨s0, s1, s2, s3, s4, s5, s6, s7⟩
      go_simp
      (with_reducible rfl)
     rotate_left
     ·simp only [zp0, zp1, zp2, zp3, zp4, i64_w, i32_w]; rfl
     refine zu HT_ 5 (some 26) (zA 20 10303) ?_; refine zu HT_ 6 (some 27) (zA 20 10367) ?_; refine take_ (i := 7) (N := some 28) (v := ?_) (a' := ?_) (zA 20 10495) rfl rfl (take_ofW HT_.1 HW_.1 (by kernel_rfl)) (fun _ _ _ h => h) (Or.inl ⟨by rfl, ?_⟩) hHeld ?_ ?_; rotate_left
     ·rintro w' ⟨s0, s1, s2, s3, s4, s5, s6, s7⟩
      go_simp
      (with_reducible rfl)
     rotate_left
     ·simp only [zp0, zp1, zp2, zp3, zp4, i64_w, i32_w]; rfl
     refine take_ (i := 12) (N := some 33) (v := ?_) (a' := ?_) (zA 20 14591) rfl rfl (take_ofW HT_.1 HW_.1 (by kernel_rfl)) (fun _ _ _ h => h) (Or.inl ⟨by rfl, ?_⟩) hHeld ?_ ?_; rotate_left
     ·rintro w' ⟨s0, s1, s2, s3, s4, s5, s6, s7⟩
      go_simp
      (with_reducible rfl)
     rotate_left
     ·simp only [zp0, zp1, zp2, zp3, zp4, i64_w, i32_w]; rfl
     refine zu HT_ 14 (some 35) (zA 20 30975) ?_; refine zu HT_ 15 (some 36) (zA 20 63743) ?_; refine take_ (i := 16) (N := some 37) (v := ?_) (a' := ?_) (zA 20 129279) rfl rfl (take_ofW HT_.1 HW_.1 (by kernel_rfl)) (fun _ _ _ h => h) (Or.inl ⟨by rfl, ?_⟩) hHeld ?_ ?_; rotate_left
     ·rintro w' ⟨s0, s1, s2, s3, s4, s5, s6, s7⟩
      go_simp
      (with_reducible rfl)
     rotate_left
     ·simp only [zp0, zp1, zp2, zp3, zp4, i64_w, i32_w]; rfl
     refine zo HT_ 8 (some 29) (zA 20 129535) (fun K hK => ?_); refine zg Tryz.func60 #[.int .i64 ((rd_T71 l0_2 x4_1).f0)] ?_; (with_reducible refine (spec_l6Dec.calls k1 ((rd_T71 l0_2 x4_1).f0) t135 _ A13.1).mono ?_); rintro e w20 ⟨rfl, hb⟩; refine ⟨_, rfl, ?_⟩; have _ := aM (blk_below (zK BK131.1) hb); have _ := aM (below_step (zB1 HB.1 GE131.1) hb); clear BK131 HB; rename_i BK131 HB; (try clear hb); (try clear hb2); (try clear hk); (try clear hi); refine hK.out _ _ ⟨(blk_cell BK131.1 0).trans rfl, (blk_cell BK131.1 1).trans rfl, (blk_cell BK131.1 2).trans rfl, (blk_cell BK131.1 3).trans rfl, ((HB.1.cell (World.block_lt_of_cell? w _ hw134_0)).trans hw134_0), ((HB.1.cell (World.block_lt_of_cell? w _ hw134_1)).trans hw134_1), ((HB.1.cell (World.block_lt_of_cell? w _ hw136_0)).trans hw136_0), ((HB.1.cell (World.block_lt_of_cell? w _ hw136_1)).trans hw136_1)⟩ (fun hHeld => ?_); clear hK K; refine zn (some 29) ?_; refine zu HT_ 9 (some 30) (zA 20 130047) ?_; refine zu HT_ 10 (some 31) (zA 20 131071) ?_; refine zo HT_ 17 (some 38) (zA 20 262143) (fun K hK => ?_); refine zg Tryz.func60 #[.int .i64 ((rd_T71 l0_2 x4_1).f1)] ?_; (with_reducible refine (spec_l6Dec.calls k1 ((rd_T71 l0_2 x4_1).f1) t137 _ A16.1).mono ?_); rintro e w21 ⟨rfl, hb⟩; refine ⟨_, rfl, ?_⟩; have _ := aM (blk_below (zK BK131.1) hb); have _ := aM (below_step (zB1 HB.1 GE131.1) hb); clear BK131 HB; rename_i BK131 HB; (try clear hb); (try clear hb2); (try clear hk); (try clear hi); refine hK.out _ _ ⟨(blk_cell BK131.1 0).trans rfl, (blk_cell BK131.1 1).trans rfl, (blk_cell BK131.1 2).trans rfl, (blk_cell BK131.1 3).trans rfl, ((HB.1.cell (World.block_lt_of_cell? w _ hw134_0)).trans hw134_0), ((HB.1.cell (World.block_lt_of_cell? w _ hw134_1)).trans hw134_1), ((HB.1.cell (World.block_lt_of_cell? w _ hw136_0)).trans hw136_0), ((HB.1.cell (World.block_lt_of_cell? w _ hw136_1)).trans hw136_1)⟩ (fun hHeld => ?_); clear hK K; refine zn (some 38) ?_; refine zu HT_ 18 (some 39) (zA 20 524287) ?_; refine zu HT_ 19 (some 3) (zA 20 1048575) ?_; refine done_ (done_of HT_.1 (by kernel_rfl)) ?_
     try go_wp2
     go_roundg k1
     case measure => have := HK1.1; omega
     case rel => exact ⟨((((x3_1 ++ (⟨#[32]⟩ : ByteArray)) ++ t135) ++ (⟨#[58]⟩ : ByteArray)) ++ t137), (wrap64 (x4_1 + 1)), (by first | rfl | (simp; done) | (simp [*]; done)), (by first | rfl | (simp; done) | (simp [*]; done)), H', ⟨by have := HK1.1; omega⟩, ⟨zK BK131.1⟩, ⟨zB1 HB.1 GE131.1⟩⟩
    ·rw [if_neg c10] at H; have c10b0 : decide (x4_1 < (l0_2.length : Int)) = false := decide_eq_false c10; clear c10; have H' := aM H; clear H; obtain ⟨hcz22_0, hcz22_1, hcz22_2, hcz22_3, hfz22_0, hfz22_1, hfz22_2, hfz22_3⟩ := zc4f BK131.1
     go_wp2
     go_loopg [3, 5] k1 (fun kq v3 v5 w' => ∃ (x3_2 : ByteArray) (x5_2 : Int), v3 = .string x3_2 ∧ v5 = .int .i64 x5_2 ∧ Aside0 (spec_PkgText.l1 kq x3_2 x5_2 a0_0 a0_1 l0_2 l0_3 = some r) ∧ Aside0 (kq ≤ k1) ∧ Aside0 (w'.heap[gb131]? = some (.cells #[.int .i64 a0_0, .int .i64 a0_1, (.slice A0_2 l0_2.length c0_2), (.slice A0_3 l0_3.length c0_3)] 29 (0, 0))) ∧ Aside0 (Below w.heap.size w w'))
     case atStart => exact ⟨(x3_1), (0), (by first | rfl | (simp; done) | (simp [*]; done)), (by first | rfl | (simp; done) | (simp [*]; done)), H', ⟨Nat.le_refl _⟩, ⟨zK BK131.1⟩, ⟨zB1 HB.1 GE131.1⟩⟩
     case round =>
      clear H'
      try clear c1
      try clear p1
      try clear q1
      try clear hx1
      try clear p2
      try clear c3
      try clear c4
      try clear c5
      try clear c6
      try clear p6
      try clear c10
      try clear c10b0
      try clear c11
      try clear c11b0
      try clear c11b1
      try clear c11b2
      try clear c12
      try clear c12b0
      try clear p13
      try clear q13
      try clear hx13
      try clear c14
      try clear c14b0
      try clear c14b1
      try clear c14b2
      try clear c15
      try clear c15b0
      try clear c15b1
      try clear c15b2
      try clear c17
      try clear c17b0
      try clear c17b1
      try clear c17b2
      try clear hcz18_0
      try clear hcz18_1
      try clear hcz18_2
      try clear hcz18_3
      try clear hcz22_0
      try clear hcz22_1
      try clear hcz22_2
      try clear hcz22_3
      try clear hcz6_0
      try clear hcz6_1
      try clear hcz6_2
      try clear hcz6_3
      try clear hcz8_0
      try clear hcz8_1
      try clear hcz8_2
      try clear hcz8_3
      try clear hfz18_0
      try clear hfz18_1
      try clear hfz18_2
      try clear hfz18_3
      try clear hfz22_0
      try clear hfz22_1
      try clear hfz22_2
      try clear hfz22_3
      try clear hfz6_0
      try clear hfz6_1
      try clear hfz6_2
      try clear hfz6_3
      try clear hfz8_0
      try clear hfz8_1
      try clear hfz8_2
      try clear hfz8_3
      try clear hx134_0
      try clear hx134_1
      try clear hx136_0
      try clear hx136_1
      try clear p134
      try clear p136
      try clear p2
      try clear q134
      try clear q136
      obtain ⟨x3_2, x5_2, rfl, rfl, HA, HK2, BK131, HB⟩ := hrel; cases gk with
      | zero => exact absurd HA.1 (by simp [spec_PkgText.l1])
      | succ k2 =>
       have H := HA.1; clear HA; simp only [spec_PkgText.l1] at H
       by_cases c23 : x5_2 < (l0_3.length : Int)
       ·rw [if_pos c23] at H; have c23b0 : decide (x5_2 < (l0_3.length : Int)) = true := decide_eq_true c23; clear c23; replace H := zif H; obtain ⟨c24, H⟩ := H; have c24b0 := eq_true c24; have c24b1 : decide (x3_2.size + 1 ≤ 9223372036854775807) = true := decide_eq_true c24
        try have c24b2 : (9223372036854775807 < x3_2.size + 1) = False := eq_false (Nat.not_lt.2 c24)
        replace H := zif H; obtain ⟨c25, H⟩ := H; have c25b0 : decide (0 ≤ x5_2) = true := decide_eq_true c25; clear c25; replace H := Option.bind_eq_some_iff.mp H; obtain ⟨t140, A260, H⟩ := H; (try dsimp only at H); have A26 := aM A260; clear A260; replace H := zif H; obtain ⟨c27, H⟩ := H; have c27b0 := eq_true c27; have c27b1 : decide ((x3_2 ++ (⟨#[32]⟩ : ByteArray)).size + t140.size ≤ 9223372036854775807) = true := decide_eq_true c27
        try have c27b2 : (9223372036854775807 < (x3_2 ++ (⟨#[32]⟩ : ByteArray)).size + t140.size) = False := eq_false (Nat.not_lt.2 c27)
        have c27b9 : (9223372036854775807 < x3_2.size + 1 + t140.size) = False := eq_false (by have h_ := c27; simp only [ByteArray.size_append, show (⟨#[32]⟩ : ByteArray).size = 1 from rfl, show (⟨#[58]⟩ : ByteArray).size = 1 from rfl] at h_; omega); have H' := aM H; clear H; obtain ⟨hcz28_0, hcz28_1, hcz28_2, hcz28_3, hfz28_0, hfz28_1, hfz28_2, hfz28_3⟩ := zc4f BK131.1
        try go_wp2
        have _ := aM (blk_drew BK131.1); have _ := aM (below_drew1 HB.1); clear BK131 HB; rename_i BK131 HB; have p138 : 0 ≤ (x5_2 : Int) := zd; have q138 : x5_2 < (l0_3.length : Int) := zd; obtain ⟨ad138, e138, hx138_0, hx138_1⟩ := at_T73 HR0_3.1 x5_2 p138 q138; have hw138_1 := hx138_1; have hw138_0 := hx138_0; cases e138; replace hx138_0 := (HB.1.cell (World.block_lt_of_cell? w _ hx138_0)).trans hx138_0; replace hx138_1 := (HB.1.cell (World.block_lt_of_cell? w _ hx138_1)).trans hx138_1; replace p138 := eq_true p138; replace q138 := eq_true q138; have p139 : 0 ≤ (x5_2 : Int) := zd; have q139 : x5_2 < (l0_3.length : Int) := zd; obtain ⟨ad139, e139, hx139_0, hx139_1⟩ := at_T73 HR0_3.1 x5_2 p139 q139; have hw139_1 := hx139_1; have hw139_0 := hx139_0; obtain rfl : ad138 = ad139 := (by injection e139); replace hx139_0 := (HB.1.cell (World.block_lt_of_cell? w _ hx139_0)).trans hx139_0; replace hx139_1 := (HB.1.cell (World.block_lt_of_cell? w _ hx139_1)).trans hx139_1; replace p139 := eq_true p139; replace q139 := eq_true q139
        refine start_ (n := 17) (S := fun w' => w'.cell? ⟨gb131, 0, none⟩ = some (.int .i64 a0_0) ∧ w'.cell? ⟨gb131, 1, none⟩ = some (.int .i64 a0_1) ∧ w'.cell? ⟨gb131, 2, none⟩ = some (.slice A0_2 l0_2.length c0_2) ∧ w'.cell? ⟨gb131, 3, none⟩ = some (.slice (some ad138) l0_3.length c0_3) ∧ w'.cell? (ad138.add ((x5_2).toNat * 2)) = some (.int .i64 ((rd_T73 l0_3 x5_2).f0)) ∧ w'.cell? ⟨(ad138.add ((x5_2).toNat * 2)).block, (ad138.add ((x5_2).toNat * 2)).off + 1, none⟩ = some (.int .i64 ((rd_T73 l0_3 x5_2).f1)) ∧ w'.cell? (ad138.add ((x5_2).toNat * 2)) = some (.int .i64 ((rd_T73 l0_3 x5_2).f0)) ∧ w'.cell? ⟨(ad138.add ((x5_2).toNat * 2)).block, (ad138.add ((x5_2).toNat * 2)).off + 1, none⟩ = some (.int .i64 ((rd_T73 l0_3 x5_2).f1))) (ds := []) (zA 17 0) (by kernel_rfl) rfl rfl ⟨(blk_cell BK131.1 0).trans rfl, (blk_cell BK131.1 1).trans rfl, (blk_cell BK131.1 2).trans rfl, (blk_cell BK131.1 3).trans rfl, ((HB.1.cell (World.block_lt_of_cell? w _ hw138_0)).trans hw138_0), ((HB.1.cell (World.block_lt_of_cell? w _ hw138_1)).trans hw138_1), ((HB.1.cell (World.block_lt_of_cell? w _ hw139_0)).trans hw139_0), ((HB.1.cell (World.block_lt_of_cell? w _ hw139_1)).trans hw139_1)⟩ (fun hHeld => ?_); refine with_tabW spec_PkgText.tab11 spec_PkgText.bits11 (fun HT_ HW_ => ?_)
        generalize wr.drew = w29 at BK131 HB hx138_0 hx138_1 hx139_0 hx139_1 hHeld ⊢; refine zu HT_ 0 (some 47) (zA 17 1) ?_; refine zu HT_ 1 (some 48) (zA 17 3) ?_; refine zu HT_ 2 (some 49) (zA 17 7) ?_; refine zu HT_ 4 (some 51) (zA 17 23) ?_; refine zu HT_ 8 (some 55) (zA 17 279) ?_; refine zu HT_ 10 (some 57) (zA 17 1303) ?_; refine take_ (i := 3) (N := some 50) (v := ?_) (a' := ?_) (zA 17 1311) rfl rfl (take_ofW HT_.1 HW_.1 (by kernel_rfl)) (fun _ _ _ h => h) (Or.inl ⟨by rfl, ?_⟩) hHeld ?_ ?_; rotate_left
        ·rintro w' ⟨s0, s1, s2, s3, s4, s5, s6, s7⟩
         go_simp
         (with_reducible rfl)
        rotate_left
        ·simp only [zp0, zp1, zp2, zp3, zp4, i64_w, i32_w]; rfl
        refine zu HT_ 5 (some 52) (zA 17 1343) ?_; refine zu HT_ 6 (some 53) (zA 17 1407) ?_; refine take_ (i := 7) (N := some 54) (v := ?_) (a' := ?_) (zA 17 1535) rfl rfl (take_ofW HT_.1 HW_.1 (by kernel_rfl)) (fun _ _ _ h => h) (Or.inl ⟨by rfl, ?_⟩) hHeld ?_ ?_; rotate_left
        ·rintro w' ⟨s0, s1, s2, s3, s4, s5, s6, s7⟩
         go_simp
         (with_reducible rfl)
        rotate_left
        ·simp only [zp0, zp1, zp2, zp3, zp4, i64_w, i32_w]; rfl
        refine take_ (i := 9) (N := some 56) (v := ?_) (a' := ?_) (zA 17 2047) rfl rfl (take_ofW HT_.1 HW_.1 (by kernel_rfl)) (fun _ _ _ h => h) (Or.inl ⟨by rfl, ?_⟩) hHeld ?_ ?_; rotate_left
        ·rintro w' ⟨s0, s1, s2, s3, s4, s5, s6, s7⟩
         go_simp
         (with_reducible rfl)
        rotate_left
        ·simp only [zp0, zp1, zp2, zp3, zp4, i64_w, i32_w]; rfl
        refine zu HT_ 11 (some 58) (zA 17 4095) ?_; refine zu HT_ 12 (some 59) (zA 17 8191) ?_; refine take_ (i := 13) (N := some 60) (v := ?_) (a' := ?_) (zA 17 16383) rfl rfl (take_ofW HT_.1 HW_.1 (by kernel_rfl)) (fun _ _ _ h => h) (Or.inl ⟨by rfl, ?_⟩) hHeld ?_ ?_; rotate_left
        ·rintro w' ⟨s0, s1, s2, s3, s4, s5, s6, s7⟩
         go_simp
         (with_reducible rfl)
        rotate_left
        ·simp only [zp0, zp1, zp2, zp3, zp4, i64_w, i32_w]; rfl
        refine zo HT_ 14 (some 61) (zA 17 32767) (fun K hK => ?_); refine zg Tryz.func59 #[.int .i64 ((rd_T73 l0_3 x5_2).f0), .int .i64 ((rd_T73 l0_3 x5_2).f1)] ?_; (with_reducible refine (spec_l1Name.calls k2 ((rd_T73 l0_3 x5_2).f0) ((rd_T73 l0_3 x5_2).f1) t140 _ A26.1).mono ?_); rintro e w30 ⟨rfl, hb⟩; refine ⟨_, rfl, ?_⟩; have _ := aM (blk_below (zK BK131.1) hb); have _ := aM (below_step (zB1 HB.1 GE131.1) hb); clear BK131 HB; rename_i BK131 HB; (try clear hb); (try clear hb2); (try clear hk); (try clear hi); refine hK.out _ _ ⟨(blk_cell BK131.1 0).trans rfl, (blk_cell BK131.1 1).trans rfl, (blk_cell BK131.1 2).trans rfl, (blk_cell BK131.1 3).trans rfl, ((HB.1.cell (World.block_lt_of_cell? w _ hw138_0)).trans hw138_0), ((HB.1.cell (World.block_lt_of_cell? w _ hw138_1)).trans hw138_1), ((HB.1.cell (World.block_lt_of_cell? w _ hw139_0)).trans hw139_0), ((HB.1.cell (World.block_lt_of_cell? w _ hw139_1)).trans hw139_1)⟩ (fun hHeld => ?_); clear hK K; refine zn (some 61) ?_; refine zu HT_ 15 (some 62) (zA 17 65535) ?_; refine zu HT_ 16 (some 3) (zA 17 131071) ?_; refine done_ (done_of HT_.1 (by kernel_rfl)) ?_
        try go_wp2
        go_roundg k2
        case measure => have := HK1.1; have := HK2.1; omega
        case rel => exact ⟨((x3_2 ++ (⟨#[32]⟩ : ByteArray)) ++ t140), (wrap64 (x5_2 + 1)), (by first | rfl | (simp; done) | (simp [*]; done)), (by first | rfl | (simp; done) | (simp [*]; done)), H', ⟨by have := HK1.1; have := HK2.1; omega⟩, ⟨zK BK131.1⟩, ⟨zB1 HB.1 GE131.1⟩⟩
       ·rw [if_neg c23] at H; have c23b0 : decide (x5_2 < (l0_3.length : Int)) = false := decide_eq_false c23; clear c23; obtain rfl := Option.some.inj H; obtain ⟨hcz31_0, hcz31_1, hcz31_2, hcz31_3, hfz31_0, hfz31_1, hfz31_2, hfz31_3⟩ := zc4f BK131.1
        go_wp2
        go_ret
        exact ⟨by first | rfl | (simp [errW_none, errW_some] <;> rfl) | (simp [*, errW_none, errW_some] <;> rfl), by exact zB1 HB.1 GE131.1⟩
 ·replace c3 := Bool.eq_false_iff.mpr c3; subst c3; replace H := zy0 H; obtain rfl := Option.some.inj H
  go_enter Tryz.func49, Tryz.ntmps49
  go_wp2_with (first | ((with_reducible refine gate_dst (N := 1) rfl ?_); refine zbx 1 #[.int .i64 a0_0, .int .i64 a0_1, .slice A0_2 l0_2.length c0_2, .slice A0_3 l0_3.length c0_3] 29 ?_; intro gb131 hg w32 hbox hb; have _ := aM (below_step (zB HB.1) hb); have _ := aM (hbox); have _ := aM (zge hg (zB HB.1)); have _ := aM (zge hg (zB HB.1)); clear HB; rename_i HB BK131 GW131 GE131; clear hb hbox hg; obtain ⟨hcz33_0, hcz33_1, hcz33_2, hcz33_3, hfz33_0, hfz33_1, hfz33_2, hfz33_3⟩ := zc4f BK131.1) | ((with_reducible refine gate_callee (f := 58) rfl ?_); refine zgL (some 7) Tryz.func58 #[.agg #[.int .i64 a0_0, .int .i64 a0_1, .slice A0_2 l0_2.length c0_2, .slice A0_3 l0_3.length c0_3]] ?_; (with_reducible refine (spec_PkgOk.calls k a0_0 a0_1 _ _ l0_2 _ _ l0_3 false _ ?side1 ?side2 ?side3 ?side4 A2.1).mono ?_); (case side1 => exact zC (Kd.C_below HR0_2.1 HB.1)); (case side2 => exact HC0_2.1); (case side3 => exact zC (Kd.C_below HR0_3.1 HB.1)); (case side4 => exact HC0_3.1); rintro e w34 ⟨rfl, hb⟩; refine ⟨_, rfl, ?_⟩; have _ := aM (blk_below (zK BK131.1) hb); have _ := aM (below_step (zB1 HB.1 GE131.1) hb); clear BK131 HB; rename_i BK131 HB; (try clear hb); (try clear hb2); (try clear hk); (try clear hi)))
  go_ret
  exact ⟨by first | rfl | (simp [errW_none, errW_some] <;> rfl) | (simp [*, errW_none, errW_some] <;> rfl), by exact zB1 HB.1 GE131.1⟩

end Go.Proofs.YtkjgnnjcjkphbaaGreatDoor.PFnExactIndexHas
