-- printed for this claim by a program out of the translation, its tactics shortened by another
import Derived.Test.YtkjgnnjcjkphbaaGreatDoorPFnExactIndexHasx4
namespace Go.Proofs.YtkjgnnjcjkphbaaGreatDoor.PFnExactIndexHas
open Go.RowKit Go.Proofs.YtkjgnnjcjkphbaaGreatDoorW.PrintWords Go.Proofs.YtkjgnnjcjkphbaaGreatDoorW.PrintLast Go.Proofs.YtkjgnnjcjkphbaaGreatDoorW.PrintMore
attribute [local go_sem] max2_int min2_int max_two min_two max_three min_three max_four min_four   -- for this text's walks alone
set_option linter.unusedVariables false
set_option linter.unusedSimpArgs false

/-! ### laws_FnExactIndexHas: function 3 -/
mutual
def laws_FnExactIndexHas.j0 : Nat → ByteArray → Bool → Bool → Bool → Int → Int → List (S59) → Int → Int → List (S71) → List (S73) → Int → Int → List (S47) → Int → Int → List (S71) → List (S73) → Option (Bool)
 | 0, _, _, _, _, _, _, _, _, _, _, _, _, _, _, _, _, _, _ => none
 | k + 1, x1, x7, x10, x47, x306000, x306001, x306002, x322000, x322001, x322002, x322003, x328000, x328001, x328002, x338000, x338001, x338002, x338003 => if x47 = true then (none) else ((laws_toIndex.f k x306000 x306001 x306002).bind fun bt339 => ((laws_eqIndex.f k x328000 x328001 x328002 bt339.1 bt339.2.1 bt339.2.2).bind fun t344 => (if t344 = true then ((laws_markIndex.f k x328000 x328001 x328002 1).bind fun bt345 => (if bt345.1 < 0 then (laws_FnExactIndexHas.j1 k x1 x7 true x306000 x306001 x306002 x322000 x322001 x322002 x322003 x338000 x338001 x338002 x338003) else ((laws_eqPkg.f k x338000 x338001 x338002 x338003 x322000 x322001 x322002 x322003).bind fun t347 => (if t347 = true then (laws_FnExactIndexHas.j1 k x1 x7 (x10 != x7) x306000 x306001 x306002 x322000 x322001 x322002 x322003 x338000 x338001 x338002 x338003) else (laws_FnExactIndexHas.j1 k x1 x7 true x306000 x306001 x306002 x322000 x322001 x322002 x322003 x338000 x338001 x338002 x338003))))) else (none))))
def laws_FnExactIndexHas.j1 : Nat → ByteArray → Bool → Bool → Int → Int → List (S59) → Int → Int → List (S71) → List (S73) → Int → Int → List (S71) → List (S73) → Option (Bool)
 | 0, _, _, _, _, _, _, _, _, _, _, _, _, _, _ => none
 | k + 1, x1, x7, x68, x306000, x306001, x306002, x322000, x322001, x322002, x322003, x338000, x338001, x338002, x338003 => if x68 = true then (none) else ((laws_markPkg.f k x338000 x338001 x338002 x338003 1).bind fun bt348 => ((laws_heldPkg.f k x338000 x338001 bt348.2.1 bt348.2.2 1).bind fun t351 => (if t351 < 0 then (none) else (if t351 = bt348.1 then ((laws_toIndex.f k x306000 x306001 x306002).bind fun bt352 => ((impl_IndexHas.f k bt352.1 bt352.2.1 bt352.2.2 x1).bind fun bt357 => ((laws_eqPkg.f k bt357.1 bt357.2.1 bt357.2.2.1 bt357.2.2.2.1 x322000 x322001 x322002 x322003).bind fun t367 => (if t367 = true then (laws_FnExactIndexHas.j2 k bt348.1 (bt357.2.2.2.2 != x7) x338000 x338001 bt348.2.1 bt348.2.2) else (laws_FnExactIndexHas.j2 k bt348.1 true x338000 x338001 bt348.2.1 bt348.2.2))))) else (none)))))
def laws_FnExactIndexHas.j2 : Nat → Int → Bool → Int → Int → List (S71) → List (S73) → Option (Bool)
 | 0, _, _, _, _, _, _ => none
 | k + 1, x12, x95, x338000, x338001, x338002, x338003 => if x95 = true then (none) else ((laws_heldPkg.f k x338000 x338001 x338002 x338003 1).bind fun t368 => (if t368 < 0 then (none) else (if t368 = x12 then (some true) else (none))))
end
def laws_FnExactIndexHas.f (k : Nat) (a0_0 : Int) (a0_1 : Int) (l0_2 : List (S59)) (a1 : ByteArray) : Option (Bool) := if (a1.size : Int) > 1048576 then (some true) else ((laws_szIndex.f a0_0 a0_1 l0_2 1048576).bind fun t306 => (if t306 < 0 then (some true) else ((laws_toIndex.f k a0_0 a0_1 l0_2).bind fun bt307 => ((spec_IndexHas.f k bt307.1 bt307.2.1 bt307.2.2 a1).bind fun bt312 => ((laws_toIndex.f k a0_0 a0_1 l0_2).bind fun bt322 => ((impl_IndexHas.f k bt322.1 bt322.2.1 bt322.2.2 a1).bind fun bt328 => ((laws_eqPkg.f k bt328.1 bt328.2.1 bt328.2.2.1 bt328.2.2.2.1 bt312.1 bt312.2.1 bt312.2.2.1 bt312.2.2.2.1).bind fun t338 => (if t338 = true then (laws_FnExactIndexHas.j0 k a1 bt312.2.2.2.2 bt328.2.2.2.2 (bt328.2.2.2.2 != bt312.2.2.2.2) a0_0 a0_1 l0_2 bt312.1 bt312.2.1 bt312.2.2.1 bt312.2.2.2.1 bt322.1 bt322.2.1 bt322.2.2 bt328.1 bt328.2.1 bt328.2.2.1 bt328.2.2.2.1) else (laws_FnExactIndexHas.j0 k a1 bt312.2.2.2.2 bt328.2.2.2.2 true a0_0 a0_1 l0_2 bt312.1 bt312.2.1 bt312.2.2.1 bt312.2.2.2.1 bt322.1 bt322.2.1 bt322.2.2 bt328.1 bt328.2.1 bt328.2.2.1 bt328.2.2.2.1)))))))))
theorem laws_FnExactIndexHas.mono_l : ∀ k, (∀ y0 y1 y2 y3 y4 y5 y6 y7 y8 y9 y10 y11 y12 y13 y14 y15 y16 y17, LeO (laws_FnExactIndexHas.j0 k y0 y1 y2 y3 y4 y5 y6 y7 y8 y9 y10 y11 y12 y13 y14 y15 y16 y17) (laws_FnExactIndexHas.j0 (k + 1) y0 y1 y2 y3 y4 y5 y6 y7 y8 y9 y10 y11 y12 y13 y14 y15 y16 y17)) ∧ (∀ y0 y1 y2 y3 y4 y5 y6 y7 y8 y9 y10 y11 y12 y13, LeO (laws_FnExactIndexHas.j1 k y0 y1 y2 y3 y4 y5 y6 y7 y8 y9 y10 y11 y12 y13) (laws_FnExactIndexHas.j1 (k + 1) y0 y1 y2 y3 y4 y5 y6 y7 y8 y9 y10 y11 y12 y13)) ∧ (∀ y0 y1 y2 y3 y4 y5, LeO (laws_FnExactIndexHas.j2 k y0 y1 y2 y3 y4 y5) (laws_FnExactIndexHas.j2 (k + 1) y0 y1 y2 y3 y4 y5))
 | 0 => ⟨fun _ _ _ _ _ _ _ _ _ _ _ _ _ _ _ _ _ _ r h => by simp [laws_FnExactIndexHas.j0] at h, fun _ _ _ _ _ _ _ _ _ _ _ _ _ _ r h => by simp [laws_FnExactIndexHas.j1] at h, fun _ _ _ _ _ _ r h => by simp [laws_FnExactIndexHas.j2] at h⟩
 | k + 1 => by
  obtain ⟨ih0, ih1, ih2⟩ := laws_FnExactIndexHas.mono_l k
  refine ⟨?_, ?_, ?_⟩
  ·intro y0 y1 y2 y3 y4 y5 y6 y7 y8 y9 y10 y11 y12 y13 y14 y15 y16 y17
   unfold laws_FnExactIndexHas.j0
   repeat' first
   | (with_reducible exact ih0 _ _ _ _ _ _ _ _ _ _ _ _ _ _ _ _ _ _)
   | (with_reducible exact ih1 _ _ _ _ _ _ _ _ _ _ _ _ _ _)
   | (with_reducible exact ih2 _ _ _ _ _ _)
   | (with_reducible exact impl_IndexHas.mono _ _ _ _ _)
   | (with_reducible exact laws_eqIndex.mono _ _ _ _ _ _ _)
   | (with_reducible exact laws_eqPkg.mono _ _ _ _ _ _ _ _ _)
   | (with_reducible exact laws_heldPkg.mono _ _ _ _ _ _)
   | (with_reducible exact laws_markIndex.mono _ _ _ _ _)
   | (with_reducible exact laws_markPkg.mono _ _ _ _ _ _)
   | (with_reducible exact laws_toIndex.mono _ _ _ _)
   | (with_reducible exact spec_IndexHas.mono _ _ _ _ _)
   | (with_reducible exact LeO.refl _)
   | (with_reducible exact LeO.none _)
   | (with_reducible refine LeO.ite ?_ ?_)
   | (with_reducible refine LeO.bind ?_ (fun _ => ?_))
   | exact ih0 _ _ _ _ _ _ _ _ _ _ _ _ _ _ _ _ _ _
   | exact ih1 _ _ _ _ _ _ _ _ _ _ _ _ _ _
   | exact ih2 _ _ _ _ _ _
   | exact impl_IndexHas.mono _ _ _ _ _
   | exact laws_eqIndex.mono _ _ _ _ _ _ _
   | exact laws_eqPkg.mono _ _ _ _ _ _ _ _ _
   | exact laws_heldPkg.mono _ _ _ _ _ _
   | exact laws_markIndex.mono _ _ _ _ _
   | exact laws_markPkg.mono _ _ _ _ _ _
   | exact laws_toIndex.mono _ _ _ _
   | exact spec_IndexHas.mono _ _ _ _ _
   | exact LeO.none _
   | refine LeO.ite ?_ ?_
   | refine LeO.bind ?_ (fun _ => ?_)
  ·intro y0 y1 y2 y3 y4 y5 y6 y7 y8 y9 y10 y11 y12 y13
   unfold laws_FnExactIndexHas.j1
   repeat' first
   | (with_reducible exact ih0 _ _ _ _ _ _ _ _ _ _ _ _ _ _ _ _ _ _)
   | (with_reducible exact ih1 _ _ _ _ _ _ _ _ _ _ _ _ _ _)
   | (with_reducible exact ih2 _ _ _ _ _ _)
   | (with_reducible exact impl_IndexHas.mono _ _ _ _ _)
   | (with_reducible exact laws_eqIndex.mono _ _ _ _ _ _ _)
   | (with_reducible exact laws_eqPkg.mono _ _ _ _ _ _ _ _ _)
   | (with_reducible exact laws_heldPkg.mono _ _ _ _ _ _)
   | (with_reducible exact laws_markIndex.mono _ _ _ _ _)
   | (with_reducible exact laws_markPkg.mono _ _ _ _ _ _)
   | (with_reducible exact laws_toIndex.mono _ _ _ _)
   | (with_reducible exact spec_IndexHas.mono _ _ _ _ _)
   | (with_reducible exact LeO.refl _)
   | (with_reducible exact LeO.none _)
   | (with_reducible refine LeO.ite ?_ ?_)
   | (with_reducible refine LeO.bind ?_ (fun _ => ?_))
   | exact ih0 _ _ _ _ _ _ _ _ _ _ _ _ _ _ _ _ _ _
   | exact ih1 _ _ _ _ _ _ _ _ _ _ _ _ _ _
   | exact ih2 _ _ _ _ _ _
   | exact impl_IndexHas.mono _ _ _ _ _
   | exact laws_eqIndex.mono _ _ _ _ _ _ _
   | exact laws_eqPkg.mono _ _ _ _ _ _ _ _ _
   | exact laws_heldPkg.mono _ _ _ _ _ _
   | exact laws_markIndex.mono _ _ _ _ _
   | exact laws_markPkg.mono _ _ _ _ _ _
   | exact laws_toIndex.mono _ _ _ _
   | exact spec_IndexHas.mono _ _ _ _ _
   | exact LeO.none _
   | refine LeO.ite ?_ ?_
   | refine LeO.bind ?_ (fun _ => ?_)
  ·intro y0 y1 y2 y3 y4 y5
   unfold laws_FnExactIndexHas.j2
   repeat' first
   | (with_reducible exact ih0 _ _ _ _ _ _ _ _ _ _ _ _ _ _ _ _ _ _)
   | (with_reducible exact ih1 _ _ _ _ _ _ _ _ _ _ _ _ _ _)
   | (with_reducible exact ih2 _ _ _ _ _ _)
   | (with_reducible exact impl_IndexHas.mono _ _ _ _ _)
   | (with_reducible exact laws_eqIndex.mono _ _ _ _ _ _ _)
   | (with_reducible exact laws_eqPkg.mono _ _ _ _ _ _ _ _ _)
   | (with_reducible exact laws_heldPkg.mono _ _ _ _ _ _)
   | (with_reducible exact laws_markIndex.mono _ _ _ _ _)
   | (with_reducible exact laws_markPkg.mono _ _ _ _ _ _)
   | (with_reducible exact laws_toIndex.mono _ _ _ _)
   | (with_reducible exact spec_IndexHas.mono _ _ _ _ _)
   | (with_reducible exact LeO.refl _)
   | (with_reducible exact LeO.none _)
   | (with_reducible refine LeO.ite ?_ ?_)
   | (with_reducible refine LeO.bind ?_ (fun _ => ?_))
   | exact ih0 _ _ _ _ _ _ _ _ _ _ _ _ _ _ _ _ _ _
   | exact ih1 _ _ _ _ _ _ _ _ _ _ _ _ _ _
   | exact ih2 _ _ _ _ _ _
   | exact impl_IndexHas.mono _ _ _ _ _
   | exact laws_eqIndex.mono _ _ _ _ _ _ _
   | exact laws_eqPkg.mono _ _ _ _ _ _ _ _ _
   | exact laws_heldPkg.mono _ _ _ _ _ _
   | exact laws_markIndex.mono _ _ _ _ _
   | exact laws_markPkg.mono _ _ _ _ _ _
   | exact laws_toIndex.mono _ _ _ _
   | exact spec_IndexHas.mono _ _ _ _ _
   | exact LeO.none _
   | refine LeO.ite ?_ ?_
   | refine LeO.bind ?_ (fun _ => ?_)
theorem laws_FnExactIndexHas.mono : ∀ a0 a1 a2 a3 k, LeO (laws_FnExactIndexHas.f k a0 a1 a2 a3) (laws_FnExactIndexHas.f (k + 1) a0 a1 a2 a3) := by
 intro a0 a1 a2 a3 k
 obtain ⟨ih0, ih1, ih2⟩ := laws_FnExactIndexHas.mono_l k
 unfold laws_FnExactIndexHas.f
 repeat' with_reducible first | apply ih0 | apply ih1 | apply ih2 | apply impl_IndexHas.mono | apply laws_eqIndex.mono | apply laws_eqPkg.mono | apply laws_heldPkg.mono | apply laws_markIndex.mono | apply laws_markPkg.mono | apply laws_toIndex.mono | apply spec_IndexHas.mono | exact LeO.refl _ | exact LeO.none _ | refine LeO.ite ?_ ?_ | refine LeO.bind ?_ (fun _ => ?_)
set_option maxHeartbeats 8000000 in
set_option maxRecDepth 100000 in
theorem laws_FnExactIndexHas.calls (k : Nat) (a0_0 : Int) (a0_1 : Int) (A0_2 : Option Addr) (c0_2 : Nat) (l0_2 : List (S59)) (a1 : ByteArray) (r : Bool) (w : World) (hr0_2 : Kd.C k59 w A0_2 l0_2.length l0_2) (hc0_2 : l0_2.length ≤ c0_2) (hLD : LaidW w) (h : laws_FnExactIndexHas.f k a0_0 a0_1 l0_2 a1 = some r) :
  Calls Tryz.prog 3 #[.agg #[.int .i64 a0_0, .int .i64 a0_1, .slice A0_2 l0_2.length c0_2], .string a1] w fun e w' => e = .returned (.bool r) ∧ Below w.heap.size w w' := by
 have hu24 := Tryz.underlying24; have hu29 := Tryz.underlying29; have hu34 := Tryz.underlying34; have HR0_2 := aM hr0_2; have HC0_2 := aM hc0_2; clear hr0_2 hc0_2; have HB := aM (Below.refl w.heap.size w); have HLD := aM hLD; clear hLD; have H : (if (a1.size : Int) > 1048576 then (some true) else ((laws_szIndex.f a0_0 a0_1 l0_2 1048576).bind fun t306 => (if t306 < 0 then (some true) else ((laws_toIndex.f k a0_0 a0_1 l0_2).bind fun bt307 => ((spec_IndexHas.f k bt307.1 bt307.2.1 bt307.2.2 a1).bind fun bt312 => ((laws_toIndex.f k a0_0 a0_1 l0_2).bind fun bt322 => ((impl_IndexHas.f k bt322.1 bt322.2.1 bt322.2.2 a1).bind fun bt328 => ((laws_eqPkg.f k bt328.1 bt328.2.1 bt328.2.2.1 bt328.2.2.2.1 bt312.1 bt312.2.1 bt312.2.2.1 bt312.2.2.2.1).bind fun t338 => (if t338 = true then (laws_FnExactIndexHas.j0 k a1 bt312.2.2.2.2 bt328.2.2.2.2 (bt328.2.2.2.2 != bt312.2.2.2.2) a0_0 a0_1 l0_2 bt312.1 bt312.2.1 bt312.2.2.1 bt312.2.2.2.1 bt322.1 bt322.2.1 bt322.2.2 bt328.1 bt328.2.1 bt328.2.2.1 bt328.2.2.2.1) else (laws_FnExactIndexHas.j0 k a1 bt312.2.2.2.2 bt328.2.2.2.2 true a0_0 a0_1 l0_2 bt312.1 bt312.2.1 bt312.2.2.1 bt312.2.2.2.1 bt322.1 bt322.2.1 bt322.2.2 bt328.1 bt328.2.1 bt328.2.2.1 bt328.2.2.2.1)))))))))) = some r := h; clear h
 by_cases c3 : (a1.size : Int) > 1048576
 ·rw [if_pos c3] at H; have c3b0 : decide (1048576 < (a1.size : Int)) = true := decide_eq_true c3; have c3b1 : decide (1048576 < a1.size) = true := decide_eq_true (by omega); clear c3; obtain rfl := Option.some.inj H
  go_enter Tryz.func3, Tryz.ntmps3
  go_wp2_with (first | ((with_reducible refine gate_dst (N := 2) rfl ?_); refine zbx 2 #[.int .i64 a0_0, .int .i64 a0_1, .slice A0_2 l0_2.length c0_2] 24 ?_; intro gb305 hg w4 hbox hb; have _ := aM (below_step (zB HB.1) hb); have _ := aM (hbox); have _ := aM (zge hg (zB HB.1)); have _ := aM (zge hg (zB HB.1)); clear HB; rename_i HB BK305 GW305 GE305; clear hb hbox hg))
  go_ret
  exact ⟨by first | rfl | (simp [errW_none, errW_some] <;> rfl) | (simp [*, errW_none, errW_some] <;> rfl), by exact zB1 HB.1 GE305.1⟩
 ·rw [if_neg c3] at H; have c3b0 : decide (1048576 < (a1.size : Int)) = false := decide_eq_false c3; have c3b1 : decide (1048576 < a1.size) = false := decide_eq_false (by omega); clear c3; replace H := Option.bind_eq_some_iff.mp H; obtain ⟨t306, A50, H⟩ := H; (try dsimp only at H); have A5 := aM A50; clear A50
  by_cases c6 : t306 < 0
  ·rw [if_pos c6] at H; have c6b0 : decide (t306 < 0) = true := decide_eq_true c6; clear c6; obtain rfl := Option.some.inj H
   go_enter Tryz.func3, Tryz.ntmps3
   go_wp2_with (first | ((with_reducible refine gate_dst (N := 2) rfl ?_); refine zbx 2 #[.int .i64 a0_0, .int .i64 a0_1, .slice A0_2 l0_2.length c0_2] 24 ?_; intro gb305 hg w7 hbox hb; have _ := aM (below_step (zB HB.1) hb); have _ := aM (hbox); have _ := aM (zge hg (zB HB.1)); have _ := aM (zge hg (zB HB.1)); clear HB; rename_i HB BK305 GW305 GE305; clear hb hbox hg; obtain ⟨hcz8_0, hcz8_1, hcz8_2, hfz8_0, hfz8_1, hfz8_2⟩ := zc3f BK305.1) | ((with_reducible refine gate_callee (f := 4) rfl ?_); refine zgL (some 21) Tryz.func4 #[.agg #[.int .i64 a0_0, .int .i64 a0_1, .slice A0_2 l0_2.length c0_2], .int .i64 1048576] ?_; (with_reducible refine (laws_szIndex.calls a0_0 a0_1 _ _ l0_2 1048576 t306 _ ?side1 ?side2 A5.1).mono ?_); (case side1 => exact zC (Kd.C_below HR0_2.1 HB.1)); (case side2 => exact HC0_2.1); rintro e w9 ⟨rfl, hb⟩; refine ⟨_, rfl, ?_⟩; have _ := aM (blk_below (zK BK305.1) hb); have _ := aM (below_step (zB1 HB.1 GE305.1) hb); clear BK305 HB; rename_i BK305 HB; (try clear hb); (try clear hb2); (try clear hk); (try clear hi)))
   go_ret
   exact ⟨by first | rfl | (simp [errW_none, errW_some] <;> rfl) | (simp [*, errW_none, errW_some] <;> rfl), by exact zB1 HB.1 GE305.1⟩
  ·rw [if_neg c6] at H; have c6b0 : decide (t306 < 0) = false := decide_eq_false c6; clear c6; replace H := Option.bind_eq_some_iff.mp H; obtain ⟨⟨t307, t308, t309⟩, A100, H⟩ := H; (try dsimp only at H); have A10 := aM A100; clear A100; replace H := Option.bind_eq_some_iff.mp H; obtain ⟨⟨t312, t313, t314, t317, t320⟩, A110, H⟩ := H; (try dsimp only at H); have A11 := aM A110; clear A110; replace H := Option.bind_eq_some_iff.mp H; obtain ⟨⟨t322, t323, t324⟩, A120, H⟩ := H; (try dsimp only at H); have A12 := aM A120; clear A120; replace H := Option.bind_eq_some_iff.mp H; obtain ⟨⟨t328, t329, t330, t333, t336⟩, A130, H⟩ := H; (try dsimp only at H); have A13 := aM A130; clear A130; have HC14 := aM H; clear H
   go_enter Tryz.func3, Tryz.ntmps3
   go_upto_region 10 with (first | ((with_reducible refine gate_dst (N := 2) rfl ?_); refine zbx 2 #[.int .i64 a0_0, .int .i64 a0_1, .slice A0_2 l0_2.length c0_2] 24 ?_; intro gb305 hg w15 hbox hb; have _ := aM (below_step (zB HB.1) hb); have _ := aM (hbox); have _ := aM (zge hg (zB HB.1)); have _ := aM (zge hg (zB HB.1)); clear HB; rename_i HB BK305 GW305 GE305; clear hb hbox hg; obtain ⟨hcz16_0, hcz16_1, hcz16_2, hfz16_0, hfz16_1, hfz16_2⟩ := zc3f BK305.1) | ((with_reducible refine gate_callee (f := 4) rfl ?_); refine zgL (some 21) Tryz.func4 #[.agg #[.int .i64 a0_0, .int .i64 a0_1, .slice A0_2 l0_2.length c0_2], .int .i64 1048576] ?_; (with_reducible refine (laws_szIndex.calls a0_0 a0_1 _ _ l0_2 1048576 t306 _ ?side1 ?side2 A5.1).mono ?_); (case side1 => exact zC (Kd.C_below HR0_2.1 HB.1)); (case side2 => exact HC0_2.1); rintro e w17 ⟨rfl, hb⟩; refine ⟨_, rfl, ?_⟩; have _ := aM (blk_below (zK BK305.1) hb); have _ := aM (below_step (zB1 HB.1 GE305.1) hb); clear BK305 HB; rename_i BK305 HB; (try clear hb); (try clear hb2); (try clear hk); (try clear hi); obtain ⟨hcz18_0, hcz18_1, hcz18_2, hfz18_0, hfz18_1, hfz18_2⟩ := zc3f BK305.1) | ((with_reducible refine gate_callee (f := 6) rfl ?_); refine zgL (some 26) Tryz.func6 #[.agg #[.int .i64 a0_0, .int .i64 a0_1, .slice A0_2 l0_2.length c0_2]] ?_; (with_reducible refine (laws_toIndex.calls k a0_0 a0_1 _ _ l0_2 t307 t308 t309 _ ?side1 ?side2 A10.1).mono ?_); (case side1 => exact zC (Kd.C_below HR0_2.1 HB.1)); (case side2 => exact HC0_2.1); rintro e w19 ⟨v310, rfl, ho0, hb⟩; refine ⟨_, rfl, ?_⟩; have _ := aM (Kd.R_lower ho0 (below_size (zB1 HB.1 GE305.1))); have _ := aM (blk_below (zK BK305.1) hb); have _ := aM (below_step (zB1 HB.1 GE305.1) hb); clear BK305 HB; rename_i HO311 BK305 HB; (try clear hb); (try clear hb2); (try clear hk); (try clear hi); (try clear ho0); obtain ⟨Ao20, co20, eo20⟩ := Kd.R_slice HO311.1; subst eo20) | ((with_reducible refine gate_callee (f := 5) rfl ?_); refine zgL (some 28) Tryz.func5 #[.agg #[.int .i64 t307, .int .i64 t308, .slice Ao20 t309.length co20], .string a1] ?_; (with_reducible refine (spec_IndexHas.calls k t307 t308 _ _ t309 a1 t312 t313 t314 t317 t320 _ ?side1 ?side2 A11.1).mono ?_); (case side1 => exact zC (Kd.R_reads' HO311.1).2.2); (case side2 => exact (Kd.R_reads' HO311.1).2.1); rintro e w21 ⟨v315, v318, rfl, ho0, ho1, hb⟩; refine ⟨_, rfl, ?_⟩; have _ := aM (Kd.R_below (zR HO311.1) hb); have _ := aM (Kd.R_lower ho0 (below_size (zB1 HB.1 GE305.1))); have _ := aM (Kd.R_lower ho1 (below_size (zB1 HB.1 GE305.1))); have _ := aM (blk_below (zK BK305.1) hb); have _ := aM (below_step (zB1 HB.1 GE305.1) hb); clear HO311 BK305 HB; rename_i HO311 HO316 HO319 BK305 HB; (try clear hb); (try clear hb2); (try clear hk); (try clear hi); (try clear ho0); (try clear ho1)) | ((with_reducible refine gate_dst (N := 6) rfl ?_); refine zbx 6 #[.int .i64 0, .int .i64 0, .slice none 0 0, .slice none 0 0] 29 ?_; intro gb321 hg w22 hbox hb; have _ := aM (Kd.R_below (zR HO311.1) hb); have _ := aM (Kd.R_below (zR HO316.1) hb); have _ := aM (Kd.R_below (zR HO319.1) hb); have _ := aM (blk_below (zK BK305.1) hb); have _ := aM (below_step (zB1 HB.1 GE305.1) hb); have _ := aM (hbox); have _ := aM (zge hg (zB1 HB.1 GE305.1)); have _ := aM (zge hg (zB1 HB.1 GE305.1)); have _ := aM (znl hg (zK BK305.1)); have _ := aM (zng hg (zK BK305.1)); clear HO311 HO316 HO319 BK305 HB; rename_i HO311 HO316 HO319 BK305 HB BK321 GW321 GE321 NB305_321 NB321_305; clear hb hbox hg; have hnb23 := NB321_305.1; have hnc23 := NB305_321.1; obtain ⟨hcz24_0, hcz24_1, hcz24_2, hcz24_3, hfz24_0, hfz24_1, hfz24_2, hfz24_3⟩ := zc4f BK321.1; obtain ⟨Ao25, co25, eo25⟩ := Kd.R_slice HO316.1; subst eo25; obtain ⟨Ao26, co26, eo26⟩ := Kd.R_slice HO319.1; subst eo26; obtain ⟨hcz27_0, hcz27_1, hcz27_2, hfz27_0, hfz27_1, hfz27_2⟩ := zc3f BK305.1) | ((with_reducible refine gate_callee (f := 6) rfl ?_); refine zgL (some 32) Tryz.func6 #[.agg #[.int .i64 a0_0, .int .i64 a0_1, .slice A0_2 l0_2.length c0_2]] ?_; (with_reducible refine (laws_toIndex.calls k a0_0 a0_1 _ _ l0_2 t322 t323 t324 _ ?side1 ?side2 A12.1).mono ?_); (case side1 => exact Kd.C_below HR0_2.1 (zB2 HB.1 GE305.1 GE321.1)); (case side2 => exact HC0_2.1); rintro e w28 ⟨v325, rfl, ho0, hb⟩; refine ⟨_, rfl, ?_⟩; have _ := aM (Kd.R_elder' (zT HO311.1 BK321.1 (by decide)) (Kd.R_base ho0) hb); have _ := aM (Kd.R_below (zT HO316.1 BK321.1 (by decide)) hb); have _ := aM (Kd.R_below (zT HO319.1 BK321.1 (by decide)) hb); have _ := aM (Kd.R_lower (Kd.R_new' ho0 (Kd.R_lt (zT HO311.1 BK321.1 (by decide)))) (below_size (zB2 HB.1 GE305.1 GE321.1))); have _ := aM (blk_below (zK1 BK305.1 NB305_321.1) hb); have _ := aM (blk_below (g := gb321) (o := .cells #[.int .i64 t312, .int .i64 t313, .slice Ao25 t314.length co25, .slice Ao26 t317.length co26] 29 (0, 0)) (by exact zP BK321.1 (by rfl)) hb); have _ := aM (below_step (zB2 HB.1 GE305.1 GE321.1) hb); clear HO311 HO316 HO319 BK305 BK321 HB; rename_i HO311 HO316 HO319 HO326 BK305 BK321 HB; (try clear hb); (try clear hb2); (try clear hk); (try clear hi); (try clear ho0)) | ((with_reducible refine gate_dst (N := 8) rfl ?_); refine zbx 8 #[.int .i64 0, .int .i64 0, .slice none 0 0] 34 ?_; intro gb327 hg w29 hbox hb; have _ := aM (Kd.R_below (zR HO311.1) hb); have _ := aM (Kd.R_below (zR HO316.1) hb); have _ := aM (Kd.R_below (zR HO319.1) hb); have _ := aM (Kd.R_below (zR HO326.1) hb); have _ := aM (blk_below (zK BK305.1) hb); have _ := aM (blk_below (zK BK321.1) hb); have _ := aM (below_step (zB2 HB.1 GE305.1 GE321.1) hb); have _ := aM (hbox); have _ := aM (zge hg (zB2 HB.1 GE305.1 GE321.1)); have _ := aM (zge hg (zB2 HB.1 GE305.1 GE321.1)); have _ := aM (znl hg (zK BK305.1)); have _ := aM (zng hg (zK BK305.1)); have _ := aM (znl hg (zK BK321.1)); have _ := aM (zng hg (zK BK321.1)); clear HO311 HO316 HO319 HO326 BK305 BK321 HB; rename_i HO311 HO316 HO319 HO326 BK305 BK321 HB BK327 GW327 GE327 NB305_327 NB327_305 NB321_327 NB327_321; clear hb hbox hg; have hnb30 := NB327_305.1; have hnc30 := NB305_327.1; have hnb31 := NB327_321.1; have hnc31 := NB321_327.1; obtain ⟨hcz32_0, hcz32_1, hcz32_2, hfz32_0, hfz32_1, hfz32_2⟩ := zc3f BK327.1; obtain ⟨Ao33, co33, eo33⟩ := Kd.R_slice HO326.1; subst eo33) | ((with_reducible refine gate_callee (f := 7) rfl ?_); refine zgL (some 36) Tryz.func7 #[.agg #[.int .i64 t322, .int .i64 t323, .slice Ao33 t324.length co33], .string a1] ?_; (with_reducible refine (impl_IndexHas.calls k t322 t323 _ _ t324 a1 t328 t329 t330 t333 t336 _ ?side1 ?side2 ?sideL A13.1).mono ?_); (case sideL => exact HLD.1.on (zB3 HB.1 GE305.1 GE321.1 GE327.1)); (case side1 => refine (Kd.R_reads' (e := 47) (base := w.heap.size) (ok := fun k_ => (True ∧ some k_ ≠ (.slice Ao20 t309.length co20 : Value).ownBlock)) (n := t324.length) (c := co33) ?_).2.2; exact zT HO326.1 BK327.1 (by decide)); (case side2 => exact (Kd.R_reads' HO326.1).2.1); rintro e w34 ⟨v331, v334, rfl, ho0, ho1, hb⟩; refine ⟨_, rfl, ?_⟩; have _ := aM (Kd.R_below (zT HO311.1 BK327.1 (by decide)) hb); have _ := aM (Kd.R_elder' (zT HO316.1 BK327.1 (by decide)) (Kd.R_base ho0) hb); have _ := aM (Kd.R_elder' (zT HO319.1 BK327.1 (by decide)) (Kd.R_base ho1) hb); have _ := aM (Kd.R_below (zT HO326.1 BK327.1 (by decide)) hb); have _ := aM (Kd.R_lower (Kd.R_new' ho0 (Kd.R_lt (zT HO316.1 BK327.1 (by decide)))) (below_size (zB3 HB.1 GE305.1 GE321.1 GE327.1))); have _ := aM (Kd.R_lower (Kd.R_new' ho1 (Kd.R_lt (zT HO319.1 BK327.1 (by decide)))) (below_size (zB3 HB.1 GE305.1 GE321.1 GE327.1))); have _ := aM (blk_below (zK1 BK305.1 NB305_327.1) hb); have _ := aM (blk_below (zK1 BK321.1 NB321_327.1) hb); have _ := aM (blk_below (g := gb327) (o := .cells #[.int .i64 t322, .int .i64 t323, .slice Ao33 t324.length co33] 34 (0, 0)) (by exact zP BK327.1 (by rfl)) hb); have _ := aM (below_step (zB3 HB.1 GE305.1 GE321.1 GE327.1) hb); clear HO311 HO316 HO319 HO326 BK305 BK321 BK327 HB; rename_i HO311 HO316 HO319 HO326 HO332 HO335 BK305 BK321 BK327 HB; (try clear hb); (try clear hb2); (try clear hk); (try clear hi); (try clear ho0); (try clear ho1)) | ((with_reducible refine gate_dst (N := 9) rfl ?_); refine zbx 9 #[.int .i64 0, .int .i64 0, .slice none 0 0, .slice none 0 0] 29 ?_; intro gb337 hg w35 hbox hb; have _ := aM (Kd.R_below (zR HO311.1) hb); have _ := aM (Kd.R_below (zR HO316.1) hb); have _ := aM (Kd.R_below (zR HO319.1) hb); have _ := aM (Kd.R_below (zR HO326.1) hb); have _ := aM (Kd.R_below (zR HO332.1) hb); have _ := aM (Kd.R_below (zR HO335.1) hb); have _ := aM (blk_below (zK BK305.1) hb); have _ := aM (blk_below (zK BK321.1) hb); have _ := aM (blk_below (zK BK327.1) hb); have _ := aM (below_step (zB3 HB.1 GE305.1 GE321.1 GE327.1) hb); have _ := aM (hbox); have _ := aM (zge hg (zB3 HB.1 GE305.1 GE321.1 GE327.1)); have _ := aM (zge hg (zB3 HB.1 GE305.1 GE321.1 GE327.1)); have _ := aM (znl hg (zK BK305.1)); have _ := aM (zng hg (zK BK305.1)); have _ := aM (znl hg (zK BK321.1)); have _ := aM (zng hg (zK BK321.1)); have _ := aM (znl hg (zK BK327.1)); have _ := aM (zng hg (zK BK327.1)); clear HO311 HO316 HO319 HO326 HO332 HO335 BK305 BK321 BK327 HB; rename_i HO311 HO316 HO319 HO326 HO332 HO335 BK305 BK321 BK327 HB BK337 GW337 GE337 NB305_337 NB337_305 NB321_337 NB337_321 NB327_337 NB337_327; clear hb hbox hg; have hnb36 := NB337_305.1; have hnc36 := NB305_337.1; have hnb37 := NB337_321.1; have hnc37 := NB321_337.1; have hnb38 := NB337_327.1; have hnc38 := NB327_337.1; obtain ⟨hcz39_0, hcz39_1, hcz39_2, hcz39_3, hfz39_0, hfz39_1, hfz39_2, hfz39_3⟩ := zc4f BK337.1; obtain ⟨Ao40, co40, eo40⟩ := Kd.R_slice HO332.1; subst eo40; obtain ⟨Ao41, co41, eo41⟩ := Kd.R_slice HO335.1; subst eo41))
   (try simp only [zp0, zp1, zp2, zp3, zp4])
   go_cut [47] (fun v47 wc => ∃ (kq : Nat) (x47_13 : Bool), v47 = .bool x47_13 ∧ Aside0 (laws_FnExactIndexHas.j0 kq a1 t320 t336 x47_13 a0_0 a0_1 l0_2 t312 t313 t314 t317 t322 t323 t324 t328 t329 t330 t333 = some r) ∧ Aside0 (kq ≤ k) ∧ Aside0 (Kd.R k71 71 wc w.heap.size (fun k_ => some k_ ≠ ((.slice Ao40 t330.length co40) : Value).ownBlock) (.slice Ao25 t314.length co25) t314) ∧ Aside0 (Kd.R k73 73 wc w.heap.size (fun k_ => some k_ ≠ ((.slice Ao41 t333.length co41) : Value).ownBlock) (.slice Ao26 t317.length co26) t317) ∧ Aside0 (Kd.R k47 47 wc w.heap.size (fun _ => True) (.slice Ao33 t324.length co33) t324) ∧ Aside0 (Kd.R k71 71 wc w.heap.size (fun k_ => some k_ ≠ ((.slice Ao25 t314.length co25) : Value).ownBlock) (.slice Ao40 t330.length co40) t330) ∧ Aside0 (Kd.R k73 73 wc w.heap.size (fun k_ => some k_ ≠ ((.slice Ao26 t317.length co26) : Value).ownBlock) (.slice Ao41 t333.length co41) t333) ∧ Aside0 (wc.heap[gb305]? = some (.cells #[.int .i64 a0_0, .int .i64 a0_1, (.slice A0_2 l0_2.length c0_2)] 24 (0, 0))) ∧ Aside0 (wc.heap[gb321]? = some (.cells #[.int .i64 t312, .int .i64 t313, (.slice Ao25 t314.length co25), (.slice Ao26 t317.length co26)] 29 (0, 0))) ∧ Aside0 (wc.heap[gb327]? = some (.cells #[.int .i64 t322, .int .i64 t323, (.slice Ao33 t324.length co33)] 34 (0, 0))) ∧ Aside0 (wc.heap[gb337]? = some (.cells #[.int .i64 t328, .int .i64 t329, (.slice Ao40 t330.length co40), (.slice Ao41 t333.length co41)] 29 (0, 0))) ∧ Aside0 (Below w.heap.size w wc))
   case first =>
    have H := HC14.1; clear HC14; replace H := Option.bind_eq_some_iff.mp H; obtain ⟨t338, A420, H⟩ := H; (try dsimp only at H); have A42 := aM A420; clear A420
    by_cases c43 : t338 = true
    ·subst c43; replace H := zy1 H; have H' := aM H; clear H; have hnb44 := NB337_305.1; have hnc44 := NB305_337.1; have hnb45 := NB337_321.1; have hnc45 := NB321_337.1; have hnb46 := NB337_327.1; have hnc46 := NB327_337.1; obtain ⟨hcz47_0, hcz47_1, hcz47_2, hcz47_3, hfz47_0, hfz47_1, hfz47_2, hfz47_3⟩ := zc4f BK337.1; have hnb48 := NB321_305.1; have hnc48 := NB305_321.1; have hnb49 := NB321_327.1; have hnc49 := NB327_321.1; obtain ⟨hcz50_0, hcz50_1, hcz50_2, hcz50_3, hfz50_0, hfz50_1, hfz50_2, hfz50_3⟩ := zc4f BK321.1
     go_wp2_with (first | ((with_reducible refine gate_callee (f := 8) rfl ?_); refine zgL (some 41) Tryz.func8 #[.agg #[.int .i64 t328, .int .i64 t329, .slice Ao40 t330.length co40, .slice Ao41 t333.length co41], .agg #[.int .i64 t312, .int .i64 t313, .slice Ao25 t314.length co25, .slice Ao26 t317.length co26]] ?_; (with_reducible refine (laws_eqPkg.calls k t328 t329 _ _ t330 _ _ t333 t312 t313 _ _ t314 _ _ t317 true _ ?side1 ?side2 ?side3 ?side4 ?side5 ?side6 ?side7 ?side8 A42.1).mono ?_); (case side1 => refine (Kd.R_reads' (e := 71) (base := w.heap.size) (ok := fun k_ => (True ∧ some k_ ≠ (.slice Ao25 t314.length co25 : Value).ownBlock)) (n := t330.length) (c := co40) ?_).2.2; exact zT HO332.1 BK337.1 (by decide)); (case side2 => exact (Kd.R_reads' HO332.1).2.1); (case side3 => refine (Kd.R_reads' (e := 73) (base := w.heap.size) (ok := fun k_ => (True ∧ some k_ ≠ (.slice Ao26 t317.length co26 : Value).ownBlock)) (n := t333.length) (c := co41) ?_).2.2; exact zT HO335.1 BK337.1 (by decide)); (case side4 => exact (Kd.R_reads' HO335.1).2.1); (case side5 => refine (Kd.R_reads' (e := 71) (base := w.heap.size) (ok := fun k_ => (True ∧ some k_ ≠ (.slice Ao40 t330.length co40 : Value).ownBlock)) (n := t314.length) (c := co25) ?_).2.2; exact zT HO316.1 BK337.1 (by decide)); (case side6 => exact (Kd.R_reads' HO316.1).2.1); (case side7 => refine (Kd.R_reads' (e := 73) (base := w.heap.size) (ok := fun k_ => (True ∧ some k_ ≠ (.slice Ao41 t333.length co41 : Value).ownBlock)) (n := t317.length) (c := co26) ?_).2.2; exact zT HO319.1 BK337.1 (by decide)); (case side8 => exact (Kd.R_reads' HO319.1).2.1); rintro e w51 ⟨rfl, hb⟩; refine ⟨_, rfl, ?_⟩; have _ := aM (Kd.R_below (zT HO311.1 BK337.1 (by decide)) hb); have _ := aM (Kd.R_below (zT HO316.1 BK337.1 (by decide)) hb); have _ := aM (Kd.R_below (zT HO319.1 BK337.1 (by decide)) hb); have _ := aM (Kd.R_below (zT HO326.1 BK337.1 (by decide)) hb); have _ := aM (Kd.R_below (zT HO332.1 BK337.1 (by decide)) hb); have _ := aM (Kd.R_below (zT HO335.1 BK337.1 (by decide)) hb); have _ := aM (blk_below (zK1 BK305.1 NB305_337.1) hb); have _ := aM (blk_below (zK1 BK321.1 NB321_337.1) hb); have _ := aM (blk_below (zK1 BK327.1 NB327_337.1) hb); have _ := aM (blk_below (g := gb337) (o := .cells #[.int .i64 t328, .int .i64 t329, .slice Ao40 t330.length co40, .slice Ao41 t333.length co41] 29 (0, 0)) (by exact zP BK337.1 (by rfl)) hb); have _ := aM (below_step (zB4 HB.1 GE305.1 GE321.1 GE327.1 GE337.1) hb); clear HO311 HO316 HO319 HO326 HO332 HO335 BK305 BK321 BK327 BK337 HB; rename_i HO311 HO316 HO319 HO326 HO332 HO335 BK305 BK321 BK327 BK337 HB; (try clear hb); (try clear hb2); (try clear hk); (try clear hi)))
     go_meet
     case rel => exact ⟨_, ((t336 != t320)), (by first | rfl | (simp; done) | (simp [*]; done)), H', ⟨by first | omega | exact Nat.le_refl _⟩, ⟨by exact zR (Kd.R_mono HO316.1 (fun _ hk => hk.2))⟩, ⟨by exact zR (Kd.R_mono HO319.1 (fun _ hk => hk.2))⟩, ⟨by exact zR (Kd.R_mono HO326.1 (fun _ hk => trivial))⟩, ⟨by exact zR (Kd.R_mono HO332.1 (fun _ hk => hk.2))⟩, ⟨by exact zR (Kd.R_mono HO335.1 (fun _ hk => hk.2))⟩, ⟨zK BK305.1⟩, ⟨zK BK321.1⟩, ⟨zK BK327.1⟩, ⟨zK BK337.1⟩, ⟨zB4 HB.1 GE305.1 GE321.1 GE327.1 GE337.1⟩⟩
    ·replace c43 := Bool.eq_false_iff.mpr c43; subst c43; replace H := zy0 H; have H' := aM H; clear H; have hnb52 := NB337_305.1; have hnc52 := NB305_337.1; have hnb53 := NB337_321.1; have hnc53 := NB321_337.1; have hnb54 := NB337_327.1; have hnc54 := NB327_337.1; obtain ⟨hcz55_0, hcz55_1, hcz55_2, hcz55_3, hfz55_0, hfz55_1, hfz55_2, hfz55_3⟩ := zc4f BK337.1; have hnb56 := NB321_305.1; have hnc56 := NB305_321.1; have hnb57 := NB321_327.1; have hnc57 := NB327_321.1; obtain ⟨hcz58_0, hcz58_1, hcz58_2, hcz58_3, hfz58_0, hfz58_1, hfz58_2, hfz58_3⟩ := zc4f BK321.1
     go_wp2_with (first | ((with_reducible refine gate_callee (f := 8) rfl ?_); refine zgL (some 41) Tryz.func8 #[.agg #[.int .i64 t328, .int .i64 t329, .slice Ao40 t330.length co40, .slice Ao41 t333.length co41], .agg #[.int .i64 t312, .int .i64 t313, .slice Ao25 t314.length co25, .slice Ao26 t317.length co26]] ?_; (with_reducible refine (laws_eqPkg.calls k t328 t329 _ _ t330 _ _ t333 t312 t313 _ _ t314 _ _ t317 false _ ?side1 ?side2 ?side3 ?side4 ?side5 ?side6 ?side7 ?side8 A42.1).mono ?_); (case side1 => refine (Kd.R_reads' (e := 71) (base := w.heap.size) (ok := fun k_ => (True ∧ some k_ ≠ (.slice Ao25 t314.length co25 : Value).ownBlock)) (n := t330.length) (c := co40) ?_).2.2; exact zT HO332.1 BK337.1 (by decide)); (case side2 => exact (Kd.R_reads' HO332.1).2.1); (case side3 => refine (Kd.R_reads' (e := 73) (base := w.heap.size) (ok := fun k_ => (True ∧ some k_ ≠ (.slice Ao26 t317.length co26 : Value).ownBlock)) (n := t333.length) (c := co41) ?_).2.2; exact zT HO335.1 BK337.1 (by decide)); (case side4 => exact (Kd.R_reads' HO335.1).2.1); (case side5 => refine (Kd.R_reads' (e := 71) (base := w.heap.size) (ok := fun k_ => (True ∧ some k_ ≠ (.slice Ao40 t330.length co40 : Value).ownBlock)) (n := t314.length) (c := co25) ?_).2.2; exact zT HO316.1 BK337.1 (by decide)); (case side6 => exact (Kd.R_reads' HO316.1).2.1); (case side7 => refine (Kd.R_reads' (e := 73) (base := w.heap.size) (ok := fun k_ => (True ∧ some k_ ≠ (.slice Ao41 t333.length co41 : Value).ownBlock)) (n := t317.length) (c := co26) ?_).2.2; exact zT HO319.1 BK337.1 (by decide)); (case side8 => exact (Kd.R_reads' HO319.1).2.1); rintro e w59 ⟨rfl, hb⟩; refine ⟨_, rfl, ?_⟩; have _ := aM (Kd.R_below (zT HO311.1 BK337.1 (by decide)) hb); have _ := aM (Kd.R_below (zT HO316.1 BK337.1 (by decide)) hb); have _ := aM (Kd.R_below (zT HO319.1 BK337.1 (by decide)) hb); have _ := aM (Kd.R_below (zT HO326.1 BK337.1 (by decide)) hb); have _ := aM (Kd.R_below (zT HO332.1 BK337.1 (by decide)) hb); have _ := aM (Kd.R_below (zT HO335.1 BK337.1 (by decide)) hb); have _ := aM (blk_below (zK1 BK305.1 NB305_337.1) hb); have _ := aM (blk_below (zK1 BK321.1 NB321_337.1) hb); have _ := aM (blk_below (zK1 BK327.1 NB327_337.1) hb); have _ := aM (blk_below (g := gb337) (o := .cells #[.int .i64 t328, .int .i64 t329, .slice Ao40 t330.length co40, .slice Ao41 t333.length co41] 29 (0, 0)) (by exact zP BK337.1 (by rfl)) hb); have _ := aM (below_step (zB4 HB.1 GE305.1 GE321.1 GE327.1 GE337.1) hb); clear HO311 HO316 HO319 HO326 HO332 HO335 BK305 BK321 BK327 BK337 HB; rename_i HO311 HO316 HO319 HO326 HO332 HO335 BK305 BK321 BK327 BK337 HB; (try clear hb); (try clear hb2); (try clear hk); (try clear hi)))
     go_meet
     case rel => exact ⟨_, (true), (by first | rfl | (simp; done) | (simp [*]; done)), H', ⟨by first | omega | exact Nat.le_refl _⟩, ⟨by exact zR (Kd.R_mono HO316.1 (fun _ hk => hk.2))⟩, ⟨by exact zR (Kd.R_mono HO319.1 (fun _ hk => hk.2))⟩, ⟨by exact zR (Kd.R_mono HO326.1 (fun _ hk => trivial))⟩, ⟨by exact zR (Kd.R_mono HO332.1 (fun _ hk => hk.2))⟩, ⟨by exact zR (Kd.R_mono HO335.1 (fun _ hk => hk.2))⟩, ⟨zK BK305.1⟩, ⟨zK BK321.1⟩, ⟨zK BK327.1⟩, ⟨zK BK337.1⟩, ⟨zB4 HB.1 GE305.1 GE321.1 GE327.1 GE337.1⟩⟩
   case rest =>
    clear HC14
    try clear c2
    try clear p2
    try clear c3
    try clear c3b0
    try clear c3b1
    try clear c4
    try clear c5
    try clear c6
    try clear c6b0
    try clear c7
    try clear c8
    try clear c23
    try clear c30
    try clear c31
    try clear c36
    try clear c37
    try clear c38
    try clear c43
    try clear c44
    try clear c45
    try clear c46
    try clear c48
    try clear c49
    try clear c52
    try clear c53
    try clear c54
    try clear c56
    try clear c57
    try clear hcz16_0
    try clear hcz16_1
    try clear hcz16_2
    try clear hcz18_0
    try clear hcz18_1
    try clear hcz18_2
    try clear hcz24_0
    try clear hcz24_1
    try clear hcz24_2
    try clear hcz24_3
    try clear hcz27_0
    try clear hcz27_1
    try clear hcz27_2
    try clear hcz32_0
    try clear hcz32_1
    try clear hcz32_2
    try clear hcz39_0
    try clear hcz39_1
    try clear hcz39_2
    try clear hcz39_3
    try clear hcz47_0
    try clear hcz47_1
    try clear hcz47_2
    try clear hcz47_3
    try clear hcz50_0
    try clear hcz50_1
    try clear hcz50_2
    try clear hcz50_3
    try clear hcz55_0
    try clear hcz55_1
    try clear hcz55_2
    try clear hcz55_3
    try clear hcz58_0
    try clear hcz58_1
    try clear hcz58_2
    try clear hcz58_3
    try clear hcz8_0
    try clear hcz8_1
    try clear hcz8_2
    try clear hfz16_0
    try clear hfz16_1
    try clear hfz16_2
    try clear hfz18_0
    try clear hfz18_1
    try clear hfz18_2
    try clear hfz24_0
    try clear hfz24_1
    try clear hfz24_2
    try clear hfz24_3
    try clear hfz27_0
    try clear hfz27_1
    try clear hfz27_2
    try clear hfz32_0
    try clear hfz32_1
    try clear hfz32_2
    try clear hfz39_0
    try clear hfz39_1
    try clear hfz39_2
    try clear hfz39_3
    try clear hfz47_0
    try clear hfz47_1
    try clear hfz47_2
    try clear hfz47_3
    try clear hfz50_0
    try clear hfz50_1
    try clear hfz50_2
    try clear hfz50_3
    try clear hfz55_0
    try clear hfz55_1
    try clear hfz55_2
    try clear hfz55_3
    try clear hfz58_0
    try clear hfz58_1
    try clear hfz58_2
    try clear hfz58_3
    try clear hfz8_0
    try clear hfz8_1
    try clear hfz8_2
    obtain ⟨kq, x47_13, rfl, HA, HJ13, HO_322002, HO_322003, HO_328002, HO_338002, HO_338003, BK305, BK321, BK327, BK337, HB⟩ := hcut; cases kq with
    | zero => exact absurd HA.1 (by simp [laws_FnExactIndexHas.j0])
    | succ kj13 =>
     have H := HA.1; clear HA; simp only [laws_FnExactIndexHas.j0] at H; replace H := zin H; obtain ⟨c60, H⟩ := H; replace c60 := Bool.eq_false_iff.mpr c60; subst c60; replace H := Option.bind_eq_some_iff.mp H; obtain ⟨⟨t339, t340, t341⟩, A610, H⟩ := H; (try dsimp only at H); have A61 := aM A610; clear A610; replace H := Option.bind_eq_some_iff.mp H; obtain ⟨t344, A620, H⟩ := H; (try dsimp only at H); have A62 := aM A620; clear A620; replace H := zif H; obtain ⟨rfl, H⟩ := H; replace H := Option.bind_eq_some_iff.mp H; obtain ⟨⟨t345, t346⟩, A640, H⟩ := H; (try dsimp only at H); have A64 := aM A640; clear A640; have HC65 := aM H; clear H
     try go_wp2
     have _ := aM (Kd.R_drew HO_322002.1); have _ := aM (Kd.R_drew HO_322003.1); have _ := aM (Kd.R_drew HO_328002.1); have _ := aM (Kd.R_drew HO_338002.1); have _ := aM (Kd.R_drew HO_338003.1); have _ := aM (blk_drew BK305.1); have _ := aM (blk_drew BK321.1); have _ := aM (blk_drew BK327.1); have _ := aM (blk_drew BK337.1); have _ := aM (below_drew1 HB.1); clear HO_322002 HO_322003 HO_328002 HO_338002 HO_338003 BK305 BK321 BK327 BK337 HB; rename_i HO_322002 HO_322003 HO_328002 HO_338002 HO_338003 BK305 BK321 BK327 BK337 HB; refine start_ (n := 5) (S := fun w' => w'.cell? ⟨gb327, 0, none⟩ = some (.int .i64 t322) ∧ w'.cell? ⟨gb327, 1, none⟩ = some (.int .i64 t323) ∧ w'.cell? ⟨gb327, 2, none⟩ = some (.slice Ao33 t324.length co33) ∧ w'.cell? ⟨gb305, 0, none⟩ = some (.int .i64 a0_0) ∧ w'.cell? ⟨gb305, 1, none⟩ = some (.int .i64 a0_1) ∧ w'.cell? ⟨gb305, 2, none⟩ = some (.slice A0_2 l0_2.length c0_2)) (ds := []) (zA 5 0) (by kernel_rfl) rfl rfl ⟨(blk_cell BK327.1 0).trans rfl, (blk_cell BK327.1 1).trans rfl, (blk_cell BK327.1 2).trans rfl, (blk_cell BK305.1 0).trans rfl, (blk_cell BK305.1 1).trans rfl, (blk_cell BK305.1 2).trans rfl⟩ (fun hHeld => ?_); generalize wc.drew = w66 at HO_322002 HO_322003 HO_328002 HO_338002 HO_338003 BK305 BK321 BK327 BK337 HB hHeld ⊢; refine take_ (i := 0) (N := some 48) (v := ?_) (a' := ?_) (zA 5 1) rfl rfl (by kernel_rfl) (fun _ _ _ h => h) (Or.inl ⟨by rfl, ?_⟩) hHeld ?_ ?_; rotate_left
     ·rintro w' ⟨s0, s1, s2, s3, s4, s5⟩
      go_simp
      (with_reducible rfl)
     rotate_left
     ·simp only [zp0, zp1, zp2, zp3, zp4, i64_w, i32_w]; rfl
     refine take_ (i := 1) (N := some 49) (v := ?_) (a' := ?_) (zA 5 3) rfl rfl (by kernel_rfl) (fun _ _ _ h => h) (Or.inl ⟨by rfl, ?_⟩) hHeld ?_ ?_; rotate_left
     ·rintro w' ⟨s0, s1, s2, s3, s4, s5⟩
      go_simp
      (with_reducible rfl)
     rotate_left
     ·simp only [zp0, zp1, zp2, zp3, zp4, i64_w, i32_w]; rfl
     refine one_ (i := 2) (N := some 50) (zA 5 7) rfl rfl (by kernel_rfl) (by decide) (fun K hK => ?_); refine zg Tryz.func6 #[.agg #[.int .i64 a0_0, .int .i64 a0_1, .slice A0_2 l0_2.length c0_2]] ?_; (with_reducible refine (laws_toIndex.calls kj13 a0_0 a0_1 _ _ l0_2 t339 t340 t341 _ ?side1 ?side2 A61.1).mono ?_); (case side1 => exact zC (Kd.C_below HR0_2.1 HB.1)); (case side2 => exact HC0_2.1); rintro e w67 ⟨v342, rfl, ho0, hb⟩; refine ⟨_, rfl, ?_⟩; have _ := aM (Kd.R_below (zR HO_322002.1) hb); have _ := aM (Kd.R_below (zR HO_322003.1) hb); have _ := aM (Kd.R_elder' (zR HO_328002.1) (Kd.R_base ho0) hb); have _ := aM (Kd.R_below (zR HO_338002.1) hb); have _ := aM (Kd.R_below (zR HO_338003.1) hb); have _ := aM (Kd.R_lower (Kd.R_new' ho0 (Kd.R_lt (zR HO_328002.1))) (below_size (zB4 HB.1 GE305.1 GE321.1 GE327.1 GE337.1))); have _ := aM (blk_below (zK BK305.1) hb); have _ := aM (blk_below (zK BK321.1) hb); have _ := aM (blk_below (zK BK327.1) hb); have _ := aM (blk_below (zK BK337.1) hb); have _ := aM (below_step (zB4 HB.1 GE305.1 GE321.1 GE327.1 GE337.1) hb); clear HO_322002 HO_322003 HO_328002 HO_338002 HO_338003 BK305 BK321 BK327 BK337 HB; rename_i HO_322002 HO_322003 HO_328002 HO_338002 HO_338003 HO343 BK305 BK321 BK327 BK337 HB; (try clear hb); (try clear hb2); (try clear hk); (try clear hi); (try clear ho0); obtain ⟨Ao68, co68, eo68⟩ := Kd.R_slice HO343.1; (first | subst eo68 | (injection eo68 with f1_ f2_ f3_; have f4_ := f1_.symm; have f5_ := f3_.symm; clear f1_ f2_ f3_; subst f4_; subst f5_)); refine hK.out _ _ ⟨(blk_cell BK327.1 0).trans rfl, (blk_cell BK327.1 1).trans rfl, (blk_cell BK327.1 2).trans rfl, (blk_cell BK305.1 0).trans rfl, (blk_cell BK305.1 1).trans rfl, (blk_cell BK305.1 2).trans rfl⟩ (fun hHeld => ?_); clear hK K; refine zn (some 50) ?_; refine one_ (i := 3) (N := some 51) (zA 5 15) rfl rfl (by kernel_rfl) (by decide) (fun K hK => ?_); refine zg Tryz.func9 #[.agg #[.int .i64 t322, .int .i64 t323, .slice Ao33 t324.length co33], .agg #[.int .i64 t339, .int .i64 t340, .slice Ao68 t341.length co68]] ?_; (with_reducible refine (laws_eqIndex.calls kj13 t322 t323 _ _ t324 t339 t340 _ _ t341 true _ ?side1 ?side2 ?side3 ?side4 A62.1).mono ?_); (case side1 => exact zC (Kd.R_reads' HO_328002.1).2.2); (case side2 => exact (Kd.R_reads' HO_328002.1).2.1); (case side3 => exact zC (Kd.R_reads' HO343.1).2.2); (case side4 => exact (Kd.R_reads' HO343.1).2.1); rintro e w69 ⟨rfl, hb⟩; refine ⟨_, rfl, ?_⟩; have _ := aM (Kd.R_below (zR HO_322002.1) hb); have _ := aM (Kd.R_below (zR HO_322003.1) hb); have _ := aM (Kd.R_below (zR HO_328002.1) hb); have _ := aM (Kd.R_below (zR HO_338002.1) hb); have _ := aM (Kd.R_below (zR HO_338003.1) hb); have _ := aM (Kd.R_below (zR HO343.1) hb); have _ := aM (blk_below (zK BK305.1) hb); have _ := aM (blk_below (zK BK321.1) hb); have _ := aM (blk_below (zK BK327.1) hb); have _ := aM (blk_below (zK BK337.1) hb); have _ := aM (below_step (zB4 HB.1 GE305.1 GE321.1 GE327.1 GE337.1) hb); clear HO_322002 HO_322003 HO_328002 HO_338002 HO_338003 HO343 BK305 BK321 BK327 BK337 HB; rename_i HO_322002 HO_322003 HO_328002 HO_338002 HO_338003 HO343 BK305 BK321 BK327 BK337 HB; (try clear hb); (try clear hb2); (try clear hk); (try clear hi); refine hK.out _ _ ⟨(blk_cell BK327.1 0).trans rfl, (blk_cell BK327.1 1).trans rfl, (blk_cell BK327.1 2).trans rfl, (blk_cell BK305.1 0).trans rfl, (blk_cell BK305.1 1).trans rfl, (blk_cell BK305.1 2).trans rfl⟩ (fun hHeld => ?_); clear hK K; refine zn (some 51) ?_; refine pure_ (i := 4) (N := some 52) (v := ?_) (a' := ?_) (zA 5 31) rfl rfl (by kernel_rfl) (fun _ _ _ h => h) (Or.inl ⟨by rfl, ?_⟩) ?_ ?_; rotate_left
     ·intro w'
      go_simp
      (with_reducible rfl)
     rotate_left
     ·simp only [zp0, zp1, zp2, zp3, zp4, i64_w, i32_w]; rfl
     refine done_ (by kernel_rfl) ?_; have hnb70 := NB327_305.1; have hnc70 := NB305_327.1; have hnb71 := NB327_321.1; have hnc71 := NB321_327.1; have hnb72 := NB327_337.1; have hnc72 := NB337_327.1; obtain ⟨hcz73_0, hcz73_1, hcz73_2, hfz73_0, hfz73_1, hfz73_2⟩ := zc3f BK327.1
     go_upto_region 16 with (first | ((with_reducible refine gate_callee (f := 10) rfl ?_); refine zgL (some 55) Tryz.func10 #[.agg #[.int .i64 t322, .int .i64 t323, .slice Ao33 t324.length co33], .int .i64 1] ?_; (with_reducible refine (laws_markIndex.calls kj13 t322 t323 (fun k_ => some k_ = (.slice Ao33 t324.length co33 : Value).ownBlock) (.slice Ao33 t324.length co33) t324 1 t345 t346 w _ ?side1 ?side2 A64.1).mono ?_); (case side1 => exact zB4 HB.1 GE305.1 GE321.1 GE327.1 GE337.1); (case side2 => exact Kd.R_tight rfl HO_328002.1); rintro e w74 ⟨rfl, hy0, hb, hkp⟩; refine ⟨_, rfl, ?_⟩; have _ := aM (Kd.R_mono (ok' := fun k_ => some k_ ≠ (.slice Ao40 t330.length co40 : Value).ownBlock) (Kd.R_keptB ((Kd.R_apart' HO_322002.1 (Kd.R_typed HO_328002.1) (by decide))) hkp (fun k_ hk_ hs_ => (hk_.2) hs_)) (fun k_ hk_ => hk_.1.1)); have _ := aM (Kd.R_mono (ok' := fun k_ => some k_ ≠ (.slice Ao41 t333.length co41 : Value).ownBlock) (Kd.R_keptB ((Kd.R_apart' HO_322003.1 (Kd.R_typed HO_328002.1) (by decide))) hkp (fun k_ hk_ hs_ => (hk_.2) hs_)) (fun k_ hk_ => hk_.1.1)); have _ := aM (Kd.R_reok rfl hy0 (fun k_ e_ => HO_328002.1.1 k_ e_)); have _ := aM (Kd.R_mono (ok' := fun k_ => some k_ ≠ (.slice Ao25 t314.length co25 : Value).ownBlock) (Kd.R_keptB ((Kd.R_apart' HO_338002.1 (Kd.R_typed HO_328002.1) (by decide))) hkp (fun k_ hk_ hs_ => (hk_.2) hs_)) (fun k_ hk_ => hk_.1.1)); have _ := aM (Kd.R_mono (ok' := fun k_ => some k_ ≠ (.slice Ao26 t317.length co26 : Value).ownBlock) (Kd.R_keptB ((Kd.R_apart' HO_338003.1 (Kd.R_typed HO_328002.1) (by decide))) hkp (fun k_ hk_ hs_ => (hk_.2) hs_)) (fun k_ hk_ => hk_.1.1)); have _ := aM (blk_kept (zK BK305.1) hkp (fun hs_ => (fun e_ => (Kd.R_ne HO_328002.1 BK305.1 (by decide)) e_) hs_)); have _ := aM (blk_kept (zK BK321.1) hkp (fun hs_ => (fun e_ => (Kd.R_ne HO_328002.1 BK321.1 (by decide)) e_) hs_)); have _ := aM (blk_kept (zK BK327.1) hkp (fun hs_ => (fun e_ => (Kd.R_ne HO_328002.1 BK327.1 (by decide)) e_) hs_)); have _ := aM (blk_kept (zK BK337.1) hkp (fun hs_ => (fun e_ => (Kd.R_ne HO_328002.1 BK337.1 (by decide)) e_) hs_)); have _ := aM (Kd.R_mono (ok' := fun k_ => some k_ ≠ (.slice Ao33 t324.length co33 : Value).ownBlock) (Kd.R_keptB (HO343.1) hkp (fun k_ hk_ hs_ => (hk_.2) hs_)) (fun k_ hk_ => hk_.1.2)); have _ := aM (hb); clear HO_322002 HO_322003 HO_328002 HO_338002 HO_338003 BK305 BK321 BK327 BK337 HO343 HB; rename_i HO_322002 HO_322003 HO_328002 HO_338002 HO_338003 BK305 BK321 BK327 BK337 HO343 HB; (try clear hb); (try clear hkp); (try clear hy0)))
     (try simp only [zp0, zp1, zp2, zp3, zp4])
     go_cut [68] (fun v68 wc => ∃ (kq : Nat) (x68_64 : Bool), v68 = .bool x68_64 ∧ Aside0 (laws_FnExactIndexHas.j1 kq a1 t320 x68_64 a0_0 a0_1 l0_2 t312 t313 t314 t317 t328 t329 t330 t333 = some r) ∧ Aside0 (kq ≤ kj13) ∧ Aside0 (Kd.R k71 71 wc w.heap.size (fun k_ => some k_ ≠ ((.slice Ao40 t330.length co40) : Value).ownBlock) (.slice Ao25 t314.length co25) t314) ∧ Aside0 (Kd.R k73 73 wc w.heap.size (fun k_ => some k_ ≠ ((.slice Ao41 t333.length co41) : Value).ownBlock) (.slice Ao26 t317.length co26) t317) ∧ Aside0 (Kd.R k47 47 wc w.heap.size (fun _ => True) (.slice Ao33 t324.length co33) t346) ∧ Aside0 (Kd.R k71 71 wc w.heap.size (fun k_ => some k_ ≠ ((.slice Ao25 t314.length co25) : Value).ownBlock) (.slice Ao40 t330.length co40) t330) ∧ Aside0 (Kd.R k73 73 wc w.heap.size (fun k_ => some k_ ≠ ((.slice Ao26 t317.length co26) : Value).ownBlock) (.slice Ao41 t333.length co41) t333) ∧ Aside0 (wc.heap[gb305]? = some (.cells #[.int .i64 a0_0, .int .i64 a0_1, (.slice A0_2 l0_2.length c0_2)] 24 (0, 0))) ∧ Aside0 (wc.heap[gb321]? = some (.cells #[.int .i64 t312, .int .i64 t313, (.slice Ao25 t314.length co25), (.slice Ao26 t317.length co26)] 29 (0, 0))) ∧ Aside0 (wc.heap[gb327]? = some (.cells #[.int .i64 t322, .int .i64 t323, (.slice Ao33 t324.length co33)] 34 (0, 0))) ∧ Aside0 (wc.heap[gb337]? = some (.cells #[.int .i64 t328, .int .i64 t329, (.slice Ao40 t330.length co40), (.slice Ao41 t333.length co41)] 29 (0, 0))) ∧ Aside0 (Below w.heap.size w wc))
     case first =>
      have H := HC65.1; clear HC65
      by_cases c75 : t345 < 0
      ·rw [if_pos c75] at H; have c75b0 : decide (t345 < 0) = true := decide_eq_true c75; clear c75; (first | rw [c75b0] | (simp only [i64_w, i32_w]; rw [c75b0]) | skip); have H' := aM H; clear H
       go_wp2
       go_meet
       case rel => exact ⟨_, (true), (by first | rfl | (simp; done) | (simp [*]; done)), H', ⟨by have := HJ13.1; first | omega | exact Nat.le_refl _⟩, ⟨zR HO_322002.1⟩, ⟨zR HO_322003.1⟩, ⟨by exact zR (Kd.R_mono HO_328002.1 (fun _ hk => trivial))⟩, ⟨zR HO_338002.1⟩, ⟨zR HO_338003.1⟩, ⟨zK BK305.1⟩, ⟨zK BK321.1⟩, ⟨zK BK327.1⟩, ⟨zK BK337.1⟩, ⟨zB4 HB.1 GE305.1 GE321.1 GE327.1 GE337.1⟩⟩
      ·rw [if_neg c75] at H; have c75b0 : decide (t345 < 0) = false := decide_eq_false c75; clear c75; (first | rw [c75b0] | (simp only [i64_w, i32_w]; rw [c75b0]) | skip); replace H := Option.bind_eq_some_iff.mp H; obtain ⟨t347, A760, H⟩ := H; (try dsimp only at H); have A76 := aM A760; clear A760
       by_cases c77 : t347 = true
       ·subst c77; replace H := zy1 H; have H' := aM H; clear H; have hnb78 := NB337_305.1; have hnc78 := NB305_337.1; have hnb79 := NB337_321.1; have hnc79 := NB321_337.1; have hnb80 := NB337_327.1; have hnc80 := NB327_337.1; obtain ⟨hcz81_0, hcz81_1, hcz81_2, hcz81_3, hfz81_0, hfz81_1, hfz81_2, hfz81_3⟩ := zc4f BK337.1; have hnb82 := NB321_305.1; have hnc82 := NB305_321.1; have hnb83 := NB321_327.1; have hnc83 := NB327_321.1; obtain ⟨hcz84_0, hcz84_1, hcz84_2, hcz84_3, hfz84_0, hfz84_1, hfz84_2, hfz84_3⟩ := zc4f BK321.1
        go_wp2_with (first | (go_at_call 8; (with_reducible refine (laws_eqPkg.calls kj13 t328 t329 _ _ t330 _ _ t333 t312 t313 _ _ t314 _ _ t317 true _ ?side1 ?side2 ?side3 ?side4 ?side5 ?side6 ?side7 ?side8 A76.1).mono ?_); (case side1 => exact zC (Kd.R_reads' HO_338002.1).2.2); (case side2 => exact (Kd.R_reads' HO_338002.1).2.1); (case side3 => exact zC (Kd.R_reads' HO_338003.1).2.2); (case side4 => exact (Kd.R_reads' HO_338003.1).2.1); (case side5 => exact zC (Kd.R_reads' HO_322002.1).2.2); (case side6 => exact (Kd.R_reads' HO_322002.1).2.1); (case side7 => exact zC (Kd.R_reads' HO_322003.1).2.2); (case side8 => exact (Kd.R_reads' HO_322003.1).2.1); rintro e w85 ⟨rfl, hb⟩; have _ := aM (Kd.R_below (zR HO_322002.1) hb); have _ := aM (Kd.R_below (zR HO_322003.1) hb); have _ := aM (Kd.R_below (zR HO_328002.1) hb); have _ := aM (Kd.R_below (zR HO_338002.1) hb); have _ := aM (Kd.R_below (zR HO_338003.1) hb); have _ := aM (Kd.R_below (zR HO343.1) hb); have _ := aM (blk_below (zK BK305.1) hb); have _ := aM (blk_below (zK BK321.1) hb); have _ := aM (blk_below (zK BK327.1) hb); have _ := aM (blk_below (zK BK337.1) hb); have _ := aM (below_step (zB4 HB.1 GE305.1 GE321.1 GE327.1 GE337.1) hb); clear HO_322002 HO_322003 HO_328002 HO_338002 HO_338003 HO343 BK305 BK321 BK327 BK337 HB; rename_i HO_322002 HO_322003 HO_328002 HO_338002 HO_338003 HO343 BK305 BK321 BK327 BK337 HB; (try clear hb); (try clear hb2); (try clear hk); (try clear hi)))
        go_meet
        case rel => exact ⟨_, ((t336 != t320)), (by first | rfl | (simp; done) | (simp [*]; done)), H', ⟨by have := HJ13.1; first | omega | exact Nat.le_refl _⟩, ⟨zR HO_322002.1⟩, ⟨zR HO_322003.1⟩, ⟨by exact zR (Kd.R_mono HO_328002.1 (fun _ hk => trivial))⟩, ⟨zR HO_338002.1⟩, ⟨zR HO_338003.1⟩, ⟨zK BK305.1⟩, ⟨zK BK321.1⟩, ⟨zK BK327.1⟩, ⟨zK BK337.1⟩, ⟨zB4 HB.1 GE305.1 GE321.1 GE327.1 GE337.1⟩⟩
       ·replace c77 := Bool.eq_false_iff.mpr c77; subst c77; replace H := zy0 H; have H' := aM H; clear H; have hnb86 := NB337_305.1; have hnc86 := NB305_337.1; have hnb87 := NB337_321.1; have hnc87 := NB321_337.1; have hnb88 := NB337_327.1; have hnc88 := NB327_337.1; obtain ⟨hcz89_0, hcz89_1, hcz89_2, hcz89_3, hfz89_0, hfz89_1, hfz89_2, hfz89_3⟩ := zc4f BK337.1; have hnb90 := NB321_305.1; have hnc90 := NB305_321.1; have hnb91 := NB321_327.1; have hnc91 := NB327_321.1; obtain ⟨hcz92_0, hcz92_1, hcz92_2, hcz92_3, hfz92_0, hfz92_1, hfz92_2, hfz92_3⟩ := zc4f BK321.1
        go_wp2_with (first | (go_at_call 8; (with_reducible refine (laws_eqPkg.calls kj13 t328 t329 _ _ t330 _ _ t333 t312 t313 _ _ t314 _ _ t317 false _ ?side1 ?side2 ?side3 ?side4 ?side5 ?side6 ?side7 ?side8 A76.1).mono ?_); (case side1 => exact zC (Kd.R_reads' HO_338002.1).2.2); (case side2 => exact (Kd.R_reads' HO_338002.1).2.1); (case side3 => exact zC (Kd.R_reads' HO_338003.1).2.2); (case side4 => exact (Kd.R_reads' HO_338003.1).2.1); (case side5 => exact zC (Kd.R_reads' HO_322002.1).2.2); (case side6 => exact (Kd.R_reads' HO_322002.1).2.1); (case side7 => exact zC (Kd.R_reads' HO_322003.1).2.2); (case side8 => exact (Kd.R_reads' HO_322003.1).2.1); rintro e w93 ⟨rfl, hb⟩; have _ := aM (Kd.R_below (zR HO_322002.1) hb); have _ := aM (Kd.R_below (zR HO_322003.1) hb); have _ := aM (Kd.R_below (zR HO_328002.1) hb); have _ := aM (Kd.R_below (zR HO_338002.1) hb); have _ := aM (Kd.R_below (zR HO_338003.1) hb); have _ := aM (Kd.R_below (zR HO343.1) hb); have _ := aM (blk_below (zK BK305.1) hb); have _ := aM (blk_below (zK BK321.1) hb); have _ := aM (blk_below (zK BK327.1) hb); have _ := aM (blk_below (zK BK337.1) hb); have _ := aM (below_step (zB4 HB.1 GE305.1 GE321.1 GE327.1 GE337.1) hb); clear HO_322002 HO_322003 HO_328002 HO_338002 HO_338003 HO343 BK305 BK321 BK327 BK337 HB; rename_i HO_322002 HO_322003 HO_328002 HO_338002 HO_338003 HO343 BK305 BK321 BK327 BK337 HB; (try clear hb); (try clear hb2); (try clear hk); (try clear hi)))
        go_meet
        case rel => exact ⟨_, (true), (by first | rfl | (simp; done) | (simp [*]; done)), H', ⟨by have := HJ13.1; first | omega | exact Nat.le_refl _⟩, ⟨zR HO_322002.1⟩, ⟨zR HO_322003.1⟩, ⟨by exact zR (Kd.R_mono HO_328002.1 (fun _ hk => trivial))⟩, ⟨zR HO_338002.1⟩, ⟨zR HO_338003.1⟩, ⟨zK BK305.1⟩, ⟨zK BK321.1⟩, ⟨zK BK327.1⟩, ⟨zK BK337.1⟩, ⟨zB4 HB.1 GE305.1 GE321.1 GE327.1 GE337.1⟩⟩
     case rest =>
      clear HC65
      try clear c1
      try clear c2
      try clear p2
      try clear c3
      try clear c3b0
      try clear c3b1
      try clear c4
      try clear c5
      try clear c6
      try clear c6b0
      try clear c7
      try clear c8
      try clear c9
      try clear c10
      try clear c23
      try clear c30
      try clear c31
      try clear c36
      try clear c37
      try clear c38
      try clear c43
      try clear c44
      try clear c45
      try clear c46
      try clear c48
      try clear c49
      try clear c52
      try clear c53
      try clear c54
      try clear c56
      try clear c57
      try clear c60
      try clear c63
      try clear c70
      try clear c71
      try clear c72
      try clear c75
      try clear c75b0
      try clear c77
      try clear c78
      try clear c79
      try clear c80
      try clear c82
      try clear c83
      try clear c86
      try clear c87
      try clear c88
      try clear c90
      try clear c91
      try clear hcz16_0
      try clear hcz16_1
      try clear hcz16_2
      try clear hcz18_0
      try clear hcz18_1
      try clear hcz18_2
      try clear hcz24_0
      try clear hcz24_1
      try clear hcz24_2
      try clear hcz24_3
      try clear hcz27_0
      try clear hcz27_1
      try clear hcz27_2
      try clear hcz32_0
      try clear hcz32_1
      try clear hcz32_2
      try clear hcz39_0
      try clear hcz39_1
      try clear hcz39_2
      try clear hcz39_3
      try clear hcz47_0
      try clear hcz47_1
      try clear hcz47_2
      try clear hcz47_3
      try clear hcz50_0
      try clear hcz50_1
      try clear hcz50_2
      try clear hcz50_3
      try clear hcz55_0
      try clear hcz55_1
      try clear hcz55_2
      try clear hcz55_3
      try clear hcz58_0
      try clear hcz58_1
      try clear hcz58_2
      try clear hcz58_3
      try clear hcz73_0
      try clear hcz73_1
      try clear hcz73_2
      try clear hcz81_0
      try clear hcz81_1
      try clear hcz81_2
      try clear hcz81_3
      try clear hcz84_0
      try clear hcz84_1
      try clear hcz84_2
      try clear hcz84_3
      try clear hcz89_0
      try clear hcz89_1
      try clear hcz89_2
      try clear hcz89_3
      try clear hcz8_0
      try clear hcz8_1
      try clear hcz8_2
      try clear hcz92_0
      try clear hcz92_1
      try clear hcz92_2
      try clear hcz92_3
      try clear hfz16_0
      try clear hfz16_1
      try clear hfz16_2
      try clear hfz18_0
      try clear hfz18_1
      try clear hfz18_2
      try clear hfz24_0
      try clear hfz24_1
      try clear hfz24_2
      try clear hfz24_3
      try clear hfz27_0
      try clear hfz27_1
      try clear hfz27_2
      try clear hfz32_0
      try clear hfz32_1
      try clear hfz32_2
      try clear hfz39_0
      try clear hfz39_1
      try clear hfz39_2
      try clear hfz39_3
      try clear hfz47_0
      try clear hfz47_1
      try clear hfz47_2
      try clear hfz47_3
      try clear hfz50_0
      try clear hfz50_1
      try clear hfz50_2
      try clear hfz50_3
      try clear hfz55_0
      try clear hfz55_1
      try clear hfz55_2
      try clear hfz55_3
      try clear hfz58_0
      try clear hfz58_1
      try clear hfz58_2
      try clear hfz58_3
      try clear hfz73_0
      try clear hfz73_1
      try clear hfz73_2
      try clear hfz81_0
      try clear hfz81_1
      try clear hfz81_2
      try clear hfz81_3
      try clear hfz84_0
      try clear hfz84_1
      try clear hfz84_2
      try clear hfz84_3
      try clear hfz89_0
      try clear hfz89_1
      try clear hfz89_2
      try clear hfz89_3
      try clear hfz8_0
      try clear hfz8_1
      try clear hfz8_2
      try clear hfz92_0
      try clear hfz92_1
      try clear hfz92_2
      try clear hfz92_3
      try clear p2
      obtain ⟨kq, x68_64, rfl, HA, HJ64, HO_322002, HO_322003, HO_328002, HO_338002, HO_338003, BK305, BK321, BK327, BK337, HB⟩ := hcut; have hl328002_64 := (Kd.R_reads' HO_328002.1).1; rw [hl328002_64] at HO_328002; (try simp only [hl328002_64]); (try simp only [hl328002_64] at BK305); (try simp only [hl328002_64] at BK321); (try simp only [hl328002_64] at BK327); (try simp only [hl328002_64] at BK337); (try simp only [hl328002_64] at HO_322002); (try simp only [hl328002_64] at HO_322003); (try simp only [hl328002_64] at HO_338002); (try simp only [hl328002_64] at HO_338003); cases kq with
      | zero => exact absurd HA.1 (by simp [laws_FnExactIndexHas.j1])
      | succ kj64 =>
       have H := HA.1; clear HA; simp only [laws_FnExactIndexHas.j1] at H; replace H := zin H; obtain ⟨c94, H⟩ := H; replace c94 := Bool.eq_false_iff.mpr c94; subst c94; replace H := Option.bind_eq_some_iff.mp H; obtain ⟨⟨t348, t349, t350⟩, A950, H⟩ := H; (try dsimp only at H); have A95 := aM A950; clear A950; replace H := Option.bind_eq_some_iff.mp H; obtain ⟨t351, A960, H⟩ := H; (try dsimp only at H); have A96 := aM A960; clear A960; replace H := zin H; obtain ⟨c97, H⟩ := H; have c97b0 : decide (t351 < 0) = false := decide_eq_false c97; clear c97; replace H := zif H; obtain ⟨c98, H⟩ := H; have c98b0 : (t351 == t348) = true := beq_iff_eq.mpr c98; have c98b1 : (t351 != t348) = false := bne_eq_false_iff_eq.mpr c98; clear c98; replace H := Option.bind_eq_some_iff.mp H; obtain ⟨⟨t352, t353, t354⟩, A990, H⟩ := H; (try dsimp only at H); have A99 := aM A990; clear A990; replace H := Option.bind_eq_some_iff.mp H; obtain ⟨⟨t357, t358, t359, t362, t365⟩, A1000, H⟩ := H; (try dsimp only at H); have A100 := aM A1000; clear A1000; have HC101 := aM H; clear H; have hnb102 := NB337_305.1; have hnc102 := NB305_337.1; have hnb103 := NB337_321.1; have hnc103 := NB321_337.1; have hnb104 := NB337_327.1; have hnc104 := NB327_337.1; obtain ⟨hcz105_0, hcz105_1, hcz105_2, hcz105_3, hfz105_0, hfz105_1, hfz105_2, hfz105_3⟩ := zc4f BK337.1
       go_upto_region 27 with (first | ((with_reducible refine gate_callee (f := 11) rfl ?_); refine zgL (some 71) Tryz.func11 #[.agg #[.int .i64 t328, .int .i64 t329, .slice Ao40 t330.length co40, .slice Ao41 t333.length co41], .int .i64 1] ?_; (with_reducible refine (laws_markPkg.calls kj64 t328 t329 (fun k_ => some k_ = (.slice Ao40 t330.length co40 : Value).ownBlock) (.slice Ao40 t330.length co40) t330 (fun k_ => some k_ = (.slice Ao41 t333.length co41 : Value).ownBlock) (.slice Ao41 t333.length co41) t333 1 t348 t349 t350 w _ ?side1 ?side2 ?side3 A95.1).mono ?_); (case side1 => exact zB4 HB.1 GE305.1 GE321.1 GE327.1 GE337.1); (case side2 => exact Kd.R_tight rfl HO_338002.1); (case side3 => exact Kd.R_tight rfl HO_338003.1); rintro e w106 ⟨rfl, hy0, hy1, hb, hkp⟩; refine ⟨_, rfl, ?_⟩; have _ := aM (Kd.R_mono (ok' := fun k_ => some k_ ≠ (.slice Ao40 t330.length co40 : Value).ownBlock) (Kd.R_keptB ((Kd.R_apart' HO_322002.1 (Kd.R_typed HO_338003.1) (by decide))) hkp (fun k_ hk_ hs_ => Or.elim hs_ (fun e_ => (hk_.1) e_) (fun e_ => (hk_.2) e_))) (fun k_ hk_ => hk_.1.1)); have _ := aM (Kd.R_mono (ok' := fun k_ => some k_ ≠ (.slice Ao41 t333.length co41 : Value).ownBlock) (Kd.R_keptB ((Kd.R_apart' HO_322003.1 (Kd.R_typed HO_338002.1) (by decide))) hkp (fun k_ hk_ hs_ => Or.elim hs_ (fun e_ => (hk_.2) e_) (fun e_ => (hk_.1) e_))) (fun k_ hk_ => hk_.1.1)); have _ := aM (Kd.R_mono (ok' := fun k_ => True) (Kd.R_keptB ((Kd.R_apart' (Kd.R_apart' HO_328002.1 (Kd.R_typed HO_338002.1) (by decide)) (Kd.R_typed HO_338003.1) (by decide))) hkp (fun k_ hk_ hs_ => Or.elim hs_ (fun e_ => (hk_.1.2) e_) (fun e_ => (hk_.2) e_))) (fun k_ hk_ => trivial)); have _ := aM (Kd.R_reok rfl hy0 (fun k_ e_ => HO_338002.1.1 k_ e_)); have _ := aM (Kd.R_reok rfl hy1 (fun k_ e_ => HO_338003.1.1 k_ e_)); have _ := aM (blk_kept (zK BK305.1) hkp (fun hs_ => Or.elim hs_ (fun e_ => (fun e_ => (Kd.R_ne HO_338002.1 BK305.1 (by decide)) e_) e_) (fun e_ => (fun e_ => (Kd.R_ne HO_338003.1 BK305.1 (by decide)) e_) e_))); have _ := aM (blk_kept (zK BK321.1) hkp (fun hs_ => Or.elim hs_ (fun e_ => (fun e_ => (Kd.R_ne HO_338002.1 BK321.1 (by decide)) e_) e_) (fun e_ => (fun e_ => (Kd.R_ne HO_338003.1 BK321.1 (by decide)) e_) e_))); have _ := aM (blk_kept (zK BK327.1) hkp (fun hs_ => Or.elim hs_ (fun e_ => (fun e_ => (Kd.R_ne HO_338002.1 BK327.1 (by decide)) e_) e_) (fun e_ => (fun e_ => (Kd.R_ne HO_338003.1 BK327.1 (by decide)) e_) e_))); have _ := aM (blk_kept (zK BK337.1) hkp (fun hs_ => Or.elim hs_ (fun e_ => (fun e_ => (Kd.R_ne HO_338002.1 BK337.1 (by decide)) e_) e_) (fun e_ => (fun e_ => (Kd.R_ne HO_338003.1 BK337.1 (by decide)) e_) e_))); have _ := aM (hb); clear HO_322002 HO_322003 HO_328002 HO_338002 HO_338003 BK305 BK321 BK327 BK337 HB; rename_i HO_322002 HO_322003 HO_328002 HO_338002 HO_338003 BK305 BK321 BK327 BK337 HB; (try clear hb); (try clear hkp); (try clear hy0); (try clear hy1); obtain ⟨hcz107_0, hcz107_1, hcz107_2, hcz107_3, hfz107_0, hfz107_1, hfz107_2, hfz107_3⟩ := zc4f BK337.1) | ((with_reducible refine gate_callee (f := 12) rfl ?_); refine goesL_ (some 74) rfl rfl Tryz.func12 (by kernel_rfl) rfl #[.agg #[.int .i64 t328, .int .i64 t329, .slice Ao40 t349.length co40, .slice Ao41 t350.length co41], .int .i64 1] rfl (by (try simp only [zm1, zm2, zm3]); first | done | (rw [show t349.length = t330.length from (Kd.R_reads' HO_338002.1).1.symm, show t350.length = t333.length from (Kd.R_reads' HO_338003.1).1.symm] <;> rfl) | rfl | (simp only [List.length_drop, List.length_take]; rfl)) ?_; (with_reducible refine (laws_heldPkg.calls kj64 t328 t329 _ _ t349 _ _ t350 1 t351 _ ?side1 ?side2 ?side3 ?side4 A96.1).mono ?_); (case side1 => exact zC (Kd.R_reads' HO_338002.1).2.2); (case side2 => rw [show t349.length = t330.length from (Kd.R_reads' HO_338002.1).1.symm]; exact (Kd.R_reads' HO_338002.1).2.1); (case side3 => exact zC (Kd.R_reads' HO_338003.1).2.2); (case side4 => rw [show t350.length = t333.length from (Kd.R_reads' HO_338003.1).1.symm]; exact (Kd.R_reads' HO_338003.1).2.1); rintro e w108 ⟨rfl, hb⟩; refine ⟨_, rfl, ?_⟩; have _ := aM (Kd.R_below (zR HO_322002.1) hb); have _ := aM (Kd.R_below (zR HO_322003.1) hb); have _ := aM (Kd.R_below (zR HO_328002.1) hb); have _ := aM (Kd.R_below (zR HO_338002.1) hb); have _ := aM (Kd.R_below (zR HO_338003.1) hb); have _ := aM (blk_below (zK BK305.1) hb); have _ := aM (blk_below (zK BK321.1) hb); have _ := aM (blk_below (zK BK327.1) hb); have _ := aM (blk_below (zK BK337.1) hb); have _ := aM (below_step (zB4 HB.1 GE305.1 GE321.1 GE327.1 GE337.1) hb); clear HO_322002 HO_322003 HO_328002 HO_338002 HO_338003 BK305 BK321 BK327 BK337 HB; rename_i HO_322002 HO_322003 HO_328002 HO_338002 HO_338003 BK305 BK321 BK327 BK337 HB; (try clear hb); (try clear hb2); (try clear hk); (try clear hi); have hnb109 := NB305_321.1; have hnc109 := NB321_305.1; have hnb110 := NB305_327.1; have hnc110 := NB327_305.1; obtain ⟨hcz111_0, hcz111_1, hcz111_2, hfz111_0, hfz111_1, hfz111_2⟩ := zc3f BK305.1) | ((with_reducible refine gate_callee (f := 6) rfl ?_); refine zgL (some 82) Tryz.func6 #[.agg #[.int .i64 a0_0, .int .i64 a0_1, .slice A0_2 l0_2.length c0_2]] ?_; (with_reducible refine (laws_toIndex.calls kj64 a0_0 a0_1 _ _ l0_2 t352 t353 t354 _ ?side1 ?side2 A99.1).mono ?_); (case side1 => exact zC (Kd.C_below HR0_2.1 HB.1)); (case side2 => exact HC0_2.1); rintro e w112 ⟨v355, rfl, ho0, hb⟩; refine ⟨_, rfl, ?_⟩; have _ := aM (Kd.R_below (zR HO_322002.1) hb); have _ := aM (Kd.R_below (zR HO_322003.1) hb); have _ := aM (Kd.R_elder' (zR HO_328002.1) (Kd.R_base ho0) hb); have _ := aM (Kd.R_below (zR HO_338002.1) hb); have _ := aM (Kd.R_below (zR HO_338003.1) hb); have _ := aM (Kd.R_lower (Kd.R_new' ho0 (Kd.R_lt (zR HO_328002.1))) (below_size (zB4 HB.1 GE305.1 GE321.1 GE327.1 GE337.1))); have _ := aM (blk_below (zK BK305.1) hb); have _ := aM (blk_below (zK BK321.1) hb); have _ := aM (blk_below (zK BK327.1) hb); have _ := aM (blk_below (zK BK337.1) hb); have _ := aM (below_step (zB4 HB.1 GE305.1 GE321.1 GE327.1 GE337.1) hb); clear HO_322002 HO_322003 HO_328002 HO_338002 HO_338003 BK305 BK321 BK327 BK337 HB; rename_i HO_322002 HO_322003 HO_328002 HO_338002 HO_338003 HO356 BK305 BK321 BK327 BK337 HB; (try clear hb); (try clear hb2); (try clear hk); (try clear hi); (try clear ho0); obtain ⟨Ao113, co113, eo113⟩ := Kd.R_slice HO356.1; subst eo113) | ((with_reducible refine gate_callee (f := 7) rfl ?_); refine zgL (some 84) Tryz.func7 #[.agg #[.int .i64 t352, .int .i64 t353, .slice Ao113 t354.length co113], .string a1] ?_; (with_reducible refine (impl_IndexHas.calls kj64 t352 t353 _ _ t354 a1 t357 t358 t359 t362 t365 _ ?side1 ?side2 ?sideL A100.1).mono ?_); (case sideL => exact HLD.1.on (zB4 HB.1 GE305.1 GE321.1 GE327.1 GE337.1)); (case side1 => exact zC (Kd.R_reads' HO356.1).2.2); (case side2 => exact (Kd.R_reads' HO356.1).2.1); rintro e w114 ⟨v360, v363, rfl, ho0, ho1, hb⟩; refine ⟨_, rfl, ?_⟩; have _ := aM (Kd.R_elder' (zR HO_322002.1) (Kd.R_base ho0) hb); have _ := aM (Kd.R_elder' (zR HO_322003.1) (Kd.R_base ho1) hb); have _ := aM (Kd.R_below (zR HO_328002.1) hb); have _ := aM (Kd.R_elder' (zR HO_338002.1) (Kd.R_base ho0) hb); have _ := aM (Kd.R_elder' (zR HO_338003.1) (Kd.R_base ho1) hb); have _ := aM (Kd.R_below (zR HO356.1) hb); have _ := aM (Kd.R_lower (Kd.R_new' (Kd.R_new' ho0 (Kd.R_lt (zR HO_322002.1))) (Kd.R_lt (zR HO_338002.1))) (below_size (zB4 HB.1 GE305.1 GE321.1 GE327.1 GE337.1))); have _ := aM (Kd.R_lower (Kd.R_new' (Kd.R_new' ho1 (Kd.R_lt (zR HO_322003.1))) (Kd.R_lt (zR HO_338003.1))) (below_size (zB4 HB.1 GE305.1 GE321.1 GE327.1 GE337.1))); have _ := aM (blk_below (zK BK305.1) hb); have _ := aM (blk_below (zK BK321.1) hb); have _ := aM (blk_below (zK BK327.1) hb); have _ := aM (blk_below (zK BK337.1) hb); have _ := aM (below_step (zB4 HB.1 GE305.1 GE321.1 GE327.1 GE337.1) hb); clear HO_322002 HO_322003 HO_328002 HO_338002 HO_338003 HO356 BK305 BK321 BK327 BK337 HB; rename_i HO_322002 HO_322003 HO_328002 HO_338002 HO_338003 HO356 HO361 HO364 BK305 BK321 BK327 BK337 HB; (try clear hb); (try clear hb2); (try clear hk); (try clear hi); (try clear ho0); (try clear ho1)) | ((with_reducible refine gate_dst (N := 14) rfl ?_); refine zbx 14 #[.int .i64 0, .int .i64 0, .slice none 0 0, .slice none 0 0] 29 ?_; intro gb366 hg w115 hbox hb; have _ := aM (Kd.R_below (zR HO_322002.1) hb); have _ := aM (Kd.R_below (zR HO_322003.1) hb); have _ := aM (Kd.R_below (zR HO_328002.1) hb); have _ := aM (Kd.R_below (zR HO_338002.1) hb); have _ := aM (Kd.R_below (zR HO_338003.1) hb); have _ := aM (Kd.R_below (zR HO356.1) hb); have _ := aM (Kd.R_below (zR HO361.1) hb); have _ := aM (Kd.R_below (zR HO364.1) hb); have _ := aM (blk_below (zK BK305.1) hb); have _ := aM (blk_below (zK BK321.1) hb); have _ := aM (blk_below (zK BK327.1) hb); have _ := aM (blk_below (zK BK337.1) hb); have _ := aM (below_step (zB4 HB.1 GE305.1 GE321.1 GE327.1 GE337.1) hb); have _ := aM (hbox); have _ := aM (zge hg (zB4 HB.1 GE305.1 GE321.1 GE327.1 GE337.1)); have _ := aM (zge hg (zB4 HB.1 GE305.1 GE321.1 GE327.1 GE337.1)); have _ := aM (znl hg (zK BK305.1)); have _ := aM (zng hg (zK BK305.1)); have _ := aM (znl hg (zK BK321.1)); have _ := aM (zng hg (zK BK321.1)); have _ := aM (znl hg (zK BK327.1)); have _ := aM (zng hg (zK BK327.1)); have _ := aM (znl hg (zK BK337.1)); have _ := aM (zng hg (zK BK337.1)); clear HO_322002 HO_322003 HO_328002 HO_338002 HO_338003 HO356 HO361 HO364 BK305 BK321 BK327 BK337 HB; rename_i HO_322002 HO_322003 HO_328002 HO_338002 HO_338003 HO356 HO361 HO364 BK305 BK321 BK327 BK337 HB BK366 GW366 GE366 NB305_366 NB366_305 NB321_366 NB366_321 NB327_366 NB366_327 NB337_366 NB366_337; clear hb hbox hg; have hnb116 := NB366_305.1; have hnc116 := NB305_366.1; have hnb117 := NB366_321.1; have hnc117 := NB321_366.1; have hnb118 := NB366_327.1; have hnc118 := NB327_366.1; have hnb119 := NB366_337.1; have hnc119 := NB337_366.1; obtain ⟨hcz120_0, hcz120_1, hcz120_2, hcz120_3, hfz120_0, hfz120_1, hfz120_2, hfz120_3⟩ := zc4f BK366.1; obtain ⟨Ao121, co121, eo121⟩ := Kd.R_slice HO361.1; subst eo121; obtain ⟨Ao122, co122, eo122⟩ := Kd.R_slice HO364.1; subst eo122))
       (try simp only [zp0, zp1, zp2, zp3, zp4])
       go_cut [95] (fun v95 wc => ∃ (kq : Nat) (x95_100 : Bool), v95 = .bool x95_100 ∧ Aside0 (laws_FnExactIndexHas.j2 kq t348 x95_100 t328 t329 t349 t350 = some r) ∧ Aside0 (kq ≤ kj64) ∧ Aside0 (Kd.R k71 71 wc w.heap.size (fun k_ => some k_ ≠ ((.slice Ao40 t330.length co40) : Value).ownBlock ∧ some k_ ≠ ((.slice Ao121 t359.length co121) : Value).ownBlock) (.slice Ao25 t314.length co25) t314) ∧ Aside0 (Kd.R k73 73 wc w.heap.size (fun k_ => some k_ ≠ ((.slice Ao41 t333.length co41) : Value).ownBlock ∧ some k_ ≠ ((.slice Ao122 t362.length co122) : Value).ownBlock) (.slice Ao26 t317.length co26) t317) ∧ Aside0 (Kd.R k47 47 wc w.heap.size (fun _ => True) (.slice Ao33 t346.length co33) t346) ∧ Aside0 (Kd.R k71 71 wc w.heap.size (fun k_ => some k_ ≠ ((.slice Ao25 t314.length co25) : Value).ownBlock ∧ some k_ ≠ ((.slice Ao121 t359.length co121) : Value).ownBlock) (.slice Ao40 t330.length co40) t349) ∧ Aside0 (Kd.R k73 73 wc w.heap.size (fun k_ => some k_ ≠ ((.slice Ao26 t317.length co26) : Value).ownBlock ∧ some k_ ≠ ((.slice Ao122 t362.length co122) : Value).ownBlock) (.slice Ao41 t333.length co41) t350) ∧ Aside0 (Kd.R k71 71 wc w.heap.size (fun k_ => some k_ ≠ ((.slice Ao25 t314.length co25) : Value).ownBlock ∧ some k_ ≠ ((.slice Ao40 t330.length co40) : Value).ownBlock) (.slice Ao121 t359.length co121) t359) ∧ Aside0 (Kd.R k73 73 wc w.heap.size (fun k_ => some k_ ≠ ((.slice Ao26 t317.length co26) : Value).ownBlock ∧ some k_ ≠ ((.slice Ao41 t333.length co41) : Value).ownBlock) (.slice Ao122 t362.length co122) t362) ∧ Aside0 (wc.heap[gb305]? = some (.cells #[.int .i64 a0_0, .int .i64 a0_1, (.slice A0_2 l0_2.length c0_2)] 24 (0, 0))) ∧ Aside0 (wc.heap[gb321]? = some (.cells #[.int .i64 t312, .int .i64 t313, (.slice Ao25 t314.length co25), (.slice Ao26 t317.length co26)] 29 (0, 0))) ∧ Aside0 (wc.heap[gb327]? = some (.cells #[.int .i64 t322, .int .i64 t323, (.slice Ao33 t346.length co33)] 34 (0, 0))) ∧ Aside0 (wc.heap[gb337]? = some (.cells #[.int .i64 t328, .int .i64 t329, (.slice Ao40 t330.length co40), (.slice Ao41 t333.length co41)] 29 (0, 0))) ∧ Aside0 (wc.heap[gb366]? = some (.cells #[.int .i64 t357, .int .i64 t358, (.slice Ao121 t359.length co121), (.slice Ao122 t362.length co122)] 29 (0, 0))) ∧ Aside0 (Below w.heap.size w wc))
       case first =>
        have H := HC101.1; clear HC101; replace H := Option.bind_eq_some_iff.mp H; obtain ⟨t367, A1230, H⟩ := H; (try dsimp only at H); have A123 := aM A1230; clear A1230
        by_cases c124 : t367 = true
        ·subst c124; replace H := zy1 H; have H' := aM H; clear H; have hnb125 := NB366_305.1; have hnc125 := NB305_366.1; have hnb126 := NB366_321.1; have hnc126 := NB321_366.1; have hnb127 := NB366_327.1; have hnc127 := NB327_366.1; have hnb128 := NB366_337.1; have hnc128 := NB337_366.1; obtain ⟨hcz129_0, hcz129_1, hcz129_2, hcz129_3, hfz129_0, hfz129_1, hfz129_2, hfz129_3⟩ := zc4f BK366.1; have hnb130 := NB321_305.1; have hnc130 := NB305_321.1; have hnb131 := NB321_327.1; have hnc131 := NB327_321.1; have hnb132 := NB321_337.1; have hnc132 := NB337_321.1; obtain ⟨hcz133_0, hcz133_1, hcz133_2, hcz133_3, hfz133_0, hfz133_1, hfz133_2, hfz133_3⟩ := zc4f BK321.1
         go_wp2_with (first | ((with_reducible refine gate_callee (f := 8) rfl ?_); refine zgL (some 89) Tryz.func8 #[.agg #[.int .i64 t357, .int .i64 t358, .slice Ao121 t359.length co121, .slice Ao122 t362.length co122], .agg #[.int .i64 t312, .int .i64 t313, .slice Ao25 t314.length co25, .slice Ao26 t317.length co26]] ?_; (with_reducible refine (laws_eqPkg.calls kj64 t357 t358 _ _ t359 _ _ t362 t312 t313 _ _ t314 _ _ t317 true _ ?side1 ?side2 ?side3 ?side4 ?side5 ?side6 ?side7 ?side8 A123.1).mono ?_); (case side1 => refine (Kd.R_reads' (e := 71) (base := w.heap.size) (ok := fun k_ => ((True ∧ some k_ ≠ (.slice Ao25 t314.length co25 : Value).ownBlock) ∧ some k_ ≠ (.slice Ao40 t330.length co40 : Value).ownBlock)) (n := t359.length) (c := co121) ?_).2.2; exact zT HO361.1 BK366.1 (by decide)); (case side2 => exact (Kd.R_reads' HO361.1).2.1); (case side3 => refine (Kd.R_reads' (e := 73) (base := w.heap.size) (ok := fun k_ => ((True ∧ some k_ ≠ (.slice Ao26 t317.length co26 : Value).ownBlock) ∧ some k_ ≠ (.slice Ao41 t333.length co41 : Value).ownBlock)) (n := t362.length) (c := co122) ?_).2.2; exact zT HO364.1 BK366.1 (by decide)); (case side4 => exact (Kd.R_reads' HO364.1).2.1); (case side5 => refine (Kd.R_reads' (e := 71) (base := w.heap.size) (ok := fun k_ => (some k_ ≠ (.slice Ao40 t330.length co40 : Value).ownBlock ∧ some k_ ≠ (.slice Ao121 t359.length co121 : Value).ownBlock)) (n := t314.length) (c := co25) ?_).2.2; exact zT HO_322002.1 BK366.1 (by decide)); (case side6 => exact (Kd.R_reads' HO_322002.1).2.1); (case side7 => refine (Kd.R_reads' (e := 73) (base := w.heap.size) (ok := fun k_ => (some k_ ≠ (.slice Ao41 t333.length co41 : Value).ownBlock ∧ some k_ ≠ (.slice Ao122 t362.length co122 : Value).ownBlock)) (n := t317.length) (c := co26) ?_).2.2; exact zT HO_322003.1 BK366.1 (by decide)); (case side8 => exact (Kd.R_reads' HO_322003.1).2.1); rintro e w134 ⟨rfl, hb⟩; refine ⟨_, rfl, ?_⟩; have _ := aM (Kd.R_below (zT HO_322002.1 BK366.1 (by decide)) hb); have _ := aM (Kd.R_below (zT HO_322003.1 BK366.1 (by decide)) hb); have _ := aM (Kd.R_below (zT HO_328002.1 BK366.1 (by decide)) hb); have _ := aM (Kd.R_below (zT HO_338002.1 BK366.1 (by decide)) hb); have _ := aM (Kd.R_below (zT HO_338003.1 BK366.1 (by decide)) hb); have _ := aM (Kd.R_below (zT HO356.1 BK366.1 (by decide)) hb); have _ := aM (Kd.R_below (zT HO361.1 BK366.1 (by decide)) hb); have _ := aM (Kd.R_below (zT HO364.1 BK366.1 (by decide)) hb); have _ := aM (blk_below (zK1 BK305.1 NB305_366.1) hb); have _ := aM (blk_below (zK1 BK321.1 NB321_366.1) hb); have _ := aM (blk_below (zK1 BK327.1 NB327_366.1) hb); have _ := aM (blk_below (zK1 BK337.1 NB337_366.1) hb); have _ := aM (blk_below (g := gb366) (o := .cells #[.int .i64 t357, .int .i64 t358, .slice Ao121 t359.length co121, .slice Ao122 t362.length co122] 29 (0, 0)) (by exact zP BK366.1 (by rfl)) hb); have _ := aM (below_step (zB5 HB.1 GE305.1 GE321.1 GE327.1 GE337.1 GE366.1) hb); clear HO_322002 HO_322003 HO_328002 HO_338002 HO_338003 HO356 HO361 HO364 BK305 BK321 BK327 BK337 BK366 HB; rename_i HO_322002 HO_322003 HO_328002 HO_338002 HO_338003 HO356 HO361 HO364 BK305 BK321 BK327 BK337 BK366 HB; (try clear hb); (try clear hb2); (try clear hk); (try clear hi)))
         go_meet
         case rel => exact ⟨_, ((t365 != t320)), (by first | rfl | (simp; done) | (simp [*]; done)), H', ⟨by have := HJ13.1; have := HJ64.1; first | omega | exact Nat.le_refl _⟩, ⟨by (try simp only [hl328002_64]); exact zR HO_322002.1⟩, ⟨by (try simp only [hl328002_64]); exact zR HO_322003.1⟩, ⟨by (try simp only [hl328002_64]); exact zR (Kd.R_mono HO_328002.1 (fun _ hk => trivial))⟩, ⟨by (try simp only [hl328002_64]); exact zR HO_338002.1⟩, ⟨by (try simp only [hl328002_64]); exact zR HO_338003.1⟩, ⟨by (try simp only [hl328002_64]); exact zR (Kd.R_mono HO361.1 (fun _ hk => ⟨hk.1.2, hk.2⟩))⟩, ⟨by (try simp only [hl328002_64]); exact zR (Kd.R_mono HO364.1 (fun _ hk => ⟨hk.1.2, hk.2⟩))⟩, ⟨by (try simp only [hl328002_64]); exact zK BK305.1⟩, ⟨by (try simp only [hl328002_64]); exact zK BK321.1⟩, ⟨by (try simp only [hl328002_64]); exact zK BK327.1⟩, ⟨by (try simp only [hl328002_64]); exact zK BK337.1⟩, ⟨by (try simp only [hl328002_64]); exact zK BK366.1⟩, ⟨zB5 HB.1 GE305.1 GE321.1 GE327.1 GE337.1 GE366.1⟩⟩
        ·replace c124 := Bool.eq_false_iff.mpr c124; subst c124; replace H := zy0 H; have H' := aM H; clear H; have hnb135 := NB366_305.1; have hnc135 := NB305_366.1; have hnb136 := NB366_321.1; have hnc136 := NB321_366.1; have hnb137 := NB366_327.1; have hnc137 := NB327_366.1; have hnb138 := NB366_337.1; have hnc138 := NB337_366.1; obtain ⟨hcz139_0, hcz139_1, hcz139_2, hcz139_3, hfz139_0, hfz139_1, hfz139_2, hfz139_3⟩ := zc4f BK366.1; have hnb140 := NB321_305.1; have hnc140 := NB305_321.1; have hnb141 := NB321_327.1; have hnc141 := NB327_321.1; have hnb142 := NB321_337.1; have hnc142 := NB337_321.1; obtain ⟨hcz143_0, hcz143_1, hcz143_2, hcz143_3, hfz143_0, hfz143_1, hfz143_2, hfz143_3⟩ := zc4f BK321.1
         go_wp2_with (first | ((with_reducible refine gate_callee (f := 8) rfl ?_); refine zgL (some 89) Tryz.func8 #[.agg #[.int .i64 t357, .int .i64 t358, .slice Ao121 t359.length co121, .slice Ao122 t362.length co122], .agg #[.int .i64 t312, .int .i64 t313, .slice Ao25 t314.length co25, .slice Ao26 t317.length co26]] ?_; (with_reducible refine (laws_eqPkg.calls kj64 t357 t358 _ _ t359 _ _ t362 t312 t313 _ _ t314 _ _ t317 false _ ?side1 ?side2 ?side3 ?side4 ?side5 ?side6 ?side7 ?side8 A123.1).mono ?_); (case side1 => refine (Kd.R_reads' (e := 71) (base := w.heap.size) (ok := fun k_ => ((True ∧ some k_ ≠ (.slice Ao25 t314.length co25 : Value).ownBlock) ∧ some k_ ≠ (.slice Ao40 t330.length co40 : Value).ownBlock)) (n := t359.length) (c := co121) ?_).2.2; exact zT HO361.1 BK366.1 (by decide)); (case side2 => exact (Kd.R_reads' HO361.1).2.1); (case side3 => refine (Kd.R_reads' (e := 73) (base := w.heap.size) (ok := fun k_ => ((True ∧ some k_ ≠ (.slice Ao26 t317.length co26 : Value).ownBlock) ∧ some k_ ≠ (.slice Ao41 t333.length co41 : Value).ownBlock)) (n := t362.length) (c := co122) ?_).2.2; exact zT HO364.1 BK366.1 (by decide)); (case side4 => exact (Kd.R_reads' HO364.1).2.1); (case side5 => refine (Kd.R_reads' (e := 71) (base := w.heap.size) (ok := fun k_ => (some k_ ≠ (.slice Ao40 t330.length co40 : Value).ownBlock ∧ some k_ ≠ (.slice Ao121 t359.length co121 : Value).ownBlock)) (n := t314.length) (c := co25) ?_).2.2; exact zT HO_322002.1 BK366.1 (by decide)); (case side6 => exact (Kd.R_reads' HO_322002.1).2.1); (case side7 => refine (Kd.R_reads' (e := 73) (base := w.heap.size) (ok := fun k_ => (some k_ ≠ (.slice Ao41 t333.length co41 : Value).ownBlock ∧ some k_ ≠ (.slice Ao122 t362.length co122 : Value).ownBlock)) (n := t317.length) (c := co26) ?_).2.2; exact zT HO_322003.1 BK366.1 (by decide)); (case side8 => exact (Kd.R_reads' HO_322003.1).2.1); rintro e w144 ⟨rfl, hb⟩; refine ⟨_, rfl, ?_⟩; have _ := aM (Kd.R_below (zT HO_322002.1 BK366.1 (by decide)) hb); have _ := aM (Kd.R_below (zT HO_322003.1 BK366.1 (by decide)) hb); have _ := aM (Kd.R_below (zT HO_328002.1 BK366.1 (by decide)) hb); have _ := aM (Kd.R_below (zT HO_338002.1 BK366.1 (by decide)) hb); have _ := aM (Kd.R_below (zT HO_338003.1 BK366.1 (by decide)) hb); have _ := aM (Kd.R_below (zT HO356.1 BK366.1 (by decide)) hb); have _ := aM (Kd.R_below (zT HO361.1 BK366.1 (by decide)) hb); have _ := aM (Kd.R_below (zT HO364.1 BK366.1 (by decide)) hb); have _ := aM (blk_below (zK1 BK305.1 NB305_366.1) hb); have _ := aM (blk_below (zK1 BK321.1 NB321_366.1) hb); have _ := aM (blk_below (zK1 BK327.1 NB327_366.1) hb); have _ := aM (blk_below (zK1 BK337.1 NB337_366.1) hb); have _ := aM (blk_below (g := gb366) (o := .cells #[.int .i64 t357, .int .i64 t358, .slice Ao121 t359.length co121, .slice Ao122 t362.length co122] 29 (0, 0)) (by exact zP BK366.1 (by rfl)) hb); have _ := aM (below_step (zB5 HB.1 GE305.1 GE321.1 GE327.1 GE337.1 GE366.1) hb); clear HO_322002 HO_322003 HO_328002 HO_338002 HO_338003 HO356 HO361 HO364 BK305 BK321 BK327 BK337 BK366 HB; rename_i HO_322002 HO_322003 HO_328002 HO_338002 HO_338003 HO356 HO361 HO364 BK305 BK321 BK327 BK337 BK366 HB; (try clear hb); (try clear hb2); (try clear hk); (try clear hi)))
         go_meet
         case rel => exact ⟨_, (true), (by first | rfl | (simp; done) | (simp [*]; done)), H', ⟨by have := HJ13.1; have := HJ64.1; first | omega | exact Nat.le_refl _⟩, ⟨by (try simp only [hl328002_64]); exact zR HO_322002.1⟩, ⟨by (try simp only [hl328002_64]); exact zR HO_322003.1⟩, ⟨by (try simp only [hl328002_64]); exact zR (Kd.R_mono HO_328002.1 (fun _ hk => trivial))⟩, ⟨by (try simp only [hl328002_64]); exact zR HO_338002.1⟩, ⟨by (try simp only [hl328002_64]); exact zR HO_338003.1⟩, ⟨by (try simp only [hl328002_64]); exact zR (Kd.R_mono HO361.1 (fun _ hk => ⟨hk.1.2, hk.2⟩))⟩, ⟨by (try simp only [hl328002_64]); exact zR (Kd.R_mono HO364.1 (fun _ hk => ⟨hk.1.2, hk.2⟩))⟩, ⟨by (try simp only [hl328002_64]); exact zK BK305.1⟩, ⟨by (try simp only [hl328002_64]); exact zK BK321.1⟩, ⟨by (try simp only [hl328002_64]); exact zK BK327.1⟩, ⟨by (try simp only [hl328002_64]); exact zK BK337.1⟩, ⟨by (try simp only [hl328002_64]); exact zK BK366.1⟩, ⟨zB5 HB.1 GE305.1 GE321.1 GE327.1 GE337.1 GE366.1⟩⟩
       case rest =>
        clear HC101
        try clear c1
        try clear c2
        try clear p2
        try clear c3
        try clear c3b0
        try clear c3b1
        try clear c4
        try clear c5
        try clear c6
        try clear c6b0
        try clear c7
        try clear c8
        try clear c9
        try clear c10
        try clear c11
        try clear c12
        try clear c13
        try clear c14
        try clear c23
        try clear c30
        try clear c31
        try clear c36
        try clear c37
        try clear c38
        try clear c43
        try clear c44
        try clear c45
        try clear c46
        try clear c48
        try clear c49
        try clear c52
        try clear c53
        try clear c54
        try clear c56
        try clear c57
        try clear c60
        try clear c63
        try clear c70
        try clear c71
        try clear c72
        try clear c75
        try clear c75b0
        try clear c77
        try clear c78
        try clear c79
        try clear c80
        try clear c82
        try clear c83
        try clear c86
        try clear c87
        try clear c88
        try clear c90
        try clear c91
        try clear c94
        try clear c97
        try clear c97b0
        try clear c98
        try clear c98b0
        try clear c98b1
        try clear c102
        try clear c103
        try clear c104
        try clear c109
        try clear c110
        try clear c116
        try clear c117
        try clear c118
        try clear c119
        try clear c124
        try clear c125
        try clear c126
        try clear c127
        try clear c128
        try clear c130
        try clear c131
        try clear c132
        try clear c135
        try clear c136
        try clear c137
        try clear c138
        try clear c140
        try clear c141
        try clear c142
        try clear hcz105_0
        try clear hcz105_1
        try clear hcz105_2
        try clear hcz105_3
        try clear hcz107_0
        try clear hcz107_1
        try clear hcz107_2
        try clear hcz107_3
        try clear hcz111_0
        try clear hcz111_1
        try clear hcz111_2
        try clear hcz120_0
        try clear hcz120_1
        try clear hcz120_2
        try clear hcz120_3
        try clear hcz129_0
        try clear hcz129_1
        try clear hcz129_2
        try clear hcz129_3
        try clear hcz133_0
        try clear hcz133_1
        try clear hcz133_2
        try clear hcz133_3
        try clear hcz139_0
        try clear hcz139_1
        try clear hcz139_2
        try clear hcz139_3
        try clear hcz143_0
        try clear hcz143_1
        try clear hcz143_2
        try clear hcz143_3
        try clear hcz16_0
        try clear hcz16_1
        try clear hcz16_2
        try clear hcz18_0
        try clear hcz18_1
        try clear hcz18_2
        try clear hcz24_0
        try clear hcz24_1
        try clear hcz24_2
        try clear hcz24_3
        try clear hcz27_0
        try clear hcz27_1
        try clear hcz27_2
        try clear hcz32_0
        try clear hcz32_1
        try clear hcz32_2
        try clear hcz39_0
        try clear hcz39_1
        try clear hcz39_2
        try clear hcz39_3
        try clear hcz47_0
        try clear hcz47_1
        try clear hcz47_2
        try clear hcz47_3
        try clear hcz50_0
        try clear hcz50_1
        try clear hcz50_2
        try clear hcz50_3
        try clear hcz55_0
        try clear hcz55_1
        try clear hcz55_2
        try clear hcz55_3
        try clear hcz58_0
        try clear hcz58_1
        try clear hcz58_2
        try clear hcz58_3
        try clear hcz73_0
        try clear hcz73_1
        try clear hcz73_2
        try clear hcz81_0
        try clear hcz81_1
        try clear hcz81_2
        try clear hcz81_3
        try clear hcz84_0
        try clear hcz84_1
        try clear hcz84_2
        try clear hcz84_3
        try clear hcz89_0
        try clear hcz89_1
        try clear hcz89_2
        try clear hcz89_3
        try clear hcz8_0
        try clear hcz8_1
        try clear hcz8_2
        try clear hcz92_0
        try clear hcz92_1
        try clear hcz92_2
        try clear hcz92_3
        try clear hfz105_0
        try clear hfz105_1
        try clear hfz105_2
        try clear hfz105_3
        try clear hfz107_0
        try clear hfz107_1
        try clear hfz107_2
        try clear hfz107_3
        try clear hfz111_0
        try clear hfz111_1
        try clear hfz111_2
        try clear hfz120_0
        try clear hfz120_1
        try clear hfz120_2
        try clear hfz120_3
        try clear hfz129_0
        try clear hfz129_1
        try clear hfz129_2
        try clear hfz129_3
        try clear hfz133_0
        try clear hfz133_1
        try clear hfz133_2
        try clear hfz133_3
        try clear hfz139_0
        try clear hfz139_1
        try clear hfz139_2
        try clear hfz139_3
        try clear hfz143_0
        try clear hfz143_1
        try clear hfz143_2
        try clear hfz143_3
        try clear hfz16_0
        try clear hfz16_1
        try clear hfz16_2
        try clear hfz18_0
        try clear hfz18_1
        try clear hfz18_2
        try clear hfz24_0
        try clear hfz24_1
        try clear hfz24_2
        try clear hfz24_3
        try clear hfz27_0
        try clear hfz27_1
        try clear hfz27_2
        try clear hfz32_0
        try clear hfz32_1
        try clear hfz32_2
        try clear hfz39_0
        try clear hfz39_1
        try clear hfz39_2
        try clear hfz39_3
        try clear hfz47_0
        try clear hfz47_1
        try clear hfz47_2
        try clear hfz47_3
        try clear hfz50_0
        try clear hfz50_1
        try clear hfz50_2
        try clear hfz50_3
        try clear hfz55_0
        try clear hfz55_1
        try clear hfz55_2
        try clear hfz55_3
        try clear hfz58_0
        try clear hfz58_1
        try clear hfz58_2
        try clear hfz58_3
        try clear hfz73_0
        try clear hfz73_1
        try clear hfz73_2
        try clear hfz81_0
        try clear hfz81_1
        try clear hfz81_2
        try clear hfz81_3
        try clear hfz84_0
        try clear hfz84_1
        try clear hfz84_2
        try clear hfz84_3
        try clear hfz89_0
        try clear hfz89_1
        try clear hfz89_2
        try clear hfz89_3
        try clear hfz8_0
        try clear hfz8_1
        try clear hfz8_2
        try clear hfz92_0
        try clear hfz92_1
        try clear hfz92_2
        try clear hfz92_3
        try clear p2
        obtain ⟨kq, x95_100, rfl, HA, HJ100, HO_322002, HO_322003, HO_328002, HO_338002, HO_338003, HO_367002, HO_367003, BK305, BK321, BK327, BK337, BK366, HB⟩ := hcut; have hl338002_100 := (Kd.R_reads' HO_338002.1).1; rw [hl338002_100] at HO_338002; (try simp only [hl338002_100]); (try simp only [hl338002_100] at BK305); (try simp only [hl338002_100] at BK321); (try simp only [hl338002_100] at BK327); (try simp only [hl338002_100] at BK337); (try simp only [hl338002_100] at BK366); (try simp only [hl338002_100] at HO_322002); (try simp only [hl338002_100] at HO_322003); (try simp only [hl338002_100] at HO_328002); (try simp only [hl338002_100] at HO_338003); (try simp only [hl338002_100] at HO_367002); (try simp only [hl338002_100] at HO_367003); have hl338003_100 := (Kd.R_reads' HO_338003.1).1; rw [hl338003_100] at HO_338003; (try simp only [hl338003_100]); (try simp only [hl338003_100] at BK305); (try simp only [hl338003_100] at BK321); (try simp only [hl338003_100] at BK327); (try simp only [hl338003_100] at BK337); (try simp only [hl338003_100] at BK366); (try simp only [hl338003_100] at HO_322002); (try simp only [hl338003_100] at HO_322003); (try simp only [hl338003_100] at HO_328002); (try simp only [hl338003_100] at HO_338002); (try simp only [hl338003_100] at HO_367002); (try simp only [hl338003_100] at HO_367003); cases kq with
        | zero => exact absurd HA.1 (by simp [laws_FnExactIndexHas.j2])
        | succ kj100 =>
         have H := HA.1; clear HA; simp only [laws_FnExactIndexHas.j2] at H; replace H := zin H; obtain ⟨c145, H⟩ := H; replace c145 := Bool.eq_false_iff.mpr c145; subst c145; replace H := Option.bind_eq_some_iff.mp H; obtain ⟨t368, A1460, H⟩ := H; (try dsimp only at H); have A146 := aM A1460; clear A1460; replace H := zin H; obtain ⟨c147, H⟩ := H; have c147b0 : decide (t368 < 0) = false := decide_eq_false c147; clear c147; replace H := zif H; obtain ⟨c148, H⟩ := H; have c148b0 : (t368 == t348) = true := beq_iff_eq.mpr c148; have c148b1 : (t368 != t348) = false := bne_eq_false_iff_eq.mpr c148; clear c148; obtain rfl := Option.some.inj H; have hnb149 := NB337_305.1; have hnc149 := NB305_337.1; have hnb150 := NB337_321.1; have hnc150 := NB321_337.1; have hnb151 := NB337_327.1; have hnc151 := NB327_337.1; have hnb152 := NB337_366.1; have hnc152 := NB366_337.1; obtain ⟨hcz153_0, hcz153_1, hcz153_2, hcz153_3, hfz153_0, hfz153_1, hfz153_2, hfz153_3⟩ := zc4f BK337.1
         go_wp2_with (first | ((with_reducible refine gate_callee (f := 12) rfl ?_); refine zgL (some 98) Tryz.func12 #[.agg #[.int .i64 t328, .int .i64 t329, .slice Ao40 t349.length co40, .slice Ao41 t350.length co41], .int .i64 1] ?_; (with_reducible refine (laws_heldPkg.calls kj100 t328 t329 _ _ t349 _ _ t350 1 t368 _ ?side1 ?side2 ?side3 ?side4 A146.1).mono ?_); (case side1 => exact zC (Kd.R_reads' HO_338002.1).2.2); (case side2 => exact (Kd.R_reads' HO_338002.1).2.1); (case side3 => exact zC (Kd.R_reads' HO_338003.1).2.2); (case side4 => exact (Kd.R_reads' HO_338003.1).2.1); rintro e w154 ⟨rfl, hb⟩; refine ⟨_, rfl, ?_⟩; have _ := aM (Kd.R_below (zR HO_322002.1) hb); have _ := aM (Kd.R_below (zR HO_322003.1) hb); have _ := aM (Kd.R_below (zR HO_328002.1) hb); have _ := aM (Kd.R_below (zR HO_338002.1) hb); have _ := aM (Kd.R_below (zR HO_338003.1) hb); have _ := aM (Kd.R_below (zR HO_367002.1) hb); have _ := aM (Kd.R_below (zR HO_367003.1) hb); have _ := aM (blk_below (zK BK305.1) hb); have _ := aM (blk_below (zK BK321.1) hb); have _ := aM (blk_below (zK BK327.1) hb); have _ := aM (blk_below (zK BK337.1) hb); have _ := aM (blk_below (zK BK366.1) hb); have _ := aM (below_step (zB5 HB.1 GE305.1 GE321.1 GE327.1 GE337.1 GE366.1) hb); clear HO_322002 HO_322003 HO_328002 HO_338002 HO_338003 HO_367002 HO_367003 BK305 BK321 BK327 BK337 BK366 HB; rename_i HO_322002 HO_322003 HO_328002 HO_338002 HO_338003 HO_367002 HO_367003 BK305 BK321 BK327 BK337 BK366 HB; (try clear hb); (try clear hb2); (try clear hk); (try clear hi)))
         go_ret
         exact ⟨by first | rfl | (simp [errW_none, errW_some] <;> rfl) | (simp [*, errW_none, errW_some] <;> rfl), by exact zB5 HB.1 GE305.1 GE321.1 GE327.1 GE337.1 GE366.1⟩

end Go.Proofs.YtkjgnnjcjkphbaaGreatDoor.PFnExactIndexHas
