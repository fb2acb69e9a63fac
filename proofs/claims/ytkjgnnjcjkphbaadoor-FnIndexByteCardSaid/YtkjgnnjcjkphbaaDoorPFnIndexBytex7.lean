-- printed for this claim by a program out of the translation, its tactics shortened by another
import Derived.Test.YtkjgnnjcjkphbaaDoorPFnIndexBytex6
namespace Go.Proofs.YtkjgnnjcjkphbaaDoor.PFnIndexByte
open Go.RowKit Go.Proofs.YtkjgnnjcjkphbaaDoorW.PrintWords Go.Proofs.YtkjgnnjcjkphbaaDoorW.PrintLast Go.Proofs.YtkjgnnjcjkphbaaDoorW.PrintMore
attribute [local go_sem] max2_int min2_int max_two min_two max_three min_three max_four min_four   -- for this text's walks alone
set_option linter.unusedVariables false
set_option linter.unusedSimpArgs false

/-! ### laws_FnIndexByte: function 3 -/
mutual
def laws_FnIndexByte.j0 : Nat → List Int → List Int → Bool → Option (Bool)
 | 0, _, _, _ => none
 | k + 1, x0, x1, x22 => if x22 = true then (some true) else ((spec_DrawIndexHas.f k x0).bind fun bt479 => ((spec_IndexHas.f k bt479.1 bt479.2.1 bt479.2.2.1 bt479.2.2.2).bind fun bt486 => ((impl_IndexHas.f k bt479.1 bt479.2.1 bt479.2.2.1 bt479.2.2.2).bind fun bt496 => (if (bt496.2.2.2.2 != bt486.2.2.2.2) = true then (laws_FnIndexByte.j1 k x1 bt479.2.2.2 bt486.2.2.2.2 bt496.2.2.2.2 true bt479.1 bt479.2.1 bt479.2.2.1 bt486.1 bt486.2.1 bt486.2.2.1 bt486.2.2.2.1 bt496.1 bt496.2.1 bt496.2.2.1 bt496.2.2.2.1) else ((laws_luPkg.f k bt496.1 bt496.2.1 bt496.2.2.1 bt496.2.2.2.1 bt486.1 bt486.2.1 bt486.2.2.1 bt486.2.2.2.1).bind fun t506 => (if t506 = true then (laws_FnIndexByte.j1 k x1 bt479.2.2.2 bt486.2.2.2.2 bt496.2.2.2.2 (!bt496.2.2.2.2) bt479.1 bt479.2.1 bt479.2.2.1 bt486.1 bt486.2.1 bt486.2.2.1 bt486.2.2.2.1 bt496.1 bt496.2.1 bt496.2.2.1 bt496.2.2.2.1) else (laws_FnIndexByte.j1 k x1 bt479.2.2.2 bt486.2.2.2.2 bt496.2.2.2.2 true bt479.1 bt479.2.1 bt479.2.2.1 bt486.1 bt486.2.1 bt486.2.2.1 bt486.2.2.2.1 bt496.1 bt496.2.1 bt496.2.2.1 bt496.2.2.2.1)))))))
def laws_FnIndexByte.j1 : Nat → List Int → ByteArray → Bool → Bool → Bool → Int → Int → List (S40) → Int → Int → List (S67) → List (S69) → Int → Int → List (S67) → List (S69) → Option (Bool)
 | 0, _, _, _, _, _, _, _, _, _, _, _, _, _, _, _, _ => none
 | k + 1, x1, x6, x8, x10, x52, x486000, x486001, x486002, x496000, x496001, x496002, x496003, x506000, x506001, x506002, x506003 => if x52 = true then (if (x10 == x8) = true then ((laws_luPkg.f k x506000 x506001 x506002 x506003 x496000 x496001 x496002 x496003).bind fun t507 => (some t507)) else (none)) else (if (x6.size : Int) = 2 then ((impl_PkgText.f k x506000 x506001 x506002 x506003).bind fun t508 => (some (t508.toList == x6.toList))) else (if (wrap64 ((x6.size : Int) - 2)) = 0 then (none) else (if (x1.length : Int) > 0 then (if 0 < (x1.length : Int) then (laws_FnIndexByte.j2 k x1 x6 (wrap64 (2 + ((x1.length : Int) % (wrap64 ((x6.size : Int) - 2))))) 1 (decide ((rd x1 0) > 0)) x486000 x486001 x486002 x506000 x506001 x506002 x506003) else (none)) else (laws_FnIndexByte.j2 k x1 x6 (wrap64 (2 + ((x1.length : Int) % (wrap64 ((x6.size : Int) - 2))))) 1 false x486000 x486001 x486002 x506000 x506001 x506002 x506003))))
def laws_FnIndexByte.j2 : Nat → List Int → ByteArray → Int → Int → Bool → Int → Int → List (S40) → Int → Int → List (S67) → List (S69) → Option (Bool)
 | 0, _, _, _, _, _, _, _, _, _, _, _, _ => none
 | k + 1, x1, x6, x11, x12, x83, x486000, x486001, x486002, x506000, x506001, x506002, x506003 => if x83 = true then (if 0 < (x1.length : Int) then (laws_FnIndexByte.j3 k x6 x11 (wrap64 (rd x1 0)) x486000 x486001 x486002 x506000 x506001 x506002 x506003) else (none)) else (laws_FnIndexByte.j3 k x6 x11 x12 x486000 x486001 x486002 x506000 x506001 x506002 x506003)
def laws_FnIndexByte.j3 : Nat → ByteArray → Int → Int → Int → Int → List (S40) → Int → Int → List (S67) → List (S69) → Option (Bool)
 | 0, _, _, _, _, _, _, _, _, _, _ => none
 | k + 1, x6, x11, x12, x486000, x486001, x486002, x506000, x506001, x506002, x506003 => if 0 ≤ x11 then (if x11 ≤ (x6.size : Int) then (if x11 < (x6.size : Int) then ((some (([(wrap64 ((wrap64 (bt x6 x11)) + x12)) % 256] : List Int) : List Int)).bind fun y511 => (if (x6.extract 0 (x11 : Int).toNat).size + (strOfNums y511).size ≤ 9223372036854775807 then (if 0 ≤ (wrap64 (x11 + 1)) then (if (wrap64 (x11 + 1)) ≤ (x6.size : Int) then (if ((x6.extract 0 (x11 : Int).toNat) ++ (strOfNums y511)).size + (x6.extract ((wrap64 (x11 + 1)) : Int).toNat x6.size).size ≤ 9223372036854775807 then ((impl_IndexHas.f k x486000 x486001 x486002 (((x6.extract 0 (x11 : Int).toNat) ++ (strOfNums y511)) ++ (x6.extract ((wrap64 (x11 + 1)) : Int).toNat x6.size))).bind fun bt514 => (if bt514.2.2.2.2 = true then (none) else ((impl_PkgText.f k x506000 x506001 x506002 x506003).bind fun t524 => (some (t524.toList == x6.toList))))) else (none)) else (none)) else (none)) else (none))) else (none)) else (none)) else (none)
end
def laws_FnIndexByte.f (k : Nat) (l0 : List Int) (l1 : List Int) : Option (Bool) := if (l0.length : Int) > 1048576 then (laws_FnIndexByte.j0 k l0 l1 true) else (laws_FnIndexByte.j0 k l0 l1 (decide ((l1.length : Int) > 1048576)))
theorem laws_FnIndexByte.mono_l : ∀ k, (∀ y0 y1 y2, LeO (laws_FnIndexByte.j0 k y0 y1 y2) (laws_FnIndexByte.j0 (k + 1) y0 y1 y2)) ∧ (∀ y0 y1 y2 y3 y4 y5 y6 y7 y8 y9 y10 y11 y12 y13 y14 y15, LeO (laws_FnIndexByte.j1 k y0 y1 y2 y3 y4 y5 y6 y7 y8 y9 y10 y11 y12 y13 y14 y15) (laws_FnIndexByte.j1 (k + 1) y0 y1 y2 y3 y4 y5 y6 y7 y8 y9 y10 y11 y12 y13 y14 y15)) ∧ (∀ y0 y1 y2 y3 y4 y5 y6 y7 y8 y9 y10 y11, LeO (laws_FnIndexByte.j2 k y0 y1 y2 y3 y4 y5 y6 y7 y8 y9 y10 y11) (laws_FnIndexByte.j2 (k + 1) y0 y1 y2 y3 y4 y5 y6 y7 y8 y9 y10 y11)) ∧ (∀ y0 y1 y2 y3 y4 y5 y6 y7 y8 y9, LeO (laws_FnIndexByte.j3 k y0 y1 y2 y3 y4 y5 y6 y7 y8 y9) (laws_FnIndexByte.j3 (k + 1) y0 y1 y2 y3 y4 y5 y6 y7 y8 y9))
 | 0 => ⟨fun _ _ _ r h => by simp [laws_FnIndexByte.j0] at h, fun _ _ _ _ _ _ _ _ _ _ _ _ _ _ _ _ r h => by simp [laws_FnIndexByte.j1] at h, fun _ _ _ _ _ _ _ _ _ _ _ _ r h => by simp [laws_FnIndexByte.j2] at h, fun _ _ _ _ _ _ _ _ _ _ r h => by simp [laws_FnIndexByte.j3] at h⟩
 | k + 1 => by
  obtain ⟨ih0, ih1, ih2, ih3⟩ := laws_FnIndexByte.mono_l k
  refine ⟨?_, ?_, ?_, ?_⟩
  ·intro y0 y1 y2
   unfold laws_FnIndexByte.j0
   repeat' first
   | (with_reducible exact ih0 _ _ _)
   | (with_reducible exact ih1 _ _ _ _ _ _ _ _ _ _ _ _ _ _ _ _)
   | (with_reducible exact ih2 _ _ _ _ _ _ _ _ _ _ _ _)
   | (with_reducible exact ih3 _ _ _ _ _ _ _ _ _ _)
   | (with_reducible exact impl_IndexHas.mono _ _ _ _ _)
   | (with_reducible exact impl_PkgText.mono _ _ _ _ _)
   | (with_reducible exact laws_luPkg.mono _ _ _ _ _ _ _ _ _)
   | (with_reducible exact spec_DrawIndexHas.mono _ _)
   | (with_reducible exact spec_IndexHas.mono _ _ _ _ _)
   | (with_reducible exact LeO.refl _)
   | (with_reducible exact LeO.none _)
   | (with_reducible refine LeO.ite ?_ ?_)
   | (with_reducible refine LeO.bind ?_ (fun _ => ?_))
   | exact ih0 _ _ _
   | exact ih1 _ _ _ _ _ _ _ _ _ _ _ _ _ _ _ _
   | exact ih2 _ _ _ _ _ _ _ _ _ _ _ _
   | exact ih3 _ _ _ _ _ _ _ _ _ _
   | exact impl_IndexHas.mono _ _ _ _ _
   | exact impl_PkgText.mono _ _ _ _ _
   | exact laws_luPkg.mono _ _ _ _ _ _ _ _ _
   | exact spec_DrawIndexHas.mono _ _
   | exact spec_IndexHas.mono _ _ _ _ _
   | exact LeO.none _
   | refine LeO.ite ?_ ?_
   | refine LeO.bind ?_ (fun _ => ?_)
  ·intro y0 y1 y2 y3 y4 y5 y6 y7 y8 y9 y10 y11 y12 y13 y14 y15
   unfold laws_FnIndexByte.j1
   repeat' first
   | (with_reducible exact ih0 _ _ _)
   | (with_reducible exact ih1 _ _ _ _ _ _ _ _ _ _ _ _ _ _ _ _)
   | (with_reducible exact ih2 _ _ _ _ _ _ _ _ _ _ _ _)
   | (with_reducible exact ih3 _ _ _ _ _ _ _ _ _ _)
   | (with_reducible exact impl_IndexHas.mono _ _ _ _ _)
   | (with_reducible exact impl_PkgText.mono _ _ _ _ _)
   | (with_reducible exact laws_luPkg.mono _ _ _ _ _ _ _ _ _)
   | (with_reducible exact spec_DrawIndexHas.mono _ _)
   | (with_reducible exact spec_IndexHas.mono _ _ _ _ _)
   | (with_reducible exact LeO.refl _)
   | (with_reducible exact LeO.none _)
   | (with_reducible refine LeO.ite ?_ ?_)
   | (with_reducible refine LeO.bind ?_ (fun _ => ?_))
   | exact ih0 _ _ _
   | exact ih1 _ _ _ _ _ _ _ _ _ _ _ _ _ _ _ _
   | exact ih2 _ _ _ _ _ _ _ _ _ _ _ _
   | exact ih3 _ _ _ _ _ _ _ _ _ _
   | exact impl_IndexHas.mono _ _ _ _ _
   | exact impl_PkgText.mono _ _ _ _ _
   | exact laws_luPkg.mono _ _ _ _ _ _ _ _ _
   | exact spec_DrawIndexHas.mono _ _
   | exact spec_IndexHas.mono _ _ _ _ _
   | exact LeO.none _
   | refine LeO.ite ?_ ?_
   | refine LeO.bind ?_ (fun _ => ?_)
  ·intro y0 y1 y2 y3 y4 y5 y6 y7 y8 y9 y10 y11
   unfold laws_FnIndexByte.j2
   repeat' first
   | (with_reducible exact ih0 _ _ _)
   | (with_reducible exact ih1 _ _ _ _ _ _ _ _ _ _ _ _ _ _ _ _)
   | (with_reducible exact ih2 _ _ _ _ _ _ _ _ _ _ _ _)
   | (with_reducible exact ih3 _ _ _ _ _ _ _ _ _ _)
   | (with_reducible exact impl_IndexHas.mono _ _ _ _ _)
   | (with_reducible exact impl_PkgText.mono _ _ _ _ _)
   | (with_reducible exact laws_luPkg.mono _ _ _ _ _ _ _ _ _)
   | (with_reducible exact spec_DrawIndexHas.mono _ _)
   | (with_reducible exact spec_IndexHas.mono _ _ _ _ _)
   | (with_reducible exact LeO.refl _)
   | (with_reducible exact LeO.none _)
   | (with_reducible refine LeO.ite ?_ ?_)
   | (with_reducible refine LeO.bind ?_ (fun _ => ?_))
   | exact ih0 _ _ _
   | exact ih1 _ _ _ _ _ _ _ _ _ _ _ _ _ _ _ _
   | exact ih2 _ _ _ _ _ _ _ _ _ _ _ _
   | exact ih3 _ _ _ _ _ _ _ _ _ _
   | exact impl_IndexHas.mono _ _ _ _ _
   | exact impl_PkgText.mono _ _ _ _ _
   | exact laws_luPkg.mono _ _ _ _ _ _ _ _ _
   | exact spec_DrawIndexHas.mono _ _
   | exact spec_IndexHas.mono _ _ _ _ _
   | exact LeO.none _
   | refine LeO.ite ?_ ?_
   | refine LeO.bind ?_ (fun _ => ?_)
  ·intro y0 y1 y2 y3 y4 y5 y6 y7 y8 y9
   unfold laws_FnIndexByte.j3
   repeat' first
   | (with_reducible exact ih0 _ _ _)
   | (with_reducible exact ih1 _ _ _ _ _ _ _ _ _ _ _ _ _ _ _ _)
   | (with_reducible exact ih2 _ _ _ _ _ _ _ _ _ _ _ _)
   | (with_reducible exact ih3 _ _ _ _ _ _ _ _ _ _)
   | (with_reducible exact impl_IndexHas.mono _ _ _ _ _)
   | (with_reducible exact impl_PkgText.mono _ _ _ _ _)
   | (with_reducible exact laws_luPkg.mono _ _ _ _ _ _ _ _ _)
   | (with_reducible exact spec_DrawIndexHas.mono _ _)
   | (with_reducible exact spec_IndexHas.mono _ _ _ _ _)
   | (with_reducible exact LeO.refl _)
   | (with_reducible exact LeO.none _)
   | (with_reducible refine LeO.ite ?_ ?_)
   | (with_reducible refine LeO.bind ?_ (fun _ => ?_))
   | exact ih0 _ _ _
   | exact ih1 _ _ _ _ _ _ _ _ _ _ _ _ _ _ _ _
   | exact ih2 _ _ _ _ _ _ _ _ _ _ _ _
   | exact ih3 _ _ _ _ _ _ _ _ _ _
   | exact impl_IndexHas.mono _ _ _ _ _
   | exact impl_PkgText.mono _ _ _ _ _
   | exact laws_luPkg.mono _ _ _ _ _ _ _ _ _
   | exact spec_DrawIndexHas.mono _ _
   | exact spec_IndexHas.mono _ _ _ _ _
   | exact LeO.none _
   | refine LeO.ite ?_ ?_
   | refine LeO.bind ?_ (fun _ => ?_)
theorem laws_FnIndexByte.mono : ∀ a0 a1 k, LeO (laws_FnIndexByte.f k a0 a1) (laws_FnIndexByte.f (k + 1) a0 a1) := by
 intro a0 a1 k
 obtain ⟨ih0, ih1, ih2, ih3⟩ := laws_FnIndexByte.mono_l k
 unfold laws_FnIndexByte.f
 repeat' with_reducible first | apply ih0 | apply ih1 | apply ih2 | apply ih3 | apply impl_IndexHas.mono | apply impl_PkgText.mono | apply laws_luPkg.mono | apply spec_DrawIndexHas.mono | apply spec_IndexHas.mono | exact LeO.refl _ | exact LeO.none _ | refine LeO.ite ?_ ?_ | refine LeO.bind ?_ (fun _ => ?_)
def laws_FnIndexByte.T14 : Bool × List (List Nat × List Nat) := (true, [([], []), ([], []), ([], []), ([1, 2], [1, 2]), ([], []), ([], []), ([4, 5], [4, 5]), ([6], [6]), ([], []), ([7, 8], [7, 8]), ([9], [9]), ([10], [10]), ([11], [11]), ([3, 12], [3, 12]), ([], []), ([], []), ([15], [15]), ([14, 16], [14, 16]), ([13, 17], [13, 17]), ([0, 18], [0, 18]), ([19], [19]), ([20], [20]), ([20], [20]), ([], []), ([23, 21, 19, 0, 1, 2, 3, 4, 5, 6, 7, 8, 9, 10, 11, 12, 13, 14, 15, 16, 17, 18, 19, 20, 21, 23], [21, 23]), ([22, 24, 0, 1, 2, 3, 4, 5, 6, 7, 8, 9, 10, 11, 12, 13, 14, 15, 16, 17, 18, 19, 20, 21, 22, 23, 24], [22])])
def laws_FnIndexByte.B14 : List Nat := [0, 0, 0, 6, 0, 0, 48, 112, 0, 496, 1008, 2032, 4080, 8190, 0, 0, 32768, 114688, 262142, 524287, 1048575, 2097151, 2097151, 0, 12582911, 33554431]
theorem laws_FnIndexByte.tab14 : rtab .any (opsOf Tryd.f3 14) = laws_FnIndexByte.T14 := by kernel_rfl
theorem laws_FnIndexByte.bits14 : waitsOk laws_FnIndexByte.T14.2 laws_FnIndexByte.B14 = true := by kernel_rfl
set_option maxHeartbeats 8000000 in
set_option maxRecDepth 100000 in
theorem laws_FnIndexByte.calls (k : Nat) (A0 : Option Addr) (c0 : Nat) (l0 : List Int) (A1 : Option Addr) (c1 : Nat) (l1 : List Int) (r : Bool) (w : World) (hr0 : Kd.C (Kd.int .u8) w A0 l0.length l0) (hc0 : l0.length ≤ c0) (hr1 : Kd.C (Kd.int .u8) w A1 l1.length l1) (hc1 : l1.length ≤ c1) (hLD : LaidW w) (h : laws_FnIndexByte.f k l0 l1 = some r) :
  Calls Tryd.prog 3 #[.slice A0 l0.length c0, .slice A1 l1.length c1] w fun e w' => e = .returned (.bool r) ∧ Below w.heap.size w w' := by
 have hu25 := Tryd.underlying25; have hu31 := Tryd.underlying31; have HR0 := aM hr0; have HC0 := aM hc0; clear hr0 hc0; have HR1 := aM hr1; have HC1 := aM hc1; clear hr1 hc1; have HB := aM (Below.refl w.heap.size w); have HLD := aM hLD; clear hLD; have H : (if (l0.length : Int) > 1048576 then (laws_FnIndexByte.j0 k l0 l1 true) else (laws_FnIndexByte.j0 k l0 l1 (decide ((l1.length : Int) > 1048576)))) = some r := h; clear h; have HC3 := aM H; clear H
 go_enter Tryd.func3, Tryd.ntmps3
 go_upto_region 1 with (fail)
 go_cut [22] (fun v22 wc => ∃ (kq : Nat) (x22_2 : Bool), v22 = .bool x22_2 ∧ Aside0 (laws_FnIndexByte.j0 kq l0 l1 x22_2 = some r) ∧ Aside0 (kq ≤ k) ∧ Aside0 (Below w.heap.size w wc))
 case first =>
  have H := HC3.1; clear HC3
  by_cases c4 : (l0.length : Int) > 1048576
  ·rw [if_pos c4] at H; have c4b0 : decide (1048576 < (l0.length : Int)) = true := decide_eq_true c4; have c4b1 : decide (1048576 < l0.length) = true := decide_eq_true (by omega); clear c4; (first | rw [c4b0] | (simp only [i64_w, i32_w]; rw [c4b0]) | skip); have H' := aM H; clear H
   go_wp2
   go_meet
   case rel => exact ⟨_, (true), (by first | rfl | (simp; done) | (simp [*]; done)), H', ⟨by first | omega | exact Nat.le_refl _⟩, ⟨zB HB.1⟩⟩
  ·rw [if_neg c4] at H; have c4b0 : decide (1048576 < (l0.length : Int)) = false := decide_eq_false c4; have c4b1 : decide (1048576 < l0.length) = false := decide_eq_false (by omega); clear c4; (first | rw [c4b0] | (simp only [i64_w, i32_w]; rw [c4b0]) | skip); have H' := aM H; clear H
   go_wp2
   go_meet
   case rel => exact ⟨_, (decide ((l1.length : Int) > 1048576)), (by first | rfl | (simp; done) | (simp [*]; done)), H', ⟨by first | omega | exact Nat.le_refl _⟩, ⟨zB HB.1⟩⟩
 case rest =>
  clear HC3
  try clear c1
  try clear p2
  try clear c3
  try clear c4
  try clear c4b0
  try clear c4b1
  obtain ⟨kq, x22_2, rfl, HA, HJ2, HB⟩ := hcut; cases kq with
  | zero => exact absurd HA.1 (by simp [laws_FnIndexByte.j0])
  | succ kj2 =>
   have H := HA.1; clear HA; simp only [laws_FnIndexByte.j0] at H
   by_cases c5 : x22_2 = true
   ·subst c5; replace H := zy1 H; obtain rfl := Option.some.inj H
    go_wp2
    go_ret
    exact ⟨by first | rfl | (simp [errW_none, errW_some] <;> rfl) | (simp [*, errW_none, errW_some] <;> rfl), by exact zB HB.1⟩
   ·replace c5 := Bool.eq_false_iff.mpr c5; subst c5; replace H := zy0 H; replace H := Option.bind_eq_some_iff.mp H; obtain ⟨⟨t479, t480, t481, t484⟩, A60, H⟩ := H; (try dsimp only at H); have A6 := aM A60; clear A60; replace H := Option.bind_eq_some_iff.mp H; obtain ⟨⟨t486, t487, t488, t491, t494⟩, A70, H⟩ := H; (try dsimp only at H); have A7 := aM A70; clear A70; replace H := Option.bind_eq_some_iff.mp H; obtain ⟨⟨t496, t497, t498, t501, t504⟩, A80, H⟩ := H; (try dsimp only at H); have A8 := aM A80; clear A80; have HC9 := aM H; clear H
    go_upto_region 6 with (first | ((with_reducible refine gate_callee (f := 13) rfl ?_); refine zgL (some 25) Tryd.func13 #[.slice A0 l0.length c0] ?_; (with_reducible refine (spec_DrawIndexHas.calls kj2 _ _ l0 t479 t480 t481 t484 _ ?side1 ?side2 A6.1).mono ?_); (case side1 => exact zC (Kd.C_below HR0.1 HB.1)); (case side2 => exact HC0.1); rintro e w10 ⟨v482, rfl, ho0, hb⟩; refine ⟨_, rfl, ?_⟩; have _ := aM (Kd.R_lower ho0 (below_size (zB HB.1))); have _ := aM (below_step (zB HB.1) hb); clear HB; rename_i HO483 HB; (try clear hb); (try clear hb2); (try clear hk); (try clear hi); (try clear ho0)) | ((with_reducible refine gate_dst (N := 5) rfl ?_); (try (refine gate_guard (by rfl) ?_; dsimp only)); refine box_event ?hg (N := 5) ?hd (cs := #[.int .i64 0, .int .i64 0, .slice none 0 0]) (t := 25) ?hr ?_; (case hd => rfl); (case hg => rfl); (case hr => first | (go_simp; done) | (go_simp; rfl)); intro gb485 hg w11 hbox hb; have _ := aM (Kd.R_below (zR HO483.1) hb); have _ := aM (below_step (zB HB.1) hb); have _ := aM (hbox); have _ := aM (zge hg (zB HB.1)); have _ := aM (zge hg (zB HB.1)); clear HO483 HB; rename_i HO483 HB BK485 GW485 GE485; clear hb hbox hg; obtain ⟨hcz12_0, hcz12_1, hcz12_2, hfz12_0, hfz12_1, hfz12_2⟩ := zc3f BK485.1; obtain ⟨Ao13, co13, eo13⟩ := Kd.R_slice HO483.1; subst eo13) | ((with_reducible refine gate_callee (f := 14) rfl ?_); refine zgL (some 31) Tryd.func14 #[.agg #[.int .i64 t479, .int .i64 t480, .slice Ao13 t481.length co13], .string t484] ?_; (with_reducible refine (spec_IndexHas.calls kj2 t479 t480 _ _ t481 t484 t486 t487 t488 t491 t494 _ ?side1 ?side2 A7.1).mono ?_); (case side1 => refine (Kd.R_reads' (e := 40) (base := w.heap.size) (ok := fun k_ => True) (n := t481.length) (c := co13) ?_).2.2; exact zT HO483.1 BK485.1 (by decide)); (case side2 => exact (Kd.R_reads' HO483.1).2.1); rintro e w14 ⟨v489, v492, rfl, ho0, ho1, hb⟩; refine ⟨_, rfl, ?_⟩; have _ := aM (Kd.R_below (zT HO483.1 BK485.1 (by decide)) hb); have _ := aM (Kd.R_lower ho0 (below_size (zB1 HB.1 GE485.1))); have _ := aM (Kd.R_lower ho1 (below_size (zB1 HB.1 GE485.1))); have _ := aM (blk_below (g := gb485) (o := .cells #[.int .i64 t479, .int .i64 t480, .slice Ao13 t481.length co13] 25 (0, 0)) (by exact zP BK485.1 (by rfl)) hb); have _ := aM (below_step (zB1 HB.1 GE485.1) hb); clear HO483 BK485 HB; rename_i HO483 HO490 HO493 BK485 HB; (try clear hb); (try clear hb2); (try clear hk); (try clear hi); (try clear ho0); (try clear ho1)) | ((with_reducible refine gate_dst (N := 7) rfl ?_); (try (refine gate_guard (by rfl) ?_; dsimp only)); refine box_event ?hg (N := 7) ?hd (cs := #[.int .i64 0, .int .i64 0, .slice none 0 0, .slice none 0 0]) (t := 31) ?hr ?_; (case hd => rfl); (case hg => rfl); (case hr => first | (go_simp; done) | (go_simp; rfl)); intro gb495 hg w15 hbox hb; have _ := aM (Kd.R_below (zR HO483.1) hb); have _ := aM (Kd.R_below (zR HO490.1) hb); have _ := aM (Kd.R_below (zR HO493.1) hb); have _ := aM (blk_below (zK BK485.1) hb); have _ := aM (below_step (zB1 HB.1 GE485.1) hb); have _ := aM (hbox); have _ := aM (zge hg (zB1 HB.1 GE485.1)); have _ := aM (zge hg (zB1 HB.1 GE485.1)); have _ := aM (znl hg (zK BK485.1)); have _ := aM (zng hg (zK BK485.1)); clear HO483 HO490 HO493 BK485 HB; rename_i HO483 HO490 HO493 BK485 HB BK495 GW495 GE495 NB485_495 NB495_485; clear hb hbox hg; have hnb16 := NB495_485.1; have hnc16 := NB485_495.1; obtain ⟨hcz17_0, hcz17_1, hcz17_2, hcz17_3, hfz17_0, hfz17_1, hfz17_2, hfz17_3⟩ := zc4f BK495.1; obtain ⟨Ao18, co18, eo18⟩ := Kd.R_slice HO490.1; subst eo18; obtain ⟨Ao19, co19, eo19⟩ := Kd.R_slice HO493.1; subst eo19; obtain ⟨hcz20_0, hcz20_1, hcz20_2, hfz20_0, hfz20_1, hfz20_2⟩ := zc3f BK485.1) | ((with_reducible refine gate_callee (f := 15) rfl ?_); refine zgL (some 37) Tryd.func15 #[.agg #[.int .i64 t479, .int .i64 t480, .slice Ao13 t481.length co13], .string t484] ?_; (with_reducible refine (impl_IndexHas.calls kj2 t479 t480 _ _ t481 t484 t496 t497 t498 t501 t504 _ ?side1 ?side2 ?sideL A8.1).mono ?_); (case sideL => exact HLD.1.on (zB2 HB.1 GE485.1 GE495.1)); (case side1 => refine (Kd.R_reads' (e := 40) (base := w.heap.size) (ok := fun k_ => True) (n := t481.length) (c := co13) ?_).2.2; exact zT HO483.1 BK495.1 (by decide)); (case side2 => exact (Kd.R_reads' HO483.1).2.1); rintro e w21 ⟨v499, v502, rfl, ho0, ho1, hb⟩; refine ⟨_, rfl, ?_⟩; have _ := aM (Kd.R_below (zT HO483.1 BK495.1 (by decide)) hb); have _ := aM (Kd.R_elder' (zT HO490.1 BK495.1 (by decide)) (Kd.R_base ho0) hb); have _ := aM (Kd.R_elder' (zT HO493.1 BK495.1 (by decide)) (Kd.R_base ho1) hb); have _ := aM (Kd.R_lower (Kd.R_new' ho0 (Kd.R_lt (zT HO490.1 BK495.1 (by decide)))) (below_size (zB2 HB.1 GE485.1 GE495.1))); have _ := aM (Kd.R_lower (Kd.R_new' ho1 (Kd.R_lt (zT HO493.1 BK495.1 (by decide)))) (below_size (zB2 HB.1 GE485.1 GE495.1))); have _ := aM (blk_below (zK1 BK485.1 NB485_495.1) hb); have _ := aM (blk_below (g := gb495) (o := .cells #[.int .i64 t486, .int .i64 t487, .slice Ao18 t488.length co18, .slice Ao19 t491.length co19] 31 (0, 0)) (by exact zP BK495.1 (by rfl)) hb); have _ := aM (below_step (zB2 HB.1 GE485.1 GE495.1) hb); clear HO483 HO490 HO493 BK485 BK495 HB; rename_i HO483 HO490 HO493 HO500 HO503 BK485 BK495 HB; (try clear hb); (try clear hb2); (try clear hk); (try clear hi); (try clear ho0); (try clear ho1)) | ((with_reducible refine gate_dst (N := 9) rfl ?_); (try (refine gate_guard (by rfl) ?_; dsimp only)); refine box_event ?hg (N := 9) ?hd (cs := #[.int .i64 0, .int .i64 0, .slice none 0 0, .slice none 0 0]) (t := 31) ?hr ?_; (case hd => rfl); (case hg => rfl); (case hr => first | (go_simp; done) | (go_simp; rfl)); intro gb505 hg w22 hbox hb; have _ := aM (Kd.R_below (zR HO483.1) hb); have _ := aM (Kd.R_below (zR HO490.1) hb); have _ := aM (Kd.R_below (zR HO493.1) hb); have _ := aM (Kd.R_below (zR HO500.1) hb); have _ := aM (Kd.R_below (zR HO503.1) hb); have _ := aM (blk_below (zK BK485.1) hb); have _ := aM (blk_below (zK BK495.1) hb); have _ := aM (below_step (zB2 HB.1 GE485.1 GE495.1) hb); have _ := aM (hbox); have _ := aM (zge hg (zB2 HB.1 GE485.1 GE495.1)); have _ := aM (zge hg (zB2 HB.1 GE485.1 GE495.1)); have _ := aM (znl hg (zK BK485.1)); have _ := aM (zng hg (zK BK485.1)); have _ := aM (znl hg (zK BK495.1)); have _ := aM (zng hg (zK BK495.1)); clear HO483 HO490 HO493 HO500 HO503 BK485 BK495 HB; rename_i HO483 HO490 HO493 HO500 HO503 BK485 BK495 HB BK505 GW505 GE505 NB485_505 NB505_485 NB495_505 NB505_495; clear hb hbox hg; have hnb23 := NB505_485.1; have hnc23 := NB485_505.1; have hnb24 := NB505_495.1; have hnc24 := NB495_505.1; obtain ⟨hcz25_0, hcz25_1, hcz25_2, hcz25_3, hfz25_0, hfz25_1, hfz25_2, hfz25_3⟩ := zc4f BK505.1; obtain ⟨Ao26, co26, eo26⟩ := Kd.R_slice HO500.1; subst eo26; obtain ⟨Ao27, co27, eo27⟩ := Kd.R_slice HO503.1; subst eo27))
    (try simp only [zp0, zp1, zp2, zp3, zp4])
    go_cut [52] (fun v52 wc => ∃ (kq : Nat) (x52_8 : Bool), v52 = .bool x52_8 ∧ Aside0 (laws_FnIndexByte.j1 kq l1 t484 t494 t504 x52_8 t479 t480 t481 t486 t487 t488 t491 t496 t497 t498 t501 = some r) ∧ Aside0 (kq ≤ kj2) ∧ Aside0 (Kd.R k40 40 wc w.heap.size (fun _ => True) (.slice Ao13 t481.length co13) t481) ∧ Aside0 (Kd.R k67 67 wc w.heap.size (fun k_ => some k_ ≠ ((.slice Ao26 t498.length co26) : Value).ownBlock) (.slice Ao18 t488.length co18) t488) ∧ Aside0 (Kd.R k69 69 wc w.heap.size (fun k_ => some k_ ≠ ((.slice Ao27 t501.length co27) : Value).ownBlock) (.slice Ao19 t491.length co19) t491) ∧ Aside0 (Kd.R k67 67 wc w.heap.size (fun k_ => some k_ ≠ ((.slice Ao18 t488.length co18) : Value).ownBlock) (.slice Ao26 t498.length co26) t498) ∧ Aside0 (Kd.R k69 69 wc w.heap.size (fun k_ => some k_ ≠ ((.slice Ao19 t491.length co19) : Value).ownBlock) (.slice Ao27 t501.length co27) t501) ∧ Aside0 (wc.heap[gb485]? = some (.cells #[.int .i64 t479, .int .i64 t480, (.slice Ao13 t481.length co13)] 25 (0, 0))) ∧ Aside0 (wc.heap[gb495]? = some (.cells #[.int .i64 t486, .int .i64 t487, (.slice Ao18 t488.length co18), (.slice Ao19 t491.length co19)] 31 (0, 0))) ∧ Aside0 (wc.heap[gb505]? = some (.cells #[.int .i64 t496, .int .i64 t497, (.slice Ao26 t498.length co26), (.slice Ao27 t501.length co27)] 31 (0, 0))) ∧ Aside0 (Below w.heap.size w wc))
    case first =>
     have H := HC9.1; clear HC9
     by_cases c28 : (t504 != t494) = true
     ·rw [if_pos c28] at H; have c28b0 : (t504 != t494) = true := c28; (try (have c28b1 : decide (t504 = t494) = false := by simpa using c28)); (try (have c28b2 : (t504 == t494) = false := by simpa using c28)); (try (have c28b3 : ¬ (t504 = t494) := by simpa using c28)); clear c28; (first | rw [c28b0] | (simp only [i64_w, i32_w]; rw [c28b0]) | skip); have H' := aM H; clear H
      go_wp2
      go_meet
      case rel => exact ⟨_, (true), (by first | rfl | (simp; done) | (simp [*]; done)), H', ⟨by have := HJ2.1; first | omega | exact Nat.le_refl _⟩, ⟨by exact (Kd.R_mono (zFR (g := gb505) (Kd.R_types HO483.1 BK505.1 (by decide)) (fun _ hk => hk.2)) (fun _ hk => trivial))⟩, ⟨by exact (Kd.R_mono (zFR (g := gb505) (Kd.R_types HO490.1 BK505.1 (by decide)) (fun _ hk => hk.2)) (fun _ hk => hk.1.2))⟩, ⟨by exact (Kd.R_mono (zFR (g := gb505) (Kd.R_types HO493.1 BK505.1 (by decide)) (fun _ hk => hk.2)) (fun _ hk => hk.1.2))⟩, ⟨by exact (Kd.R_mono (zFR (g := gb505) (Kd.R_types HO500.1 BK505.1 (by decide)) (fun _ hk => hk.2)) (fun _ hk => hk.1.2))⟩, ⟨by exact (Kd.R_mono (zFR (g := gb505) (Kd.R_types HO503.1 BK505.1 (by decide)) (fun _ hk => hk.2)) (fun _ hk => hk.1.2))⟩, ⟨zK1 BK485.1 NB485_505.1⟩, ⟨zK1 BK495.1 NB495_505.1⟩, ⟨by exact zP BK505.1 (by rfl)⟩, ⟨zB3 HB.1 GE485.1 GE495.1 GE505.1⟩⟩
     ·rw [if_neg c28] at H
      have c28b0 : (t504 != t494) = false := by simpa using c28
      (try (have c28b1 : decide (t504 = t494) = true := by simpa using c28)); (try (have c28b2 : (t504 == t494) = true := by simpa using c28)); clear c28; (first | rw [c28b0] | (simp only [i64_w, i32_w]; rw [c28b0]) | skip); replace H := Option.bind_eq_some_iff.mp H; obtain ⟨t506, A290, H⟩ := H; (try dsimp only at H); have A29 := aM A290; clear A290
      by_cases c30 : t506 = true
      ·subst c30; replace H := zy1 H; have H' := aM H; clear H; have hnb31 := NB505_485.1; have hnc31 := NB485_505.1; have hnb32 := NB505_495.1; have hnc32 := NB495_505.1; obtain ⟨hcz33_0, hcz33_1, hcz33_2, hcz33_3, hfz33_0, hfz33_1, hfz33_2, hfz33_3⟩ := zc4f BK505.1; have hnb34 := NB495_485.1; have hnc34 := NB485_495.1; obtain ⟨hcz35_0, hcz35_1, hcz35_2, hcz35_3, hfz35_0, hfz35_1, hfz35_2, hfz35_3⟩ := zc4f BK495.1
       go_wp2_with (first | (go_at_call 16; (with_reducible refine (laws_luPkg.calls kj2 t496 t497 _ _ t498 _ _ t501 t486 t487 _ _ t488 _ _ t491 true _ ?side1 ?side2 ?side3 ?side4 ?side5 ?side6 ?side7 ?side8 A29.1).mono ?_); (case side1 => refine (Kd.R_reads' (e := 67) (base := w.heap.size) (ok := fun k_ => (True ∧ some k_ ≠ (.slice Ao18 t488.length co18 : Value).ownBlock)) (n := t498.length) (c := co26) ?_).2.2; exact zT HO500.1 BK505.1 (by decide)); (case side2 => exact (Kd.R_reads' HO500.1).2.1); (case side3 => refine (Kd.R_reads' (e := 69) (base := w.heap.size) (ok := fun k_ => (True ∧ some k_ ≠ (.slice Ao19 t491.length co19 : Value).ownBlock)) (n := t501.length) (c := co27) ?_).2.2; exact zT HO503.1 BK505.1 (by decide)); (case side4 => exact (Kd.R_reads' HO503.1).2.1); (case side5 => refine (Kd.R_reads' (e := 67) (base := w.heap.size) (ok := fun k_ => (True ∧ some k_ ≠ (.slice Ao26 t498.length co26 : Value).ownBlock)) (n := t488.length) (c := co18) ?_).2.2; exact zT HO490.1 BK505.1 (by decide)); (case side6 => exact (Kd.R_reads' HO490.1).2.1); (case side7 => refine (Kd.R_reads' (e := 69) (base := w.heap.size) (ok := fun k_ => (True ∧ some k_ ≠ (.slice Ao27 t501.length co27 : Value).ownBlock)) (n := t491.length) (c := co19) ?_).2.2; exact zT HO493.1 BK505.1 (by decide)); (case side8 => exact (Kd.R_reads' HO493.1).2.1); rintro e w36 ⟨rfl, hb⟩; have _ := aM (Kd.R_below (zT HO483.1 BK505.1 (by decide)) hb); have _ := aM (Kd.R_below (zT HO490.1 BK505.1 (by decide)) hb); have _ := aM (Kd.R_below (zT HO493.1 BK505.1 (by decide)) hb); have _ := aM (Kd.R_below (zT HO500.1 BK505.1 (by decide)) hb); have _ := aM (Kd.R_below (zT HO503.1 BK505.1 (by decide)) hb); have _ := aM (blk_below (zK1 BK485.1 NB485_505.1) hb); have _ := aM (blk_below (zK1 BK495.1 NB495_505.1) hb); have _ := aM (blk_below (g := gb505) (o := .cells #[.int .i64 t496, .int .i64 t497, .slice Ao26 t498.length co26, .slice Ao27 t501.length co27] 31 (0, 0)) (by exact zP BK505.1 (by rfl)) hb); have _ := aM (below_step (zB3 HB.1 GE485.1 GE495.1 GE505.1) hb); clear HO483 HO490 HO493 HO500 HO503 BK485 BK495 BK505 HB; rename_i HO483 HO490 HO493 HO500 HO503 BK485 BK495 BK505 HB; (try clear hb); (try clear hb2); (try clear hk); (try clear hi)))
       go_meet
       case rel => exact ⟨_, (!t504), (by first | rfl | (simp; done) | (simp [*]; done)), H', ⟨by have := HJ2.1; first | omega | exact Nat.le_refl _⟩, ⟨zR HO483.1⟩, ⟨by exact zR (Kd.R_mono HO490.1 (fun _ hk => hk.2))⟩, ⟨by exact zR (Kd.R_mono HO493.1 (fun _ hk => hk.2))⟩, ⟨by exact zR (Kd.R_mono HO500.1 (fun _ hk => hk.2))⟩, ⟨by exact zR (Kd.R_mono HO503.1 (fun _ hk => hk.2))⟩, ⟨zK BK485.1⟩, ⟨zK BK495.1⟩, ⟨zK BK505.1⟩, ⟨zB3 HB.1 GE485.1 GE495.1 GE505.1⟩⟩
      ·replace c30 := Bool.eq_false_iff.mpr c30; subst c30; replace H := zy0 H; have H' := aM H; clear H; have hnb37 := NB505_485.1; have hnc37 := NB485_505.1; have hnb38 := NB505_495.1; have hnc38 := NB495_505.1; obtain ⟨hcz39_0, hcz39_1, hcz39_2, hcz39_3, hfz39_0, hfz39_1, hfz39_2, hfz39_3⟩ := zc4f BK505.1; have hnb40 := NB495_485.1; have hnc40 := NB485_495.1; obtain ⟨hcz41_0, hcz41_1, hcz41_2, hcz41_3, hfz41_0, hfz41_1, hfz41_2, hfz41_3⟩ := zc4f BK495.1
       go_wp2_with (first | (go_at_call 16; (with_reducible refine (laws_luPkg.calls kj2 t496 t497 _ _ t498 _ _ t501 t486 t487 _ _ t488 _ _ t491 false _ ?side1 ?side2 ?side3 ?side4 ?side5 ?side6 ?side7 ?side8 A29.1).mono ?_); (case side1 => refine (Kd.R_reads' (e := 67) (base := w.heap.size) (ok := fun k_ => (True ∧ some k_ ≠ (.slice Ao18 t488.length co18 : Value).ownBlock)) (n := t498.length) (c := co26) ?_).2.2; exact zT HO500.1 BK505.1 (by decide)); (case side2 => exact (Kd.R_reads' HO500.1).2.1); (case side3 => refine (Kd.R_reads' (e := 69) (base := w.heap.size) (ok := fun k_ => (True ∧ some k_ ≠ (.slice Ao19 t491.length co19 : Value).ownBlock)) (n := t501.length) (c := co27) ?_).2.2; exact zT HO503.1 BK505.1 (by decide)); (case side4 => exact (Kd.R_reads' HO503.1).2.1); (case side5 => refine (Kd.R_reads' (e := 67) (base := w.heap.size) (ok := fun k_ => (True ∧ some k_ ≠ (.slice Ao26 t498.length co26 : Value).ownBlock)) (n := t488.length) (c := co18) ?_).2.2; exact zT HO490.1 BK505.1 (by decide)); (case side6 => exact (Kd.R_reads' HO490.1).2.1); (case side7 => refine (Kd.R_reads' (e := 69) (base := w.heap.size) (ok := fun k_ => (True ∧ some k_ ≠ (.slice Ao27 t501.length co27 : Value).ownBlock)) (n := t491.length) (c := co19) ?_).2.2; exact zT HO493.1 BK505.1 (by decide)); (case side8 => exact (Kd.R_reads' HO493.1).2.1); rintro e w42 ⟨rfl, hb⟩; have _ := aM (Kd.R_below (zT HO483.1 BK505.1 (by decide)) hb); have _ := aM (Kd.R_below (zT HO490.1 BK505.1 (by decide)) hb); have _ := aM (Kd.R_below (zT HO493.1 BK505.1 (by decide)) hb); have _ := aM (Kd.R_below (zT HO500.1 BK505.1 (by decide)) hb); have _ := aM (Kd.R_below (zT HO503.1 BK505.1 (by decide)) hb); have _ := aM (blk_below (zK1 BK485.1 NB485_505.1) hb); have _ := aM (blk_below (zK1 BK495.1 NB495_505.1) hb); have _ := aM (blk_below (g := gb505) (o := .cells #[.int .i64 t496, .int .i64 t497, .slice Ao26 t498.length co26, .slice Ao27 t501.length co27] 31 (0, 0)) (by exact zP BK505.1 (by rfl)) hb); have _ := aM (below_step (zB3 HB.1 GE485.1 GE495.1 GE505.1) hb); clear HO483 HO490 HO493 HO500 HO503 BK485 BK495 BK505 HB; rename_i HO483 HO490 HO493 HO500 HO503 BK485 BK495 BK505 HB; (try clear hb); (try clear hb2); (try clear hk); (try clear hi)))
       go_meet
       case rel => exact ⟨_, (true), (by first | rfl | (simp; done) | (simp [*]; done)), H', ⟨by have := HJ2.1; first | omega | exact Nat.le_refl _⟩, ⟨zR HO483.1⟩, ⟨by exact zR (Kd.R_mono HO490.1 (fun _ hk => hk.2))⟩, ⟨by exact zR (Kd.R_mono HO493.1 (fun _ hk => hk.2))⟩, ⟨by exact zR (Kd.R_mono HO500.1 (fun _ hk => hk.2))⟩, ⟨by exact zR (Kd.R_mono HO503.1 (fun _ hk => hk.2))⟩, ⟨zK BK485.1⟩, ⟨zK BK495.1⟩, ⟨zK BK505.1⟩, ⟨zB3 HB.1 GE485.1 GE495.1 GE505.1⟩⟩
    case rest =>
     clear HC9
     try clear c1
     try clear c2
     try clear p2
     try clear c3
     try clear c4
     try clear c4b0
     try clear c4b1
     try clear c5
     try clear c13
     try clear c14
     try clear c15
     try clear c16
     try clear c23
     try clear c24
     try clear c28
     try clear c28b0
     try clear c28b1
     try clear c28b2
     try clear c30
     try clear c31
     try clear c32
     try clear c34
     try clear c37
     try clear c38
     try clear c40
     try clear hcz12_0
     try clear hcz12_1
     try clear hcz12_2
     try clear hcz17_0
     try clear hcz17_1
     try clear hcz17_2
     try clear hcz17_3
     try clear hcz20_0
     try clear hcz20_1
     try clear hcz20_2
     try clear hcz25_0
     try clear hcz25_1
     try clear hcz25_2
     try clear hcz25_3
     try clear hcz33_0
     try clear hcz33_1
     try clear hcz33_2
     try clear hcz33_3
     try clear hcz35_0
     try clear hcz35_1
     try clear hcz35_2
     try clear hcz35_3
     try clear hcz39_0
     try clear hcz39_1
     try clear hcz39_2
     try clear hcz39_3
     try clear hcz41_0
     try clear hcz41_1
     try clear hcz41_2
     try clear hcz41_3
     try clear hfz12_0
     try clear hfz12_1
     try clear hfz12_2
     try clear hfz17_0
     try clear hfz17_1
     try clear hfz17_2
     try clear hfz17_3
     try clear hfz20_0
     try clear hfz20_1
     try clear hfz20_2
     try clear hfz25_0
     try clear hfz25_1
     try clear hfz25_2
     try clear hfz25_3
     try clear hfz33_0
     try clear hfz33_1
     try clear hfz33_2
     try clear hfz33_3
     try clear hfz35_0
     try clear hfz35_1
     try clear hfz35_2
     try clear hfz35_3
     try clear hfz39_0
     try clear hfz39_1
     try clear hfz39_2
     try clear hfz39_3
     try clear hfz41_0
     try clear hfz41_1
     try clear hfz41_2
     try clear hfz41_3
     try clear p2
     obtain ⟨kq, x52_8, rfl, HA, HJ8, HO_486002, HO_496002, HO_496003, HO_506002, HO_506003, BK485, BK495, BK505, HB⟩ := hcut; cases kq with
     | zero => exact absurd HA.1 (by simp [laws_FnIndexByte.j1])
     | succ kj8 =>
      have H := HA.1; clear HA; simp only [laws_FnIndexByte.j1] at H
      by_cases c43 : x52_8 = true
      ·subst c43; replace H := zy1 H; replace H := zif H; obtain ⟨c44, H⟩ := H; have c44b0 : (t504 == t494) = true := c44; (try (have c44b1 : decide (t504 = t494) = true := by simpa using c44)); (try (have c44b2 : (t504 == t494) = true := by simpa using c44)); clear c44; replace H := Option.bind_eq_some_iff.mp H; obtain ⟨t507, A450, H⟩ := H; (try dsimp only at H); have A45 := aM A450; clear A450; obtain rfl := Option.some.inj H; have hnb46 := NB505_485.1; have hnc46 := NB485_505.1; have hnb47 := NB505_495.1; have hnc47 := NB495_505.1; obtain ⟨hcz48_0, hcz48_1, hcz48_2, hcz48_3, hfz48_0, hfz48_1, hfz48_2, hfz48_3⟩ := zc4f BK505.1; have hnb49 := NB495_485.1; have hnc49 := NB485_495.1; obtain ⟨hcz50_0, hcz50_1, hcz50_2, hcz50_3, hfz50_0, hfz50_1, hfz50_2, hfz50_3⟩ := zc4f BK495.1
       go_wp2_with (first | (go_at_call 16; (with_reducible refine (laws_luPkg.calls kj8 t496 t497 _ _ t498 _ _ t501 t486 t487 _ _ t488 _ _ t491 t507 _ ?side1 ?side2 ?side3 ?side4 ?side5 ?side6 ?side7 ?side8 A45.1).mono ?_); (case side1 => exact zC (Kd.R_reads' HO_506002.1).2.2); (case side2 => exact (Kd.R_reads' HO_506002.1).2.1); (case side3 => exact zC (Kd.R_reads' HO_506003.1).2.2); (case side4 => exact (Kd.R_reads' HO_506003.1).2.1); (case side5 => exact zC (Kd.R_reads' HO_496002.1).2.2); (case side6 => exact (Kd.R_reads' HO_496002.1).2.1); (case side7 => exact zC (Kd.R_reads' HO_496003.1).2.2); (case side8 => exact (Kd.R_reads' HO_496003.1).2.1); rintro e w51 ⟨rfl, hb⟩; have _ := aM (Kd.R_below (zR HO_486002.1) hb); have _ := aM (Kd.R_below (zR HO_496002.1) hb); have _ := aM (Kd.R_below (zR HO_496003.1) hb); have _ := aM (Kd.R_below (zR HO_506002.1) hb); have _ := aM (Kd.R_below (zR HO_506003.1) hb); have _ := aM (blk_below (zK BK485.1) hb); have _ := aM (blk_below (zK BK495.1) hb); have _ := aM (blk_below (zK BK505.1) hb); have _ := aM (below_step (zB3 HB.1 GE485.1 GE495.1 GE505.1) hb); clear HO_486002 HO_496002 HO_496003 HO_506002 HO_506003 BK485 BK495 BK505 HB; rename_i HO_486002 HO_496002 HO_496003 HO_506002 HO_506003 BK485 BK495 BK505 HB; (try clear hb); (try clear hb2); (try clear hk); (try clear hi)))
       go_ret
       exact ⟨by first | rfl | (simp [errW_none, errW_some] <;> rfl) | (simp [*, errW_none, errW_some] <;> rfl), by exact zB3 HB.1 GE485.1 GE495.1 GE505.1⟩
      ·replace c43 := Bool.eq_false_iff.mpr c43; subst c43; replace H := zy0 H
       by_cases c52 : (t484.size : Int) = 2
       ·rw [if_pos c52] at H; have c52b0 : ((t484.size : Int) == 2) = true := beq_iff_eq.mpr c52; have c52b1 : ((t484.size : Int) != 2) = false := bne_eq_false_iff_eq.mpr c52; clear c52; replace H := Option.bind_eq_some_iff.mp H; obtain ⟨t508, A530, H⟩ := H; (try dsimp only at H); have A53 := aM A530; clear A530; obtain rfl := Option.some.inj H; have hnb54 := NB505_485.1; have hnc54 := NB485_505.1; have hnb55 := NB505_495.1; have hnc55 := NB495_505.1; obtain ⟨hcz56_0, hcz56_1, hcz56_2, hcz56_3, hfz56_0, hfz56_1, hfz56_2, hfz56_3⟩ := zc4f BK505.1
        go_wp2_with (first | ((with_reducible refine gate_callee (f := 17) rfl ?_); refine zgL (some 65) Tryd.func17 #[.agg #[.int .i64 t496, .int .i64 t497, .slice Ao26 t498.length co26, .slice Ao27 t501.length co27]] ?_; (with_reducible refine (impl_PkgText.calls kj8 t496 t497 _ _ t498 _ _ t501 t508 _ ?side1 ?side2 ?side3 ?side4 A53.1).mono ?_); (case side1 => exact zC (Kd.R_reads' HO_506002.1).2.2); (case side2 => exact (Kd.R_reads' HO_506002.1).2.1); (case side3 => exact zC (Kd.R_reads' HO_506003.1).2.2); (case side4 => exact (Kd.R_reads' HO_506003.1).2.1); rintro e w57 ⟨rfl, hb⟩; refine ⟨_, rfl, ?_⟩; have _ := aM (Kd.R_below (zR HO_486002.1) hb); have _ := aM (Kd.R_below (zR HO_496002.1) hb); have _ := aM (Kd.R_below (zR HO_496003.1) hb); have _ := aM (Kd.R_below (zR HO_506002.1) hb); have _ := aM (Kd.R_below (zR HO_506003.1) hb); have _ := aM (blk_below (zK BK485.1) hb); have _ := aM (blk_below (zK BK495.1) hb); have _ := aM (blk_below (zK BK505.1) hb); have _ := aM (below_step (zB3 HB.1 GE485.1 GE495.1 GE505.1) hb); clear HO_486002 HO_496002 HO_496003 HO_506002 HO_506003 BK485 BK495 BK505 HB; rename_i HO_486002 HO_496002 HO_496003 HO_506002 HO_506003 BK485 BK495 BK505 HB; (try clear hb); (try clear hb2); (try clear hk); (try clear hi)))
        go_ret
        exact ⟨by first | rfl | (simp [errW_none, errW_some] <;> rfl) | (simp [*, errW_none, errW_some] <;> rfl), by exact zB3 HB.1 GE485.1 GE495.1 GE505.1⟩
       ·rw [if_neg c52] at H; have c52b0 : ((t484.size : Int) == 2) = false := beq_eq_false_iff_ne.mpr c52; have c52b1 : ((t484.size : Int) != 2) = true := bne_iff_ne.mpr c52; replace H := zin H; obtain ⟨c58, H⟩ := H; have c58b0 : ((wrap64 ((t484.size : Int) - 2)) == 0) = false := beq_eq_false_iff_ne.mpr c58; have c58b1 : ((wrap64 ((t484.size : Int) - 2)) != 0) = true := bne_iff_ne.mpr c58; have HC59 := aM H; clear H
        go_upto_region 12 with (fail)
        go_cut [83] (fun v83 wc => ∃ (kq : Nat) (x83_58 : Bool), v83 = .bool x83_58 ∧ Aside0 (laws_FnIndexByte.j2 kq l1 t484 (wrap64 (2 + ((l1.length : Int) % (wrap64 ((t484.size : Int) - 2))))) 1 x83_58 t479 t480 t481 t496 t497 t498 t501 = some r) ∧ Aside0 (kq ≤ kj8) ∧ Aside0 (Kd.R k40 40 wc w.heap.size (fun _ => True) (.slice Ao13 t481.length co13) t481) ∧ Aside0 (Kd.R k67 67 wc w.heap.size (fun k_ => some k_ ≠ ((.slice Ao26 t498.length co26) : Value).ownBlock) (.slice Ao18 t488.length co18) t488) ∧ Aside0 (Kd.R k69 69 wc w.heap.size (fun k_ => some k_ ≠ ((.slice Ao27 t501.length co27) : Value).ownBlock) (.slice Ao19 t491.length co19) t491) ∧ Aside0 (Kd.R k67 67 wc w.heap.size (fun k_ => some k_ ≠ ((.slice Ao18 t488.length co18) : Value).ownBlock) (.slice Ao26 t498.length co26) t498) ∧ Aside0 (Kd.R k69 69 wc w.heap.size (fun k_ => some k_ ≠ ((.slice Ao19 t491.length co19) : Value).ownBlock) (.slice Ao27 t501.length co27) t501) ∧ Aside0 (wc.heap[gb485]? = some (.cells #[.int .i64 t479, .int .i64 t480, (.slice Ao13 t481.length co13)] 25 (0, 0))) ∧ Aside0 (wc.heap[gb495]? = some (.cells #[.int .i64 t486, .int .i64 t487, (.slice Ao18 t488.length co18), (.slice Ao19 t491.length co19)] 31 (0, 0))) ∧ Aside0 (wc.heap[gb505]? = some (.cells #[.int .i64 t496, .int .i64 t497, (.slice Ao26 t498.length co26), (.slice Ao27 t501.length co27)] 31 (0, 0))) ∧ Aside0 (Below w.heap.size w wc))
        case first =>
         have H := HC59.1; clear HC59
         by_cases c60 : (l1.length : Int) > 0
         ·rw [if_pos c60] at H; have c60b0 : decide (0 < (l1.length : Int)) = true := decide_eq_true c60; have c60b1 : decide (0 < l1.length) = true := decide_eq_true (by omega); clear c60; (first | rw [c60b0] | (simp only [i64_w, i32_w]; rw [c60b0]) | skip); replace H := zif H; obtain ⟨c61, H⟩ := H; have c61b0 : decide (0 < (l1.length : Int)) = true := decide_eq_true c61; have c61b1 : decide (0 < l1.length) = true := decide_eq_true (by omega); clear c61; have H' := aM H; clear H; have p509 : 0 ≤ (0 : Int) := (by omega); have q509 : 0 < (l1.length : Int) := zd; obtain ⟨ad509, e509, hx509_0⟩ := Kd.at_int HR1.1 0 p509 q509; cases e509; have qi509 : (0 < l1.length) = True := eq_true (by omega); (try rw [show ((0 : Int)).toNat = 0 from rfl] at hx509_0); (try rw [Addr.add_zero'] at hx509_0); replace hx509_0 := (HB.1.cell (World.block_lt_of_cell? w _ hx509_0)).trans hx509_0; replace p509 := eq_true p509; replace q509 := eq_true q509
          go_wp2
          go_meet
          case rel => exact ⟨_, (decide ((rd l1 0) > 0)), (by first | rfl | (simp; done) | (simp [*]; done)), H', ⟨by have := HJ2.1; have := HJ8.1; first | omega | exact Nat.le_refl _⟩, ⟨zR HO_486002.1⟩, ⟨zR HO_496002.1⟩, ⟨zR HO_496003.1⟩, ⟨zR HO_506002.1⟩, ⟨zR HO_506003.1⟩, ⟨zK BK485.1⟩, ⟨zK BK495.1⟩, ⟨zK BK505.1⟩, ⟨zB3 HB.1 GE485.1 GE495.1 GE505.1⟩⟩
         ·rw [if_neg c60] at H; have c60b0 : decide (0 < (l1.length : Int)) = false := decide_eq_false c60; have c60b1 : decide (0 < l1.length) = false := decide_eq_false (by omega); clear c60; (first | rw [c60b0] | (simp only [i64_w, i32_w]; rw [c60b0]) | skip); have H' := aM H; clear H
          go_wp2
          go_meet
          case rel => exact ⟨_, (false), (by first | rfl | (simp; done) | (simp [*]; done)), H', ⟨by have := HJ2.1; have := HJ8.1; first | omega | exact Nat.le_refl _⟩, ⟨zR HO_486002.1⟩, ⟨zR HO_496002.1⟩, ⟨zR HO_496003.1⟩, ⟨zR HO_506002.1⟩, ⟨zR HO_506003.1⟩, ⟨zK BK485.1⟩, ⟨zK BK495.1⟩, ⟨zK BK505.1⟩, ⟨zB3 HB.1 GE485.1 GE495.1 GE505.1⟩⟩
        case rest =>
         clear HC59
         try clear c1
         try clear c2
         try clear p2
         try clear c3
         try clear c4
         try clear c4b0
         try clear c4b1
         try clear c5
         try clear p5
         try clear q5
         try clear hx5
         try clear qi5
         try clear c6
         try clear p6
         try clear c13
         try clear c14
         try clear c15
         try clear c16
         try clear c17
         try clear c23
         try clear c24
         try clear c28
         try clear c28b0
         try clear c28b1
         try clear c28b2
         try clear c30
         try clear c31
         try clear c32
         try clear c34
         try clear c37
         try clear c38
         try clear c40
         try clear c43
         try clear c44
         try clear c44b0
         try clear c44b1
         try clear c44b2
         try clear c46
         try clear c47
         try clear c49
         try clear p50
         try clear q50
         try clear hx50
         try clear qi50
         try clear c52
         try clear c52b0
         try clear c52b1
         try clear c54
         try clear c55
         try clear c58
         try clear c58b0
         try clear c58b1
         try clear c60
         try clear c60b0
         try clear c60b1
         try clear c61
         try clear c61b0
         try clear c61b1
         try clear hcz12_0
         try clear hcz12_1
         try clear hcz12_2
         try clear hcz17_0
         try clear hcz17_1
         try clear hcz17_2
         try clear hcz17_3
         try clear hcz20_0
         try clear hcz20_1
         try clear hcz20_2
         try clear hcz25_0
         try clear hcz25_1
         try clear hcz25_2
         try clear hcz25_3
         try clear hcz33_0
         try clear hcz33_1
         try clear hcz33_2
         try clear hcz33_3
         try clear hcz35_0
         try clear hcz35_1
         try clear hcz35_2
         try clear hcz35_3
         try clear hcz39_0
         try clear hcz39_1
         try clear hcz39_2
         try clear hcz39_3
         try clear hcz41_0
         try clear hcz41_1
         try clear hcz41_2
         try clear hcz41_3
         try clear hcz48_0
         try clear hcz48_1
         try clear hcz48_2
         try clear hcz48_3
         try clear hcz50_0
         try clear hcz50_1
         try clear hcz50_2
         try clear hcz50_3
         try clear hcz56_0
         try clear hcz56_1
         try clear hcz56_2
         try clear hcz56_3
         try clear hfz12_0
         try clear hfz12_1
         try clear hfz12_2
         try clear hfz17_0
         try clear hfz17_1
         try clear hfz17_2
         try clear hfz17_3
         try clear hfz20_0
         try clear hfz20_1
         try clear hfz20_2
         try clear hfz25_0
         try clear hfz25_1
         try clear hfz25_2
         try clear hfz25_3
         try clear hfz33_0
         try clear hfz33_1
         try clear hfz33_2
         try clear hfz33_3
         try clear hfz35_0
         try clear hfz35_1
         try clear hfz35_2
         try clear hfz35_3
         try clear hfz39_0
         try clear hfz39_1
         try clear hfz39_2
         try clear hfz39_3
         try clear hfz41_0
         try clear hfz41_1
         try clear hfz41_2
         try clear hfz41_3
         try clear hfz48_0
         try clear hfz48_1
         try clear hfz48_2
         try clear hfz48_3
         try clear hfz50_0
         try clear hfz50_1
         try clear hfz50_2
         try clear hfz50_3
         try clear hfz56_0
         try clear hfz56_1
         try clear hfz56_2
         try clear hfz56_3
         try clear hx509_0
         try clear p2
         try clear p509
         try clear q509
         obtain ⟨kq, x83_58, rfl, HA, HJ58, HO_486002, HO_496002, HO_496003, HO_506002, HO_506003, BK485, BK495, BK505, HB⟩ := hcut; cases kq with
         | zero => exact absurd HA.1 (by simp [laws_FnIndexByte.j2])
         | succ kj58 =>
          have H := HA.1; clear HA; simp only [laws_FnIndexByte.j2] at H; have HC62 := aM H; clear H
          go_upto_if 83 with (fail)
          go_cut [12] (fun v12 wc => ∃ (kq : Nat) (x12_61 : Int), v12 = .int .i64 x12_61 ∧ Aside0 (laws_FnIndexByte.j3 kq t484 (wrap64 (2 + ((l1.length : Int) % (wrap64 ((t484.size : Int) - 2))))) x12_61 t479 t480 t481 t496 t497 t498 t501 = some r) ∧ Aside0 (kq ≤ kj58) ∧ Aside0 (Kd.R k40 40 wc w.heap.size (fun _ => True) (.slice Ao13 t481.length co13) t481) ∧ Aside0 (Kd.R k67 67 wc w.heap.size (fun k_ => some k_ ≠ ((.slice Ao26 t498.length co26) : Value).ownBlock) (.slice Ao18 t488.length co18) t488) ∧ Aside0 (Kd.R k69 69 wc w.heap.size (fun k_ => some k_ ≠ ((.slice Ao27 t501.length co27) : Value).ownBlock) (.slice Ao19 t491.length co19) t491) ∧ Aside0 (Kd.R k67 67 wc w.heap.size (fun k_ => some k_ ≠ ((.slice Ao18 t488.length co18) : Value).ownBlock) (.slice Ao26 t498.length co26) t498) ∧ Aside0 (Kd.R k69 69 wc w.heap.size (fun k_ => some k_ ≠ ((.slice Ao19 t491.length co19) : Value).ownBlock) (.slice Ao27 t501.length co27) t501) ∧ Aside0 (wc.heap[gb485]? = some (.cells #[.int .i64 t479, .int .i64 t480, (.slice Ao13 t481.length co13)] 25 (0, 0))) ∧ Aside0 (wc.heap[gb495]? = some (.cells #[.int .i64 t486, .int .i64 t487, (.slice Ao18 t488.length co18), (.slice Ao19 t491.length co19)] 31 (0, 0))) ∧ Aside0 (wc.heap[gb505]? = some (.cells #[.int .i64 t496, .int .i64 t497, (.slice Ao26 t498.length co26), (.slice Ao27 t501.length co27)] 31 (0, 0))) ∧ Aside0 (Below w.heap.size w wc))
          case first =>
           have H := HC62.1; clear HC62
           by_cases c63 : x83_58 = true
           ·subst c63; replace H := zy1 H; replace H := zif H; obtain ⟨c64, H⟩ := H; have c64b0 : decide (0 < (l1.length : Int)) = true := decide_eq_true c64; have c64b1 : decide (0 < l1.length) = true := decide_eq_true (by omega); clear c64; (first | rw [c64b0] | (simp only [i64_w, i32_w]; rw [c64b0]) | skip); have H' := aM H; clear H; have p510 : 0 ≤ (0 : Int) := (by omega); have q510 : 0 < (l1.length : Int) := zd; obtain ⟨ad510, e510, hx510_0⟩ := Kd.at_int HR1.1 0 p510 q510; cases e510; have qi510 : (0 < l1.length) = True := eq_true (by omega); (try rw [show ((0 : Int)).toNat = 0 from rfl] at hx510_0); (try rw [Addr.add_zero'] at hx510_0); replace hx510_0 := (HB.1.cell (World.block_lt_of_cell? w _ hx510_0)).trans hx510_0; replace p510 := eq_true p510; replace q510 := eq_true q510
            go_wp2
            go_meet
            case rel => exact ⟨_, (wrap64 (rd l1 0)), (by first | rfl | (simp; done) | (simp [*]; done)), H', ⟨by have := HJ2.1; have := HJ8.1; have := HJ58.1; first | omega | exact Nat.le_refl _⟩, ⟨zR HO_486002.1⟩, ⟨zR HO_496002.1⟩, ⟨zR HO_496003.1⟩, ⟨zR HO_506002.1⟩, ⟨zR HO_506003.1⟩, ⟨zK BK485.1⟩, ⟨zK BK495.1⟩, ⟨zK BK505.1⟩, ⟨zB3 HB.1 GE485.1 GE495.1 GE505.1⟩⟩
           ·replace c63 := Bool.eq_false_iff.mpr c63; subst c63; replace H := zy0 H; have H' := aM H; clear H
            go_wp2
            go_meet
            case rel => exact ⟨_, (1), (by first | rfl | (simp; done) | (simp [*]; done)), H', ⟨by have := HJ2.1; have := HJ8.1; have := HJ58.1; first | omega | exact Nat.le_refl _⟩, ⟨zR HO_486002.1⟩, ⟨zR HO_496002.1⟩, ⟨zR HO_496003.1⟩, ⟨zR HO_506002.1⟩, ⟨zR HO_506003.1⟩, ⟨zK BK485.1⟩, ⟨zK BK495.1⟩, ⟨zK BK505.1⟩, ⟨zB3 HB.1 GE485.1 GE495.1 GE505.1⟩⟩
          case rest =>
           clear HC62
           try clear c1
           try clear c2
           try clear p2
           try clear c3
           try clear c4
           try clear c4b0
           try clear c4b1
           try clear c5
           try clear p5
           try clear q5
           try clear hx5
           try clear qi5
           try clear c6
           try clear p6
           try clear c13
           try clear c14
           try clear c15
           try clear c16
           try clear c17
           try clear c23
           try clear c24
           try clear c28
           try clear c28b0
           try clear c28b1
           try clear c28b2
           try clear c30
           try clear c31
           try clear c32
           try clear c34
           try clear c37
           try clear c38
           try clear c40
           try clear c43
           try clear c44
           try clear c44b0
           try clear c44b1
           try clear c44b2
           try clear c46
           try clear c47
           try clear c49
           try clear p50
           try clear q50
           try clear hx50
           try clear qi50
           try clear p51
           try clear q51
           try clear hx51
           try clear qi51
           try clear c52
           try clear c52b0
           try clear c52b1
           try clear c54
           try clear c55
           try clear c58
           try clear c58b0
           try clear c58b1
           try clear c60
           try clear c60b0
           try clear c60b1
           try clear c61
           try clear c61b0
           try clear c61b1
           try clear c63
           try clear c64
           try clear c64b0
           try clear c64b1
           try clear p64
           try clear hcz12_0
           try clear hcz12_1
           try clear hcz12_2
           try clear hcz17_0
           try clear hcz17_1
           try clear hcz17_2
           try clear hcz17_3
           try clear hcz20_0
           try clear hcz20_1
           try clear hcz20_2
           try clear hcz25_0
           try clear hcz25_1
           try clear hcz25_2
           try clear hcz25_3
           try clear hcz33_0
           try clear hcz33_1
           try clear hcz33_2
           try clear hcz33_3
           try clear hcz35_0
           try clear hcz35_1
           try clear hcz35_2
           try clear hcz35_3
           try clear hcz39_0
           try clear hcz39_1
           try clear hcz39_2
           try clear hcz39_3
           try clear hcz41_0
           try clear hcz41_1
           try clear hcz41_2
           try clear hcz41_3
           try clear hcz48_0
           try clear hcz48_1
           try clear hcz48_2
           try clear hcz48_3
           try clear hcz50_0
           try clear hcz50_1
           try clear hcz50_2
           try clear hcz50_3
           try clear hcz56_0
           try clear hcz56_1
           try clear hcz56_2
           try clear hcz56_3
           try clear hfz12_0
           try clear hfz12_1
           try clear hfz12_2
           try clear hfz17_0
           try clear hfz17_1
           try clear hfz17_2
           try clear hfz17_3
           try clear hfz20_0
           try clear hfz20_1
           try clear hfz20_2
           try clear hfz25_0
           try clear hfz25_1
           try clear hfz25_2
           try clear hfz25_3
           try clear hfz33_0
           try clear hfz33_1
           try clear hfz33_2
           try clear hfz33_3
           try clear hfz35_0
           try clear hfz35_1
           try clear hfz35_2
           try clear hfz35_3
           try clear hfz39_0
           try clear hfz39_1
           try clear hfz39_2
           try clear hfz39_3
           try clear hfz41_0
           try clear hfz41_1
           try clear hfz41_2
           try clear hfz41_3
           try clear hfz48_0
           try clear hfz48_1
           try clear hfz48_2
           try clear hfz48_3
           try clear hfz50_0
           try clear hfz50_1
           try clear hfz50_2
           try clear hfz50_3
           try clear hfz56_0
           try clear hfz56_1
           try clear hfz56_2
           try clear hfz56_3
           try clear hx509_0
           try clear hx510_0
           try clear p2
           try clear p5
           try clear p50
           try clear p509
           try clear p510
           try clear p6
           try clear q5
           try clear q50
           try clear q509
           try clear q510
           obtain ⟨kq, x12_61, rfl, HA, HJ61, HO_486002, HO_496002, HO_496003, HO_506002, HO_506003, BK485, BK495, BK505, HB⟩ := hcut; cases kq with
           | zero => exact absurd HA.1 (by simp [laws_FnIndexByte.j3])
           | succ kj61 =>
            have H := HA.1; clear HA; simp only [laws_FnIndexByte.j3] at H; obtain ⟨ji65, hji65⟩ : ∃ j_ : Int, (wrap64 (2 + ((l1.length : Int) % (wrap64 ((t484.size : Int) - 2))))) = j_ := ⟨_, rfl⟩
            replace H : (if 0 ≤ (ji65) then (if (ji65) ≤ (t484.size : Int) then (if (ji65) < (t484.size : Int) then ((some (([(wrap64 ((wrap64 (bt t484 (ji65))) + x12_61)) % 256] : List Int) : List Int)).bind fun y511 => (if (t484.extract 0 ((ji65) : Int).toNat).size + (strOfNums y511).size ≤ 9223372036854775807 then (if 0 ≤ (wrap64 ((ji65) + 1)) then (if (wrap64 ((ji65) + 1)) ≤ (t484.size : Int) then (if ((t484.extract 0 ((ji65) : Int).toNat) ++ (strOfNums y511)).size + (t484.extract ((wrap64 ((ji65) + 1)) : Int).toNat t484.size).size ≤ 9223372036854775807 then ((impl_IndexHas.f kj61 t479 t480 t481 (((t484.extract 0 ((ji65) : Int).toNat) ++ (strOfNums y511)) ++ (t484.extract ((wrap64 ((ji65) + 1)) : Int).toNat t484.size))).bind fun bt514 => (if bt514.2.2.2.2 = true then (none) else ((impl_PkgText.f kj61 t496 t497 t498 t501).bind fun t524 => (some (t524.toList == t484.toList))))) else (none)) else (none)) else (none)) else (none))) else (none)) else (none)) else (none)) = some r := by first | (rw [hji65] at H; exact H) | (simp only [hji65] at H ⊢; exact H)
            have hji65w : (IntKind.i64.wrap (2 + ((l1.length : Int) % (wrap64 ((t484.size : Int) - 2))))) = ji65 := (i64_w _).trans hji65; replace H := zif H; obtain ⟨c66, H⟩ := H; have c66b0 := eq_true c66; have c66b1 : decide (0 ≤ (ji65)) = true := decide_eq_true c66; clear c66; replace H := zif H; obtain ⟨c67, H⟩ := H; have c67b0 := eq_true c67; have c67b1 : decide ((ji65) ≤ (t484.size : Int)) = true := decide_eq_true c67; clear c67; replace H := zif H; obtain ⟨c68, H⟩ := H; have c68b0 : decide ((ji65) < (t484.size : Int)) = true := decide_eq_true c68; clear c68; obtain ⟨y511, hy511⟩ : ∃ y_ : List Int, y_ = (([(wrap64 ((wrap64 (bt t484 (ji65))) + x12_61)) % 256] : List Int)) := ⟨_, rfl⟩; (first | (replace H := zbs hy511 H; try dsimp only at H) | rw [← hy511] at H); have Ny511 := aM hy511; clear hy511; replace H := zif H; obtain ⟨c70, H⟩ := H; have c70b0 := eq_true c70; have c70b1 : decide ((t484.extract 0 ((ji65) : Int).toNat).size + (strOfNums y511).size ≤ 9223372036854775807) = true := decide_eq_true c70
            try have c70b2 : (9223372036854775807 < (t484.extract 0 ((ji65) : Int).toNat).size + (strOfNums y511).size) = False := eq_false (Nat.not_lt.2 c70)
            have c70b8 : (9223372036854775807 < ji65.toNat + (strOfNums y511).size) = False := eq_false (by have h_ := c70; simp only [ByteArray.size_append, ByteArray.size_extract, Nat.sub_zero, Nat.min_self] at h_; have f0_ := of_decide_eq_true ‹decide (ji65 ≤ (t484.size : Int)) = true›; omega); obtain ⟨ji71, hji71⟩ : ∃ j_ : Int, (wrap64 ((ji65) + 1)) = j_ := ⟨_, rfl⟩
            replace H : (if 0 ≤ (ji71) then (if (ji71) ≤ (t484.size : Int) then (if ((t484.extract 0 ((ji65) : Int).toNat) ++ (strOfNums y511)).size + (t484.extract ((ji71) : Int).toNat t484.size).size ≤ 9223372036854775807 then ((impl_IndexHas.f kj61 t479 t480 t481 (((t484.extract 0 ((ji65) : Int).toNat) ++ (strOfNums y511)) ++ (t484.extract ((ji71) : Int).toNat t484.size))).bind fun bt514 => (if bt514.2.2.2.2 = true then (none) else ((impl_PkgText.f kj61 t496 t497 t498 t501).bind fun t524 => (some (t524.toList == t484.toList))))) else (none)) else (none)) else (none)) = some r := by first | (rw [hji71] at H; exact H) | (simp only [hji71] at H ⊢; exact H)
            have hji71w : (IntKind.i64.wrap ((ji65) + 1)) = ji71 := (i64_w _).trans hji71; replace H := zif H; obtain ⟨c72, H⟩ := H; have c72b0 := eq_true c72; have c72b1 : decide (0 ≤ (ji71)) = true := decide_eq_true c72; clear c72; replace H := zif H; obtain ⟨c73, H⟩ := H; have c73b0 := eq_true c73; have c73b1 : decide ((ji71) ≤ (t484.size : Int)) = true := decide_eq_true c73; clear c73; replace H := zif H; obtain ⟨c74, H⟩ := H; have c74b0 := eq_true c74; have c74b1 : decide (((t484.extract 0 ((ji65) : Int).toNat) ++ (strOfNums y511)).size + (t484.extract ((ji71) : Int).toNat t484.size).size ≤ 9223372036854775807) = true := decide_eq_true c74
            try have c74b2 : (9223372036854775807 < ((t484.extract 0 ((ji65) : Int).toNat) ++ (strOfNums y511)).size + (t484.extract ((ji71) : Int).toNat t484.size).size) = False := eq_false (Nat.not_lt.2 c74)
            have c74b8 : (9223372036854775807 < ji65.toNat + (strOfNums y511).size + (t484.size - ji71.toNat)) = False := eq_false (by have h_ := c74; simp only [ByteArray.size_append, ByteArray.size_extract, Nat.sub_zero, Nat.min_self] at h_; have f0_ := of_decide_eq_true ‹decide (ji65 ≤ (t484.size : Int)) = true›; omega); replace H := Option.bind_eq_some_iff.mp H; obtain ⟨⟨t514, t515, t516, t519, t522⟩, A750, H⟩ := H; (try dsimp only at H); have A75 := aM A750; clear A750; replace H := zin H; obtain ⟨c76, H⟩ := H; replace c76 := Bool.eq_false_iff.mpr c76; subst c76; replace H := Option.bind_eq_some_iff.mp H; obtain ⟨t524, A770, H⟩ := H; (try dsimp only at H); have A77 := aM A770; clear A770; obtain rfl := Option.some.inj H
            try go_wp2
            have _ := aM (Kd.R_drew HO_486002.1); have _ := aM (Kd.R_drew HO_496002.1); have _ := aM (Kd.R_drew HO_496003.1); have _ := aM (Kd.R_drew HO_506002.1); have _ := aM (Kd.R_drew HO_506003.1); have _ := aM (blk_drew BK485.1); have _ := aM (blk_drew BK495.1); have _ := aM (blk_drew BK505.1); have _ := aM (below_drew1 HB.1); clear HO_486002 HO_496002 HO_496003 HO_506002 HO_506003 BK485 BK495 BK505 HB; rename_i HO_486002 HO_496002 HO_496003 HO_506002 HO_506003 BK485 BK495 BK505 HB; have p69 : 0 ≤ ((ji65) : Int) := zd; have q69 : (ji65) < (t484.size : Int) := zd; have hx69 := bt_at t484 (ji65); replace p69 := eq_true p69; replace q69 := eq_true q69
            refine start_ (n := 26) (S := fun w' => w'.cell? ⟨gb485, 0, none⟩ = some (.int .i64 t479) ∧ w'.cell? ⟨gb485, 1, none⟩ = some (.int .i64 t480) ∧ w'.cell? ⟨gb485, 2, none⟩ = some (.slice Ao13 t481.length co13)) (ds := []) (zA 26 0) (by kernel_rfl) rfl rfl ⟨(blk_cell BK485.1 0).trans rfl, (blk_cell BK485.1 1).trans rfl, (blk_cell BK485.1 2).trans rfl⟩ (fun hHeld => ?_); refine with_tabW laws_FnIndexByte.tab14 laws_FnIndexByte.bits14 (fun HT_ HW_ => ?_)
            generalize wc.drew = w78 at HO_486002 HO_496002 HO_496003 HO_506002 HO_506003 BK485 BK495 BK505 HB hHeld ⊢; refine zu HT_ 1 (some 90) (zA 26 2) ?_; refine zu HT_ 2 (some 91) (zA 26 6) ?_; refine zu HT_ 3 (some 92) (zA 26 14) ?_; refine zu HT_ 4 (some 93) (zA 26 30) ?_; refine zu HT_ 5 (some 94) (zA 26 62) ?_; refine zu HT_ 8 (some 97) (zA 26 318) ?_; refine zu HT_ 14 (some 103) (zA 26 16702) ?_; refine zu HT_ 15 (some 104) (zA 26 49470) ?_; refine zu HT_ 16 (some 105) (zA 26 115006) ?_; refine zu HT_ 17 (some 106) (zA 26 246078) ?_; refine take_ (i := 0) (N := some 89) (v := ?_) (a' := ?_) (zA 26 246079) rfl rfl (take_ofW HT_.1 HW_.1 (by kernel_rfl)) (fun _ _ _ h => h) (Or.inl ⟨by rfl, ?_⟩) hHeld ?_ ?_; rotate_left
            ·rintro w' ⟨s0, s1, s2⟩
             go_simp
             (with_reducible rfl)
            rotate_left
            ·simp only [zp0, zp1, zp2, zp3, zp4, i64_w, i32_w]; rfl
            refine take_ (i := 6) (N := some 95) (v := ?_) (a' := ?_) (zA 26 246143) rfl rfl (take_ofW HT_.1 HW_.1 (by kernel_rfl)) (fun _ _ _ h => h) (Or.inl ⟨by rfl, ?_⟩) hHeld ?_ ?_; rotate_left
            ·rintro w' ⟨s0, s1, s2⟩
             go_simp
             (with_reducible rfl)
            rotate_left
            ·simp only [zp0, zp1, zp2, zp3, zp4, i64_w, i32_w]; rfl
            refine zu HT_ 7 (some 96) (zA 26 246271) ?_; refine zu HT_ 9 (some 98) (zA 26 246783) ?_; refine zu HT_ 10 (some 99) (zA 26 247807) ?_; refine join_ (σ := Value × Value × Value × Nat) 2 (zA 26 16777215) (fun s_ => [(100, s_.1), (101, .string (strOfNums y511)), (108, .tuple #[.agg #[.int .i64 t514, .int .i64 t515, s_.2.1, s_.2.2.1], .bool false]), (13, .pointer (some ⟨s_.2.2.2, 0, none⟩)), (102, .string ((t484.extract 0 ((ji65) : Int).toNat) ++ (strOfNums y511))), (107, .string (((t484.extract 0 ((ji65) : Int).toNat) ++ (strOfNums y511)) ++ (t484.extract ((ji71) : Int).toNat t484.size))), (88, .tuple #[.agg #[.int .i64 t514, .int .i64 t515, s_.2.1, s_.2.2.1], .bool false]), (109, .agg #[.int .i64 t514, .int .i64 t515, s_.2.1, s_.2.2.1]), (110, .bool false)]) (fun s_ w' => (w'.cell? ⟨gb485, 0, none⟩ = some (.int .i64 t479) ∧ w'.cell? ⟨gb485, 1, none⟩ = some (.int .i64 t480) ∧ w'.cell? ⟨gb485, 2, none⟩ = some (.slice Ao13 t481.length co13)) ∧ (Kd.R (Kd.int .u8) 5 w' w.heap.size (fun _ => True) s_.1 y511) ∧ (Kd.R k67 67 w' w.heap.size (fun k_ => some k_ ≠ (.slice Ao18 t488.length co18 : Value).ownBlock ∧ some k_ ≠ (.slice Ao26 t498.length co26 : Value).ownBlock) s_.2.1 t516) ∧ (Kd.R k69 69 w' w.heap.size (fun k_ => some k_ ≠ (.slice Ao19 t491.length co19 : Value).ownBlock ∧ some k_ ≠ (.slice Ao27 t501.length co27 : Value).ownBlock) s_.2.2.1 t519) ∧ (Kd.R k40 40 w' w.heap.size (fun _ => True) (.slice Ao13 t481.length co13) t481) ∧ (Kd.R k67 67 w' w.heap.size (fun k_ => some k_ ≠ (s_.2.1 : Value).ownBlock ∧ some k_ ≠ (.slice Ao26 t498.length co26 : Value).ownBlock) (.slice Ao18 t488.length co18) t488) ∧ (Kd.R k69 69 w' w.heap.size (fun k_ => some k_ ≠ (s_.2.2.1 : Value).ownBlock ∧ some k_ ≠ (.slice Ao27 t501.length co27 : Value).ownBlock) (.slice Ao19 t491.length co19) t491) ∧ (Kd.R k67 67 w' w.heap.size (fun k_ => some k_ ≠ (s_.2.1 : Value).ownBlock ∧ some k_ ≠ (.slice Ao18 t488.length co18 : Value).ownBlock) (.slice Ao26 t498.length co26) t498) ∧ (Kd.R k69 69 w' w.heap.size (fun k_ => some k_ ≠ (s_.2.2.1 : Value).ownBlock ∧ some k_ ≠ (.slice Ao19 t491.length co19 : Value).ownBlock) (.slice Ao27 t501.length co27) t501) ∧ (w'.heap[gb485]? = some (.cells #[.int .i64 t479, .int .i64 t480, .slice Ao13 t481.length co13] 25 (0, 0))) ∧ (w'.heap[gb495]? = some (.cells #[.int .i64 t486, .int .i64 t487, .slice Ao18 t488.length co18, .slice Ao19 t491.length co19] 31 (0, 0))) ∧ (w'.heap[gb505]? = some (.cells #[.int .i64 t496, .int .i64 t497, .slice Ao26 t498.length co26, .slice Ao27 t501.length co27] 31 (0, 0))) ∧ (w'.heap[s_.2.2.2]? = some (.cells #[.int .i64 0, .int .i64 0, .slice none 0 0, .slice none 0 0] 31 (0, 0))) ∧ (w.heap.size ≤ s_.2.2.2) ∧ (w.heap.size ≤ s_.2.2.2) ∧ (gb485 ≠ s_.2.2.2) ∧ (s_.2.2.2 ≠ gb485) ∧ (gb495 ≠ s_.2.2.2) ∧ (s_.2.2.2 ≠ gb495) ∧ (gb505 ≠ s_.2.2.2) ∧ (s_.2.2.2 ≠ gb505) ∧ (Below w.heap.size w w')) ?_ ?_; rotate_left
            ·intro hCont; refine two_ (i := 11) (j := 23) (Ni := some 100) (Nj := some 13) (zA 26 249855) (zA 26 8636415) rfl rfl rfl rfl (two_of HT_.1 (by kernel_rfl)) (by decide) (by decide) (fun K hK => ?_) (fun K hK => ?_)
             ·skip
              refine Kd.R_lit_step (Kd.int .u8) _ 5 ?hg (N := 100) ?hd (xs := ([(wrap64 ((wrap64 (bt t484 (ji65))) + x12_61)) % 256] : List Int)) (inner := [.int .u8 ((wrap64 ((wrap64 (bt t484 (ji65))) + x12_61)) % 256)]) (ok := fun _ => True) (okp := fun _ => True) ?hr ?hp (fun _ hk => hk) trivial (Below.refl _ _) (Nat.le_refl _) (by simp) ?_; (case hd => rfl); (case hg => rfl); (case hr => first | (go_simp; done) | (go_simp; rfl)); (case hp => exact (Reps.one (show Kd.M (Kd.int .u8) _ _ _ ((wrap64 ((wrap64 (bt t484 (ji65))) + x12_61)) % 256) [.int .u8 ((wrap64 ((wrap64 (bt t484 (ji65))) + x12_61)) % 256)] from rfl) (Reps.none _ _)))
              intro v512 w79 ho80 hb hg_ hnew_; clear hg_ hnew_; (first | rw [← Ny511.1] at ho80 | (simp only [Int.reduceToNat] at ho80; rw [← Ny511.1] at ho80)); have _ := aM (Kd.R_below (zR HO_486002.1) hb); have _ := aM (Kd.R_below (zR HO_496002.1) hb); have _ := aM (Kd.R_below (zR HO_496003.1) hb); have _ := aM (Kd.R_below (zR HO_506002.1) hb); have _ := aM (Kd.R_below (zR HO_506003.1) hb); have _ := aM (Kd.R_lower ho80 (below_size (zB3 HB.1 GE485.1 GE495.1 GE505.1))); have _ := aM (blk_below (zK BK485.1) hb); have _ := aM (blk_below (zK BK495.1) hb); have _ := aM (blk_below (zK BK505.1) hb); have _ := aM (below_step (zB3 HB.1 GE485.1 GE495.1 GE505.1) hb); clear HO_486002 HO_496002 HO_496003 HO_506002 HO_506003 BK485 BK495 BK505 HB; rename_i HO_486002 HO_496002 HO_496003 HO_506002 HO_506003 HO513 BK485 BK495 BK505 HB; clear hb ho80; refine hK.out _ _ ⟨(blk_cell BK485.1 0).trans rfl, (blk_cell BK485.1 1).trans rfl, (blk_cell BK485.1 2).trans rfl⟩ (fun hHeld => ?_); clear hK K; refine zn (some 100) ?_; refine two_ (i := 12) (j := 23) (Ni := some 101) (Nj := some 13) (zA 26 253951) (zA 26 8638463) rfl rfl rfl rfl (two_of HT_.1 (by kernel_rfl)) (by decide) (by decide) (fun K hK => ?_) (fun K hK => ?_)
              ·skip
               have hcv81 := own_string (P := Tryd.prog) Tryd.underlying22 Tryd.underlying5 Tryd.underlying9 (Kd.own_of_R HO513.1); refine value_ (w1 := ?_) (v := ?_) (by rfl) rfl ?_ ?_; rotate_left 2
               ·go_simp
                constructor
                ·rfl
                ·rfl
               clear hcv81; refine hK.out _ _ ⟨(blk_cell BK485.1 0).trans rfl, (blk_cell BK485.1 1).trans rfl, (blk_cell BK485.1 2).trans rfl⟩ (fun hHeld => ?_); clear hK K; refine zn (some 101) ?_; refine zu HT_ 13 (some 102) (zA 26 262143) ?_; refine zu HT_ 18 (some 107) (zA 26 524287) ?_; refine two_ (i := 19) (j := 23) (Ni := some 108) (Nj := some 13) (zA 26 1048575) (zA 26 8912895) rfl rfl rfl rfl (two_of HT_.1 (by kernel_rfl)) (by decide) (by decide) (fun K hK => ?_) (fun K hK => ?_)
               ·skip
                refine goes_ Tryd.func15 (by kernel_rfl) rfl #[.agg #[.int .i64 t479, .int .i64 t480, .slice Ao13 t481.length co13], .string (((t484.extract 0 ((ji65) : Int).toNat) ++ (strOfNums y511)) ++ (t484.extract ((ji71) : Int).toNat t484.size))] (by rfl) rfl rfl (by (try simp only [zm1, zm2, zm3]); first | done | (simp only [hji65, hji71]; rfl) | rfl | (simp only [List.length_drop, List.length_take]; rfl)) ?_; (with_reducible refine (impl_IndexHas.calls kj61 t479 t480 _ _ t481 (((t484.extract 0 ((ji65) : Int).toNat) ++ (strOfNums y511)) ++ (t484.extract ((ji71) : Int).toNat t484.size)) t514 t515 t516 t519 false _ ?side1 ?side2 ?sideL A75.1).mono ?_); (case sideL => exact HLD.1.on (zB3 HB.1 GE485.1 GE495.1 GE505.1)); (case side1 => exact zC (Kd.R_reads' HO_486002.1).2.2); (case side2 => exact (Kd.R_reads' HO_486002.1).2.1); rintro e w82 ⟨v517, v520, rfl, ho0, ho1, hb⟩; refine ⟨_, rfl, ?_⟩; have _ := aM (Kd.R_below (zR HO_486002.1) hb); have _ := aM (Kd.R_elder' (zR HO_496002.1) (Kd.R_base ho0) hb); have _ := aM (Kd.R_elder' (zR HO_496003.1) (Kd.R_base ho1) hb); have _ := aM (Kd.R_elder' (zR HO_506002.1) (Kd.R_base ho0) hb); have _ := aM (Kd.R_elder' (zR HO_506003.1) (Kd.R_base ho1) hb); have _ := aM (Kd.R_below (zR HO513.1) hb); have _ := aM (Kd.R_lower (Kd.R_new' (Kd.R_new' ho0 (Kd.R_lt (zR HO_496002.1))) (Kd.R_lt (zR HO_506002.1))) (below_size (zB3 HB.1 GE485.1 GE495.1 GE505.1))); have _ := aM (Kd.R_lower (Kd.R_new' (Kd.R_new' ho1 (Kd.R_lt (zR HO_496003.1))) (Kd.R_lt (zR HO_506003.1))) (below_size (zB3 HB.1 GE485.1 GE495.1 GE505.1))); have _ := aM (blk_below (zK BK485.1) hb); have _ := aM (blk_below (zK BK495.1) hb); have _ := aM (blk_below (zK BK505.1) hb); have _ := aM (below_step (zB3 HB.1 GE485.1 GE495.1 GE505.1) hb); clear HO_486002 HO_496002 HO_496003 HO_506002 HO_506003 HO513 BK485 BK495 BK505 HB; rename_i HO_486002 HO_496002 HO_496003 HO_506002 HO_506003 HO513 HO518 HO521 BK485 BK495 BK505 HB; (try clear hb); (try clear hb2); (try clear hk); (try clear hi); (try clear ho0); (try clear ho1); refine hK.out _ _ ⟨(blk_cell BK485.1 0).trans rfl, (blk_cell BK485.1 1).trans rfl, (blk_cell BK485.1 2).trans rfl⟩ (fun hHeld => ?_); clear hK K; refine zn (some 108) ?_; refine zu HT_ 20 (some 88) (zA 26 2097151) ?_; refine zu HT_ 21 (some 109) (zA 26 4194303) ?_; refine zu HT_ 22 (some 110) (zA 26 8388607) ?_; refine zo HT_ 23 (some 13) (zA 26 16777215) (fun K hK => ?_)
                refine box_step ?hg (N := 13) ?hd (cs := #[.int .i64 0, .int .i64 0, .slice none 0 0, .slice none 0 0]) (t := 31) ?hr ?_; (case hd => rfl); (case hg => rfl); (case hr => first | (go_simp; done) | (go_simp; rfl))
                intro gb523 hg w83 hbox hb; have _ := aM (Kd.R_below (zR HO_486002.1) hb); have _ := aM (Kd.R_below (zR HO_496002.1) hb); have _ := aM (Kd.R_below (zR HO_496003.1) hb); have _ := aM (Kd.R_below (zR HO_506002.1) hb); have _ := aM (Kd.R_below (zR HO_506003.1) hb); have _ := aM (Kd.R_below (zR HO513.1) hb); have _ := aM (Kd.R_below (zR HO518.1) hb); have _ := aM (Kd.R_below (zR HO521.1) hb); have _ := aM (blk_below (zK BK485.1) hb); have _ := aM (blk_below (zK BK495.1) hb); have _ := aM (blk_below (zK BK505.1) hb); have _ := aM (below_step (zB3 HB.1 GE485.1 GE495.1 GE505.1) hb); have _ := aM (hbox); have _ := aM (zge hg (zB3 HB.1 GE485.1 GE495.1 GE505.1)); have _ := aM (zge hg (zB3 HB.1 GE485.1 GE495.1 GE505.1)); have _ := aM (znl hg (zK BK485.1)); have _ := aM (zng hg (zK BK485.1)); have _ := aM (znl hg (zK BK495.1)); have _ := aM (zng hg (zK BK495.1)); have _ := aM (znl hg (zK BK505.1)); have _ := aM (zng hg (zK BK505.1)); clear HO_486002 HO_496002 HO_496003 HO_506002 HO_506003 HO513 HO518 HO521 BK485 BK495 BK505 HB; rename_i HO_486002 HO_496002 HO_496003 HO_506002 HO_506003 HO513 HO518 HO521 BK485 BK495 BK505 HB BK523 GW523 GE523 NB485_523 NB523_485 NB495_523 NB523_495 NB505_523 NB523_505; clear hb hbox hg; refine hK.out _ _ ⟨(blk_cell BK485.1 0).trans rfl, (blk_cell BK485.1 1).trans rfl, (blk_cell BK485.1 2).trans rfl⟩ (fun hHeld => ?_); clear hK K; refine zn (some 13) ?_; exact norm_ (by simp only [putAll, zp0, zp1, zp2, zp3, zp4]) (hCont (v512, v517, v520, gb523) _ ⟨hHeld, (zR HO513.1), (by exact zR (Kd.R_mono HO518.1 (fun _ hk => ⟨hk.1.2, hk.2⟩))), (by exact zR (Kd.R_mono HO521.1 (fun _ hk => ⟨hk.1.2, hk.2⟩))), (zR HO_486002.1), (by exact zR (Kd.R_mono HO_496002.1 (fun _ hk => ⟨hk.2, hk.1⟩))), (by exact zR (Kd.R_mono HO_496003.1 (fun _ hk => ⟨hk.2, hk.1⟩))), (by exact zR (Kd.R_mono HO_506002.1 (fun _ hk => ⟨hk.2, hk.1⟩))), (by exact zR (Kd.R_mono HO_506003.1 (fun _ hk => ⟨hk.2, hk.1⟩))), (zK BK485.1), (zK BK495.1), (zK BK505.1), (zK BK523.1), GW523.1, GE523.1, NB485_523.1, NB523_485.1, NB495_523.1, NB523_495.1, NB505_523.1, NB523_505.1, (zB4 HB.1 GE485.1 GE495.1 GE505.1 GE523.1)⟩)
               ·skip
                refine box_step ?hg (N := 13) ?hd (cs := #[.int .i64 0, .int .i64 0, .slice none 0 0, .slice none 0 0]) (t := 31) ?hr ?_; (case hd => rfl); (case hg => rfl); (case hr => first | (go_simp; done) | (go_simp; rfl))
                intro gb523 hg w82 hbox hb; have _ := aM (Kd.R_below (zR HO_486002.1) hb); have _ := aM (Kd.R_below (zR HO_496002.1) hb); have _ := aM (Kd.R_below (zR HO_496003.1) hb); have _ := aM (Kd.R_below (zR HO_506002.1) hb); have _ := aM (Kd.R_below (zR HO_506003.1) hb); have _ := aM (Kd.R_below (zR HO513.1) hb); have _ := aM (blk_below (zK BK485.1) hb); have _ := aM (blk_below (zK BK495.1) hb); have _ := aM (blk_below (zK BK505.1) hb); have _ := aM (below_step (zB3 HB.1 GE485.1 GE495.1 GE505.1) hb); have _ := aM (hbox); have _ := aM (zge hg (zB3 HB.1 GE485.1 GE495.1 GE505.1)); have _ := aM (zge hg (zB3 HB.1 GE485.1 GE495.1 GE505.1)); have _ := aM (znl hg (zK BK485.1)); have _ := aM (zng hg (zK BK485.1)); have _ := aM (znl hg (zK BK495.1)); have _ := aM (zng hg (zK BK495.1)); have _ := aM (znl hg (zK BK505.1)); have _ := aM (zng hg (zK BK505.1)); clear HO_486002 HO_496002 HO_496003 HO_506002 HO_506003 HO513 BK485 BK495 BK505 HB; rename_i HO_486002 HO_496002 HO_496003 HO_506002 HO_506003 HO513 BK485 BK495 BK505 HB BK523 GW523 GE523 NB485_523 NB523_485 NB495_523 NB523_495 NB505_523 NB523_505; clear hb hbox hg; refine hK.out _ _ ⟨(blk_cell BK485.1 0).trans rfl, (blk_cell BK485.1 1).trans rfl, (blk_cell BK485.1 2).trans rfl⟩ (fun hHeld => ?_); clear hK K; refine zn (some 13) ?_; refine zo HT_ 19 (some 108) (zA 26 9437183) (fun K hK => ?_); refine goes_ Tryd.func15 (by kernel_rfl) rfl #[.agg #[.int .i64 t479, .int .i64 t480, .slice Ao13 t481.length co13], .string (((t484.extract 0 ((ji65) : Int).toNat) ++ (strOfNums y511)) ++ (t484.extract ((ji71) : Int).toNat t484.size))] (by rfl) rfl rfl (by (try simp only [zm1, zm2, zm3]); first | done | (simp only [hji65, hji71]; rfl) | rfl | (simp only [List.length_drop, List.length_take]; rfl)) ?_; (with_reducible refine (impl_IndexHas.calls kj61 t479 t480 _ _ t481 (((t484.extract 0 ((ji65) : Int).toNat) ++ (strOfNums y511)) ++ (t484.extract ((ji71) : Int).toNat t484.size)) t514 t515 t516 t519 false _ ?side1 ?side2 ?sideL A75.1).mono ?_); (case sideL => exact HLD.1.on (zB4 HB.1 GE485.1 GE495.1 GE505.1 GE523.1)); (case side1 => exact zC (Kd.R_reads' HO_486002.1).2.2); (case side2 => exact (Kd.R_reads' HO_486002.1).2.1); rintro e w83 ⟨v517, v520, rfl, ho0, ho1, hb⟩; refine ⟨_, rfl, ?_⟩; have _ := aM (Kd.R_below (zR HO_486002.1) hb); have _ := aM (Kd.R_elder' (zR HO_496002.1) (Kd.R_base ho0) hb); have _ := aM (Kd.R_elder' (zR HO_496003.1) (Kd.R_base ho1) hb); have _ := aM (Kd.R_elder' (zR HO_506002.1) (Kd.R_base ho0) hb); have _ := aM (Kd.R_elder' (zR HO_506003.1) (Kd.R_base ho1) hb); have _ := aM (Kd.R_below (zR HO513.1) hb); have _ := aM (Kd.R_lower (Kd.R_new' (Kd.R_new' ho0 (Kd.R_lt (zR HO_496002.1))) (Kd.R_lt (zR HO_506002.1))) (below_size (zB4 HB.1 GE485.1 GE495.1 GE505.1 GE523.1))); have _ := aM (Kd.R_lower (Kd.R_new' (Kd.R_new' ho1 (Kd.R_lt (zR HO_496003.1))) (Kd.R_lt (zR HO_506003.1))) (below_size (zB4 HB.1 GE485.1 GE495.1 GE505.1 GE523.1))); have _ := aM (blk_below (zK BK485.1) hb); have _ := aM (blk_below (zK BK495.1) hb); have _ := aM (blk_below (zK BK505.1) hb); have _ := aM (blk_below (zK BK523.1) hb); have _ := aM (below_step (zB4 HB.1 GE485.1 GE495.1 GE505.1 GE523.1) hb); clear HO_486002 HO_496002 HO_496003 HO_506002 HO_506003 HO513 BK485 BK495 BK505 BK523 HB; rename_i HO_486002 HO_496002 HO_496003 HO_506002 HO_506003 HO513 HO518 HO521 BK485 BK495 BK505 BK523 HB; (try clear hb); (try clear hb2); (try clear hk); (try clear hi); (try clear ho0); (try clear ho1); refine hK.out _ _ ⟨(blk_cell BK485.1 0).trans rfl, (blk_cell BK485.1 1).trans rfl, (blk_cell BK485.1 2).trans rfl⟩ (fun hHeld => ?_); clear hK K; refine zn (some 108) ?_; refine zu HT_ 20 (some 88) (zA 26 10485759) ?_; refine zu HT_ 21 (some 109) (zA 26 12582911) ?_; refine zu HT_ 22 (some 110) (zA 26 16777215) ?_; exact norm_ (by simp only [putAll, zp0, zp1, zp2, zp3, zp4]) (hCont (v512, v517, v520, gb523) _ ⟨hHeld, (zR HO513.1), (by exact zR (Kd.R_mono HO518.1 (fun _ hk => ⟨hk.1.2, hk.2⟩))), (by exact zR (Kd.R_mono HO521.1 (fun _ hk => ⟨hk.1.2, hk.2⟩))), (zR HO_486002.1), (by exact zR (Kd.R_mono HO_496002.1 (fun _ hk => ⟨hk.2, hk.1⟩))), (by exact zR (Kd.R_mono HO_496003.1 (fun _ hk => ⟨hk.2, hk.1⟩))), (by exact zR (Kd.R_mono HO_506002.1 (fun _ hk => ⟨hk.2, hk.1⟩))), (by exact zR (Kd.R_mono HO_506003.1 (fun _ hk => ⟨hk.2, hk.1⟩))), (zK BK485.1), (zK BK495.1), (zK BK505.1), (zK BK523.1), GW523.1, GE523.1, NB485_523.1, NB523_485.1, NB495_523.1, NB523_495.1, NB505_523.1, NB523_505.1, (zB4 HB.1 GE485.1 GE495.1 GE505.1 GE523.1)⟩)
              ·skip
               refine box_step ?hg (N := 13) ?hd (cs := #[.int .i64 0, .int .i64 0, .slice none 0 0, .slice none 0 0]) (t := 31) ?hr ?_; (case hd => rfl); (case hg => rfl); (case hr => first | (go_simp; done) | (go_simp; rfl))
               intro gb523 hg w81 hbox hb; have _ := aM (Kd.R_below (zR HO_486002.1) hb); have _ := aM (Kd.R_below (zR HO_496002.1) hb); have _ := aM (Kd.R_below (zR HO_496003.1) hb); have _ := aM (Kd.R_below (zR HO_506002.1) hb); have _ := aM (Kd.R_below (zR HO_506003.1) hb); have _ := aM (Kd.R_below (zR HO513.1) hb); have _ := aM (blk_below (zK BK485.1) hb); have _ := aM (blk_below (zK BK495.1) hb); have _ := aM (blk_below (zK BK505.1) hb); have _ := aM (below_step (zB3 HB.1 GE485.1 GE495.1 GE505.1) hb); have _ := aM (hbox); have _ := aM (zge hg (zB3 HB.1 GE485.1 GE495.1 GE505.1)); have _ := aM (zge hg (zB3 HB.1 GE485.1 GE495.1 GE505.1)); have _ := aM (znl hg (zK BK485.1)); have _ := aM (zng hg (zK BK485.1)); have _ := aM (znl hg (zK BK495.1)); have _ := aM (zng hg (zK BK495.1)); have _ := aM (znl hg (zK BK505.1)); have _ := aM (zng hg (zK BK505.1)); clear HO_486002 HO_496002 HO_496003 HO_506002 HO_506003 HO513 BK485 BK495 BK505 HB; rename_i HO_486002 HO_496002 HO_496003 HO_506002 HO_506003 HO513 BK485 BK495 BK505 HB BK523 GW523 GE523 NB485_523 NB523_485 NB495_523 NB523_495 NB505_523 NB523_505; clear hb hbox hg; refine hK.out _ _ ⟨(blk_cell BK485.1 0).trans rfl, (blk_cell BK485.1 1).trans rfl, (blk_cell BK485.1 2).trans rfl⟩ (fun hHeld => ?_); clear hK K; refine zn (some 13) ?_; refine zo HT_ 12 (some 101) (zA 26 8642559) (fun K hK => ?_); have hcv82 := own_string (P := Tryd.prog) Tryd.underlying22 Tryd.underlying5 Tryd.underlying9 (Kd.own_of_R HO513.1); refine value_ (w1 := ?_) (v := ?_) (by rfl) rfl ?_ ?_; rotate_left 2
               ·go_simp
                constructor
                ·rfl
                ·rfl
               clear hcv82; refine hK.out _ _ ⟨(blk_cell BK485.1 0).trans rfl, (blk_cell BK485.1 1).trans rfl, (blk_cell BK485.1 2).trans rfl⟩ (fun hHeld => ?_); clear hK K; refine zn (some 101) ?_; refine zu HT_ 13 (some 102) (zA 26 8650751) ?_; refine zu HT_ 18 (some 107) (zA 26 8912895) ?_; refine zo HT_ 19 (some 108) (zA 26 9437183) (fun K hK => ?_); refine goes_ Tryd.func15 (by kernel_rfl) rfl #[.agg #[.int .i64 t479, .int .i64 t480, .slice Ao13 t481.length co13], .string (((t484.extract 0 ((ji65) : Int).toNat) ++ (strOfNums y511)) ++ (t484.extract ((ji71) : Int).toNat t484.size))] (by rfl) rfl rfl (by (try simp only [zm1, zm2, zm3]); first | done | (simp only [hji65, hji71]; rfl) | rfl | (simp only [List.length_drop, List.length_take]; rfl)) ?_; (with_reducible refine (impl_IndexHas.calls kj61 t479 t480 _ _ t481 (((t484.extract 0 ((ji65) : Int).toNat) ++ (strOfNums y511)) ++ (t484.extract ((ji71) : Int).toNat t484.size)) t514 t515 t516 t519 false _ ?side1 ?side2 ?sideL A75.1).mono ?_); (case sideL => exact HLD.1.on (zB4 HB.1 GE485.1 GE495.1 GE505.1 GE523.1)); (case side1 => exact zC (Kd.R_reads' HO_486002.1).2.2); (case side2 => exact (Kd.R_reads' HO_486002.1).2.1); rintro e w83 ⟨v517, v520, rfl, ho0, ho1, hb⟩; refine ⟨_, rfl, ?_⟩; have _ := aM (Kd.R_below (zR HO_486002.1) hb); have _ := aM (Kd.R_elder' (zR HO_496002.1) (Kd.R_base ho0) hb); have _ := aM (Kd.R_elder' (zR HO_496003.1) (Kd.R_base ho1) hb); have _ := aM (Kd.R_elder' (zR HO_506002.1) (Kd.R_base ho0) hb); have _ := aM (Kd.R_elder' (zR HO_506003.1) (Kd.R_base ho1) hb); have _ := aM (Kd.R_below (zR HO513.1) hb); have _ := aM (Kd.R_lower (Kd.R_new' (Kd.R_new' ho0 (Kd.R_lt (zR HO_496002.1))) (Kd.R_lt (zR HO_506002.1))) (below_size (zB4 HB.1 GE485.1 GE495.1 GE505.1 GE523.1))); have _ := aM (Kd.R_lower (Kd.R_new' (Kd.R_new' ho1 (Kd.R_lt (zR HO_496003.1))) (Kd.R_lt (zR HO_506003.1))) (below_size (zB4 HB.1 GE485.1 GE495.1 GE505.1 GE523.1))); have _ := aM (blk_below (zK BK485.1) hb); have _ := aM (blk_below (zK BK495.1) hb); have _ := aM (blk_below (zK BK505.1) hb); have _ := aM (blk_below (zK BK523.1) hb); have _ := aM (below_step (zB4 HB.1 GE485.1 GE495.1 GE505.1 GE523.1) hb); clear HO_486002 HO_496002 HO_496003 HO_506002 HO_506003 HO513 BK485 BK495 BK505 BK523 HB; rename_i HO_486002 HO_496002 HO_496003 HO_506002 HO_506003 HO513 HO518 HO521 BK485 BK495 BK505 BK523 HB; (try clear hb); (try clear hb2); (try clear hk); (try clear hi); (try clear ho0); (try clear ho1); refine hK.out _ _ ⟨(blk_cell BK485.1 0).trans rfl, (blk_cell BK485.1 1).trans rfl, (blk_cell BK485.1 2).trans rfl⟩ (fun hHeld => ?_); clear hK K; refine zn (some 108) ?_; refine zu HT_ 20 (some 88) (zA 26 10485759) ?_; refine zu HT_ 21 (some 109) (zA 26 12582911) ?_; refine zu HT_ 22 (some 110) (zA 26 16777215) ?_; exact norm_ (by simp only [putAll, zp0, zp1, zp2, zp3, zp4]) (hCont (v512, v517, v520, gb523) _ ⟨hHeld, (zR HO513.1), (by exact zR (Kd.R_mono HO518.1 (fun _ hk => ⟨hk.1.2, hk.2⟩))), (by exact zR (Kd.R_mono HO521.1 (fun _ hk => ⟨hk.1.2, hk.2⟩))), (zR HO_486002.1), (by exact zR (Kd.R_mono HO_496002.1 (fun _ hk => ⟨hk.2, hk.1⟩))), (by exact zR (Kd.R_mono HO_496003.1 (fun _ hk => ⟨hk.2, hk.1⟩))), (by exact zR (Kd.R_mono HO_506002.1 (fun _ hk => ⟨hk.2, hk.1⟩))), (by exact zR (Kd.R_mono HO_506003.1 (fun _ hk => ⟨hk.2, hk.1⟩))), (zK BK485.1), (zK BK495.1), (zK BK505.1), (zK BK523.1), GW523.1, GE523.1, NB485_523.1, NB523_485.1, NB495_523.1, NB523_495.1, NB505_523.1, NB523_505.1, (zB4 HB.1 GE485.1 GE495.1 GE505.1 GE523.1)⟩)
             ·skip
              refine box_step ?hg (N := 13) ?hd (cs := #[.int .i64 0, .int .i64 0, .slice none 0 0, .slice none 0 0]) (t := 31) ?hr ?_; (case hd => rfl); (case hg => rfl); (case hr => first | (go_simp; done) | (go_simp; rfl))
              intro gb523 hg w79 hbox hb; have _ := aM (Kd.R_below (zR HO_486002.1) hb); have _ := aM (Kd.R_below (zR HO_496002.1) hb); have _ := aM (Kd.R_below (zR HO_496003.1) hb); have _ := aM (Kd.R_below (zR HO_506002.1) hb); have _ := aM (Kd.R_below (zR HO_506003.1) hb); have _ := aM (blk_below (zK BK485.1) hb); have _ := aM (blk_below (zK BK495.1) hb); have _ := aM (blk_below (zK BK505.1) hb); have _ := aM (below_step (zB3 HB.1 GE485.1 GE495.1 GE505.1) hb); have _ := aM (hbox); have _ := aM (zge hg (zB3 HB.1 GE485.1 GE495.1 GE505.1)); have _ := aM (zge hg (zB3 HB.1 GE485.1 GE495.1 GE505.1)); have _ := aM (znl hg (zK BK485.1)); have _ := aM (zng hg (zK BK485.1)); have _ := aM (znl hg (zK BK495.1)); have _ := aM (zng hg (zK BK495.1)); have _ := aM (znl hg (zK BK505.1)); have _ := aM (zng hg (zK BK505.1)); clear HO_486002 HO_496002 HO_496003 HO_506002 HO_506003 BK485 BK495 BK505 HB; rename_i HO_486002 HO_496002 HO_496003 HO_506002 HO_506003 BK485 BK495 BK505 HB BK523 GW523 GE523 NB485_523 NB523_485 NB495_523 NB523_495 NB505_523 NB523_505; clear hb hbox hg; refine hK.out _ _ ⟨(blk_cell BK485.1 0).trans rfl, (blk_cell BK485.1 1).trans rfl, (blk_cell BK485.1 2).trans rfl⟩ (fun hHeld => ?_); clear hK K; refine zn (some 13) ?_; refine zo HT_ 11 (some 100) (zA 26 8638463) (fun K hK => ?_)
              refine Kd.R_lit_step (Kd.int .u8) _ 5 ?hg (N := 100) ?hd (xs := ([(wrap64 ((wrap64 (bt t484 (ji65))) + x12_61)) % 256] : List Int)) (inner := [.int .u8 ((wrap64 ((wrap64 (bt t484 (ji65))) + x12_61)) % 256)]) (ok := fun _ => True) (okp := fun _ => True) ?hr ?hp (fun _ hk => hk) trivial (Below.refl _ _) (Nat.le_refl _) (by simp) ?_; (case hd => rfl); (case hg => rfl); (case hr => first | (go_simp; done) | (go_simp; rfl)); (case hp => exact (Reps.one (show Kd.M (Kd.int .u8) _ _ _ ((wrap64 ((wrap64 (bt t484 (ji65))) + x12_61)) % 256) [.int .u8 ((wrap64 ((wrap64 (bt t484 (ji65))) + x12_61)) % 256)] from rfl) (Reps.none _ _)))
              intro v512 w80 ho81 hb hg_ hnew_; clear hg_ hnew_; (first | rw [← Ny511.1] at ho81 | (simp only [Int.reduceToNat] at ho81; rw [← Ny511.1] at ho81)); have _ := aM (Kd.R_below (zR HO_486002.1) hb); have _ := aM (Kd.R_below (zR HO_496002.1) hb); have _ := aM (Kd.R_below (zR HO_496003.1) hb); have _ := aM (Kd.R_below (zR HO_506002.1) hb); have _ := aM (Kd.R_below (zR HO_506003.1) hb); have _ := aM (Kd.R_lower ho81 (below_size (zB4 HB.1 GE485.1 GE495.1 GE505.1 GE523.1))); have _ := aM (blk_below (zK BK485.1) hb); have _ := aM (blk_below (zK BK495.1) hb); have _ := aM (blk_below (zK BK505.1) hb); have _ := aM (blk_below (zK BK523.1) hb); have _ := aM (below_step (zB4 HB.1 GE485.1 GE495.1 GE505.1 GE523.1) hb); clear HO_486002 HO_496002 HO_496003 HO_506002 HO_506003 BK485 BK495 BK505 BK523 HB; rename_i HO_486002 HO_496002 HO_496003 HO_506002 HO_506003 HO513 BK485 BK495 BK505 BK523 HB; clear hb ho81; refine hK.out _ _ ⟨(blk_cell BK485.1 0).trans rfl, (blk_cell BK485.1 1).trans rfl, (blk_cell BK485.1 2).trans rfl⟩ (fun hHeld => ?_); clear hK K; refine zn (some 100) ?_; refine zo HT_ 12 (some 101) (zA 26 8642559) (fun K hK => ?_); have hcv82 := own_string (P := Tryd.prog) Tryd.underlying22 Tryd.underlying5 Tryd.underlying9 (Kd.own_of_R HO513.1); refine value_ (w1 := ?_) (v := ?_) (by rfl) rfl ?_ ?_; rotate_left 2
              ·go_simp
               constructor
               ·rfl
               ·rfl
              clear hcv82; refine hK.out _ _ ⟨(blk_cell BK485.1 0).trans rfl, (blk_cell BK485.1 1).trans rfl, (blk_cell BK485.1 2).trans rfl⟩ (fun hHeld => ?_); clear hK K; refine zn (some 101) ?_; refine zu HT_ 13 (some 102) (zA 26 8650751) ?_; refine zu HT_ 18 (some 107) (zA 26 8912895) ?_; refine zo HT_ 19 (some 108) (zA 26 9437183) (fun K hK => ?_); refine goes_ Tryd.func15 (by kernel_rfl) rfl #[.agg #[.int .i64 t479, .int .i64 t480, .slice Ao13 t481.length co13], .string (((t484.extract 0 ((ji65) : Int).toNat) ++ (strOfNums y511)) ++ (t484.extract ((ji71) : Int).toNat t484.size))] (by rfl) rfl rfl (by (try simp only [zm1, zm2, zm3]); first | done | (simp only [hji65, hji71]; rfl) | rfl | (simp only [List.length_drop, List.length_take]; rfl)) ?_; (with_reducible refine (impl_IndexHas.calls kj61 t479 t480 _ _ t481 (((t484.extract 0 ((ji65) : Int).toNat) ++ (strOfNums y511)) ++ (t484.extract ((ji71) : Int).toNat t484.size)) t514 t515 t516 t519 false _ ?side1 ?side2 ?sideL A75.1).mono ?_); (case sideL => exact HLD.1.on (zB4 HB.1 GE485.1 GE495.1 GE505.1 GE523.1)); (case side1 => exact zC (Kd.R_reads' HO_486002.1).2.2); (case side2 => exact (Kd.R_reads' HO_486002.1).2.1); rintro e w83 ⟨v517, v520, rfl, ho0, ho1, hb⟩; refine ⟨_, rfl, ?_⟩; have _ := aM (Kd.R_below (zR HO_486002.1) hb); have _ := aM (Kd.R_elder' (zR HO_496002.1) (Kd.R_base ho0) hb); have _ := aM (Kd.R_elder' (zR HO_496003.1) (Kd.R_base ho1) hb); have _ := aM (Kd.R_elder' (zR HO_506002.1) (Kd.R_base ho0) hb); have _ := aM (Kd.R_elder' (zR HO_506003.1) (Kd.R_base ho1) hb); have _ := aM (Kd.R_below (zR HO513.1) hb); have _ := aM (Kd.R_lower (Kd.R_new' (Kd.R_new' ho0 (Kd.R_lt (zR HO_496002.1))) (Kd.R_lt (zR HO_506002.1))) (below_size (zB4 HB.1 GE485.1 GE495.1 GE505.1 GE523.1))); have _ := aM (Kd.R_lower (Kd.R_new' (Kd.R_new' ho1 (Kd.R_lt (zR HO_496003.1))) (Kd.R_lt (zR HO_506003.1))) (below_size (zB4 HB.1 GE485.1 GE495.1 GE505.1 GE523.1))); have _ := aM (blk_below (zK BK485.1) hb); have _ := aM (blk_below (zK BK495.1) hb); have _ := aM (blk_below (zK BK505.1) hb); have _ := aM (blk_below (zK BK523.1) hb); have _ := aM (below_step (zB4 HB.1 GE485.1 GE495.1 GE505.1 GE523.1) hb); clear HO_486002 HO_496002 HO_496003 HO_506002 HO_506003 HO513 BK485 BK495 BK505 BK523 HB; rename_i HO_486002 HO_496002 HO_496003 HO_506002 HO_506003 HO513 HO518 HO521 BK485 BK495 BK505 BK523 HB; (try clear hb); (try clear hb2); (try clear hk); (try clear hi); (try clear ho0); (try clear ho1); refine hK.out _ _ ⟨(blk_cell BK485.1 0).trans rfl, (blk_cell BK485.1 1).trans rfl, (blk_cell BK485.1 2).trans rfl⟩ (fun hHeld => ?_); clear hK K; refine zn (some 108) ?_; refine zu HT_ 20 (some 88) (zA 26 10485759) ?_; refine zu HT_ 21 (some 109) (zA 26 12582911) ?_; refine zu HT_ 22 (some 110) (zA 26 16777215) ?_; exact norm_ (by simp only [putAll, zp0, zp1, zp2, zp3, zp4]) (hCont (v512, v517, v520, gb523) _ ⟨hHeld, (zR HO513.1), (by exact zR (Kd.R_mono HO518.1 (fun _ hk => ⟨hk.1.2, hk.2⟩))), (by exact zR (Kd.R_mono HO521.1 (fun _ hk => ⟨hk.1.2, hk.2⟩))), (zR HO_486002.1), (by exact zR (Kd.R_mono HO_496002.1 (fun _ hk => ⟨hk.2, hk.1⟩))), (by exact zR (Kd.R_mono HO_496003.1 (fun _ hk => ⟨hk.2, hk.1⟩))), (by exact zR (Kd.R_mono HO_506002.1 (fun _ hk => ⟨hk.2, hk.1⟩))), (by exact zR (Kd.R_mono HO_506003.1 (fun _ hk => ⟨hk.2, hk.1⟩))), (zK BK485.1), (zK BK495.1), (zK BK505.1), (zK BK523.1), GW523.1, GE523.1, NB485_523.1, NB523_485.1, NB495_523.1, NB523_495.1, NB505_523.1, NB523_505.1, (zB4 HB.1 GE485.1 GE495.1 GE505.1 GE523.1)⟩)
            rintro ⟨v512, v517, v520, gb523⟩ w84 ⟨hS_, h0_, h1_, h2_, h3_, h4_, h5_, h6_, h7_, h8_, h9_, h10_, h11_, h12_, h13_, h14_, h15_, h16_, h17_, h18_, h19_, h20_⟩; have n0_ : Aside0 (Kd.R (Kd.int .u8) 5 w84 w.heap.size (fun _ => True) v512 y511) := ⟨h0_⟩; have n1_ : Aside0 (Kd.R k67 67 w84 w.heap.size (fun k_ => some k_ ≠ (.slice Ao18 t488.length co18 : Value).ownBlock ∧ some k_ ≠ (.slice Ao26 t498.length co26 : Value).ownBlock) v517 t516) := ⟨h1_⟩; have n2_ : Aside0 (Kd.R k69 69 w84 w.heap.size (fun k_ => some k_ ≠ (.slice Ao19 t491.length co19 : Value).ownBlock ∧ some k_ ≠ (.slice Ao27 t501.length co27 : Value).ownBlock) v520 t519) := ⟨h2_⟩; have n3_ : Aside0 (Kd.R k40 40 w84 w.heap.size (fun _ => True) (.slice Ao13 t481.length co13) t481) := ⟨h3_⟩; have n4_ : Aside0 (Kd.R k67 67 w84 w.heap.size (fun k_ => some k_ ≠ (v517 : Value).ownBlock ∧ some k_ ≠ (.slice Ao26 t498.length co26 : Value).ownBlock) (.slice Ao18 t488.length co18) t488) := ⟨h4_⟩; have n5_ : Aside0 (Kd.R k69 69 w84 w.heap.size (fun k_ => some k_ ≠ (v520 : Value).ownBlock ∧ some k_ ≠ (.slice Ao27 t501.length co27 : Value).ownBlock) (.slice Ao19 t491.length co19) t491) := ⟨h5_⟩; have n6_ : Aside0 (Kd.R k67 67 w84 w.heap.size (fun k_ => some k_ ≠ (v517 : Value).ownBlock ∧ some k_ ≠ (.slice Ao18 t488.length co18 : Value).ownBlock) (.slice Ao26 t498.length co26) t498) := ⟨h6_⟩; have n7_ : Aside0 (Kd.R k69 69 w84 w.heap.size (fun k_ => some k_ ≠ (v520 : Value).ownBlock ∧ some k_ ≠ (.slice Ao19 t491.length co19 : Value).ownBlock) (.slice Ao27 t501.length co27) t501) := ⟨h7_⟩; have n8_ : Aside0 (w84.heap[gb485]? = some (.cells #[.int .i64 t479, .int .i64 t480, .slice Ao13 t481.length co13] 25 (0, 0))) := ⟨h8_⟩; have n9_ : Aside0 (w84.heap[gb495]? = some (.cells #[.int .i64 t486, .int .i64 t487, .slice Ao18 t488.length co18, .slice Ao19 t491.length co19] 31 (0, 0))) := ⟨h9_⟩; have n10_ : Aside0 (w84.heap[gb505]? = some (.cells #[.int .i64 t496, .int .i64 t497, .slice Ao26 t498.length co26, .slice Ao27 t501.length co27] 31 (0, 0))) := ⟨h10_⟩; have n11_ : Aside0 (w84.heap[gb523]? = some (.cells #[.int .i64 0, .int .i64 0, .slice none 0 0, .slice none 0 0] 31 (0, 0))) := ⟨h11_⟩; have n12_ : Aside0 (w.heap.size ≤ gb523) := ⟨h12_⟩; have n13_ : Aside0 (w.heap.size ≤ gb523) := ⟨h13_⟩; have n14_ : Aside0 (gb485 ≠ gb523) := ⟨h14_⟩; have n15_ : Aside0 (gb523 ≠ gb485) := ⟨h15_⟩; have n16_ : Aside0 (gb495 ≠ gb523) := ⟨h16_⟩; have n17_ : Aside0 (gb523 ≠ gb495) := ⟨h17_⟩; have n18_ : Aside0 (gb505 ≠ gb523) := ⟨h18_⟩; have n19_ : Aside0 (gb523 ≠ gb505) := ⟨h19_⟩; have n20_ : Aside0 (Below w.heap.size w w84) := ⟨h20_⟩; clear HO_486002 HO_496002 HO_496003 HO_506002 HO_506003 BK485 BK495 BK505 HB h0_ h1_ h2_ h3_ h4_ h5_ h6_ h7_ h8_ h9_ h10_ h11_ h12_ h13_ h14_ h15_ h16_ h17_ h18_ h19_ h20_; have HO513 := n0_; have HO518 := n1_; have HO521 := n2_; have HO_486002 := n3_; have HO_496002 := n4_; have HO_496003 := n5_; have HO_506002 := n6_; have HO_506003 := n7_; have BK485 := n8_; have BK495 := n9_; have BK505 := n10_; have BK523 := n11_; have GW523 := n12_; have GE523 := n13_; have NB485_523 := n14_; have NB523_485 := n15_; have NB495_523 := n16_; have NB523_495 := n17_; have NB505_523 := n18_; have NB523_505 := n19_; have HB := n20_; clear n0_ n1_ n2_ n3_ n4_ n5_ n6_ n7_ n8_ n9_ n10_ n11_ n12_ n13_ n14_ n15_ n16_ n17_ n18_ n19_ n20_; have hHeld : w84.cell? ⟨gb485, 0, none⟩ = some (.int .i64 t479) ∧ w84.cell? ⟨gb485, 1, none⟩ = some (.int .i64 t480) ∧ w84.cell? ⟨gb485, 2, none⟩ = some (.slice Ao13 t481.length co13) := hS_; obtain ⟨Ao87, co87, eo87⟩ := Kd.R_slice HO518.1; (first | subst eo87 | (injection eo87 with f1_ f2_ f3_; have f4_ := f1_.symm; have f5_ := f3_.symm; clear f1_ f2_ f3_; subst f4_; subst f5_)); obtain ⟨Ao89, co89, eo89⟩ := Kd.R_slice HO521.1; (first | subst eo89 | (injection eo89 with f1_ f2_ f3_; have f4_ := f1_.symm; have f5_ := f3_.symm; clear f1_ f2_ f3_; subst f4_; subst f5_)); refine norm_ (a' := ?_) ?_ ?_; rotate_left
            ·simp only [putAll, zp0, zp1, zp2, zp3, zp4]; rfl
            refine zo HT_ 24 none (zA 26 33554431) (fun K hK => ?_); have hs85 : w84.cell? ⟨gb523, 0, none⟩ = some (.int .i64 0) := (blk_cell BK523.1 0).trans rfl; have hfs85 := blk_frozen BK523.1 0; have hns85_0 := NB485_523.1; have hns85_1 := NB495_523.1; have hns85_2 := NB505_523.1; have hms85_0 := NB523_485.1; have hms85_1 := NB523_495.1; have hms85_2 := NB523_505.1; have hs86 : w84.cell? ⟨gb523, 1, none⟩ = some (.int .i64 0) := (blk_cell BK523.1 1).trans rfl; have hfs86 := blk_frozen BK523.1 1; have hns86_0 := NB485_523.1; have hns86_1 := NB495_523.1; have hns86_2 := NB505_523.1; have hms86_0 := NB523_485.1; have hms86_1 := NB523_495.1; have hms86_2 := NB523_505.1; have hs88 : w84.cell? ⟨gb523, 2, none⟩ = some (.slice none 0 0) := (blk_cell BK523.1 2).trans rfl; have hfs88 := blk_frozen BK523.1 2; have hns88_0 := NB485_523.1; have hns88_1 := NB495_523.1; have hns88_2 := NB505_523.1; have hms88_0 := NB523_485.1; have hms88_1 := NB523_495.1; have hms88_2 := NB523_505.1; have hs90 : w84.cell? ⟨gb523, 3, none⟩ = some (.slice none 0 0) := (blk_cell BK523.1 3).trans rfl; have hfs90 := blk_frozen BK523.1 3; have hns90_0 := NB485_523.1; have hns90_1 := NB495_523.1; have hns90_2 := NB505_523.1; have hms90_0 := NB523_485.1; have hms90_1 := NB523_495.1; have hms90_2 := NB523_505.1; refine skip_ (w1 := ?_) (by rfl) rfl ?_ ?_; rotate_left
            ·go_simp
             rfl
            refine hK.out _ _ ⟨((cell_far (p := ⟨gb523, _, none⟩) NB485_523.1 _).trans (((cell_far (p := ⟨gb523, _, none⟩) NB485_523.1 _).trans (((cell_far (p := ⟨gb523, _, none⟩) NB485_523.1 _).trans (((cell_far (p := ⟨gb523, _, none⟩) NB485_523.1 _).trans (hHeld.1)))))))), ((cell_far (p := ⟨gb523, _, none⟩) NB485_523.1 _).trans (((cell_far (p := ⟨gb523, _, none⟩) NB485_523.1 _).trans (((cell_far (p := ⟨gb523, _, none⟩) NB485_523.1 _).trans (((cell_far (p := ⟨gb523, _, none⟩) NB485_523.1 _).trans (hHeld.2.1)))))))), ((cell_far (p := ⟨gb523, _, none⟩) NB485_523.1 _).trans (((cell_far (p := ⟨gb523, _, none⟩) NB485_523.1 _).trans (((cell_far (p := ⟨gb523, _, none⟩) NB485_523.1 _).trans (((cell_far (p := ⟨gb523, _, none⟩) NB485_523.1 _).trans (hHeld.2.2))))))))⟩ (fun hHeld => ?_); clear hK K; refine zu HT_ 25 (some 14) (zA 26 67108863) ?_; refine done_ (done_of HT_.1 (by kernel_rfl)) ?_; have hnb91 := NB505_485.1; have hnc91 := NB485_505.1; have hnb92 := NB505_495.1; have hnc92 := NB495_505.1; have hnb93 := NB505_523.1; have hnc93 := NB523_505.1; obtain ⟨hcz94_0, hcz94_1, hcz94_2, hcz94_3, hfz94_0, hfz94_1, hfz94_2, hfz94_3⟩ := zc4f BK505.1
            try go_wp2_with (first | (go_at_call 17; (with_reducible refine (impl_PkgText.calls kj61 t496 t497 _ _ t498 _ _ t501 t524 _ ?side1 ?side2 ?side3 ?side4 A77.1).mono ?_); (case side1 => refine (Kd.R_reads' (e := 67) (base := w.heap.size) (ok := fun k_ => (some k_ ≠ (.slice Ao87 t516.length co87 : Value).ownBlock ∧ some k_ ≠ (.slice Ao18 t488.length co18 : Value).ownBlock)) (n := t498.length) (c := co26) ?_).2.2; exact zT HO_506002.1 BK523.1 (by decide)); (case side2 => exact (Kd.R_reads' HO_506002.1).2.1); (case side3 => refine (Kd.R_reads' (e := 69) (base := w.heap.size) (ok := fun k_ => (some k_ ≠ (.slice Ao89 t519.length co89 : Value).ownBlock ∧ some k_ ≠ (.slice Ao19 t491.length co19 : Value).ownBlock)) (n := t501.length) (c := co27) ?_).2.2; exact zT HO_506003.1 BK523.1 (by decide)); (case side4 => exact (Kd.R_reads' HO_506003.1).2.1); rintro e w95 ⟨rfl, hb⟩; have _ := aM (Kd.R_below (zT HO_486002.1 BK523.1 (by decide)) hb); have _ := aM (Kd.R_below (zT HO_496002.1 BK523.1 (by decide)) hb); have _ := aM (Kd.R_below (zT HO_496003.1 BK523.1 (by decide)) hb); have _ := aM (Kd.R_below (zT HO_506002.1 BK523.1 (by decide)) hb); have _ := aM (Kd.R_below (zT HO_506003.1 BK523.1 (by decide)) hb); have _ := aM (Kd.R_below (zT HO513.1 BK523.1 (by decide)) hb); have _ := aM (Kd.R_below (zT HO518.1 BK523.1 (by decide)) hb); have _ := aM (Kd.R_below (zT HO521.1 BK523.1 (by decide)) hb); have _ := aM (blk_below (zK1 BK485.1 NB485_523.1) hb); have _ := aM (blk_below (zK1 BK495.1 NB495_523.1) hb); have _ := aM (blk_below (zK1 BK505.1 NB505_523.1) hb); have _ := aM (blk_below (g := gb523) (o := .cells #[.int .i64 t514, .int .i64 t515, .slice Ao87 t516.length co87, .slice Ao89 t519.length co89] 31 (0, 0)) (by exact zP BK523.1 (by rfl)) hb); have _ := aM (below_step (zB4 HB.1 GE485.1 GE495.1 GE505.1 GE523.1) hb); clear HO_486002 HO_496002 HO_496003 HO_506002 HO_506003 HO513 HO518 HO521 BK485 BK495 BK505 BK523 HB; rename_i HO_486002 HO_496002 HO_496003 HO_506002 HO_506003 HO513 HO518 HO521 BK485 BK495 BK505 BK523 HB; (try clear hb); (try clear hb2); (try clear hk); (try clear hi)))
            go_ret
            exact ⟨by first | rfl | (simp [errW_none, errW_some] <;> rfl) | (simp only [← hji65, ← hji71]; first | rfl | (simp [errW_none, errW_some] <;> rfl)) | (simp [*, errW_none, errW_some] <;> rfl), by exact zB4 HB.1 GE485.1 GE495.1 GE505.1 GE523.1⟩

/-- THE ONE PURE STATEMENT of laws_FnIndexByte: yours. -/
def laws_FnIndexByte.Pure : Prop := ∀ (l0 : List Int) (l1 : List Int), l0.length ≤ maxLen → l0.length * 1 ≤ 140737488351232 → (∀ x ∈ l0, (Lit.int .u8 x).wf = true) → l1.length ≤ maxLen → l1.length * 1 ≤ 140737488351232 → (∀ x ∈ l1, (Lit.int .u8 x).wf = true) → ∃ k, laws_FnIndexByte.f k l0 l1 = some true
theorem laws_FnIndexByte.walk (P : laws_FnIndexByte.Pure) (a0 : Option Addr) (len0 cap0 : Nat) (z0 : List Int) (a1 : Option Addr) (len1 cap1 : Nat) (z1 : List Int) (w : World) (w0 : (a0 = none ∧ len0 = 0 ∧ cap0 = 0 ∧ z0 = []) ∨ ∃ x, a0 = some x ∧ len0 ≤ cap0 ∧ cap0 ≤ maxLen ∧ z0.length = cap0 ∧ (∀ i, i < z0.length → w.cell? (x.add i) = some (.int .u8 (z0.getD i 0))) ∧ ∀ n ∈ z0, (Lit.int .u8 n).wf = true) (y0 : len0 * 1 ≤ 140737488351232) (w1 : (a1 = none ∧ len1 = 0 ∧ cap1 = 0 ∧ z1 = []) ∨ ∃ x, a1 = some x ∧ len1 ≤ cap1 ∧ cap1 ≤ maxLen ∧ z1.length = cap1 ∧ (∀ i, i < z1.length → w.cell? (x.add i) = some (.int .u8 (z1.getD i 0))) ∧ ∀ n ∈ z1, (Lit.int .u8 n).wf = true) (y1 : len1 * 1 ≤ 140737488351232) (hLD : LaidW w) :
  Calls Tryd.prog 3 #[.slice a0 len0 cap0, .slice a1 len1 cap1] w fun e w' => e = .returned (.bool true) ∧ Below w.heap.size w w' := by
 obtain ⟨l0, rfl, hr0, hm0, hw0, hc0⟩ := ReadsInt.ofRowC w0
 obtain ⟨l1, rfl, hr1, hm1, hw1, hc1⟩ := ReadsInt.ofRowC w1
 obtain ⟨k, h⟩ := P l0 l1 hm0 y0 hw0 hm1 y1 hw1
 refine (laws_FnIndexByte.calls k _ _ l0 _ _ l1 true w (Kd.C_of_reads (d := (0 : Int)) (h1 := fun _ => rfl) hr0) hc0 (Kd.C_of_reads (d := (0 : Int)) (h1 := fun _ => rfl) hr1) hc1 hLD h).mono ?_
 rintro e w' ⟨rfl, hd⟩
 exact ⟨rfl, hd⟩

end Go.Proofs.YtkjgnnjcjkphbaaDoor.PFnIndexByte
