-- printed for this claim by a program out of the translation, its tactics shortened by another
import Derived.Test.YtkjgnnjcjkphbaaDoorPFnIndexTellsx6
namespace Go.Proofs.YtkjgnnjcjkphbaaDoor.PFnIndexTells
open Go.RowKit Go.Proofs.YtkjgnnjcjkphbaaDoorW.PrintWords Go.Proofs.YtkjgnnjcjkphbaaDoorW.PrintLast Go.Proofs.YtkjgnnjcjkphbaaDoorW.PrintMore
attribute [local go_sem] max2_int min2_int max_two min_two max_three min_three max_four min_four   -- for this text's walks alone
set_option linter.unusedVariables false
set_option linter.unusedSimpArgs false

/-! ### laws_FnIndexTells: function 4 -/
mutual
def laws_FnIndexTells.j0 : Nat → ByteArray → Bool → Bool → Bool → Int → Int → List (S40) → Int → Int → List (S67) → List (S69) → Int → Int → List (S67) → List (S69) → Option (Bool)
 | 0, _, _, _, _, _, _, _, _, _, _, _, _, _, _, _ => none
 | k + 1, x4, x6, x8, x46, x486000, x486001, x486002, x496000, x496001, x496002, x496003, x506000, x506001, x506002, x506003 => if x46 = true then (if (x8 == x6) = true then ((laws_luPkg.f k x506000 x506001 x506002 x506003 x496000 x496001 x496002 x496003).bind fun t508 => (some t508)) else (none)) else ((impl_PkgRead.f k x4).bind fun bt509 => (laws_FnIndexTells.l0 k x4 x8 bt509.2.2.2.2 false 0 x486000 x486001 x486002 x506000 x506001 x506002 x506003 bt509.1 bt509.2.1 bt509.2.2.1 bt509.2.2.2.1))
def laws_FnIndexTells.l0 : Nat → ByteArray → Bool → Bool → Bool → Int → Int → Int → List (S40) → Int → Int → List (S67) → List (S69) → Int → Int → List (S67) → List (S69) → Option (Bool)
 | 0, _, _, _, _, _, _, _, _, _, _, _, _, _, _, _, _ => none
 | k + 1, x4, x8, x10, x11, x12, x486000, x486001, x486002, x506000, x506001, x506002, x506003, x519000, x519001, x519002, x519003 => if x12 < (x486002.length : Int) then (if x11 = true then (laws_FnIndexTells.l0 k x4 x8 x10 true (wrap64 (x12 + 1)) x486000 x486001 x486002 x506000 x506001 x506002 x506003 x519000 x519001 x519002 x519003) else (if 0 ≤ x12 then ((impl_SumOf.f k x4).bind fun t520 => (laws_FnIndexTells.l0 k x4 x8 x10 (((rd_T40 x486002 x12).f0) == x519000 && (((rd_T40 x486002 x12).f1) == x519001 && (((rd_T40 x486002 x12).f2) == t520))) (wrap64 (x12 + 1)) x486000 x486001 x486002 x506000 x506001 x506002 x506003 x519000 x519001 x519002 x519003)) else (none))) else (if x10 = true then (if (x8 == x11) = true then (if x8 = true then ((laws_luPkg.f k x506000 x506001 x506002 x506003 x519000 x519001 x519002 x519003).bind fun t521 => (some t521)) else (some true)) else (none)) else (if (x8 == false) = true then (if x8 = true then ((laws_luPkg.f k x506000 x506001 x506002 x506003 x519000 x519001 x519002 x519003).bind fun t522 => (some t522)) else (some true)) else (none)))
end
def laws_FnIndexTells.f (k : Nat) (l0 : List Int) : Option (Bool) := if (l0.length : Int) > 1048576 then (some true) else ((spec_DrawIndexHas.f k l0).bind fun bt479 => ((spec_IndexHas.f k bt479.1 bt479.2.1 bt479.2.2.1 bt479.2.2.2).bind fun bt486 => ((impl_IndexHas.f k bt479.1 bt479.2.1 bt479.2.2.1 bt479.2.2.2).bind fun bt496 => (if (bt496.2.2.2.2 != bt486.2.2.2.2) = true then (laws_FnIndexTells.j0 k bt479.2.2.2 bt486.2.2.2.2 bt496.2.2.2.2 true bt479.1 bt479.2.1 bt479.2.2.1 bt486.1 bt486.2.1 bt486.2.2.1 bt486.2.2.2.1 bt496.1 bt496.2.1 bt496.2.2.1 bt496.2.2.2.1) else ((laws_luPkg.f k bt496.1 bt496.2.1 bt496.2.2.1 bt496.2.2.2.1 bt486.1 bt486.2.1 bt486.2.2.1 bt486.2.2.2.1).bind fun t506 => (if t506 = true then ((spec_IndexOk.f k bt479.1 bt479.2.1 bt479.2.2.1).bind fun t507 => (laws_FnIndexTells.j0 k bt479.2.2.2 bt486.2.2.2.2 bt496.2.2.2.2 (!t507) bt479.1 bt479.2.1 bt479.2.2.1 bt486.1 bt486.2.1 bt486.2.2.1 bt486.2.2.2.1 bt496.1 bt496.2.1 bt496.2.2.1 bt496.2.2.2.1)) else (laws_FnIndexTells.j0 k bt479.2.2.2 bt486.2.2.2.2 bt496.2.2.2.2 true bt479.1 bt479.2.1 bt479.2.2.1 bt486.1 bt486.2.1 bt486.2.2.1 bt486.2.2.2.1 bt496.1 bt496.2.1 bt496.2.2.1 bt496.2.2.2.1)))))))
theorem laws_FnIndexTells.mono_l : ∀ k, (∀ y0 y1 y2 y3 y4 y5 y6 y7 y8 y9 y10 y11 y12 y13 y14, LeO (laws_FnIndexTells.j0 k y0 y1 y2 y3 y4 y5 y6 y7 y8 y9 y10 y11 y12 y13 y14) (laws_FnIndexTells.j0 (k + 1) y0 y1 y2 y3 y4 y5 y6 y7 y8 y9 y10 y11 y12 y13 y14)) ∧ (∀ y0 y1 y2 y3 y4 y5 y6 y7 y8 y9 y10 y11 y12 y13 y14 y15, LeO (laws_FnIndexTells.l0 k y0 y1 y2 y3 y4 y5 y6 y7 y8 y9 y10 y11 y12 y13 y14 y15) (laws_FnIndexTells.l0 (k + 1) y0 y1 y2 y3 y4 y5 y6 y7 y8 y9 y10 y11 y12 y13 y14 y15))
 | 0 => ⟨fun _ _ _ _ _ _ _ _ _ _ _ _ _ _ _ r h => by simp [laws_FnIndexTells.j0] at h, fun _ _ _ _ _ _ _ _ _ _ _ _ _ _ _ _ r h => by simp [laws_FnIndexTells.l0] at h⟩
 | k + 1 => by
  obtain ⟨ih0, ih1⟩ := laws_FnIndexTells.mono_l k
  refine ⟨?_, ?_⟩
  ·intro y0 y1 y2 y3 y4 y5 y6 y7 y8 y9 y10 y11 y12 y13 y14
   unfold laws_FnIndexTells.j0
   repeat' first
   | (with_reducible exact ih0 _ _ _ _ _ _ _ _ _ _ _ _ _ _ _)
   | (with_reducible exact ih1 _ _ _ _ _ _ _ _ _ _ _ _ _ _ _ _)
   | (with_reducible exact impl_IndexHas.mono _ _ _ _ _)
   | (with_reducible exact impl_PkgRead.mono _ _)
   | (with_reducible exact impl_SumOf.mono _ _)
   | (with_reducible exact laws_luPkg.mono _ _ _ _ _ _ _ _ _)
   | (with_reducible exact spec_DrawIndexHas.mono _ _)
   | (with_reducible exact spec_IndexHas.mono _ _ _ _ _)
   | (with_reducible exact spec_IndexOk.mono _ _ _ _)
   | (with_reducible exact LeO.refl _)
   | (with_reducible exact LeO.none _)
   | (with_reducible refine LeO.ite ?_ ?_)
   | (with_reducible refine LeO.bind ?_ (fun _ => ?_))
   | exact ih0 _ _ _ _ _ _ _ _ _ _ _ _ _ _ _
   | exact ih1 _ _ _ _ _ _ _ _ _ _ _ _ _ _ _ _
   | exact impl_IndexHas.mono _ _ _ _ _
   | exact impl_PkgRead.mono _ _
   | exact impl_SumOf.mono _ _
   | exact laws_luPkg.mono _ _ _ _ _ _ _ _ _
   | exact spec_DrawIndexHas.mono _ _
   | exact spec_IndexHas.mono _ _ _ _ _
   | exact spec_IndexOk.mono _ _ _ _
   | exact LeO.none _
   | refine LeO.ite ?_ ?_
   | refine LeO.bind ?_ (fun _ => ?_)
  ·intro y0 y1 y2 y3 y4 y5 y6 y7 y8 y9 y10 y11 y12 y13 y14 y15
   unfold laws_FnIndexTells.l0
   repeat' first
   | (with_reducible exact ih0 _ _ _ _ _ _ _ _ _ _ _ _ _ _ _)
   | (with_reducible exact ih1 _ _ _ _ _ _ _ _ _ _ _ _ _ _ _ _)
   | (with_reducible exact impl_IndexHas.mono _ _ _ _ _)
   | (with_reducible exact impl_PkgRead.mono _ _)
   | (with_reducible exact impl_SumOf.mono _ _)
   | (with_reducible exact laws_luPkg.mono _ _ _ _ _ _ _ _ _)
   | (with_reducible exact spec_DrawIndexHas.mono _ _)
   | (with_reducible exact spec_IndexHas.mono _ _ _ _ _)
   | (with_reducible exact spec_IndexOk.mono _ _ _ _)
   | (with_reducible exact LeO.refl _)
   | (with_reducible exact LeO.none _)
   | (with_reducible refine LeO.ite ?_ ?_)
   | (with_reducible refine LeO.bind ?_ (fun _ => ?_))
   | exact ih0 _ _ _ _ _ _ _ _ _ _ _ _ _ _ _
   | exact ih1 _ _ _ _ _ _ _ _ _ _ _ _ _ _ _ _
   | exact impl_IndexHas.mono _ _ _ _ _
   | exact impl_PkgRead.mono _ _
   | exact impl_SumOf.mono _ _
   | exact laws_luPkg.mono _ _ _ _ _ _ _ _ _
   | exact spec_DrawIndexHas.mono _ _
   | exact spec_IndexHas.mono _ _ _ _ _
   | exact spec_IndexOk.mono _ _ _ _
   | exact LeO.none _
   | refine LeO.ite ?_ ?_
   | refine LeO.bind ?_ (fun _ => ?_)
theorem laws_FnIndexTells.mono : ∀ a0 k, LeO (laws_FnIndexTells.f k a0) (laws_FnIndexTells.f (k + 1) a0) := by
 intro a0 k
 obtain ⟨ih0, ih1⟩ := laws_FnIndexTells.mono_l k
 unfold laws_FnIndexTells.f
 repeat' with_reducible first | apply ih0 | apply ih1 | apply impl_IndexHas.mono | apply impl_PkgRead.mono | apply impl_SumOf.mono | apply laws_luPkg.mono | apply spec_DrawIndexHas.mono | apply spec_IndexHas.mono | apply spec_IndexOk.mono | exact LeO.refl _ | exact LeO.none _ | refine LeO.ite ?_ ?_ | refine LeO.bind ?_ (fun _ => ?_)
def laws_FnIndexTells.T13 : Bool × List (List Nat × List Nat) := (true, [([], []), ([0], [0]), ([1], [1]), ([2, 1], [1, 2]), ([1], [1]), ([3, 4, 1], [1, 3, 4]), ([5, 1], [1, 5]), ([1], [1]), ([7, 1], [1, 7]), ([1], [1]), ([9, 1], [1, 9]), ([1], [1]), ([11, 1, 1], [1, 11]), ([8, 10, 12, 1], [1, 8, 10, 12]), ([6, 13, 1], [1, 6, 13]), ([1, 14], [1, 14]), ([15, 12, 0, 1, 2, 3, 4, 5, 6, 7, 8, 9, 10, 11, 12, 13, 14, 15], [0, 15])])
def laws_FnIndexTells.B13 : List Nat := [0, 1, 3, 7, 3, 31, 63, 3, 131, 3, 515, 3, 2051, 8067, 16383, 32767, 65535]
theorem laws_FnIndexTells.tab13 : rtab .any (opsOf Tryd.f4 13) = laws_FnIndexTells.T13 := by kernel_rfl
theorem laws_FnIndexTells.bits13 : waitsOk laws_FnIndexTells.T13.2 laws_FnIndexTells.B13 = true := by kernel_rfl
theorem zif3 {a b c d e f : Int} (w' : World) : (if a = d then (if b = e then (if c = f then (Result.ok (Next.value (Value.bool true)) w') else Result.ok (Next.value (Value.bool false)) w') else Result.ok (Next.value (Value.bool false)) w') else Result.ok (Next.value (Value.bool false)) w') = Result.ok (Next.value (Value.bool (a == d && (b == e && c == f)))) w' := by
 by_cases h1 : a = d <;> by_cases h2 : b = e <;> by_cases h3 : c = f <;> simp [h1, h2, h3]
set_option maxHeartbeats 8000000 in
set_option maxRecDepth 100000 in
theorem laws_FnIndexTells.calls (k : Nat) (A0 : Option Addr) (c0 : Nat) (l0 : List Int) (r : Bool) (w : World) (hr0 : Kd.C (Kd.int .u8) w A0 l0.length l0) (hc0 : l0.length ≤ c0) (hLD : LaidW w) (h : laws_FnIndexTells.f k l0 = some r) :
  Calls Tryd.prog 4 #[.slice A0 l0.length c0] w fun e w' => e = .returned (.bool r) ∧ Below w.heap.size w w' := by
 have hu25 := Tryd.underlying25; have hu31 := Tryd.underlying31; have hu40 := Tryd.underlying40; have HR0 := aM hr0; have HC0 := aM hc0; clear hr0 hc0; have HB := aM (Below.refl w.heap.size w); have HLD := aM hLD; clear hLD; have H : (if (l0.length : Int) > 1048576 then (some true) else ((spec_DrawIndexHas.f k l0).bind fun bt479 => ((spec_IndexHas.f k bt479.1 bt479.2.1 bt479.2.2.1 bt479.2.2.2).bind fun bt486 => ((impl_IndexHas.f k bt479.1 bt479.2.1 bt479.2.2.1 bt479.2.2.2).bind fun bt496 => (if (bt496.2.2.2.2 != bt486.2.2.2.2) = true then (laws_FnIndexTells.j0 k bt479.2.2.2 bt486.2.2.2.2 bt496.2.2.2.2 true bt479.1 bt479.2.1 bt479.2.2.1 bt486.1 bt486.2.1 bt486.2.2.1 bt486.2.2.2.1 bt496.1 bt496.2.1 bt496.2.2.1 bt496.2.2.2.1) else ((laws_luPkg.f k bt496.1 bt496.2.1 bt496.2.2.1 bt496.2.2.2.1 bt486.1 bt486.2.1 bt486.2.2.1 bt486.2.2.2.1).bind fun t506 => (if t506 = true then ((spec_IndexOk.f k bt479.1 bt479.2.1 bt479.2.2.1).bind fun t507 => (laws_FnIndexTells.j0 k bt479.2.2.2 bt486.2.2.2.2 bt496.2.2.2.2 (!t507) bt479.1 bt479.2.1 bt479.2.2.1 bt486.1 bt486.2.1 bt486.2.2.1 bt486.2.2.2.1 bt496.1 bt496.2.1 bt496.2.2.1 bt496.2.2.2.1)) else (laws_FnIndexTells.j0 k bt479.2.2.2 bt486.2.2.2.2 bt496.2.2.2.2 true bt479.1 bt479.2.1 bt479.2.2.1 bt486.1 bt486.2.1 bt486.2.2.1 bt486.2.2.2.1 bt496.1 bt496.2.1 bt496.2.2.1 bt496.2.2.2.1)))))))) = some r := h; clear h
 by_cases c2 : (l0.length : Int) > 1048576
 ·rw [if_pos c2] at H; have c2b0 : decide (1048576 < (l0.length : Int)) = true := decide_eq_true c2; have c2b1 : decide (1048576 < l0.length) = true := decide_eq_true (by omega); clear c2; obtain rfl := Option.some.inj H
  go_enter Tryd.func4, Tryd.ntmps4
  go_wp2
  go_ret
  exact ⟨by first | rfl | (simp [errW_none, errW_some] <;> rfl) | (simp [*, errW_none, errW_some] <;> rfl), by exact zB HB.1⟩
 ·rw [if_neg c2] at H; have c2b0 : decide (1048576 < (l0.length : Int)) = false := decide_eq_false c2; have c2b1 : decide (1048576 < l0.length) = false := decide_eq_false (by omega); clear c2; replace H := Option.bind_eq_some_iff.mp H; obtain ⟨⟨t479, t480, t481, t484⟩, A30, H⟩ := H; (try dsimp only at H); have A3 := aM A30; clear A30; replace H := Option.bind_eq_some_iff.mp H; obtain ⟨⟨t486, t487, t488, t491, t494⟩, A40, H⟩ := H; (try dsimp only at H); have A4 := aM A40; clear A40; replace H := Option.bind_eq_some_iff.mp H; obtain ⟨⟨t496, t497, t498, t501, t504⟩, A50, H⟩ := H; (try dsimp only at H); have A5 := aM A50; clear A50; have HC6 := aM H; clear H
  go_enter Tryd.func4, Tryd.ntmps4
  go_upto_region 6 with (first | ((with_reducible refine gate_callee (f := 13) rfl ?_); refine zgL (some 18) Tryd.func13 #[.slice A0 l0.length c0] ?_; (with_reducible refine (spec_DrawIndexHas.calls k _ _ l0 t479 t480 t481 t484 _ ?side1 ?side2 A3.1).mono ?_); (case side1 => repeat (first | exact HR0.1 | (with_reducible refine Kd.C_alloc ?_ _) | (with_reducible refine Kd.C_drewN ?_ _) | (with_reducible refine Kd.C_drew ?_))); (case side2 => exact HC0.1); rintro e w7 ⟨v482, rfl, ho0, hb⟩; refine ⟨_, rfl, ?_⟩; have _ := aM (Kd.R_lower ho0 (below_size (zB HB.1))); have _ := aM (below_step (zB HB.1) hb); clear HB; rename_i HO483 HB; (try clear hb); (try clear hb2); (try clear hk); (try clear hi); (try clear ho0)) | ((with_reducible refine gate_dst (N := 3) rfl ?_); refine zbx 3 #[.int .i64 0, .int .i64 0, .slice none 0 0] 25 ?_; intro gb485 hg w8 hbox hb; have _ := aM (Kd.R_below (zR HO483.1) hb); have _ := aM (below_step (zB HB.1) hb); have _ := aM (hbox); have _ := aM (zge hg (zB HB.1)); have _ := aM (zge hg (zB HB.1)); clear HO483 HB; rename_i HO483 HB BK485 GW485 GE485; clear hb hbox hg; obtain ⟨hcz9_0, hcz9_1, hcz9_2, hfz9_0, hfz9_1, hfz9_2⟩ := zc3f BK485.1; obtain ⟨Ao10, co10, eo10⟩ := Kd.R_slice HO483.1; subst eo10) | ((with_reducible refine gate_callee (f := 14) rfl ?_); refine zgL (some 24) Tryd.func14 #[.agg #[.int .i64 t479, .int .i64 t480, .slice Ao10 t481.length co10], .string t484] ?_; (with_reducible refine (spec_IndexHas.calls k t479 t480 _ _ t481 t484 t486 t487 t488 t491 t494 _ ?side1 ?side2 A4.1).mono ?_); (case side1 => refine (Kd.R_reads' (e := 40) (base := w.heap.size) (ok := fun k_ => True) (n := t481.length) (c := co10) ?_).2.2; exact zT HO483.1 BK485.1 (by decide)); (case side2 => exact (Kd.R_reads' HO483.1).2.1); rintro e w11 ⟨v489, v492, rfl, ho0, ho1, hb⟩; refine ⟨_, rfl, ?_⟩; have _ := aM (Kd.R_below (zT HO483.1 BK485.1 (by decide)) hb); have _ := aM (Kd.R_lower ho0 (below_size (zB1 HB.1 GE485.1))); have _ := aM (Kd.R_lower ho1 (below_size (zB1 HB.1 GE485.1))); have _ := aM (blk_below (g := gb485) (o := .cells #[.int .i64 t479, .int .i64 t480, .slice Ao10 t481.length co10] 25 (0, 0)) (by exact zP BK485.1 (by rfl)) hb); have _ := aM (below_step (zB1 HB.1 GE485.1) hb); clear HO483 BK485 HB; rename_i HO483 HO490 HO493 BK485 HB; (try clear hb); (try clear hb2); (try clear hk); (try clear hi); (try clear ho0); (try clear ho1)) | ((with_reducible refine gate_dst (N := 5) rfl ?_); refine zbx 5 #[.int .i64 0, .int .i64 0, .slice none 0 0, .slice none 0 0] 31 ?_; intro gb495 hg w12 hbox hb; have _ := aM (Kd.R_below (zR HO483.1) hb); have _ := aM (Kd.R_below (zR HO490.1) hb); have _ := aM (Kd.R_below (zR HO493.1) hb); have _ := aM (blk_below (zK BK485.1) hb); have _ := aM (below_step (zB1 HB.1 GE485.1) hb); have _ := aM (hbox); have _ := aM (zge hg (zB1 HB.1 GE485.1)); have _ := aM (zge hg (zB1 HB.1 GE485.1)); have _ := aM (znl hg (zK BK485.1)); have _ := aM (zng hg (zK BK485.1)); clear HO483 HO490 HO493 BK485 HB; rename_i HO483 HO490 HO493 BK485 HB BK495 GW495 GE495 NB485_495 NB495_485; clear hb hbox hg; have hnb13 := NB495_485.1; have hnc13 := NB485_495.1; obtain ⟨hcz14_0, hcz14_1, hcz14_2, hcz14_3, hfz14_0, hfz14_1, hfz14_2, hfz14_3⟩ := zc4f BK495.1; obtain ⟨Ao15, co15, eo15⟩ := Kd.R_slice HO490.1; subst eo15; obtain ⟨Ao16, co16, eo16⟩ := Kd.R_slice HO493.1; subst eo16; obtain ⟨hcz17_0, hcz17_1, hcz17_2, hfz17_0, hfz17_1, hfz17_2⟩ := zc3f BK485.1) | ((with_reducible refine gate_callee (f := 15) rfl ?_); refine zgL (some 30) Tryd.func15 #[.agg #[.int .i64 t479, .int .i64 t480, .slice Ao10 t481.length co10], .string t484] ?_; (with_reducible refine (impl_IndexHas.calls k t479 t480 _ _ t481 t484 t496 t497 t498 t501 t504 _ ?side1 ?side2 ?sideL A5.1).mono ?_); (case sideL => exact HLD.1.on (zB2 HB.1 GE485.1 GE495.1)); (case side1 => refine (Kd.R_reads' (e := 40) (base := w.heap.size) (ok := fun k_ => True) (n := t481.length) (c := co10) ?_).2.2; exact zT HO483.1 BK495.1 (by decide)); (case side2 => exact (Kd.R_reads' HO483.1).2.1); rintro e w18 ⟨v499, v502, rfl, ho0, ho1, hb⟩; refine ⟨_, rfl, ?_⟩; have _ := aM (Kd.R_below (zT HO483.1 BK495.1 (by decide)) hb); have _ := aM (Kd.R_elder' (zT HO490.1 BK495.1 (by decide)) (Kd.R_base ho0) hb); have _ := aM (Kd.R_elder' (zT HO493.1 BK495.1 (by decide)) (Kd.R_base ho1) hb); have _ := aM (Kd.R_lower (Kd.R_new' ho0 (Kd.R_lt (zT HO490.1 BK495.1 (by decide)))) (below_size (zB2 HB.1 GE485.1 GE495.1))); have _ := aM (Kd.R_lower (Kd.R_new' ho1 (Kd.R_lt (zT HO493.1 BK495.1 (by decide)))) (below_size (zB2 HB.1 GE485.1 GE495.1))); have _ := aM (blk_below (zK1 BK485.1 NB485_495.1) hb); have _ := aM (blk_below (g := gb495) (o := .cells #[.int .i64 t486, .int .i64 t487, .slice Ao15 t488.length co15, .slice Ao16 t491.length co16] 31 (0, 0)) (by exact zP BK495.1 (by rfl)) hb); have _ := aM (below_step (zB2 HB.1 GE485.1 GE495.1) hb); clear HO483 HO490 HO493 BK485 BK495 HB; rename_i HO483 HO490 HO493 HO500 HO503 BK485 BK495 HB; (try clear hb); (try clear hb2); (try clear hk); (try clear hi); (try clear ho0); (try clear ho1)) | ((with_reducible refine gate_dst (N := 7) rfl ?_); refine zbx 7 #[.int .i64 0, .int .i64 0, .slice none 0 0, .slice none 0 0] 31 ?_; intro gb505 hg w19 hbox hb; have _ := aM (Kd.R_below (zR HO483.1) hb); have _ := aM (Kd.R_below (zR HO490.1) hb); have _ := aM (Kd.R_below (zR HO493.1) hb); have _ := aM (Kd.R_below (zR HO500.1) hb); have _ := aM (Kd.R_below (zR HO503.1) hb); have _ := aM (blk_below (zK BK485.1) hb); have _ := aM (blk_below (zK BK495.1) hb); have _ := aM (below_step (zB2 HB.1 GE485.1 GE495.1) hb); have _ := aM (hbox); have _ := aM (zge hg (zB2 HB.1 GE485.1 GE495.1)); have _ := aM (zge hg (zB2 HB.1 GE485.1 GE495.1)); have _ := aM (znl hg (zK BK485.1)); have _ := aM (zng hg (zK BK485.1)); have _ := aM (znl hg (zK BK495.1)); have _ := aM (zng hg (zK BK495.1)); clear HO483 HO490 HO493 HO500 HO503 BK485 BK495 HB; rename_i HO483 HO490 HO493 HO500 HO503 BK485 BK495 HB BK505 GW505 GE505 NB485_505 NB505_485 NB495_505 NB505_495; clear hb hbox hg; have hnb20 := NB505_485.1; have hnc20 := NB485_505.1; have hnb21 := NB505_495.1; have hnc21 := NB495_505.1; obtain ⟨hcz22_0, hcz22_1, hcz22_2, hcz22_3, hfz22_0, hfz22_1, hfz22_2, hfz22_3⟩ := zc4f BK505.1; obtain ⟨Ao23, co23, eo23⟩ := Kd.R_slice HO500.1; subst eo23; obtain ⟨Ao24, co24, eo24⟩ := Kd.R_slice HO503.1; subst eo24))
  (try simp only [zp0, zp1, zp2, zp3, zp4])
  go_cut [46] (fun v46 wc => ∃ (kq : Nat) (x46_5 : Bool), v46 = .bool x46_5 ∧ Aside0 (laws_FnIndexTells.j0 kq t484 t494 t504 x46_5 t479 t480 t481 t486 t487 t488 t491 t496 t497 t498 t501 = some r) ∧ Aside0 (kq ≤ k) ∧ Aside0 (Kd.R k40 40 wc w.heap.size (fun _ => True) (.slice Ao10 t481.length co10) t481) ∧ Aside0 (Kd.R k67 67 wc w.heap.size (fun k_ => some k_ ≠ ((.slice Ao23 t498.length co23) : Value).ownBlock) (.slice Ao15 t488.length co15) t488) ∧ Aside0 (Kd.R k69 69 wc w.heap.size (fun k_ => some k_ ≠ ((.slice Ao24 t501.length co24) : Value).ownBlock) (.slice Ao16 t491.length co16) t491) ∧ Aside0 (Kd.R k67 67 wc w.heap.size (fun k_ => some k_ ≠ ((.slice Ao15 t488.length co15) : Value).ownBlock) (.slice Ao23 t498.length co23) t498) ∧ Aside0 (Kd.R k69 69 wc w.heap.size (fun k_ => some k_ ≠ ((.slice Ao16 t491.length co16) : Value).ownBlock) (.slice Ao24 t501.length co24) t501) ∧ Aside0 (wc.heap[gb485]? = some (.cells #[.int .i64 t479, .int .i64 t480, (.slice Ao10 t481.length co10)] 25 (0, 0))) ∧ Aside0 (wc.heap[gb495]? = some (.cells #[.int .i64 t486, .int .i64 t487, (.slice Ao15 t488.length co15), (.slice Ao16 t491.length co16)] 31 (0, 0))) ∧ Aside0 (wc.heap[gb505]? = some (.cells #[.int .i64 t496, .int .i64 t497, (.slice Ao23 t498.length co23), (.slice Ao24 t501.length co24)] 31 (0, 0))) ∧ Aside0 (Below w.heap.size w wc))
  case first =>
   have H := HC6.1; clear HC6
   by_cases c25 : (t504 != t494) = true
   ·rw [if_pos c25] at H; have c25b0 : (t504 != t494) = true := c25; (try (have c25b1 : decide (t504 = t494) = false := by simpa using c25)); (try (have c25b2 : (t504 == t494) = false := by simpa using c25)); (try (have c25b3 : ¬ (t504 = t494) := by simpa using c25)); clear c25; (first | rw [c25b0] | (simp only [i64_w, i32_w]; rw [c25b0]) | skip); have H' := aM H; clear H
    go_wp2
    go_meet
    case rel => exact ⟨_, (true), (by first | rfl | (simp; done) | (simp [*]; done)), H', ⟨by first | omega | exact Nat.le_refl _⟩, ⟨by exact (Kd.R_mono (zFR (g := gb505) (Kd.R_types HO483.1 BK505.1 (by decide)) (fun _ hk => hk.2)) (fun _ hk => trivial))⟩, ⟨by exact (Kd.R_mono (zFR (g := gb505) (Kd.R_types HO490.1 BK505.1 (by decide)) (fun _ hk => hk.2)) (fun _ hk => hk.1.2))⟩, ⟨by exact (Kd.R_mono (zFR (g := gb505) (Kd.R_types HO493.1 BK505.1 (by decide)) (fun _ hk => hk.2)) (fun _ hk => hk.1.2))⟩, ⟨by exact (Kd.R_mono (zFR (g := gb505) (Kd.R_types HO500.1 BK505.1 (by decide)) (fun _ hk => hk.2)) (fun _ hk => hk.1.2))⟩, ⟨by exact (Kd.R_mono (zFR (g := gb505) (Kd.R_types HO503.1 BK505.1 (by decide)) (fun _ hk => hk.2)) (fun _ hk => hk.1.2))⟩, ⟨zK1 BK485.1 NB485_505.1⟩, ⟨zK1 BK495.1 NB495_505.1⟩, ⟨by exact zP BK505.1 (by rfl)⟩, ⟨zB3 HB.1 GE485.1 GE495.1 GE505.1⟩⟩
   ·rw [if_neg c25] at H
    have c25b0 : (t504 != t494) = false := by simpa using c25
    (try (have c25b1 : decide (t504 = t494) = true := by simpa using c25)); (try (have c25b2 : (t504 == t494) = true := by simpa using c25)); clear c25; (first | rw [c25b0] | (simp only [i64_w, i32_w]; rw [c25b0]) | skip); replace H := Option.bind_eq_some_iff.mp H; obtain ⟨t506, A260, H⟩ := H; (try dsimp only at H); have A26 := aM A260; clear A260
    by_cases c27 : t506 = true
    ·subst c27; replace H := zy1 H; replace H := Option.bind_eq_some_iff.mp H; obtain ⟨t507, A280, H⟩ := H; (try dsimp only at H); have A28 := aM A280; clear A280; have H' := aM H; clear H; have hnb29 := NB505_485.1; have hnc29 := NB485_505.1; have hnb30 := NB505_495.1; have hnc30 := NB495_505.1; obtain ⟨hcz31_0, hcz31_1, hcz31_2, hcz31_3, hfz31_0, hfz31_1, hfz31_2, hfz31_3⟩ := zc4f BK505.1; have hnb32 := NB495_485.1; have hnc32 := NB485_495.1; obtain ⟨hcz33_0, hcz33_1, hcz33_2, hcz33_3, hfz33_0, hfz33_1, hfz33_2, hfz33_3⟩ := zc4f BK495.1
     go_wp2_with (first | (go_at_call 16; (with_reducible refine (laws_luPkg.calls k t496 t497 _ _ t498 _ _ t501 t486 t487 _ _ t488 _ _ t491 true _ ?side1 ?side2 ?side3 ?side4 ?side5 ?side6 ?side7 ?side8 A26.1).mono ?_); (case side1 => refine (Kd.R_reads' (e := 67) (base := w.heap.size) (ok := fun k_ => (True ∧ some k_ ≠ (.slice Ao15 t488.length co15 : Value).ownBlock)) (n := t498.length) (c := co23) ?_).2.2; exact zT HO500.1 BK505.1 (by decide)); (case side2 => exact (Kd.R_reads' HO500.1).2.1); (case side3 => refine (Kd.R_reads' (e := 69) (base := w.heap.size) (ok := fun k_ => (True ∧ some k_ ≠ (.slice Ao16 t491.length co16 : Value).ownBlock)) (n := t501.length) (c := co24) ?_).2.2; exact zT HO503.1 BK505.1 (by decide)); (case side4 => exact (Kd.R_reads' HO503.1).2.1); (case side5 => refine (Kd.R_reads' (e := 67) (base := w.heap.size) (ok := fun k_ => (True ∧ some k_ ≠ (.slice Ao23 t498.length co23 : Value).ownBlock)) (n := t488.length) (c := co15) ?_).2.2; exact zT HO490.1 BK505.1 (by decide)); (case side6 => exact (Kd.R_reads' HO490.1).2.1); (case side7 => refine (Kd.R_reads' (e := 69) (base := w.heap.size) (ok := fun k_ => (True ∧ some k_ ≠ (.slice Ao24 t501.length co24 : Value).ownBlock)) (n := t491.length) (c := co16) ?_).2.2; exact zT HO493.1 BK505.1 (by decide)); (case side8 => exact (Kd.R_reads' HO493.1).2.1); rintro e w34 ⟨rfl, hb⟩; have _ := aM (Kd.R_below (zT HO483.1 BK505.1 (by decide)) hb); have _ := aM (Kd.R_below (zT HO490.1 BK505.1 (by decide)) hb); have _ := aM (Kd.R_below (zT HO493.1 BK505.1 (by decide)) hb); have _ := aM (Kd.R_below (zT HO500.1 BK505.1 (by decide)) hb); have _ := aM (Kd.R_below (zT HO503.1 BK505.1 (by decide)) hb); have _ := aM (blk_below (zK1 BK485.1 NB485_505.1) hb); have _ := aM (blk_below (zK1 BK495.1 NB495_505.1) hb); have _ := aM (blk_below (g := gb505) (o := .cells #[.int .i64 t496, .int .i64 t497, .slice Ao23 t498.length co23, .slice Ao24 t501.length co24] 31 (0, 0)) (by exact zP BK505.1 (by rfl)) hb); have _ := aM (below_step (zB3 HB.1 GE485.1 GE495.1 GE505.1) hb); clear HO483 HO490 HO493 HO500 HO503 BK485 BK495 BK505 HB; rename_i HO483 HO490 HO493 HO500 HO503 BK485 BK495 BK505 HB; (try clear hb); (try clear hb2); (try clear hk); (try clear hi); obtain ⟨hcz35_0, hcz35_1, hcz35_2, hfz35_0, hfz35_1, hfz35_2⟩ := zc3f BK485.1) | (go_at_call 18; (with_reducible refine (spec_IndexOk.calls k t479 t480 _ _ t481 t507 _ ?side1 ?side2 A28.1).mono ?_); (case side1 => exact zC (Kd.R_reads' HO483.1).2.2); (case side2 => exact (Kd.R_reads' HO483.1).2.1); rintro e w36 ⟨rfl, hb⟩; have _ := aM (Kd.R_below (zR HO483.1) hb); have _ := aM (Kd.R_below (zR HO490.1) hb); have _ := aM (Kd.R_below (zR HO493.1) hb); have _ := aM (Kd.R_below (zR HO500.1) hb); have _ := aM (Kd.R_below (zR HO503.1) hb); have _ := aM (blk_below (zK BK485.1) hb); have _ := aM (blk_below (zK BK495.1) hb); have _ := aM (blk_below (zK BK505.1) hb); have _ := aM (below_step (zB3 HB.1 GE485.1 GE495.1 GE505.1) hb); clear HO483 HO490 HO493 HO500 HO503 BK485 BK495 BK505 HB; rename_i HO483 HO490 HO493 HO500 HO503 BK485 BK495 BK505 HB; (try clear hb); (try clear hb2); (try clear hk); (try clear hi)))
     go_meet
     case rel => exact ⟨_, (!t507), (by first | rfl | (simp; done) | (simp [*]; done)), H', ⟨by first | omega | exact Nat.le_refl _⟩, ⟨zR HO483.1⟩, ⟨by exact zR (Kd.R_mono HO490.1 (fun _ hk => hk.2))⟩, ⟨by exact zR (Kd.R_mono HO493.1 (fun _ hk => hk.2))⟩, ⟨by exact zR (Kd.R_mono HO500.1 (fun _ hk => hk.2))⟩, ⟨by exact zR (Kd.R_mono HO503.1 (fun _ hk => hk.2))⟩, ⟨zK BK485.1⟩, ⟨zK BK495.1⟩, ⟨zK BK505.1⟩, ⟨zB3 HB.1 GE485.1 GE495.1 GE505.1⟩⟩
    ·replace c27 := Bool.eq_false_iff.mpr c27; subst c27; replace H := zy0 H; have H' := aM H; clear H; have hnb37 := NB505_485.1; have hnc37 := NB485_505.1; have hnb38 := NB505_495.1; have hnc38 := NB495_505.1; obtain ⟨hcz39_0, hcz39_1, hcz39_2, hcz39_3, hfz39_0, hfz39_1, hfz39_2, hfz39_3⟩ := zc4f BK505.1; have hnb40 := NB495_485.1; have hnc40 := NB485_495.1; obtain ⟨hcz41_0, hcz41_1, hcz41_2, hcz41_3, hfz41_0, hfz41_1, hfz41_2, hfz41_3⟩ := zc4f BK495.1
     go_wp2_with (first | (go_at_call 16; (with_reducible refine (laws_luPkg.calls k t496 t497 _ _ t498 _ _ t501 t486 t487 _ _ t488 _ _ t491 false _ ?side1 ?side2 ?side3 ?side4 ?side5 ?side6 ?side7 ?side8 A26.1).mono ?_); (case side1 => refine (Kd.R_reads' (e := 67) (base := w.heap.size) (ok := fun k_ => (True ∧ some k_ ≠ (.slice Ao15 t488.length co15 : Value).ownBlock)) (n := t498.length) (c := co23) ?_).2.2; exact zT HO500.1 BK505.1 (by decide)); (case side2 => exact (Kd.R_reads' HO500.1).2.1); (case side3 => refine (Kd.R_reads' (e := 69) (base := w.heap.size) (ok := fun k_ => (True ∧ some k_ ≠ (.slice Ao16 t491.length co16 : Value).ownBlock)) (n := t501.length) (c := co24) ?_).2.2; exact zT HO503.1 BK505.1 (by decide)); (case side4 => exact (Kd.R_reads' HO503.1).2.1); (case side5 => refine (Kd.R_reads' (e := 67) (base := w.heap.size) (ok := fun k_ => (True ∧ some k_ ≠ (.slice Ao23 t498.length co23 : Value).ownBlock)) (n := t488.length) (c := co15) ?_).2.2; exact zT HO490.1 BK505.1 (by decide)); (case side6 => exact (Kd.R_reads' HO490.1).2.1); (case side7 => refine (Kd.R_reads' (e := 69) (base := w.heap.size) (ok := fun k_ => (True ∧ some k_ ≠ (.slice Ao24 t501.length co24 : Value).ownBlock)) (n := t491.length) (c := co16) ?_).2.2; exact zT HO493.1 BK505.1 (by decide)); (case side8 => exact (Kd.R_reads' HO493.1).2.1); rintro e w42 ⟨rfl, hb⟩; have _ := aM (Kd.R_below (zT HO483.1 BK505.1 (by decide)) hb); have _ := aM (Kd.R_below (zT HO490.1 BK505.1 (by decide)) hb); have _ := aM (Kd.R_below (zT HO493.1 BK505.1 (by decide)) hb); have _ := aM (Kd.R_below (zT HO500.1 BK505.1 (by decide)) hb); have _ := aM (Kd.R_below (zT HO503.1 BK505.1 (by decide)) hb); have _ := aM (blk_below (zK1 BK485.1 NB485_505.1) hb); have _ := aM (blk_below (zK1 BK495.1 NB495_505.1) hb); have _ := aM (blk_below (g := gb505) (o := .cells #[.int .i64 t496, .int .i64 t497, .slice Ao23 t498.length co23, .slice Ao24 t501.length co24] 31 (0, 0)) (by exact zP BK505.1 (by rfl)) hb); have _ := aM (below_step (zB3 HB.1 GE485.1 GE495.1 GE505.1) hb); clear HO483 HO490 HO493 HO500 HO503 BK485 BK495 BK505 HB; rename_i HO483 HO490 HO493 HO500 HO503 BK485 BK495 BK505 HB; (try clear hb); (try clear hb2); (try clear hk); (try clear hi)))
     go_meet
     case rel => exact ⟨_, (true), (by first | rfl | (simp; done) | (simp [*]; done)), H', ⟨by first | omega | exact Nat.le_refl _⟩, ⟨zR HO483.1⟩, ⟨by exact zR (Kd.R_mono HO490.1 (fun _ hk => hk.2))⟩, ⟨by exact zR (Kd.R_mono HO493.1 (fun _ hk => hk.2))⟩, ⟨by exact zR (Kd.R_mono HO500.1 (fun _ hk => hk.2))⟩, ⟨by exact zR (Kd.R_mono HO503.1 (fun _ hk => hk.2))⟩, ⟨zK BK485.1⟩, ⟨zK BK495.1⟩, ⟨zK BK505.1⟩, ⟨zB3 HB.1 GE485.1 GE495.1 GE505.1⟩⟩
  case rest =>
   clear HC6
   try clear c1
   try clear c2
   try clear c2b0
   try clear c2b1
   try clear p2
   try clear c3
   try clear c4
   try clear c13
   try clear c14
   try clear c15
   try clear c20
   try clear c21
   try clear c25
   try clear c25b0
   try clear c25b1
   try clear c25b2
   try clear c27
   try clear c29
   try clear c30
   try clear c32
   try clear c37
   try clear c38
   try clear c40
   try clear hcz14_0
   try clear hcz14_1
   try clear hcz14_2
   try clear hcz14_3
   try clear hcz17_0
   try clear hcz17_1
   try clear hcz17_2
   try clear hcz22_0
   try clear hcz22_1
   try clear hcz22_2
   try clear hcz22_3
   try clear hcz31_0
   try clear hcz31_1
   try clear hcz31_2
   try clear hcz31_3
   try clear hcz33_0
   try clear hcz33_1
   try clear hcz33_2
   try clear hcz33_3
   try clear hcz35_0
   try clear hcz35_1
   try clear hcz35_2
   try clear hcz39_0
   try clear hcz39_1
   try clear hcz39_2
   try clear hcz39_3
   try clear hcz41_0
   try clear hcz41_1
   try clear hcz41_2
   try clear hcz41_3
   try clear hcz9_0
   try clear hcz9_1
   try clear hcz9_2
   try clear hfz14_0
   try clear hfz14_1
   try clear hfz14_2
   try clear hfz14_3
   try clear hfz17_0
   try clear hfz17_1
   try clear hfz17_2
   try clear hfz22_0
   try clear hfz22_1
   try clear hfz22_2
   try clear hfz22_3
   try clear hfz31_0
   try clear hfz31_1
   try clear hfz31_2
   try clear hfz31_3
   try clear hfz33_0
   try clear hfz33_1
   try clear hfz33_2
   try clear hfz33_3
   try clear hfz35_0
   try clear hfz35_1
   try clear hfz35_2
   try clear hfz39_0
   try clear hfz39_1
   try clear hfz39_2
   try clear hfz39_3
   try clear hfz41_0
   try clear hfz41_1
   try clear hfz41_2
   try clear hfz41_3
   try clear hfz9_0
   try clear hfz9_1
   try clear hfz9_2
   obtain ⟨kq, x46_5, rfl, HA, HJ5, HO_486002, HO_496002, HO_496003, HO_506002, HO_506003, BK485, BK495, BK505, HB⟩ := hcut; cases kq with
   | zero => exact absurd HA.1 (by simp [laws_FnIndexTells.j0])
   | succ kj5 =>
    have H := HA.1; clear HA; simp only [laws_FnIndexTells.j0] at H
    by_cases c43 : x46_5 = true
    ·subst c43; replace H := zy1 H; replace H := zif H; obtain ⟨c44, H⟩ := H; have c44b0 : (t504 == t494) = true := c44; (try (have c44b1 : decide (t504 = t494) = true := by simpa using c44)); (try (have c44b2 : (t504 == t494) = true := by simpa using c44)); clear c44; replace H := Option.bind_eq_some_iff.mp H; obtain ⟨t508, A450, H⟩ := H; (try dsimp only at H); have A45 := aM A450; clear A450; obtain rfl := Option.some.inj H; have hnb46 := NB505_485.1; have hnc46 := NB485_505.1; have hnb47 := NB505_495.1; have hnc47 := NB495_505.1; obtain ⟨hcz48_0, hcz48_1, hcz48_2, hcz48_3, hfz48_0, hfz48_1, hfz48_2, hfz48_3⟩ := zc4f BK505.1; have hnb49 := NB495_485.1; have hnc49 := NB485_495.1; obtain ⟨hcz50_0, hcz50_1, hcz50_2, hcz50_3, hfz50_0, hfz50_1, hfz50_2, hfz50_3⟩ := zc4f BK495.1
     go_wp2_with (first | (go_at_call 16; (with_reducible refine (laws_luPkg.calls kj5 t496 t497 _ _ t498 _ _ t501 t486 t487 _ _ t488 _ _ t491 t508 _ ?side1 ?side2 ?side3 ?side4 ?side5 ?side6 ?side7 ?side8 A45.1).mono ?_); (case side1 => exact zC (Kd.R_reads' HO_506002.1).2.2); (case side2 => exact (Kd.R_reads' HO_506002.1).2.1); (case side3 => exact zC (Kd.R_reads' HO_506003.1).2.2); (case side4 => exact (Kd.R_reads' HO_506003.1).2.1); (case side5 => exact zC (Kd.R_reads' HO_496002.1).2.2); (case side6 => exact (Kd.R_reads' HO_496002.1).2.1); (case side7 => exact zC (Kd.R_reads' HO_496003.1).2.2); (case side8 => exact (Kd.R_reads' HO_496003.1).2.1); rintro e w51 ⟨rfl, hb⟩; have _ := aM (Kd.R_below (zR HO_486002.1) hb); have _ := aM (Kd.R_below (zR HO_496002.1) hb); have _ := aM (Kd.R_below (zR HO_496003.1) hb); have _ := aM (Kd.R_below (zR HO_506002.1) hb); have _ := aM (Kd.R_below (zR HO_506003.1) hb); have _ := aM (blk_below (zK BK485.1) hb); have _ := aM (blk_below (zK BK495.1) hb); have _ := aM (blk_below (zK BK505.1) hb); have _ := aM (below_step (zB3 HB.1 GE485.1 GE495.1 GE505.1) hb); clear HO_486002 HO_496002 HO_496003 HO_506002 HO_506003 BK485 BK495 BK505 HB; rename_i HO_486002 HO_496002 HO_496003 HO_506002 HO_506003 BK485 BK495 BK505 HB; (try clear hb); (try clear hb2); (try clear hk); (try clear hi)))
     go_ret
     exact ⟨by first | rfl | (simp [errW_none, errW_some] <;> rfl) | (simp [*, errW_none, errW_some] <;> rfl), by exact zB3 HB.1 GE485.1 GE495.1 GE505.1⟩
    ·replace c43 := Bool.eq_false_iff.mpr c43; subst c43; replace H := zy0 H; replace H := Option.bind_eq_some_iff.mp H; obtain ⟨⟨t509, t510, t511, t514, t517⟩, A520, H⟩ := H; (try dsimp only at H); have A52 := aM A520; clear A520; have H' := aM H; clear H
     go_wp2_with (first | ((with_reducible refine gate_callee (f := 19) rfl ?_); refine zgL (some 57) Tryd.func19 #[.string t484] ?_; (with_reducible refine (impl_PkgRead.calls kj5 t484 t509 t510 t511 t514 t517 _ ?sideL A52.1).mono ?_); (case sideL => exact HLD.1.on (zB3 HB.1 GE485.1 GE495.1 GE505.1)); rintro e w53 ⟨v512, v515, rfl, ho0, ho1, hb⟩; refine ⟨_, rfl, ?_⟩; have _ := aM (Kd.R_below (zR HO_486002.1) hb); have _ := aM (Kd.R_elder' (zR HO_496002.1) (Kd.R_base ho0) hb); have _ := aM (Kd.R_elder' (zR HO_496003.1) (Kd.R_base ho1) hb); have _ := aM (Kd.R_elder' (zR HO_506002.1) (Kd.R_base ho0) hb); have _ := aM (Kd.R_elder' (zR HO_506003.1) (Kd.R_base ho1) hb); have _ := aM (Kd.R_lower (Kd.R_new' (Kd.R_new' ho0 (Kd.R_lt (zR HO_496002.1))) (Kd.R_lt (zR HO_506002.1))) (below_size (zB3 HB.1 GE485.1 GE495.1 GE505.1))); have _ := aM (Kd.R_lower (Kd.R_new' (Kd.R_new' ho1 (Kd.R_lt (zR HO_496003.1))) (Kd.R_lt (zR HO_506003.1))) (below_size (zB3 HB.1 GE485.1 GE495.1 GE505.1))); have _ := aM (blk_below (zK BK485.1) hb); have _ := aM (blk_below (zK BK495.1) hb); have _ := aM (blk_below (zK BK505.1) hb); have _ := aM (below_step (zB3 HB.1 GE485.1 GE495.1 GE505.1) hb); clear HO_486002 HO_496002 HO_496003 HO_506002 HO_506003 BK485 BK495 BK505 HB; rename_i HO_486002 HO_496002 HO_496003 HO_506002 HO_506003 HO513 HO516 BK485 BK495 BK505 HB; (try clear hb); (try clear hb2); (try clear hk); (try clear hi); (try clear ho0); (try clear ho1)) | ((with_reducible refine gate_dst (N := 9) rfl ?_); refine zbx 9 #[.int .i64 0, .int .i64 0, .slice none 0 0, .slice none 0 0] 31 ?_; intro gb518 hg w54 hbox hb; have _ := aM (Kd.R_below (zR HO_486002.1) hb); have _ := aM (Kd.R_below (zR HO_496002.1) hb); have _ := aM (Kd.R_below (zR HO_496003.1) hb); have _ := aM (Kd.R_below (zR HO_506002.1) hb); have _ := aM (Kd.R_below (zR HO_506003.1) hb); have _ := aM (Kd.R_below (zR HO513.1) hb); have _ := aM (Kd.R_below (zR HO516.1) hb); have _ := aM (blk_below (zK BK485.1) hb); have _ := aM (blk_below (zK BK495.1) hb); have _ := aM (blk_below (zK BK505.1) hb); have _ := aM (below_step (zB3 HB.1 GE485.1 GE495.1 GE505.1) hb); have _ := aM (hbox); have _ := aM (zge hg (zB3 HB.1 GE485.1 GE495.1 GE505.1)); have _ := aM (zge hg (zB3 HB.1 GE485.1 GE495.1 GE505.1)); have _ := aM (znl hg (zK BK485.1)); have _ := aM (zng hg (zK BK485.1)); have _ := aM (znl hg (zK BK495.1)); have _ := aM (zng hg (zK BK495.1)); have _ := aM (znl hg (zK BK505.1)); have _ := aM (zng hg (zK BK505.1)); clear HO_486002 HO_496002 HO_496003 HO_506002 HO_506003 HO513 HO516 BK485 BK495 BK505 HB; rename_i HO_486002 HO_496002 HO_496003 HO_506002 HO_506003 HO513 HO516 BK485 BK495 BK505 HB BK518 GW518 GE518 NB485_518 NB518_485 NB495_518 NB518_495 NB505_518 NB518_505; clear hb hbox hg; have hnb55 := NB518_485.1; have hnc55 := NB485_518.1; have hnb56 := NB518_495.1; have hnc56 := NB495_518.1; have hnb57 := NB518_505.1; have hnc57 := NB505_518.1; obtain ⟨hcz58_0, hcz58_1, hcz58_2, hcz58_3, hfz58_0, hfz58_1, hfz58_2, hfz58_3⟩ := zc4f BK518.1; obtain ⟨Ao59, co59, eo59⟩ := Kd.R_slice HO513.1; subst eo59; obtain ⟨Ao60, co60, eo60⟩ := Kd.R_slice HO516.1; subst eo60))
     go_loopg [11, 12] kj5 (fun kq v11 v12 w' => ∃ (x11_2 : Bool) (x12_2 : Int), v11 = .bool x11_2 ∧ v12 = .int .i64 x12_2 ∧ Aside0 (laws_FnIndexTells.l0 kq t484 t504 t517 x11_2 x12_2 t479 t480 t481 t496 t497 t498 t501 t509 t510 t511 t514 = some r) ∧ Aside0 (kq ≤ kj5) ∧ Aside0 (Kd.R k40 40 w' w.heap.size (fun _ => True) (.slice Ao10 t481.length co10) t481) ∧ Aside0 (Kd.R k67 67 w' w.heap.size (fun k_ => some k_ ≠ ((.slice Ao23 t498.length co23) : Value).ownBlock ∧ some k_ ≠ ((.slice Ao59 t511.length co59) : Value).ownBlock) (.slice Ao15 t488.length co15) t488) ∧ Aside0 (Kd.R k69 69 w' w.heap.size (fun k_ => some k_ ≠ ((.slice Ao24 t501.length co24) : Value).ownBlock ∧ some k_ ≠ ((.slice Ao60 t514.length co60) : Value).ownBlock) (.slice Ao16 t491.length co16) t491) ∧ Aside0 (Kd.R k67 67 w' w.heap.size (fun k_ => some k_ ≠ ((.slice Ao15 t488.length co15) : Value).ownBlock ∧ some k_ ≠ ((.slice Ao59 t511.length co59) : Value).ownBlock) (.slice Ao23 t498.length co23) t498) ∧ Aside0 (Kd.R k69 69 w' w.heap.size (fun k_ => some k_ ≠ ((.slice Ao16 t491.length co16) : Value).ownBlock ∧ some k_ ≠ ((.slice Ao60 t514.length co60) : Value).ownBlock) (.slice Ao24 t501.length co24) t501) ∧ Aside0 (Kd.R k67 67 w' w.heap.size (fun k_ => some k_ ≠ ((.slice Ao15 t488.length co15) : Value).ownBlock ∧ some k_ ≠ ((.slice Ao23 t498.length co23) : Value).ownBlock) (.slice Ao59 t511.length co59) t511) ∧ Aside0 (Kd.R k69 69 w' w.heap.size (fun k_ => some k_ ≠ ((.slice Ao16 t491.length co16) : Value).ownBlock ∧ some k_ ≠ ((.slice Ao24 t501.length co24) : Value).ownBlock) (.slice Ao60 t514.length co60) t514) ∧ Aside0 (w'.heap[gb485]? = some (.cells #[.int .i64 t479, .int .i64 t480, (.slice Ao10 t481.length co10)] 25 (0, 0))) ∧ Aside0 (w'.heap[gb495]? = some (.cells #[.int .i64 t486, .int .i64 t487, (.slice Ao15 t488.length co15), (.slice Ao16 t491.length co16)] 31 (0, 0))) ∧ Aside0 (w'.heap[gb505]? = some (.cells #[.int .i64 t496, .int .i64 t497, (.slice Ao23 t498.length co23), (.slice Ao24 t501.length co24)] 31 (0, 0))) ∧ Aside0 (w'.heap[gb518]? = some (.cells #[.int .i64 t509, .int .i64 t510, (.slice Ao59 t511.length co59), (.slice Ao60 t514.length co60)] 31 (0, 0))) ∧ Aside0 (Below w.heap.size w w'))
     case atStart => exact ⟨(false), (0), (by first | rfl | (simp; done) | (simp [*]; done)), (by first | rfl | (simp; done) | (simp [*]; done)), H', ⟨Nat.le_refl _⟩, ⟨by exact (Kd.R_mono (zFR (g := gb518) (Kd.R_types HO_486002.1 BK518.1 (by decide)) (fun _ hk => hk.2)) (fun _ hk => trivial))⟩, ⟨by exact (Kd.R_mono (zFR (g := gb518) (Kd.R_types HO_496002.1 BK518.1 (by decide)) (fun _ hk => hk.2)) (fun _ hk => ⟨hk.1.1, hk.1.2⟩))⟩, ⟨by exact (Kd.R_mono (zFR (g := gb518) (Kd.R_types HO_496003.1 BK518.1 (by decide)) (fun _ hk => hk.2)) (fun _ hk => ⟨hk.1.1, hk.1.2⟩))⟩, ⟨by exact (Kd.R_mono (zFR (g := gb518) (Kd.R_types HO_506002.1 BK518.1 (by decide)) (fun _ hk => hk.2)) (fun _ hk => ⟨hk.1.1, hk.1.2⟩))⟩, ⟨by exact (Kd.R_mono (zFR (g := gb518) (Kd.R_types HO_506003.1 BK518.1 (by decide)) (fun _ hk => hk.2)) (fun _ hk => ⟨hk.1.1, hk.1.2⟩))⟩, ⟨by exact (Kd.R_mono (zFR (g := gb518) (Kd.R_types HO513.1 BK518.1 (by decide)) (fun _ hk => hk.2)) (fun _ hk => ⟨hk.1.1.2, hk.1.2⟩))⟩, ⟨by exact (Kd.R_mono (zFR (g := gb518) (Kd.R_types HO516.1 BK518.1 (by decide)) (fun _ hk => hk.2)) (fun _ hk => ⟨hk.1.1.2, hk.1.2⟩))⟩, ⟨zK1 BK485.1 NB485_518.1⟩, ⟨zK1 BK495.1 NB495_518.1⟩, ⟨zK1 BK505.1 NB505_518.1⟩, ⟨by exact zP BK518.1 (by rfl)⟩, ⟨zB4 HB.1 GE485.1 GE495.1 GE505.1 GE518.1⟩⟩
     case round =>
      clear H'
      try clear c1
      try clear c2
      try clear c2b0
      try clear c2b1
      try clear p2
      try clear c3
      try clear c4
      try clear c5
      try clear c13
      try clear c14
      try clear c15
      try clear c19
      try clear c20
      try clear c21
      try clear c25
      try clear c25b0
      try clear c25b1
      try clear c25b2
      try clear c27
      try clear c29
      try clear c30
      try clear c32
      try clear c37
      try clear c38
      try clear c40
      try clear c43
      try clear c44
      try clear c44b0
      try clear c44b1
      try clear c44b2
      try clear c46
      try clear c47
      try clear c49
      try clear c55
      try clear c56
      try clear c57
      try clear hcz14_0
      try clear hcz14_1
      try clear hcz14_2
      try clear hcz14_3
      try clear hcz17_0
      try clear hcz17_1
      try clear hcz17_2
      try clear hcz22_0
      try clear hcz22_1
      try clear hcz22_2
      try clear hcz22_3
      try clear hcz31_0
      try clear hcz31_1
      try clear hcz31_2
      try clear hcz31_3
      try clear hcz33_0
      try clear hcz33_1
      try clear hcz33_2
      try clear hcz33_3
      try clear hcz35_0
      try clear hcz35_1
      try clear hcz35_2
      try clear hcz39_0
      try clear hcz39_1
      try clear hcz39_2
      try clear hcz39_3
      try clear hcz41_0
      try clear hcz41_1
      try clear hcz41_2
      try clear hcz41_3
      try clear hcz48_0
      try clear hcz48_1
      try clear hcz48_2
      try clear hcz48_3
      try clear hcz50_0
      try clear hcz50_1
      try clear hcz50_2
      try clear hcz50_3
      try clear hcz58_0
      try clear hcz58_1
      try clear hcz58_2
      try clear hcz58_3
      try clear hcz9_0
      try clear hcz9_1
      try clear hcz9_2
      try clear hfz14_0
      try clear hfz14_1
      try clear hfz14_2
      try clear hfz14_3
      try clear hfz17_0
      try clear hfz17_1
      try clear hfz17_2
      try clear hfz22_0
      try clear hfz22_1
      try clear hfz22_2
      try clear hfz22_3
      try clear hfz31_0
      try clear hfz31_1
      try clear hfz31_2
      try clear hfz31_3
      try clear hfz33_0
      try clear hfz33_1
      try clear hfz33_2
      try clear hfz33_3
      try clear hfz35_0
      try clear hfz35_1
      try clear hfz35_2
      try clear hfz39_0
      try clear hfz39_1
      try clear hfz39_2
      try clear hfz39_3
      try clear hfz41_0
      try clear hfz41_1
      try clear hfz41_2
      try clear hfz41_3
      try clear hfz48_0
      try clear hfz48_1
      try clear hfz48_2
      try clear hfz48_3
      try clear hfz50_0
      try clear hfz50_1
      try clear hfz50_2
      try clear hfz50_3
      try clear hfz58_0
      try clear hfz58_1
      try clear hfz58_2
      try clear hfz58_3
      try clear hfz9_0
      try clear hfz9_1
      try clear hfz9_2
      try clear p2
      obtain ⟨x11_2, x12_2, rfl, rfl, HA, HK2, HO_486002, HO_496002, HO_496003, HO_506002, HO_506003, HO_519002, HO_519003, BK485, BK495, BK505, BK518, HB⟩ := hrel; cases gk with
      | zero => exact absurd HA.1 (by simp [laws_FnIndexTells.l0])
      | succ k2 =>
       have H := HA.1; clear HA; simp only [laws_FnIndexTells.l0] at H
       by_cases c61 : x12_2 < (t481.length : Int)
       ·rw [if_pos c61] at H; have c61b0 : decide (x12_2 < (t481.length : Int)) = true := decide_eq_true c61; clear c61
        by_cases c62 : x11_2 = true
        ·subst c62; replace H := zy1 H; have H' := aM H; clear H; have hnb63 := NB485_495.1; have hnc63 := NB495_485.1; have hnb64 := NB485_505.1; have hnc64 := NB505_485.1; have hnb65 := NB485_518.1; have hnc65 := NB518_485.1; obtain ⟨hcz66_0, hcz66_1, hcz66_2, hfz66_0, hfz66_1, hfz66_2⟩ := zc3f BK485.1
         try go_wp2
         have _ := aM (Kd.R_drew HO_486002.1); have _ := aM (Kd.R_drew HO_496002.1); have _ := aM (Kd.R_drew HO_496003.1); have _ := aM (Kd.R_drew HO_506002.1); have _ := aM (Kd.R_drew HO_506003.1); have _ := aM (Kd.R_drew HO_519002.1); have _ := aM (Kd.R_drew HO_519003.1); have _ := aM (blk_drew BK485.1); have _ := aM (blk_drew BK495.1); have _ := aM (blk_drew BK505.1); have _ := aM (blk_drew BK518.1); have _ := aM (below_drew1 HB.1); clear HO_486002 HO_496002 HO_496003 HO_506002 HO_506003 HO_519002 HO_519003 BK485 BK495 BK505 BK518 HB; rename_i HO_486002 HO_496002 HO_496003 HO_506002 HO_506003 HO_519002 HO_519003 BK485 BK495 BK505 BK518 HB
         refine start_ (n := 17) (S := fun w' => True) (ds := []) (zA 17 0) (by kernel_rfl) rfl rfl trivial (fun hHeld => ?_); refine with_tabW laws_FnIndexTells.tab13 laws_FnIndexTells.bits13 (fun HT_ HW_ => ?_)
         generalize wr.drew = w67 at HO_486002 HO_496002 HO_496003 HO_506002 HO_506003 HO_519002 HO_519003 BK485 BK495 BK505 BK518 HB hHeld ⊢; refine zu HT_ 0 (some 67) (zA 17 1) ?_; refine zu HT_ 1 (some 68) (zA 17 3) ?_; refine zu0 HT_ 2 (some 69) (zA 17 7) ?_; refine zu0 HT_ 3 (some 70) (zA 17 15) ?_; refine zu0 HT_ 4 (some 71) (zA 17 31) ?_; refine zu0 HT_ 5 (some 72) (zA 17 63) ?_; refine zu0 HT_ 6 (some 73) (zA 17 127) ?_; refine zu0 HT_ 7 (some 74) (zA 17 255) ?_; refine zu0 HT_ 8 (some 75) (zA 17 511) ?_; refine zu0 HT_ 9 (some 76) (zA 17 1023) ?_; refine zu0 HT_ 10 (some 77) (zA 17 2047) ?_; refine zu0 HT_ 11 (some 78) (zA 17 4095) ?_; refine zu0 HT_ 12 (some 79) (zA 17 8191) ?_; refine zu0 HT_ 13 (some 80) (zA 17 16383) ?_; refine zu0 HT_ 14 (some 81) (zA 17 32767) ?_; refine zu HT_ 15 (some 82) (zA 17 65535) ?_; refine zu HT_ 16 (some 11) (zA 17 131071) ?_; refine done_ (done_of HT_.1 (by kernel_rfl)) ?_
         try go_wp2
         go_roundg k2
         case measure => have := HJ5.1; have := HK2.1; omega
         case rel => exact ⟨(true), (wrap64 (x12_2 + 1)), (by first | rfl | (simp; done) | (simp [*]; done)), (by first | rfl | (simp; done) | (simp [*]; done)), H', ⟨by have := HJ5.1; have := HK2.1; omega⟩, ⟨zR HO_486002.1⟩, ⟨zR HO_496002.1⟩, ⟨zR HO_496003.1⟩, ⟨zR HO_506002.1⟩, ⟨zR HO_506003.1⟩, ⟨zR HO_519002.1⟩, ⟨zR HO_519003.1⟩, ⟨zK BK485.1⟩, ⟨zK BK495.1⟩, ⟨zK BK505.1⟩, ⟨zK BK518.1⟩, ⟨zB4 HB.1 GE485.1 GE495.1 GE505.1 GE518.1⟩⟩
        ·replace c62 := Bool.eq_false_iff.mpr c62; subst c62; replace H := zy0 H; replace H := zif H; obtain ⟨c68, H⟩ := H; have c68b0 : decide (0 ≤ x12_2) = true := decide_eq_true c68; clear c68; replace H := Option.bind_eq_some_iff.mp H; obtain ⟨t520, A690, H⟩ := H; (try dsimp only at H); have A69 := aM A690; clear A690; have H' := aM H; clear H; have hnb70 := NB485_495.1; have hnc70 := NB495_485.1; have hnb71 := NB485_505.1; have hnc71 := NB505_485.1; have hnb72 := NB485_518.1; have hnc72 := NB518_485.1; obtain ⟨hcz73_0, hcz73_1, hcz73_2, hfz73_0, hfz73_1, hfz73_2⟩ := zc3f BK485.1
         try go_wp2
         have _ := aM (Kd.R_drew HO_486002.1); have _ := aM (Kd.R_drew HO_496002.1); have _ := aM (Kd.R_drew HO_496003.1); have _ := aM (Kd.R_drew HO_506002.1); have _ := aM (Kd.R_drew HO_506003.1); have _ := aM (Kd.R_drew HO_519002.1); have _ := aM (Kd.R_drew HO_519003.1); have _ := aM (blk_drew BK485.1); have _ := aM (blk_drew BK495.1); have _ := aM (blk_drew BK505.1); have _ := aM (blk_drew BK518.1); have _ := aM (below_drew1 HB.1); clear HO_486002 HO_496002 HO_496003 HO_506002 HO_506003 HO_519002 HO_519003 BK485 BK495 BK505 BK518 HB; rename_i HO_486002 HO_496002 HO_496003 HO_506002 HO_506003 HO_519002 HO_519003 BK485 BK495 BK505 BK518 HB; have p519 : 0 ≤ (x12_2 : Int) := zd; have q519 : x12_2 < (t481.length : Int) := zd; obtain ⟨ad519, e519, hx519_0, hx519_1, hx519_2⟩ := at_T40 (Kd.R_reads' HO_486002.1).2.2 x12_2 p519 q519; cases e519; replace p519 := eq_true p519; replace q519 := eq_true q519
         refine start_ (n := 17) (S := fun w' => w'.cell? ⟨gb485, 0, none⟩ = some (.int .i64 t479) ∧ w'.cell? ⟨gb485, 1, none⟩ = some (.int .i64 t480) ∧ w'.cell? ⟨gb485, 2, none⟩ = some (.slice (some ad519) t481.length co10) ∧ w'.cell? ⟨gb518, 0, none⟩ = some (.int .i64 t509) ∧ w'.cell? ⟨gb518, 1, none⟩ = some (.int .i64 t510) ∧ w'.cell? ⟨gb518, 2, none⟩ = some (.slice Ao59 t511.length co59) ∧ w'.cell? ⟨gb518, 3, none⟩ = some (.slice Ao60 t514.length co60) ∧ w'.cell? (ad519.add ((x12_2).toNat * 3)) = some (.int .i64 ((rd_T40 t481 x12_2).f0)) ∧ w'.cell? ⟨(ad519.add ((x12_2).toNat * 3)).block, (ad519.add ((x12_2).toNat * 3)).off + 1, none⟩ = some (.int .i64 ((rd_T40 t481 x12_2).f1)) ∧ w'.cell? ⟨(ad519.add ((x12_2).toNat * 3)).block, (ad519.add ((x12_2).toNat * 3)).off + 2, none⟩ = some (.int .i64 ((rd_T40 t481 x12_2).f2))) (ds := []) (zA 17 0) (by kernel_rfl) rfl rfl ⟨(blk_cell BK485.1 0).trans rfl, (blk_cell BK485.1 1).trans rfl, (blk_cell BK485.1 2).trans rfl, (blk_cell BK518.1 0).trans rfl, (blk_cell BK518.1 1).trans rfl, (blk_cell BK518.1 2).trans rfl, (blk_cell BK518.1 3).trans rfl, hx519_0, hx519_1, hx519_2⟩ (fun hHeld => ?_); refine with_tabW laws_FnIndexTells.tab13 laws_FnIndexTells.bits13 (fun HT_ HW_ => ?_)
         generalize wr.drew = w74 at HO_486002 HO_496002 HO_496003 HO_506002 HO_506003 HO_519002 HO_519003 BK485 BK495 BK505 BK518 HB hx519_0 hx519_1 hx519_2 hHeld ⊢; refine zu HT_ 0 (some 67) (zA 17 1) ?_; refine zu HT_ 1 (some 68) (zA 17 3) ?_; refine zu HT_ 2 (some 69) (zA 17 7) ?_; refine zu HT_ 4 (some 71) (zA 17 23) ?_; refine zu HT_ 7 (some 74) (zA 17 151) ?_; refine zu HT_ 9 (some 76) (zA 17 663) ?_; refine zu HT_ 11 (some 78) (zA 17 2711) ?_; refine take_ (i := 3) (N := some 70) (v := ?_) (a' := ?_) (zA 17 2719) rfl rfl (take_ofW HT_.1 HW_.1 (by kernel_rfl)) (fun _ _ _ h => h) (Or.inl ⟨by rfl, ?_⟩) hHeld ?_ ?_; rotate_left
         ·rintro w' ⟨s0, s1, s2, s3, s4, s5, s6, s7, s8, s9⟩
          go_simp
          (with_reducible rfl)
         rotate_left
         ·simp only [zp0, zp1, zp2, zp3, zp4, i64_w, i32_w]; rfl
         refine zu HT_ 5 (some 72) (zA 17 2751) ?_; refine take_ (i := 6) (N := some 73) (v := ?_) (a' := ?_) (zA 17 2815) rfl rfl (take_ofW HT_.1 HW_.1 (by kernel_rfl)) (fun _ _ _ h => h) (Or.inl ⟨by rfl, ?_⟩) hHeld ?_ ?_; rotate_left
         ·rintro w' ⟨s0, s1, s2, s3, s4, s5, s6, s7, s8, s9⟩
          go_simp
          (with_reducible rfl)
         rotate_left
         ·simp only [zp0, zp1, zp2, zp3, zp4, i64_w, i32_w]; rfl
         refine take_ (i := 8) (N := some 75) (v := ?_) (a' := ?_) (zA 17 3071) rfl rfl (take_ofW HT_.1 HW_.1 (by kernel_rfl)) (fun _ _ _ h => h) (Or.inl ⟨by rfl, ?_⟩) hHeld ?_ ?_; rotate_left
         ·rintro w' ⟨s0, s1, s2, s3, s4, s5, s6, s7, s8, s9⟩
          go_simp
          (with_reducible rfl)
         rotate_left
         ·simp only [zp0, zp1, zp2, zp3, zp4, i64_w, i32_w]; rfl
         refine take_ (i := 10) (N := some 77) (v := ?_) (a' := ?_) (zA 17 4095) rfl rfl (take_ofW HT_.1 HW_.1 (by kernel_rfl)) (fun _ _ _ h => h) (Or.inl ⟨by rfl, ?_⟩) hHeld ?_ ?_; rotate_left
         ·rintro w' ⟨s0, s1, s2, s3, s4, s5, s6, s7, s8, s9⟩
          go_simp
          (with_reducible rfl)
         rotate_left
         ·simp only [zp0, zp1, zp2, zp3, zp4, i64_w, i32_w]; rfl
         refine zo HT_ 12 (some 79) (zA 17 8191) (fun K hK => ?_); refine zg Tryd.func20 #[.string t484] ?_; (with_reducible refine (impl_SumOf.calls k2 t484 t520 _ A69.1).mono ?_); rintro e w75 ⟨rfl, hb⟩; have HS7_ := (hb.cell (World.block_lt_of_cell? _ _ (hHeld.2.2.2.2.2.2.2.1))).trans (hHeld.2.2.2.2.2.2.2.1); have HS8_ := (hb.cell (World.block_lt_of_cell? _ _ (hHeld.2.2.2.2.2.2.2.2.1))).trans (hHeld.2.2.2.2.2.2.2.2.1); have HS9_ := (hb.cell (World.block_lt_of_cell? _ _ (hHeld.2.2.2.2.2.2.2.2.2))).trans (hHeld.2.2.2.2.2.2.2.2.2); refine ⟨_, rfl, ?_⟩; have _ := aM (Kd.R_below (zR HO_486002.1) hb); have _ := aM (Kd.R_below (zR HO_496002.1) hb); have _ := aM (Kd.R_below (zR HO_496003.1) hb); have _ := aM (Kd.R_below (zR HO_506002.1) hb); have _ := aM (Kd.R_below (zR HO_506003.1) hb); have _ := aM (Kd.R_below (zR HO_519002.1) hb); have _ := aM (Kd.R_below (zR HO_519003.1) hb); have _ := aM (blk_below (zK BK485.1) hb); have _ := aM (blk_below (zK BK495.1) hb); have _ := aM (blk_below (zK BK505.1) hb); have _ := aM (blk_below (zK BK518.1) hb); have _ := aM (below_step (zB4 HB.1 GE485.1 GE495.1 GE505.1 GE518.1) hb); clear HO_486002 HO_496002 HO_496003 HO_506002 HO_506003 HO_519002 HO_519003 BK485 BK495 BK505 BK518 HB; rename_i HO_486002 HO_496002 HO_496003 HO_506002 HO_506003 HO_519002 HO_519003 BK485 BK495 BK505 BK518 HB; (try clear hb); (try clear hb2); (try clear hk); (try clear hi); refine hK.out _ _ ⟨(blk_cell BK485.1 0).trans rfl, (blk_cell BK485.1 1).trans rfl, (blk_cell BK485.1 2).trans rfl, (blk_cell BK518.1 0).trans rfl, (blk_cell BK518.1 1).trans rfl, (blk_cell BK518.1 2).trans rfl, (blk_cell BK518.1 3).trans rfl, HS7_, HS8_, HS9_⟩ (fun hHeld => ?_); clear hK K; refine zn (some 79) ?_; refine zu HT_ 13 (some 80) (zA 17 16383) ?_; have hz3 := fun w' : World => zif3 (a := (rd_T40 t481 x12_2).f0) (b := (rd_T40 t481 x12_2).f1) (c := (rd_T40 t481 x12_2).f2) (d := t509) (e := t510) (f := t520) w'; refine zu HT_ 14 (some 81) (zA 17 32767) ?_; refine zu HT_ 15 (some 82) (zA 17 65535) ?_; refine zu HT_ 16 (some 11) (zA 17 131071) ?_; refine done_ (done_of HT_.1 (by kernel_rfl)) ?_
         try go_wp2
         go_roundg k2
         case measure => have := HJ5.1; have := HK2.1; omega
         case rel => exact ⟨((((rd_T40 t481 x12_2).f0) == t509 && (((rd_T40 t481 x12_2).f1) == t510 && (((rd_T40 t481 x12_2).f2) == t520)))), (wrap64 (x12_2 + 1)), (by first | rfl | (simp; done) | (simp [*]; done)), (by first | rfl | (simp; done) | (simp [*]; done)), H', ⟨by have := HJ5.1; have := HK2.1; omega⟩, ⟨zR HO_486002.1⟩, ⟨zR HO_496002.1⟩, ⟨zR HO_496003.1⟩, ⟨zR HO_506002.1⟩, ⟨zR HO_506003.1⟩, ⟨zR HO_519002.1⟩, ⟨zR HO_519003.1⟩, ⟨zK BK485.1⟩, ⟨zK BK495.1⟩, ⟨zK BK505.1⟩, ⟨zK BK518.1⟩, ⟨zB4 HB.1 GE485.1 GE495.1 GE505.1 GE518.1⟩⟩
       ·rw [if_neg c61] at H; have c61b0 : decide (x12_2 < (t481.length : Int)) = false := decide_eq_false c61; clear c61
        by_cases c76 : t517 = true
        ·subst c76; replace H := zy1 H; replace H := zif H; obtain ⟨c77, H⟩ := H; have c77b0 : (t504 == x11_2) = true := c77; (try (have c77b1 : decide (t504 = x11_2) = true := by simpa using c77)); (try (have c77b2 : (t504 == x11_2) = true := by simpa using c77)); clear c77
         by_cases c78 : t504 = true
         ·subst c78; replace H := zy1 H; replace H := Option.bind_eq_some_iff.mp H; obtain ⟨t521, A790, H⟩ := H; (try dsimp only at H); have A79 := aM A790; clear A790; obtain rfl := Option.some.inj H; have hnb80 := NB485_495.1; have hnc80 := NB495_485.1; have hnb81 := NB485_505.1; have hnc81 := NB505_485.1; have hnb82 := NB485_518.1; have hnc82 := NB518_485.1; obtain ⟨hcz83_0, hcz83_1, hcz83_2, hfz83_0, hfz83_1, hfz83_2⟩ := zc3f BK485.1; have hnb84 := NB505_495.1; have hnc84 := NB495_505.1; have hnb85 := NB505_518.1; have hnc85 := NB518_505.1; obtain ⟨hcz86_0, hcz86_1, hcz86_2, hcz86_3, hfz86_0, hfz86_1, hfz86_2, hfz86_3⟩ := zc4f BK505.1; have hnb87 := NB518_495.1; have hnc87 := NB495_518.1; obtain ⟨hcz88_0, hcz88_1, hcz88_2, hcz88_3, hfz88_0, hfz88_1, hfz88_2, hfz88_3⟩ := zc4f BK518.1
          go_wp2_with (first | (go_at_call 16; (with_reducible refine (laws_luPkg.calls k2 t496 t497 _ _ t498 _ _ t501 t509 t510 _ _ t511 _ _ t514 t521 _ ?side1 ?side2 ?side3 ?side4 ?side5 ?side6 ?side7 ?side8 A79.1).mono ?_); (case side1 => exact zC (Kd.R_reads' HO_506002.1).2.2); (case side2 => exact (Kd.R_reads' HO_506002.1).2.1); (case side3 => exact zC (Kd.R_reads' HO_506003.1).2.2); (case side4 => exact (Kd.R_reads' HO_506003.1).2.1); (case side5 => exact zC (Kd.R_reads' HO_519002.1).2.2); (case side6 => exact (Kd.R_reads' HO_519002.1).2.1); (case side7 => exact zC (Kd.R_reads' HO_519003.1).2.2); (case side8 => exact (Kd.R_reads' HO_519003.1).2.1); rintro e w89 ⟨rfl, hb⟩; have _ := aM (Kd.R_below (zR HO_486002.1) hb); have _ := aM (Kd.R_below (zR HO_496002.1) hb); have _ := aM (Kd.R_below (zR HO_496003.1) hb); have _ := aM (Kd.R_below (zR HO_506002.1) hb); have _ := aM (Kd.R_below (zR HO_506003.1) hb); have _ := aM (Kd.R_below (zR HO_519002.1) hb); have _ := aM (Kd.R_below (zR HO_519003.1) hb); have _ := aM (blk_below (zK BK485.1) hb); have _ := aM (blk_below (zK BK495.1) hb); have _ := aM (blk_below (zK BK505.1) hb); have _ := aM (blk_below (zK BK518.1) hb); have _ := aM (below_step (zB4 HB.1 GE485.1 GE495.1 GE505.1 GE518.1) hb); clear HO_486002 HO_496002 HO_496003 HO_506002 HO_506003 HO_519002 HO_519003 BK485 BK495 BK505 BK518 HB; rename_i HO_486002 HO_496002 HO_496003 HO_506002 HO_506003 HO_519002 HO_519003 BK485 BK495 BK505 BK518 HB; (try clear hb); (try clear hb2); (try clear hk); (try clear hi)))
          go_ret
          exact ⟨by first | rfl | (simp [errW_none, errW_some] <;> rfl) | (simp [*, errW_none, errW_some] <;> rfl), by exact zB4 HB.1 GE485.1 GE495.1 GE505.1 GE518.1⟩
         ·replace c78 := Bool.eq_false_iff.mpr c78; subst c78; replace H := zy0 H; obtain rfl := Option.some.inj H; have hnb90 := NB485_495.1; have hnc90 := NB495_485.1; have hnb91 := NB485_505.1; have hnc91 := NB505_485.1; have hnb92 := NB485_518.1; have hnc92 := NB518_485.1; obtain ⟨hcz93_0, hcz93_1, hcz93_2, hfz93_0, hfz93_1, hfz93_2⟩ := zc3f BK485.1
          go_wp2
          go_ret
          exact ⟨by first | rfl | (simp [errW_none, errW_some] <;> rfl) | (simp [*, errW_none, errW_some] <;> rfl), by exact zB4 HB.1 GE485.1 GE495.1 GE505.1 GE518.1⟩
        ·replace c76 := Bool.eq_false_iff.mpr c76; subst c76; replace H := zy0 H; replace H := zif H; obtain ⟨c94, H⟩ := H; have c94b0 : (t504 == false) = true := c94; (try (have c94b1 : decide (t504 = false) = true := by simpa using c94)); (try (have c94b2 : (t504 == false) = true := by simpa using c94)); clear c94
         by_cases c95 : t504 = true
         ·subst c95; replace H := zy1 H; replace H := Option.bind_eq_some_iff.mp H; obtain ⟨t522, A960, H⟩ := H; (try dsimp only at H); have A96 := aM A960; clear A960; obtain rfl := Option.some.inj H; have hnb97 := NB485_495.1; have hnc97 := NB495_485.1; have hnb98 := NB485_505.1; have hnc98 := NB505_485.1; have hnb99 := NB485_518.1; have hnc99 := NB518_485.1; obtain ⟨hcz100_0, hcz100_1, hcz100_2, hfz100_0, hfz100_1, hfz100_2⟩ := zc3f BK485.1; have hnb101 := NB505_495.1; have hnc101 := NB495_505.1; have hnb102 := NB505_518.1; have hnc102 := NB518_505.1; obtain ⟨hcz103_0, hcz103_1, hcz103_2, hcz103_3, hfz103_0, hfz103_1, hfz103_2, hfz103_3⟩ := zc4f BK505.1; have hnb104 := NB518_495.1; have hnc104 := NB495_518.1; obtain ⟨hcz105_0, hcz105_1, hcz105_2, hcz105_3, hfz105_0, hfz105_1, hfz105_2, hfz105_3⟩ := zc4f BK518.1
          go_wp2_with (first | (go_at_call 16; (with_reducible refine (laws_luPkg.calls k2 t496 t497 _ _ t498 _ _ t501 t509 t510 _ _ t511 _ _ t514 t522 _ ?side1 ?side2 ?side3 ?side4 ?side5 ?side6 ?side7 ?side8 A96.1).mono ?_); (case side1 => exact zC (Kd.R_reads' HO_506002.1).2.2); (case side2 => exact (Kd.R_reads' HO_506002.1).2.1); (case side3 => exact zC (Kd.R_reads' HO_506003.1).2.2); (case side4 => exact (Kd.R_reads' HO_506003.1).2.1); (case side5 => exact zC (Kd.R_reads' HO_519002.1).2.2); (case side6 => exact (Kd.R_reads' HO_519002.1).2.1); (case side7 => exact zC (Kd.R_reads' HO_519003.1).2.2); (case side8 => exact (Kd.R_reads' HO_519003.1).2.1); rintro e w106 ⟨rfl, hb⟩; have _ := aM (Kd.R_below (zR HO_486002.1) hb); have _ := aM (Kd.R_below (zR HO_496002.1) hb); have _ := aM (Kd.R_below (zR HO_496003.1) hb); have _ := aM (Kd.R_below (zR HO_506002.1) hb); have _ := aM (Kd.R_below (zR HO_506003.1) hb); have _ := aM (Kd.R_below (zR HO_519002.1) hb); have _ := aM (Kd.R_below (zR HO_519003.1) hb); have _ := aM (blk_below (zK BK485.1) hb); have _ := aM (blk_below (zK BK495.1) hb); have _ := aM (blk_below (zK BK505.1) hb); have _ := aM (blk_below (zK BK518.1) hb); have _ := aM (below_step (zB4 HB.1 GE485.1 GE495.1 GE505.1 GE518.1) hb); clear HO_486002 HO_496002 HO_496003 HO_506002 HO_506003 HO_519002 HO_519003 BK485 BK495 BK505 BK518 HB; rename_i HO_486002 HO_496002 HO_496003 HO_506002 HO_506003 HO_519002 HO_519003 BK485 BK495 BK505 BK518 HB; (try clear hb); (try clear hb2); (try clear hk); (try clear hi)))
          go_ret
          exact ⟨by first | rfl | (simp [errW_none, errW_some] <;> rfl) | (simp [*, errW_none, errW_some] <;> rfl), by exact zB4 HB.1 GE485.1 GE495.1 GE505.1 GE518.1⟩
         ·replace c95 := Bool.eq_false_iff.mpr c95; subst c95; replace H := zy0 H; obtain rfl := Option.some.inj H; have hnb107 := NB485_495.1; have hnc107 := NB495_485.1; have hnb108 := NB485_505.1; have hnc108 := NB505_485.1; have hnb109 := NB485_518.1; have hnc109 := NB518_485.1; obtain ⟨hcz110_0, hcz110_1, hcz110_2, hfz110_0, hfz110_1, hfz110_2⟩ := zc3f BK485.1
          go_wp2
          go_ret
          exact ⟨by first | rfl | (simp [errW_none, errW_some] <;> rfl) | (simp [*, errW_none, errW_some] <;> rfl), by exact zB4 HB.1 GE485.1 GE495.1 GE505.1 GE518.1⟩

/-- THE ONE PURE STATEMENT of laws_FnIndexTells: yours. -/
def laws_FnIndexTells.Pure : Prop := ∀ (l0 : List Int), l0.length ≤ maxLen → l0.length * 1 ≤ 140737488351232 → (∀ x ∈ l0, (Lit.int .u8 x).wf = true) → ∃ k, laws_FnIndexTells.f k l0 = some true
theorem laws_FnIndexTells.walk (P : laws_FnIndexTells.Pure) (a0 : Option Addr) (len0 cap0 : Nat) (z0 : List Int) (w : World) (w0 : (a0 = none ∧ len0 = 0 ∧ cap0 = 0 ∧ z0 = []) ∨ ∃ x, a0 = some x ∧ len0 ≤ cap0 ∧ cap0 ≤ maxLen ∧ z0.length = cap0 ∧ (∀ i, i < z0.length → w.cell? (x.add i) = some (.int .u8 (z0.getD i 0))) ∧ ∀ n ∈ z0, (Lit.int .u8 n).wf = true) (y0 : len0 * 1 ≤ 140737488351232) (hLD : LaidW w) :
  Calls Tryd.prog 4 #[.slice a0 len0 cap0] w fun e w' => e = .returned (.bool true) ∧ Below w.heap.size w w' := by
 obtain ⟨l0, rfl, hr0, hm0, hw0, hc0⟩ := ReadsInt.ofRowC w0
 obtain ⟨k, h⟩ := P l0 hm0 y0 hw0
 refine (laws_FnIndexTells.calls k _ _ l0 true w (Kd.C_of_reads (d := (0 : Int)) (h1 := fun _ => rfl) hr0) hc0 hLD h).mono ?_
 rintro e w' ⟨rfl, hd⟩
 exact ⟨rfl, hd⟩

end Go.Proofs.YtkjgnnjcjkphbaaDoor.PFnIndexTells
