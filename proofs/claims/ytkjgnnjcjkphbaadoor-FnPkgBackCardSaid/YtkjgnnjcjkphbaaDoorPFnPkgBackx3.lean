-- printed for this claim by a program out of the translation, its tactics shortened by another
import Derived.Test.YtkjgnnjcjkphbaaDoorPFnPkgBackx2
namespace Go.Proofs.YtkjgnnjcjkphbaaDoor.PFnPkgBack
open Go.RowKit Go.Proofs.YtkjgnnjcjkphbaaDoorW.PrintWords Go.Proofs.YtkjgnnjcjkphbaaDoorW.PrintLast Go.Proofs.YtkjgnnjcjkphbaaDoorW.PrintMore
attribute [local go_sem] max2_int min2_int max_two min_two max_three min_three max_four min_four   -- for this text's walks alone
set_option linter.unusedVariables false
set_option linter.unusedSimpArgs false

/-! ### laws_FnPkgBack: function 5 -/
def laws_FnPkgBack.j0 : Nat → ByteArray → Bool → Int → Int → List (S67) → List (S69) → Option (Bool)
 | 0, _, _, _, _, _, _ => none
 | k + 1, x4, x21, x263000, x263001, x263002, x263003 => if x21 = true then ((spec_PkgText.f k x263000 x263001 x263002 x263003).bind fun t265 => (some (x4.toList == t265.toList))) else ((impl_PkgRead.f k x4).bind fun bt266 => (if bt266.2.2.2.2 = true then ((laws_luPkg.f k bt266.1 bt266.2.1 bt266.2.2.1 bt266.2.2.2.1 x263000 x263001 x263002 x263003).bind fun t276 => (if t276 = true then ((impl_PkgOk.f k x263000 x263001 x263002 x263003).bind fun t277 => (some t277)) else (none))) else (none)))
def laws_FnPkgBack.f (k : Nat) (l0 : List Int) : Option (Bool) := if (l0.length : Int) > 1048576 then (some true) else ((spec_DrawPkgText.f k l0).bind fun bt254 => ((impl_PkgText.f k bt254.1 bt254.2.1 bt254.2.2.1 bt254.2.2.2).bind fun t263 => ((spec_PkgText.f k bt254.1 bt254.2.1 bt254.2.2.1 bt254.2.2.2).bind fun t264 => (if t263.toList = t264.toList then (laws_FnPkgBack.j0 k t263 (t263.toList == ([] : List UInt8)) bt254.1 bt254.2.1 bt254.2.2.1 bt254.2.2.2) else (laws_FnPkgBack.j0 k t263 true bt254.1 bt254.2.1 bt254.2.2.1 bt254.2.2.2)))))
theorem laws_FnPkgBack.mono_l : ∀ k, (∀ y0 y1 y2 y3 y4 y5, LeO (laws_FnPkgBack.j0 k y0 y1 y2 y3 y4 y5) (laws_FnPkgBack.j0 (k + 1) y0 y1 y2 y3 y4 y5))
 | 0 => fun _ _ _ _ _ _ r h => by simp [laws_FnPkgBack.j0] at h
 | k + 1 => by
  have ih0 := laws_FnPkgBack.mono_l k
  ·intro y0 y1 y2 y3 y4 y5
   unfold laws_FnPkgBack.j0
   repeat' first
   | (with_reducible exact ih0 _ _ _ _ _ _)
   | (with_reducible exact impl_PkgOk.mono _ _ _ _ _)
   | (with_reducible exact impl_PkgRead.mono _ _)
   | (with_reducible exact impl_PkgText.mono _ _ _ _ _)
   | (with_reducible exact laws_luPkg.mono _ _ _ _ _ _ _ _ _)
   | (with_reducible exact spec_DrawPkgText.mono _ _)
   | (with_reducible exact spec_PkgText.mono _ _ _ _ _)
   | (with_reducible exact LeO.refl _)
   | (with_reducible exact LeO.none _)
   | (with_reducible refine LeO.ite ?_ ?_)
   | (with_reducible refine LeO.bind ?_ (fun _ => ?_))
   | exact ih0 _ _ _ _ _ _
   | exact impl_PkgOk.mono _ _ _ _ _
   | exact impl_PkgRead.mono _ _
   | exact impl_PkgText.mono _ _ _ _ _
   | exact laws_luPkg.mono _ _ _ _ _ _ _ _ _
   | exact spec_DrawPkgText.mono _ _
   | exact spec_PkgText.mono _ _ _ _ _
   | exact LeO.none _
   | refine LeO.ite ?_ ?_
   | refine LeO.bind ?_ (fun _ => ?_)
theorem laws_FnPkgBack.mono : ∀ a0 k, LeO (laws_FnPkgBack.f k a0) (laws_FnPkgBack.f (k + 1) a0) := by
 intro a0 k
 have ih0 := laws_FnPkgBack.mono_l k
 unfold laws_FnPkgBack.f
 repeat' first
   | (with_reducible exact ih0 _ _ _ _ _ _)
   | (with_reducible exact impl_PkgOk.mono _ _ _ _ _)
   | (with_reducible exact impl_PkgRead.mono _ _)
   | (with_reducible exact impl_PkgText.mono _ _ _ _ _)
   | (with_reducible exact laws_luPkg.mono _ _ _ _ _ _ _ _ _)
   | (with_reducible exact spec_DrawPkgText.mono _ _)
   | (with_reducible exact spec_PkgText.mono _ _ _ _ _)
   | (with_reducible exact LeO.refl _)
   | (with_reducible exact LeO.none _)
   | (with_reducible refine LeO.ite ?_ ?_)
   | (with_reducible refine LeO.bind ?_ (fun _ => ?_))
   | exact ih0 _ _ _ _ _ _
   | exact impl_PkgOk.mono _ _ _ _ _
   | exact impl_PkgRead.mono _ _
   | exact impl_PkgText.mono _ _ _ _ _
   | exact laws_luPkg.mono _ _ _ _ _ _ _ _ _
   | exact spec_DrawPkgText.mono _ _
   | exact spec_PkgText.mono _ _ _ _ _
   | exact LeO.none _
   | refine LeO.ite ?_ ?_
   | refine LeO.bind ?_ (fun _ => ?_)
set_option maxHeartbeats 8000000 in
set_option maxRecDepth 100000 in
theorem laws_FnPkgBack.calls (k : Nat) (A0 : Option Addr) (c0 : Nat) (l0 : List Int) (r : Bool) (w : World) (hr0 : Kd.C (Kd.int .u8) w A0 l0.length l0) (hc0 : l0.length ≤ c0) (hLD : LaidW w) (h : laws_FnPkgBack.f k l0 = some r) :
  Calls Tryd.prog 5 #[.slice A0 l0.length c0] w fun e w' => e = .returned (.bool r) ∧ Below w.heap.size w w' := by
 have hu31 := Tryd.underlying31
 have HR0 := Aside0.mk hr0
 have HC0 := Aside0.mk hc0
 clear hr0 hc0
 have HB := Aside0.mk (Below.refl w.heap.size w)
 have HLD := Aside0.mk hLD
 clear hLD
 have H : (if (l0.length : Int) > 1048576 then (some true) else ((spec_DrawPkgText.f k l0).bind fun bt254 => ((impl_PkgText.f k bt254.1 bt254.2.1 bt254.2.2.1 bt254.2.2.2).bind fun t263 => ((spec_PkgText.f k bt254.1 bt254.2.1 bt254.2.2.1 bt254.2.2.2).bind fun t264 => (if t263.toList = t264.toList then (laws_FnPkgBack.j0 k t263 (t263.toList == ([] : List UInt8)) bt254.1 bt254.2.1 bt254.2.2.1 bt254.2.2.2) else (laws_FnPkgBack.j0 k t263 true bt254.1 bt254.2.1 bt254.2.2.1 bt254.2.2.2)))))) = some r := h
 clear h
 by_cases c2 : (l0.length : Int) > 1048576
 ·rw [if_pos c2] at H
  have c2b0 : decide (1048576 < (l0.length : Int)) = true := decide_eq_true c2
  have c2b1 : decide (1048576 < l0.length) = true := decide_eq_true (by omega)
  clear c2
  obtain rfl := Option.some.inj H
  go_enter Tryd.func5, Tryd.ntmps5
  go_wp2
  go_ret
  exact ⟨by first | rfl | (simp [errW_none, errW_some] <;> rfl) | (simp [*, errW_none, errW_some] <;> rfl), by exact zB HB.out⟩
 ·rw [if_neg c2] at H
  have c2b0 : decide (1048576 < (l0.length : Int)) = false := decide_eq_false c2
  have c2b1 : decide (1048576 < l0.length) = false := decide_eq_false (by omega)
  clear c2
  replace H := Option.bind_eq_some_iff.mp H
  obtain ⟨⟨t254, t255, t256, t259⟩, A30, H⟩ := H
  replace H : ((impl_PkgText.f k t254 t255 t256 t259).bind fun t263 => ((spec_PkgText.f k t254 t255 t256 t259).bind fun t264 => (if t263.toList = t264.toList then (laws_FnPkgBack.j0 k t263 (t263.toList == ([] : List UInt8)) t254 t255 t256 t259) else (laws_FnPkgBack.j0 k t263 true t254 t255 t256 t259)))) = some r := H
  have A3 := Aside0.mk A30
  clear A30
  replace H := Option.bind_eq_some_iff.mp H
  obtain ⟨t263, A40, H⟩ := H
  replace H : ((spec_PkgText.f k t254 t255 t256 t259).bind fun t264 => (if t263.toList = t264.toList then (laws_FnPkgBack.j0 k t263 (t263.toList == ([] : List UInt8)) t254 t255 t256 t259) else (laws_FnPkgBack.j0 k t263 true t254 t255 t256 t259))) = some r := H
  have A4 := Aside0.mk A40
  clear A40
  have HC5 := Aside0.mk H
  clear H
  go_enter Tryd.func5, Tryd.ntmps5
  go_upto_region 5 with (first | ((with_reducible refine gate_callee (f := 21) rfl ?_); refine goesL_ (some 11) rfl rfl Tryd.func21 (by kernel_rfl) rfl #[.slice A0 l0.length c0] rfl (by (try simp only [zm1, zm2, zm3]); first | done | rfl | (simp only [List.length_drop, List.length_take]; rfl)) ?_; (with_reducible refine (spec_DrawPkgText.calls k _ _ l0 t254 t255 t256 t259 _ ?side1 ?side2 A3.out).mono ?_); (case side1 => repeat (first | exact HR0.out | (with_reducible refine Kd.C_alloc ?_ _) | (with_reducible refine Kd.C_drewN ?_ _) | (with_reducible refine Kd.C_drew ?_))); (case side2 => exact HC0.out); rintro e w6 ⟨v257, v260, rfl, ho0, ho1, hb⟩; refine ⟨_, rfl, ?_⟩; have n0_ := Aside0.mk (Kd.R_lower ho0 (below_size (by exact zB HB.out))); have n1_ := Aside0.mk (Kd.R_lower ho1 (below_size (by exact zB HB.out))); have n2_ := Aside0.mk (below_step (by exact zB HB.out) hb); clear HB; have HO258 := n0_; have HO261 := n1_; have HB := n2_; clear n0_ n1_ n2_; (try clear hb); (try clear hb2); (try clear hk); (try clear hi); (try clear ho0); (try clear ho1)) | ((with_reducible refine gate_dst (N := 3) rfl ?_); refine box_event ?hg (N := 3) ?hd (cs := #[.int .i64 0, .int .i64 0, .slice none 0 0, .slice none 0 0]) (t := 31) ?hr ?_; (case hd => rfl); (case hg => rfl); (case hr => first | (go_simp; done) | (go_simp; rfl)); intro gb262 hg w7 hbox hb; have n0_ := Aside0.mk (Kd.R_below (by exact zR HO258.out) hb); have n1_ := Aside0.mk (Kd.R_below (by exact zR HO261.out) hb); have n2_ := Aside0.mk (below_step (by exact zB HB.out) hb); have n3_ := Aside0.mk (hbox); have n4_ := Aside0.mk ((by rw [hg]; exact (below_size (by exact zB HB.out)) : w.heap.size ≤ gb262)); have n5_ := Aside0.mk ((by rw [hg]; exact (below_size (by exact zB HB.out)) : w.heap.size ≤ gb262)); clear HO258; clear HO261; clear HB; have HO258 := n0_; have HO261 := n1_; have HB := n2_; have BK262 := n3_; have GW262 := n4_; have GE262 := n5_; clear n0_ n1_ n2_ n3_ n4_ n5_; clear hb hbox hg; obtain ⟨hcz8_0, hcz8_1, hcz8_2, hcz8_3, hfz8_0, hfz8_1, hfz8_2, hfz8_3⟩ := zc4f BK262.out; obtain ⟨Ao9, co9, eo9⟩ := Kd.R_slice HO258.out; subst eo9; obtain ⟨Ao10, co10, eo10⟩ := Kd.R_slice HO261.out; subst eo10) | ((with_reducible refine gate_callee (f := 17) rfl ?_); refine goesL_ (some 13) rfl rfl Tryd.func17 (by kernel_rfl) rfl #[.agg #[.int .i64 t254, .int .i64 t255, .slice Ao9 t256.length co9, .slice Ao10 t259.length co10]] rfl (by (try simp only [zm1, zm2, zm3]); first | done | rfl | (simp only [List.length_drop, List.length_take]; rfl)) ?_; (with_reducible refine (impl_PkgText.calls k t254 t255 _ _ t256 _ _ t259 t263 _ ?side1 ?side2 ?side3 ?side4 A4.out).mono ?_); (case side1 => refine (Kd.R_reads' (e := 67) (base := w.heap.size) (ok := fun k_ => True) (n := t256.length) (c := co9) ?_).2.2; exact (by exact zR (Kd.R_mono (Kd.R_far (p := ⟨gb262, 3, none⟩) (Kd.R_far (p := ⟨gb262, 2, none⟩) (Kd.R_far (p := ⟨gb262, 1, none⟩) (Kd.R_far (p := ⟨gb262, 0, none⟩) (Kd.R_types HO258.out BK262.out (by decide)) (fun _ hk => hk.2) (.int .i64 t254)) (fun _ hk => hk.2) (.int .i64 t255)) (fun _ hk => hk.2) (.slice Ao9 t256.length co9)) (fun _ hk => hk.2) (.slice Ao10 t259.length co10)) (fun _ h_ => h_.1)))); (case side2 => exact (Kd.R_reads' HO258.out).2.1); (case side3 => refine (Kd.R_reads' (e := 69) (base := w.heap.size) (ok := fun k_ => True) (n := t259.length) (c := co10) ?_).2.2; exact (by exact zR (Kd.R_mono (Kd.R_far (p := ⟨gb262, 3, none⟩) (Kd.R_far (p := ⟨gb262, 2, none⟩) (Kd.R_far (p := ⟨gb262, 1, none⟩) (Kd.R_far (p := ⟨gb262, 0, none⟩) (Kd.R_types HO261.out BK262.out (by decide)) (fun _ hk => hk.2) (.int .i64 t254)) (fun _ hk => hk.2) (.int .i64 t255)) (fun _ hk => hk.2) (.slice Ao9 t256.length co9)) (fun _ hk => hk.2) (.slice Ao10 t259.length co10)) (fun _ h_ => h_.1)))); (case side4 => exact (Kd.R_reads' HO261.out).2.1); rintro e w11 ⟨rfl, hb⟩; refine ⟨_, rfl, ?_⟩; have n0_ := Aside0.mk (Kd.R_below (by exact zR (Kd.R_mono (Kd.R_far (p := ⟨gb262, 3, none⟩) (Kd.R_far (p := ⟨gb262, 2, none⟩) (Kd.R_far (p := ⟨gb262, 1, none⟩) (Kd.R_far (p := ⟨gb262, 0, none⟩) (Kd.R_types HO258.out BK262.out (by decide)) (fun _ hk => hk.2) (.int .i64 t254)) (fun _ hk => hk.2) (.int .i64 t255)) (fun _ hk => hk.2) (.slice Ao9 t256.length co9)) (fun _ hk => hk.2) (.slice Ao10 t259.length co10)) (fun _ h_ => h_.1))) hb); have n1_ := Aside0.mk (Kd.R_below (by exact zR (Kd.R_mono (Kd.R_far (p := ⟨gb262, 3, none⟩) (Kd.R_far (p := ⟨gb262, 2, none⟩) (Kd.R_far (p := ⟨gb262, 1, none⟩) (Kd.R_far (p := ⟨gb262, 0, none⟩) (Kd.R_types HO261.out BK262.out (by decide)) (fun _ hk => hk.2) (.int .i64 t254)) (fun _ hk => hk.2) (.int .i64 t255)) (fun _ hk => hk.2) (.slice Ao9 t256.length co9)) (fun _ hk => hk.2) (.slice Ao10 t259.length co10)) (fun _ h_ => h_.1))) hb); have n2_ := Aside0.mk (blk_below (g := gb262) (o := .cells #[.int .i64 t254, .int .i64 t255, .slice Ao9 t256.length co9, .slice Ao10 t259.length co10] 31 (0, 0)) (by (with_reducible repeat (first | refine blk_drewN ?_ _ | refine blk_drew ?_ | refine blk_alloc ?_ _)); refine blk_put (cs := #[.int .i64 t254, .int .i64 t255, .slice Ao9 t256.length co9, .slice none 0 0]) ?_ 3 _ rfl; (with_reducible repeat (first | refine blk_drewN ?_ _ | refine blk_drew ?_ | refine blk_alloc ?_ _)); refine blk_put (cs := #[.int .i64 t254, .int .i64 t255, .slice none 0 0, .slice none 0 0]) ?_ 2 _ rfl; (with_reducible repeat (first | refine blk_drewN ?_ _ | refine blk_drew ?_ | refine blk_alloc ?_ _)); refine blk_put (cs := #[.int .i64 t254, .int .i64 0, .slice none 0 0, .slice none 0 0]) ?_ 1 _ rfl; (with_reducible repeat (first | refine blk_drewN ?_ _ | refine blk_drew ?_ | refine blk_alloc ?_ _)); refine blk_put (cs := #[.int .i64 0, .int .i64 0, .slice none 0 0, .slice none 0 0]) ?_ 0 _ rfl; exact zK BK262.out) hb); have n3_ := Aside0.mk (below_step (by exact zB1 HB.out GE262.out) hb); clear HO258; clear HO261; clear BK262; clear HB; have HO258 := n0_; have HO261 := n1_; have BK262 := n2_; have HB := n3_; clear n0_ n1_ n2_ n3_; (try clear hb); (try clear hb2); (try clear hk); (try clear hi)))
  (try simp only [zp0, zp1, zp2, zp3, zp4])
  go_cut [21] (fun v21 wc => ∃ (kq : Nat) (x21_4 : Bool), v21 = .bool x21_4 ∧ Aside0 (laws_FnPkgBack.j0 kq t263 x21_4 t254 t255 t256 t259 = some r) ∧ Aside0 (kq ≤ k) ∧ Aside0 (Kd.R k67 67 wc w.heap.size (fun _ => True) (.slice Ao9 t256.length co9) t256) ∧ Aside0 (Kd.R k69 69 wc w.heap.size (fun _ => True) (.slice Ao10 t259.length co10) t259) ∧ Aside0 (wc.heap[gb262]? = some (.cells #[.int .i64 t254, .int .i64 t255, (.slice Ao9 t256.length co9), (.slice Ao10 t259.length co10)] 31 (0, 0))) ∧ Aside0 (Below w.heap.size w wc))
  case first =>
   have H := HC5.out
   clear HC5
   replace H := Option.bind_eq_some_iff.mp H
   obtain ⟨t264, A120, H⟩ := H
   replace H : (if t263.toList = t264.toList then (laws_FnPkgBack.j0 k t263 (t263.toList == ([] : List UInt8)) t254 t255 t256 t259) else (laws_FnPkgBack.j0 k t263 true t254 t255 t256 t259)) = some r := H
   have A12 := Aside0.mk A120
   clear A120
   by_cases c13 : t263.toList = t264.toList
   ·rw [if_pos c13] at H
    have c13b0 : (t263.toList == t264.toList) = true := beq_iff_eq.mpr c13
    have c13b1 : (t263.toList != t264.toList) = false := bne_eq_false_iff_eq.mpr c13
    clear c13
    (first | rw [c13b0] | (simp only [i64_w, i32_w]; rw [c13b0]) | skip)
    have H' := Aside0.mk H
    clear H
    obtain ⟨hcz14_0, hcz14_1, hcz14_2, hcz14_3, hfz14_0, hfz14_1, hfz14_2, hfz14_3⟩ := zc4f BK262.out
    go_wp2_with (first | ((with_reducible refine gate_callee (f := 22) rfl ?_); refine goesL_ (some 16) rfl rfl Tryd.func22 (by kernel_rfl) rfl #[.agg #[.int .i64 t254, .int .i64 t255, .slice Ao9 t256.length co9, .slice Ao10 t259.length co10]] rfl (by (try simp only [zm1, zm2, zm3]); first | done | rfl | (simp only [List.length_drop, List.length_take]; rfl)) ?_; (with_reducible refine (spec_PkgText.calls k t254 t255 _ _ t256 _ _ t259 t264 _ ?side1 ?side2 ?side3 ?side4 A12.out).mono ?_); (case side1 => exact zC (Kd.R_reads' HO258.out).2.2); (case side2 => exact (Kd.R_reads' HO258.out).2.1); (case side3 => exact zC (Kd.R_reads' HO261.out).2.2); (case side4 => exact (Kd.R_reads' HO261.out).2.1); rintro e w15 ⟨rfl, hb⟩; refine ⟨_, rfl, ?_⟩; have n0_ := Aside0.mk (Kd.R_below (by exact zR HO258.out) hb); have n1_ := Aside0.mk (Kd.R_below (by exact zR HO261.out) hb); have n2_ := Aside0.mk (blk_below (g := gb262) (o := .cells #[.int .i64 t254, .int .i64 t255, .slice Ao9 t256.length co9, .slice Ao10 t259.length co10] 31 (0, 0)) (by exact zK BK262.out) hb); have n3_ := Aside0.mk (below_step (by exact zB1 HB.out GE262.out) hb); clear HO258; clear HO261; clear BK262; clear HB; have HO258 := n0_; have HO261 := n1_; have BK262 := n2_; have HB := n3_; clear n0_ n1_ n2_ n3_; (try clear hb); (try clear hb2); (try clear hk); (try clear hi)))
    go_meet
    case rel => exact ⟨_, ((t263.toList == ([] : List UInt8))), (by first | rfl | (simp; done) | (simp [*]; done)), H', ⟨by first | omega | exact Nat.le_refl _⟩, ⟨by exact zR HO258.out⟩, ⟨by exact zR HO261.out⟩, ⟨by exact zK BK262.out⟩, ⟨by exact zB1 HB.out GE262.out⟩⟩
   ·rw [if_neg c13] at H
    have c13b0 : (t263.toList == t264.toList) = false := beq_eq_false_iff_ne.mpr c13
    have c13b1 : (t263.toList != t264.toList) = true := bne_iff_ne.mpr c13
    (first | rw [c13b0] | (simp only [i64_w, i32_w]; rw [c13b0]) | skip)
    have H' := Aside0.mk H
    clear H
    obtain ⟨hcz16_0, hcz16_1, hcz16_2, hcz16_3, hfz16_0, hfz16_1, hfz16_2, hfz16_3⟩ := zc4f BK262.out
    go_wp2_with (first | ((with_reducible refine gate_callee (f := 22) rfl ?_); refine goesL_ (some 16) rfl rfl Tryd.func22 (by kernel_rfl) rfl #[.agg #[.int .i64 t254, .int .i64 t255, .slice Ao9 t256.length co9, .slice Ao10 t259.length co10]] rfl (by (try simp only [zm1, zm2, zm3]); first | done | rfl | (simp only [List.length_drop, List.length_take]; rfl)) ?_; (with_reducible refine (spec_PkgText.calls k t254 t255 _ _ t256 _ _ t259 t264 _ ?side1 ?side2 ?side3 ?side4 A12.out).mono ?_); (case side1 => exact zC (Kd.R_reads' HO258.out).2.2); (case side2 => exact (Kd.R_reads' HO258.out).2.1); (case side3 => exact zC (Kd.R_reads' HO261.out).2.2); (case side4 => exact (Kd.R_reads' HO261.out).2.1); rintro e w17 ⟨rfl, hb⟩; refine ⟨_, rfl, ?_⟩; have n0_ := Aside0.mk (Kd.R_below (by exact zR HO258.out) hb); have n1_ := Aside0.mk (Kd.R_below (by exact zR HO261.out) hb); have n2_ := Aside0.mk (blk_below (g := gb262) (o := .cells #[.int .i64 t254, .int .i64 t255, .slice Ao9 t256.length co9, .slice Ao10 t259.length co10] 31 (0, 0)) (by exact zK BK262.out) hb); have n3_ := Aside0.mk (below_step (by exact zB1 HB.out GE262.out) hb); clear HO258; clear HO261; clear BK262; clear HB; have HO258 := n0_; have HO261 := n1_; have BK262 := n2_; have HB := n3_; clear n0_ n1_ n2_ n3_; (try clear hb); (try clear hb2); (try clear hk); (try clear hi)))
    go_meet
    case rel => exact ⟨_, (true), (by first | rfl | (simp; done) | (simp [*]; done)), H', ⟨by first | omega | exact Nat.le_refl _⟩, ⟨by exact zR HO258.out⟩, ⟨by exact zR HO261.out⟩, ⟨by exact zK BK262.out⟩, ⟨by exact zB1 HB.out GE262.out⟩⟩
  case rest =>
   clear HC5
   try clear c1
   try clear c2
   try clear c2b0
   try clear c2b1
   try clear p2
   try clear c5
   try clear c13
   try clear c13b0
   try clear c13b1
   try clear c17
   try clear hcz14_0
   try clear hcz14_1
   try clear hcz14_2
   try clear hcz14_3
   try clear hcz16_0
   try clear hcz16_1
   try clear hcz16_2
   try clear hcz16_3
   try clear hcz8_0
   try clear hcz8_1
   try clear hcz8_2
   try clear hcz8_3
   try clear hfz14_0
   try clear hfz14_1
   try clear hfz14_2
   try clear hfz14_3
   try clear hfz16_0
   try clear hfz16_1
   try clear hfz16_2
   try clear hfz16_3
   try clear hfz8_0
   try clear hfz8_1
   try clear hfz8_2
   try clear hfz8_3
   obtain ⟨kq, x21_4, rfl, HA, HJ4, HO_263002, HO_263003, BK262, HB⟩ := hcut
   cases kq with
   | zero => exact absurd HA.out (by simp [laws_FnPkgBack.j0])
   | succ kj4 =>
    have H := HA.out
    clear HA
    simp only [laws_FnPkgBack.j0] at H
    by_cases c18 : x21_4 = true
    ·subst c18
     have H1 : ((spec_PkgText.f kj4 t254 t255 t256 t259).bind fun t265 => (some (t263.toList == t265.toList))) = some r := by rw [if_pos rfl] at H; exact H
     clear H
     have H := H1
     clear H1
     replace H := Option.bind_eq_some_iff.mp H
     obtain ⟨t265, A190, H⟩ := H
     replace H : (some (t263.toList == t265.toList)) = some r := H
     have A19 := Aside0.mk A190
     clear A190
     obtain rfl := Option.some.inj H
     obtain ⟨hcz20_0, hcz20_1, hcz20_2, hcz20_3, hfz20_0, hfz20_1, hfz20_2, hfz20_3⟩ := zc4f BK262.out
     go_wp2_with (first | ((with_reducible refine gate_callee (f := 22) rfl ?_); refine goesL_ (some 24) rfl rfl Tryd.func22 (by kernel_rfl) rfl #[.agg #[.int .i64 t254, .int .i64 t255, .slice Ao9 t256.length co9, .slice Ao10 t259.length co10]] rfl (by (try simp only [zm1, zm2, zm3]); first | done | rfl | (simp only [List.length_drop, List.length_take]; rfl)) ?_; (with_reducible refine (spec_PkgText.calls kj4 t254 t255 _ _ t256 _ _ t259 t265 _ ?side1 ?side2 ?side3 ?side4 A19.out).mono ?_); (case side1 => exact zC (Kd.R_reads' HO_263002.out).2.2); (case side2 => exact (Kd.R_reads' HO_263002.out).2.1); (case side3 => exact zC (Kd.R_reads' HO_263003.out).2.2); (case side4 => exact (Kd.R_reads' HO_263003.out).2.1); rintro e w21 ⟨rfl, hb⟩; refine ⟨_, rfl, ?_⟩; have n0_ := Aside0.mk (Kd.R_below (by exact zR HO_263002.out) hb); have n1_ := Aside0.mk (Kd.R_below (by exact zR HO_263003.out) hb); have n2_ := Aside0.mk (blk_below (g := gb262) (o := .cells #[.int .i64 t254, .int .i64 t255, .slice Ao9 t256.length co9, .slice Ao10 t259.length co10] 31 (0, 0)) (by exact zK BK262.out) hb); have n3_ := Aside0.mk (below_step (by exact zB1 HB.out GE262.out) hb); clear HO_263002; clear HO_263003; clear BK262; clear HB; have HO_263002 := n0_; have HO_263003 := n1_; have BK262 := n2_; have HB := n3_; clear n0_ n1_ n2_ n3_; (try clear hb); (try clear hb2); (try clear hk); (try clear hi)))
     go_ret
     exact ⟨by first | rfl | (simp [errW_none, errW_some] <;> rfl) | (simp [*, errW_none, errW_some] <;> rfl), by exact zB1 HB.out GE262.out⟩
    ·replace c18 := Bool.eq_false_iff.mpr c18
     subst c18
     have H1 : ((impl_PkgRead.f kj4 t263).bind fun bt266 => (if bt266.2.2.2.2 = true then ((laws_luPkg.f kj4 bt266.1 bt266.2.1 bt266.2.2.1 bt266.2.2.2.1 t254 t255 t256 t259).bind fun t276 => (if t276 = true then ((impl_PkgOk.f kj4 t254 t255 t256 t259).bind fun t277 => (some t277)) else (none))) else (none))) = some r := by rw [if_neg (show ¬ (false = true) by decide)] at H; exact H
     clear H
     have H := H1
     clear H1
     replace H := Option.bind_eq_some_iff.mp H
     obtain ⟨⟨t266, t267, t268, t271, t274⟩, A220, H⟩ := H
     replace H : (if t274 = true then ((laws_luPkg.f kj4 t266 t267 t268 t271 t254 t255 t256 t259).bind fun t276 => (if t276 = true then ((impl_PkgOk.f kj4 t254 t255 t256 t259).bind fun t277 => (some t277)) else (none))) else (none)) = some r := H
     have A22 := Aside0.mk A220
     clear A220
     by_cases c23 : t274 = true
     ·subst c23
      have H1 : ((laws_luPkg.f kj4 t266 t267 t268 t271 t254 t255 t256 t259).bind fun t276 => (if t276 = true then ((impl_PkgOk.f kj4 t254 t255 t256 t259).bind fun t277 => (some t277)) else (none))) = some r := by rw [if_pos rfl] at H; exact H
      clear H
      have H := H1
      clear H1
      replace H := Option.bind_eq_some_iff.mp H
      obtain ⟨t276, A240, H⟩ := H
      replace H : (if t276 = true then ((impl_PkgOk.f kj4 t254 t255 t256 t259).bind fun t277 => (some t277)) else (none)) = some r := H
      have A24 := Aside0.mk A240
      clear A240
      by_cases c25 : t276 = true
      ·subst c25
       have H1 : ((impl_PkgOk.f kj4 t254 t255 t256 t259).bind fun t277 => (some t277)) = some r := by rw [if_pos rfl] at H; exact H
       clear H
       have H := H1
       clear H1
       replace H := Option.bind_eq_some_iff.mp H
       obtain ⟨t277, A260, H⟩ := H
       replace H : (some t277) = some r := H
       have A26 := Aside0.mk A260
       clear A260
       obtain rfl := Option.some.inj H
       go_wp2_with (first | ((with_reducible refine gate_callee (f := 19) rfl ?_); refine goesL_ (some 28) rfl rfl Tryd.func19 (by kernel_rfl) rfl #[.string t263] rfl (by (try simp only [zm1, zm2, zm3]); first | done | rfl | (simp only [List.length_drop, List.length_take]; rfl)) ?_; (with_reducible refine (impl_PkgRead.calls kj4 t263 t266 t267 t268 t271 true _ ?sideL A22.out).mono ?_); (case sideL => exact HLD.out.on (by exact zB1 HB.out GE262.out)); rintro e w27 ⟨v269, v272, rfl, ho0, ho1, hb⟩; refine ⟨_, rfl, ?_⟩; have n0_ := Aside0.mk (Kd.R_elder' (by exact zR HO_263002.out) (Kd.R_base ho0) hb); have n1_ := Aside0.mk (Kd.R_elder' (by exact zR HO_263003.out) (Kd.R_base ho1) hb); have n2_ := Aside0.mk (Kd.R_lower (Kd.R_new' ho0 (Kd.R_lt (by exact zR HO_263002.out))) (below_size (by exact zB1 HB.out GE262.out))); have n3_ := Aside0.mk (Kd.R_lower (Kd.R_new' ho1 (Kd.R_lt (by exact zR HO_263003.out))) (below_size (by exact zB1 HB.out GE262.out))); have n4_ := Aside0.mk (blk_below (g := gb262) (o := .cells #[.int .i64 t254, .int .i64 t255, .slice Ao9 t256.length co9, .slice Ao10 t259.length co10] 31 (0, 0)) (by exact zK BK262.out) hb); have n5_ := Aside0.mk (below_step (by exact zB1 HB.out GE262.out) hb); clear HO_263002; clear HO_263003; clear BK262; clear HB; have HO_263002 := n0_; have HO_263003 := n1_; have HO270 := n2_; have HO273 := n3_; have BK262 := n4_; have HB := n5_; clear n0_ n1_ n2_ n3_ n4_ n5_; (try clear hb); (try clear hb2); (try clear hk); (try clear hi); (try clear ho0); (try clear ho1)) | ((with_reducible refine gate_dst (N := 5) rfl ?_); refine box_event ?hg (N := 5) ?hd (cs := #[.int .i64 0, .int .i64 0, .slice none 0 0, .slice none 0 0]) (t := 31) ?hr ?_; (case hd => rfl); (case hg => rfl); (case hr => first | (go_simp; done) | (go_simp; rfl)); intro gb275 hg w28 hbox hb; have n0_ := Aside0.mk (Kd.R_below (by exact zR HO_263002.out) hb); have n1_ := Aside0.mk (Kd.R_below (by exact zR HO_263003.out) hb); have n2_ := Aside0.mk (Kd.R_below (by exact zR HO270.out) hb); have n3_ := Aside0.mk (Kd.R_below (by exact zR HO273.out) hb); have n4_ := Aside0.mk (blk_below (g := gb262) (o := .cells #[.int .i64 t254, .int .i64 t255, .slice Ao9 t256.length co9, .slice Ao10 t259.length co10] 31 (0, 0)) (by exact zK BK262.out) hb); have n5_ := Aside0.mk (below_step (by exact zB1 HB.out GE262.out) hb); have n6_ := Aside0.mk (hbox); have n7_ := Aside0.mk ((by rw [hg]; exact (below_size (by exact zB1 HB.out GE262.out)) : w.heap.size ≤ gb275)); have n8_ := Aside0.mk ((by rw [hg]; exact (below_size (by exact zB1 HB.out GE262.out)) : w.heap.size ≤ gb275)); have n9_ := Aside0.mk ((by rw [hg]; exact Nat.ne_of_lt (blk_lt (g := gb262) (o := .cells #[.int .i64 t254, .int .i64 t255, .slice Ao9 t256.length co9, .slice Ao10 t259.length co10] 31 (0, 0)) (by exact zK BK262.out)) : gb262 ≠ gb275)); have n10_ := Aside0.mk ((by rw [hg]; exact Nat.ne_of_gt (blk_lt (g := gb262) (o := .cells #[.int .i64 t254, .int .i64 t255, .slice Ao9 t256.length co9, .slice Ao10 t259.length co10] 31 (0, 0)) (by exact zK BK262.out)) : gb275 ≠ gb262)); clear HO_263002; clear HO_263003; clear HO270; clear HO273; clear BK262; clear HB; have HO_263002 := n0_; have HO_263003 := n1_; have HO270 := n2_; have HO273 := n3_; have BK262 := n4_; have HB := n5_; have BK275 := n6_; have GW275 := n7_; have GE275 := n8_; have NB262_275 := n9_; have NB275_262 := n10_; clear n0_ n1_ n2_ n3_ n4_ n5_ n6_ n7_ n8_ n9_ n10_; clear hb hbox hg; have hnb29 := NB275_262.out; have hnc29 := NB262_275.out; obtain ⟨hcz30_0, hcz30_1, hcz30_2, hcz30_3, hfz30_0, hfz30_1, hfz30_2, hfz30_3⟩ := zc4f BK275.out; obtain ⟨Ao31, co31, eo31⟩ := Kd.R_slice HO270.out; subst eo31; obtain ⟨Ao32, co32, eo32⟩ := Kd.R_slice HO273.out; subst eo32; obtain ⟨hcz33_0, hcz33_1, hcz33_2, hcz33_3, hfz33_0, hfz33_1, hfz33_2, hfz33_3⟩ := zc4f BK262.out) | (go_at_call 16; (with_reducible refine (laws_luPkg.calls kj4 t266 t267 _ _ t268 _ _ t271 t254 t255 _ _ t256 _ _ t259 true _ ?side1 ?side2 ?side3 ?side4 ?side5 ?side6 ?side7 ?side8 A24.out).mono ?_); (case side1 => refine (Kd.R_reads' (e := 67) (base := w.heap.size) (ok := fun k_ => (True ∧ some k_ ≠ (.slice Ao9 t256.length co9 : Value).ownBlock)) (n := t268.length) (c := co31) ?_).2.2; exact (by exact zR (Kd.R_mono (Kd.R_far (p := ⟨gb275, 3, none⟩) (Kd.R_far (p := ⟨gb275, 2, none⟩) (Kd.R_far (p := ⟨gb275, 1, none⟩) (Kd.R_far (p := ⟨gb275, 0, none⟩) (Kd.R_types HO270.out BK275.out (by decide)) (fun _ hk => hk.2) (.int .i64 t266)) (fun _ hk => hk.2) (.int .i64 t267)) (fun _ hk => hk.2) (.slice Ao31 t268.length co31)) (fun _ hk => hk.2) (.slice Ao32 t271.length co32)) (fun _ h_ => h_.1)))); (case side2 => exact (Kd.R_reads' HO270.out).2.1); (case side3 => refine (Kd.R_reads' (e := 69) (base := w.heap.size) (ok := fun k_ => (True ∧ some k_ ≠ (.slice Ao10 t259.length co10 : Value).ownBlock)) (n := t271.length) (c := co32) ?_).2.2; exact (by exact zR (Kd.R_mono (Kd.R_far (p := ⟨gb275, 3, none⟩) (Kd.R_far (p := ⟨gb275, 2, none⟩) (Kd.R_far (p := ⟨gb275, 1, none⟩) (Kd.R_far (p := ⟨gb275, 0, none⟩) (Kd.R_types HO273.out BK275.out (by decide)) (fun _ hk => hk.2) (.int .i64 t266)) (fun _ hk => hk.2) (.int .i64 t267)) (fun _ hk => hk.2) (.slice Ao31 t268.length co31)) (fun _ hk => hk.2) (.slice Ao32 t271.length co32)) (fun _ h_ => h_.1)))); (case side4 => exact (Kd.R_reads' HO273.out).2.1); (case side5 => refine (Kd.R_reads' (e := 67) (base := w.heap.size) (ok := fun k_ => (True ∧ some k_ ≠ (.slice Ao31 t268.length co31 : Value).ownBlock)) (n := t256.length) (c := co9) ?_).2.2; exact (by exact zR (Kd.R_mono (Kd.R_far (p := ⟨gb275, 3, none⟩) (Kd.R_far (p := ⟨gb275, 2, none⟩) (Kd.R_far (p := ⟨gb275, 1, none⟩) (Kd.R_far (p := ⟨gb275, 0, none⟩) (Kd.R_types HO_263002.out BK275.out (by decide)) (fun _ hk => hk.2) (.int .i64 t266)) (fun _ hk => hk.2) (.int .i64 t267)) (fun _ hk => hk.2) (.slice Ao31 t268.length co31)) (fun _ hk => hk.2) (.slice Ao32 t271.length co32)) (fun _ h_ => h_.1)))); (case side6 => exact (Kd.R_reads' HO_263002.out).2.1); (case side7 => refine (Kd.R_reads' (e := 69) (base := w.heap.size) (ok := fun k_ => (True ∧ some k_ ≠ (.slice Ao32 t271.length co32 : Value).ownBlock)) (n := t259.length) (c := co10) ?_).2.2; exact (by exact zR (Kd.R_mono (Kd.R_far (p := ⟨gb275, 3, none⟩) (Kd.R_far (p := ⟨gb275, 2, none⟩) (Kd.R_far (p := ⟨gb275, 1, none⟩) (Kd.R_far (p := ⟨gb275, 0, none⟩) (Kd.R_types HO_263003.out BK275.out (by decide)) (fun _ hk => hk.2) (.int .i64 t266)) (fun _ hk => hk.2) (.int .i64 t267)) (fun _ hk => hk.2) (.slice Ao31 t268.length co31)) (fun _ hk => hk.2) (.slice Ao32 t271.length co32)) (fun _ h_ => h_.1)))); (case side8 => exact (Kd.R_reads' HO_263003.out).2.1); rintro e w34 ⟨rfl, hb⟩; have n0_ := Aside0.mk (Kd.R_below (by exact zR (Kd.R_mono (Kd.R_far (p := ⟨gb275, 3, none⟩) (Kd.R_far (p := ⟨gb275, 2, none⟩) (Kd.R_far (p := ⟨gb275, 1, none⟩) (Kd.R_far (p := ⟨gb275, 0, none⟩) (Kd.R_types HO_263002.out BK275.out (by decide)) (fun _ hk => hk.2) (.int .i64 t266)) (fun _ hk => hk.2) (.int .i64 t267)) (fun _ hk => hk.2) (.slice Ao31 t268.length co31)) (fun _ hk => hk.2) (.slice Ao32 t271.length co32)) (fun _ h_ => h_.1))) hb); have n1_ := Aside0.mk (Kd.R_below (by exact zR (Kd.R_mono (Kd.R_far (p := ⟨gb275, 3, none⟩) (Kd.R_far (p := ⟨gb275, 2, none⟩) (Kd.R_far (p := ⟨gb275, 1, none⟩) (Kd.R_far (p := ⟨gb275, 0, none⟩) (Kd.R_types HO_263003.out BK275.out (by decide)) (fun _ hk => hk.2) (.int .i64 t266)) (fun _ hk => hk.2) (.int .i64 t267)) (fun _ hk => hk.2) (.slice Ao31 t268.length co31)) (fun _ hk => hk.2) (.slice Ao32 t271.length co32)) (fun _ h_ => h_.1))) hb); have n2_ := Aside0.mk (Kd.R_below (by exact zR (Kd.R_mono (Kd.R_far (p := ⟨gb275, 3, none⟩) (Kd.R_far (p := ⟨gb275, 2, none⟩) (Kd.R_far (p := ⟨gb275, 1, none⟩) (Kd.R_far (p := ⟨gb275, 0, none⟩) (Kd.R_types HO270.out BK275.out (by decide)) (fun _ hk => hk.2) (.int .i64 t266)) (fun _ hk => hk.2) (.int .i64 t267)) (fun _ hk => hk.2) (.slice Ao31 t268.length co31)) (fun _ hk => hk.2) (.slice Ao32 t271.length co32)) (fun _ h_ => h_.1))) hb); have n3_ := Aside0.mk (Kd.R_below (by exact zR (Kd.R_mono (Kd.R_far (p := ⟨gb275, 3, none⟩) (Kd.R_far (p := ⟨gb275, 2, none⟩) (Kd.R_far (p := ⟨gb275, 1, none⟩) (Kd.R_far (p := ⟨gb275, 0, none⟩) (Kd.R_types HO273.out BK275.out (by decide)) (fun _ hk => hk.2) (.int .i64 t266)) (fun _ hk => hk.2) (.int .i64 t267)) (fun _ hk => hk.2) (.slice Ao31 t268.length co31)) (fun _ hk => hk.2) (.slice Ao32 t271.length co32)) (fun _ h_ => h_.1))) hb); have n4_ := Aside0.mk (blk_below (g := gb262) (o := .cells #[.int .i64 t254, .int .i64 t255, .slice Ao9 t256.length co9, .slice Ao10 t259.length co10] 31 (0, 0)) (by (with_reducible repeat (first | refine blk_drewN ?_ _ | refine blk_drew ?_ | refine blk_alloc ?_ _)); refine blk_far ?_ NB262_275.out _; (with_reducible repeat (first | refine blk_drewN ?_ _ | refine blk_drew ?_ | refine blk_alloc ?_ _)); refine blk_far ?_ NB262_275.out _; (with_reducible repeat (first | refine blk_drewN ?_ _ | refine blk_drew ?_ | refine blk_alloc ?_ _)); refine blk_far ?_ NB262_275.out _; (with_reducible repeat (first | refine blk_drewN ?_ _ | refine blk_drew ?_ | refine blk_alloc ?_ _)); refine blk_far ?_ NB262_275.out _; exact zK BK262.out) hb); have n5_ := Aside0.mk (blk_below (g := gb275) (o := .cells #[.int .i64 t266, .int .i64 t267, .slice Ao31 t268.length co31, .slice Ao32 t271.length co32] 31 (0, 0)) (by (with_reducible repeat (first | refine blk_drewN ?_ _ | refine blk_drew ?_ | refine blk_alloc ?_ _)); refine blk_put (cs := #[.int .i64 t266, .int .i64 t267, .slice Ao31 t268.length co31, .slice none 0 0]) ?_ 3 _ rfl; (with_reducible repeat (first | refine blk_drewN ?_ _ | refine blk_drew ?_ | refine blk_alloc ?_ _)); refine blk_put (cs := #[.int .i64 t266, .int .i64 t267, .slice none 0 0, .slice none 0 0]) ?_ 2 _ rfl; (with_reducible repeat (first | refine blk_drewN ?_ _ | refine blk_drew ?_ | refine blk_alloc ?_ _)); refine blk_put (cs := #[.int .i64 t266, .int .i64 0, .slice none 0 0, .slice none 0 0]) ?_ 1 _ rfl; (with_reducible repeat (first | refine blk_drewN ?_ _ | refine blk_drew ?_ | refine blk_alloc ?_ _)); refine blk_put (cs := #[.int .i64 0, .int .i64 0, .slice none 0 0, .slice none 0 0]) ?_ 0 _ rfl; exact zK BK275.out) hb); have n6_ := Aside0.mk (below_step (by exact zB2 HB.out GE262.out GE275.out) hb); clear HO_263002; clear HO_263003; clear HO270; clear HO273; clear BK262; clear BK275; clear HB; have HO_263002 := n0_; have HO_263003 := n1_; have HO270 := n2_; have HO273 := n3_; have BK262 := n4_; have BK275 := n5_; have HB := n6_; clear n0_ n1_ n2_ n3_ n4_ n5_ n6_; (try clear hb); (try clear hb2); (try clear hk); (try clear hi); obtain ⟨hcz35_0, hcz35_1, hcz35_2, hcz35_3, hfz35_0, hfz35_1, hfz35_2, hfz35_3⟩ := zc4f BK262.out) | (go_at_call 23; (with_reducible refine (impl_PkgOk.calls kj4 t254 t255 _ _ t256 _ _ t259 t277 _ ?side1 ?side2 ?side3 ?side4 A26.out).mono ?_); (case side1 => exact zC (Kd.R_reads' HO_263002.out).2.2); (case side2 => exact (Kd.R_reads' HO_263002.out).2.1); (case side3 => exact zC (Kd.R_reads' HO_263003.out).2.2); (case side4 => exact (Kd.R_reads' HO_263003.out).2.1); rintro e w36 ⟨rfl, hb⟩; have n0_ := Aside0.mk (Kd.R_below (by exact zR HO_263002.out) hb); have n1_ := Aside0.mk (Kd.R_below (by exact zR HO_263003.out) hb); have n2_ := Aside0.mk (Kd.R_below (by exact zR HO270.out) hb); have n3_ := Aside0.mk (Kd.R_below (by exact zR HO273.out) hb); have n4_ := Aside0.mk (blk_below (g := gb262) (o := .cells #[.int .i64 t254, .int .i64 t255, .slice Ao9 t256.length co9, .slice Ao10 t259.length co10] 31 (0, 0)) (by exact zK BK262.out) hb); have n5_ := Aside0.mk (blk_below (g := gb275) (o := .cells #[.int .i64 t266, .int .i64 t267, .slice Ao31 t268.length co31, .slice Ao32 t271.length co32] 31 (0, 0)) (by exact zK BK275.out) hb); have n6_ := Aside0.mk (below_step (by exact zB2 HB.out GE262.out GE275.out) hb); clear HO_263002; clear HO_263003; clear HO270; clear HO273; clear BK262; clear BK275; clear HB; have HO_263002 := n0_; have HO_263003 := n1_; have HO270 := n2_; have HO273 := n3_; have BK262 := n4_; have BK275 := n5_; have HB := n6_; clear n0_ n1_ n2_ n3_ n4_ n5_ n6_; (try clear hb); (try clear hb2); (try clear hk); (try clear hi)))
       go_ret
       exact ⟨by first | rfl | (simp [errW_none, errW_some] <;> rfl) | (simp [*, errW_none, errW_some] <;> rfl), by exact zB2 HB.out GE262.out GE275.out⟩
      ·replace c25 := Bool.eq_false_iff.mpr c25
       subst c25
       have H1 : (none) = some r := by rw [if_neg (show ¬ (false = true) by decide)] at H; exact H
       clear H
       have H := H1
       clear H1
       exact absurd H (by simp)
     ·replace c23 := Bool.eq_false_iff.mpr c23
      subst c23
      have H1 : (none) = some r := by rw [if_neg (show ¬ (false = true) by decide)] at H; exact H
      clear H
      have H := H1
      clear H1
      exact absurd H (by simp)

/-- THE ONE PURE STATEMENT of laws_FnPkgBack: yours. -/
def laws_FnPkgBack.Pure : Prop := ∀ (l0 : List Int), l0.length ≤ maxLen → l0.length * 1 ≤ 140737488351232 → (∀ x ∈ l0, (Lit.int .u8 x).wf = true) → ∃ k, laws_FnPkgBack.f k l0 = some true
theorem laws_FnPkgBack.walk (P : laws_FnPkgBack.Pure) (a0 : Option Addr) (len0 cap0 : Nat) (z0 : List Int) (w : World) (w0 : (a0 = none ∧ len0 = 0 ∧ cap0 = 0 ∧ z0 = []) ∨ ∃ x, a0 = some x ∧ len0 ≤ cap0 ∧ cap0 ≤ maxLen ∧ z0.length = cap0 ∧ (∀ i, i < z0.length → w.cell? (x.add i) = some (.int .u8 (z0.getD i 0))) ∧ ∀ n ∈ z0, (Lit.int .u8 n).wf = true) (y0 : len0 * 1 ≤ 140737488351232) (hLD : LaidW w) :
  Calls Tryd.prog 5 #[.slice a0 len0 cap0] w fun e w' => e = .returned (.bool true) ∧ Below w.heap.size w w' := by
 obtain ⟨l0, rfl, hr0, hm0, hw0, hc0⟩ := ReadsInt.ofRowC w0
 obtain ⟨k, h⟩ := P l0 hm0 y0 hw0
 refine (laws_FnPkgBack.calls k _ _ l0 true w (Kd.C_of_reads (d := (0 : Int)) (h1 := fun _ => rfl) hr0) hc0 hLD h).mono ?_
 rintro e w' ⟨rfl, hd⟩
 exact ⟨rfl, hd⟩

end Go.Proofs.YtkjgnnjcjkphbaaDoor.PFnPkgBack
