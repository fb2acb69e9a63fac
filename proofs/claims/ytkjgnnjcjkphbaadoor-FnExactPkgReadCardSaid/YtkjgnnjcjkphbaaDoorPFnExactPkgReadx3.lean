-- printed for this claim by a program out of the translation, its tactics shortened by another
import Derived.Test.YtkjgnnjcjkphbaaDoorPFnExactPkgReadx2
namespace Go.Proofs.YtkjgnnjcjkphbaaDoor.PFnExactPkgRead
open Go.RowKit Go.Proofs.YtkjgnnjcjkphbaaDoorW.PrintWords Go.Proofs.YtkjgnnjcjkphbaaDoorW.PrintLast Go.Proofs.YtkjgnnjcjkphbaaDoorW.PrintMore
attribute [local go_sem] max2_int min2_int max_two min_two max_three min_three max_four min_four   -- for this text's walks alone
set_option linter.unusedVariables false
set_option linter.unusedSimpArgs false

/-! ### laws_FnExactPkgRead: function 9 -/
mutual
def laws_FnExactPkgRead.j0 : Nat → ByteArray → Bool → Bool → Int → Int → List (S67) → List (S69) → Int → Int → List (S67) → List (S69) → Option (Bool)
 | 0, _, _, _, _, _, _, _, _, _, _, _ => none
 | k + 1, x0, x4, x32, x219000, x219001, x219002, x219003, x229000, x229001, x229002, x229003 => if x32 = true then (none) else ((laws_markPkg.f k x229000 x229001 x229002 x229003 1).bind fun bt230 => ((laws_heldPkg.f k x229000 x229001 bt230.2.1 bt230.2.2 1).bind fun t233 => (if t233 < 0 then (none) else (if t233 = bt230.1 then ((impl_PkgRead.f k x0).bind fun bt234 => ((laws_eqPkg.f k bt234.1 bt234.2.1 bt234.2.2.1 bt234.2.2.2.1 x219000 x219001 x219002 x219003).bind fun t244 => (if t244 = true then (laws_FnExactPkgRead.j1 k bt230.1 (bt234.2.2.2.2 != x4) x229000 x229001 bt230.2.1 bt230.2.2) else (laws_FnExactPkgRead.j1 k bt230.1 true x229000 x229001 bt230.2.1 bt230.2.2)))) else (none)))))
def laws_FnExactPkgRead.j1 : Nat → Int → Bool → Int → Int → List (S67) → List (S69) → Option (Bool)
 | 0, _, _, _, _, _, _ => none
 | k + 1, x7, x57, x229000, x229001, x229002, x229003 => if x57 = true then (none) else ((laws_heldPkg.f k x229000 x229001 x229002 x229003 1).bind fun t245 => (if t245 < 0 then (none) else (if t245 = x7 then (some true) else (none))))
end
def laws_FnExactPkgRead.f (k : Nat) (a0 : ByteArray) : Option (Bool) := if (a0.size : Int) > 1048576 then (some true) else ((spec_PkgRead.f k a0).bind fun bt209 => ((impl_PkgRead.f k a0).bind fun bt219 => ((laws_eqPkg.f k bt219.1 bt219.2.1 bt219.2.2.1 bt219.2.2.2.1 bt209.1 bt209.2.1 bt209.2.2.1 bt209.2.2.2.1).bind fun t229 => (if t229 = true then (laws_FnExactPkgRead.j0 k a0 bt209.2.2.2.2 (bt219.2.2.2.2 != bt209.2.2.2.2) bt209.1 bt209.2.1 bt209.2.2.1 bt209.2.2.2.1 bt219.1 bt219.2.1 bt219.2.2.1 bt219.2.2.2.1) else (laws_FnExactPkgRead.j0 k a0 bt209.2.2.2.2 true bt209.1 bt209.2.1 bt209.2.2.1 bt209.2.2.2.1 bt219.1 bt219.2.1 bt219.2.2.1 bt219.2.2.2.1)))))
theorem laws_FnExactPkgRead.mono_l : ∀ k, (∀ y0 y1 y2 y3 y4 y5 y6 y7 y8 y9 y10, LeO (laws_FnExactPkgRead.j0 k y0 y1 y2 y3 y4 y5 y6 y7 y8 y9 y10) (laws_FnExactPkgRead.j0 (k + 1) y0 y1 y2 y3 y4 y5 y6 y7 y8 y9 y10)) ∧ (∀ y0 y1 y2 y3 y4 y5, LeO (laws_FnExactPkgRead.j1 k y0 y1 y2 y3 y4 y5) (laws_FnExactPkgRead.j1 (k + 1) y0 y1 y2 y3 y4 y5))
 | 0 => ⟨fun _ _ _ _ _ _ _ _ _ _ _ r h => by simp [laws_FnExactPkgRead.j0] at h, fun _ _ _ _ _ _ r h => by simp [laws_FnExactPkgRead.j1] at h⟩
 | k + 1 => by
  obtain ⟨ih0, ih1⟩ := laws_FnExactPkgRead.mono_l k
  refine ⟨?_, ?_⟩
  ·intro y0 y1 y2 y3 y4 y5 y6 y7 y8 y9 y10
   unfold laws_FnExactPkgRead.j0
   repeat' first
   | (with_reducible exact ih0 _ _ _ _ _ _ _ _ _ _ _)
   | (with_reducible exact ih1 _ _ _ _ _ _)
   | (with_reducible exact impl_PkgRead.mono _ _)
   | (with_reducible exact laws_eqPkg.mono _ _ _ _ _ _ _ _ _)
   | (with_reducible exact laws_heldPkg.mono _ _ _ _ _ _)
   | (with_reducible exact laws_markPkg.mono _ _ _ _ _ _)
   | (with_reducible exact spec_PkgRead.mono _ _)
   | (with_reducible exact LeO.refl _)
   | (with_reducible exact LeO.none _)
   | (with_reducible refine LeO.ite ?_ ?_)
   | (with_reducible refine LeO.bind ?_ (fun _ => ?_))
   | exact ih0 _ _ _ _ _ _ _ _ _ _ _
   | exact ih1 _ _ _ _ _ _
   | exact impl_PkgRead.mono _ _
   | exact laws_eqPkg.mono _ _ _ _ _ _ _ _ _
   | exact laws_heldPkg.mono _ _ _ _ _ _
   | exact laws_markPkg.mono _ _ _ _ _ _
   | exact spec_PkgRead.mono _ _
   | exact LeO.none _
   | refine LeO.ite ?_ ?_
   | refine LeO.bind ?_ (fun _ => ?_)
  ·intro y0 y1 y2 y3 y4 y5
   unfold laws_FnExactPkgRead.j1
   repeat' first
   | (with_reducible exact ih0 _ _ _ _ _ _ _ _ _ _ _)
   | (with_reducible exact ih1 _ _ _ _ _ _)
   | (with_reducible exact impl_PkgRead.mono _ _)
   | (with_reducible exact laws_eqPkg.mono _ _ _ _ _ _ _ _ _)
   | (with_reducible exact laws_heldPkg.mono _ _ _ _ _ _)
   | (with_reducible exact laws_markPkg.mono _ _ _ _ _ _)
   | (with_reducible exact spec_PkgRead.mono _ _)
   | (with_reducible exact LeO.refl _)
   | (with_reducible exact LeO.none _)
   | (with_reducible refine LeO.ite ?_ ?_)
   | (with_reducible refine LeO.bind ?_ (fun _ => ?_))
   | exact ih0 _ _ _ _ _ _ _ _ _ _ _
   | exact ih1 _ _ _ _ _ _
   | exact impl_PkgRead.mono _ _
   | exact laws_eqPkg.mono _ _ _ _ _ _ _ _ _
   | exact laws_heldPkg.mono _ _ _ _ _ _
   | exact laws_markPkg.mono _ _ _ _ _ _
   | exact spec_PkgRead.mono _ _
   | exact LeO.none _
   | refine LeO.ite ?_ ?_
   | refine LeO.bind ?_ (fun _ => ?_)
theorem laws_FnExactPkgRead.mono : ∀ a0 k, LeO (laws_FnExactPkgRead.f k a0) (laws_FnExactPkgRead.f (k + 1) a0) := by
 intro a0 k
 obtain ⟨ih0, ih1⟩ := laws_FnExactPkgRead.mono_l k
 unfold laws_FnExactPkgRead.f
 repeat' first
   | (with_reducible exact ih0 _ _ _ _ _ _ _ _ _ _ _)
   | (with_reducible exact ih1 _ _ _ _ _ _)
   | (with_reducible exact impl_PkgRead.mono _ _)
   | (with_reducible exact laws_eqPkg.mono _ _ _ _ _ _ _ _ _)
   | (with_reducible exact laws_heldPkg.mono _ _ _ _ _ _)
   | (with_reducible exact laws_markPkg.mono _ _ _ _ _ _)
   | (with_reducible exact spec_PkgRead.mono _ _)
   | (with_reducible exact LeO.refl _)
   | (with_reducible exact LeO.none _)
   | (with_reducible refine LeO.ite ?_ ?_)
   | (with_reducible refine LeO.bind ?_ (fun _ => ?_))
   | exact ih0 _ _ _ _ _ _ _ _ _ _ _
   | exact ih1 _ _ _ _ _ _
   | exact impl_PkgRead.mono _ _
   | exact laws_eqPkg.mono _ _ _ _ _ _ _ _ _
   | exact laws_heldPkg.mono _ _ _ _ _ _
   | exact laws_markPkg.mono _ _ _ _ _ _
   | exact spec_PkgRead.mono _ _
   | exact LeO.none _
   | refine LeO.ite ?_ ?_
   | refine LeO.bind ?_ (fun _ => ?_)
set_option maxHeartbeats 8000000 in
set_option maxRecDepth 100000 in
theorem laws_FnExactPkgRead.calls (k : Nat) (a0 : ByteArray) (r : Bool) (w : World) (hLD : LaidW w) (h : laws_FnExactPkgRead.f k a0 = some r) :
  Calls Tryd.prog 9 #[.string a0] w fun e w' => e = .returned (.bool r) ∧ Below w.heap.size w w' := by
 have hu31 := Tryd.underlying31
 have HB := Aside0.mk (Below.refl w.heap.size w)
 have HLD := Aside0.mk hLD
 clear hLD
 have H : (if (a0.size : Int) > 1048576 then (some true) else ((spec_PkgRead.f k a0).bind fun bt209 => ((impl_PkgRead.f k a0).bind fun bt219 => ((laws_eqPkg.f k bt219.1 bt219.2.1 bt219.2.2.1 bt219.2.2.2.1 bt209.1 bt209.2.1 bt209.2.2.1 bt209.2.2.2.1).bind fun t229 => (if t229 = true then (laws_FnExactPkgRead.j0 k a0 bt209.2.2.2.2 (bt219.2.2.2.2 != bt209.2.2.2.2) bt209.1 bt209.2.1 bt209.2.2.1 bt209.2.2.2.1 bt219.1 bt219.2.1 bt219.2.2.1 bt219.2.2.2.1) else (laws_FnExactPkgRead.j0 k a0 bt209.2.2.2.2 true bt209.1 bt209.2.1 bt209.2.2.1 bt209.2.2.2.1 bt219.1 bt219.2.1 bt219.2.2.1 bt219.2.2.2.1)))))) = some r := h
 clear h
 by_cases c2 : (a0.size : Int) > 1048576
 ·rw [if_pos c2] at H
  have c2b0 : decide (1048576 < (a0.size : Int)) = true := decide_eq_true c2
  have c2b1 : decide (1048576 < a0.size) = true := decide_eq_true (by omega)
  clear c2
  obtain rfl := Option.some.inj H
  go_enter Tryd.func9, Tryd.ntmps9
  go_wp2
  go_ret
  exact ⟨by first | rfl | (simp [errW_none, errW_some] <;> rfl) | (simp [*, errW_none, errW_some] <;> rfl), by exact zB HB.out⟩
 ·rw [if_neg c2] at H
  have c2b0 : decide (1048576 < (a0.size : Int)) = false := decide_eq_false c2
  have c2b1 : decide (1048576 < a0.size) = false := decide_eq_false (by omega)
  clear c2
  replace H := Option.bind_eq_some_iff.mp H
  obtain ⟨⟨t209, t210, t211, t214, t217⟩, A30, H⟩ := H
  replace H : ((impl_PkgRead.f k a0).bind fun bt219 => ((laws_eqPkg.f k bt219.1 bt219.2.1 bt219.2.2.1 bt219.2.2.2.1 t209 t210 t211 t214).bind fun t229 => (if t229 = true then (laws_FnExactPkgRead.j0 k a0 t217 (bt219.2.2.2.2 != t217) t209 t210 t211 t214 bt219.1 bt219.2.1 bt219.2.2.1 bt219.2.2.2.1) else (laws_FnExactPkgRead.j0 k a0 t217 true t209 t210 t211 t214 bt219.1 bt219.2.1 bt219.2.2.1 bt219.2.2.2.1)))) = some r := H
  have A3 := Aside0.mk A30
  clear A30
  replace H := Option.bind_eq_some_iff.mp H
  obtain ⟨⟨t219, t220, t221, t224, t227⟩, A40, H⟩ := H
  replace H : ((laws_eqPkg.f k t219 t220 t221 t224 t209 t210 t211 t214).bind fun t229 => (if t229 = true then (laws_FnExactPkgRead.j0 k a0 t217 (t227 != t217) t209 t210 t211 t214 t219 t220 t221 t224) else (laws_FnExactPkgRead.j0 k a0 t217 true t209 t210 t211 t214 t219 t220 t221 t224))) = some r := H
  have A4 := Aside0.mk A40
  clear A40
  have HC5 := Aside0.mk H
  clear H
  go_enter Tryd.func9, Tryd.ntmps9
  go_upto_region 5 with (first | ((with_reducible refine gate_callee (f := 25) rfl ?_); refine goesL_ (some 16) rfl rfl Tryd.func25 (by kernel_rfl) rfl #[.string a0] rfl (by (try simp only [zm1, zm2, zm3]); first | done | rfl | (simp only [List.length_drop, List.length_take]; rfl)) ?_; (with_reducible refine (spec_PkgRead.calls k a0 t209 t210 t211 t214 t217 _ A3.out).mono ?_); rintro e w6 ⟨v212, v215, rfl, ho0, ho1, hb⟩; refine ⟨_, rfl, ?_⟩; have n0_ := Aside0.mk (Kd.R_lower ho0 (below_size (by exact zB HB.out))); have n1_ := Aside0.mk (Kd.R_lower ho1 (below_size (by exact zB HB.out))); have n2_ := Aside0.mk (below_step (by exact zB HB.out) hb); clear HB; have HO213 := n0_; have HO216 := n1_; have HB := n2_; clear n0_ n1_ n2_; (try clear hb); (try clear hb2); (try clear hk); (try clear hi); (try clear ho0); (try clear ho1)) | ((with_reducible refine gate_dst (N := 3) rfl ?_); refine box_event ?hg (N := 3) ?hd (cs := #[.int .i64 0, .int .i64 0, .slice none 0 0, .slice none 0 0]) (t := 31) ?hr ?_; (case hd => rfl); (case hg => rfl); (case hr => first | (go_simp; done) | (go_simp; rfl)); intro gb218 hg w7 hbox hb; have n0_ := Aside0.mk (Kd.R_below (by exact zR HO213.out) hb); have n1_ := Aside0.mk (Kd.R_below (by exact zR HO216.out) hb); have n2_ := Aside0.mk (below_step (by exact zB HB.out) hb); have n3_ := Aside0.mk (hbox); have n4_ := Aside0.mk ((by rw [hg]; exact (below_size (by exact zB HB.out)) : w.heap.size ≤ gb218)); have n5_ := Aside0.mk ((by rw [hg]; exact (below_size (by exact zB HB.out)) : w.heap.size ≤ gb218)); clear HO213; clear HO216; clear HB; have HO213 := n0_; have HO216 := n1_; have HB := n2_; have BK218 := n3_; have GW218 := n4_; have GE218 := n5_; clear n0_ n1_ n2_ n3_ n4_ n5_; clear hb hbox hg; obtain ⟨hcz8_0, hcz8_1, hcz8_2, hcz8_3, hfz8_0, hfz8_1, hfz8_2, hfz8_3⟩ := zc4f BK218.out; obtain ⟨Ao9, co9, eo9⟩ := Kd.R_slice HO213.out; subst eo9; obtain ⟨Ao10, co10, eo10⟩ := Kd.R_slice HO216.out; subst eo10) | ((with_reducible refine gate_callee (f := 19) rfl ?_); refine goesL_ (some 21) rfl rfl Tryd.func19 (by kernel_rfl) rfl #[.string a0] rfl (by (try simp only [zm1, zm2, zm3]); first | done | rfl | (simp only [List.length_drop, List.length_take]; rfl)) ?_; (with_reducible refine (impl_PkgRead.calls k a0 t219 t220 t221 t224 t227 _ ?sideL A4.out).mono ?_); (case sideL => exact HLD.out.on (by exact zB1 HB.out GE218.out)); rintro e w11 ⟨v222, v225, rfl, ho0, ho1, hb⟩; refine ⟨_, rfl, ?_⟩; have n0_ := Aside0.mk (Kd.R_elder' (by exact zR (Kd.R_mono (Kd.R_far (p := ⟨gb218, 3, none⟩) (Kd.R_far (p := ⟨gb218, 2, none⟩) (Kd.R_far (p := ⟨gb218, 1, none⟩) (Kd.R_far (p := ⟨gb218, 0, none⟩) (Kd.R_types HO213.out BK218.out (by decide)) (fun _ hk => hk.2) (.int .i64 t209)) (fun _ hk => hk.2) (.int .i64 t210)) (fun _ hk => hk.2) (.slice Ao9 t211.length co9)) (fun _ hk => hk.2) (.slice Ao10 t214.length co10)) (fun _ h_ => h_.1))) (Kd.R_base ho0) hb); have n1_ := Aside0.mk (Kd.R_elder' (by exact zR (Kd.R_mono (Kd.R_far (p := ⟨gb218, 3, none⟩) (Kd.R_far (p := ⟨gb218, 2, none⟩) (Kd.R_far (p := ⟨gb218, 1, none⟩) (Kd.R_far (p := ⟨gb218, 0, none⟩) (Kd.R_types HO216.out BK218.out (by decide)) (fun _ hk => hk.2) (.int .i64 t209)) (fun _ hk => hk.2) (.int .i64 t210)) (fun _ hk => hk.2) (.slice Ao9 t211.length co9)) (fun _ hk => hk.2) (.slice Ao10 t214.length co10)) (fun _ h_ => h_.1))) (Kd.R_base ho1) hb); have n2_ := Aside0.mk (Kd.R_lower (Kd.R_new' ho0 (Kd.R_lt (by exact zR (Kd.R_mono (Kd.R_far (p := ⟨gb218, 3, none⟩) (Kd.R_far (p := ⟨gb218, 2, none⟩) (Kd.R_far (p := ⟨gb218, 1, none⟩) (Kd.R_far (p := ⟨gb218, 0, none⟩) (Kd.R_types HO213.out BK218.out (by decide)) (fun _ hk => hk.2) (.int .i64 t209)) (fun _ hk => hk.2) (.int .i64 t210)) (fun _ hk => hk.2) (.slice Ao9 t211.length co9)) (fun _ hk => hk.2) (.slice Ao10 t214.length co10)) (fun _ h_ => h_.1))))) (below_size (by exact zB1 HB.out GE218.out))); have n3_ := Aside0.mk (Kd.R_lower (Kd.R_new' ho1 (Kd.R_lt (by exact zR (Kd.R_mono (Kd.R_far (p := ⟨gb218, 3, none⟩) (Kd.R_far (p := ⟨gb218, 2, none⟩) (Kd.R_far (p := ⟨gb218, 1, none⟩) (Kd.R_far (p := ⟨gb218, 0, none⟩) (Kd.R_types HO216.out BK218.out (by decide)) (fun _ hk => hk.2) (.int .i64 t209)) (fun _ hk => hk.2) (.int .i64 t210)) (fun _ hk => hk.2) (.slice Ao9 t211.length co9)) (fun _ hk => hk.2) (.slice Ao10 t214.length co10)) (fun _ h_ => h_.1))))) (below_size (by exact zB1 HB.out GE218.out))); have n4_ := Aside0.mk (blk_below (g := gb218) (o := .cells #[.int .i64 t209, .int .i64 t210, .slice Ao9 t211.length co9, .slice Ao10 t214.length co10] 31 (0, 0)) (by (with_reducible repeat (first | refine blk_drewN ?_ _ | refine blk_drew ?_ | refine blk_alloc ?_ _)); refine blk_put (cs := #[.int .i64 t209, .int .i64 t210, .slice Ao9 t211.length co9, .slice none 0 0]) ?_ 3 _ rfl; (with_reducible repeat (first | refine blk_drewN ?_ _ | refine blk_drew ?_ | refine blk_alloc ?_ _)); refine blk_put (cs := #[.int .i64 t209, .int .i64 t210, .slice none 0 0, .slice none 0 0]) ?_ 2 _ rfl; (with_reducible repeat (first | refine blk_drewN ?_ _ | refine blk_drew ?_ | refine blk_alloc ?_ _)); refine blk_put (cs := #[.int .i64 t209, .int .i64 0, .slice none 0 0, .slice none 0 0]) ?_ 1 _ rfl; (with_reducible repeat (first | refine blk_drewN ?_ _ | refine blk_drew ?_ | refine blk_alloc ?_ _)); refine blk_put (cs := #[.int .i64 0, .int .i64 0, .slice none 0 0, .slice none 0 0]) ?_ 0 _ rfl; exact zK BK218.out) hb); have n5_ := Aside0.mk (below_step (by exact zB1 HB.out GE218.out) hb); clear HO213; clear HO216; clear BK218; clear HB; have HO213 := n0_; have HO216 := n1_; have HO223 := n2_; have HO226 := n3_; have BK218 := n4_; have HB := n5_; clear n0_ n1_ n2_ n3_ n4_ n5_; (try clear hb); (try clear hb2); (try clear hk); (try clear hi); (try clear ho0); (try clear ho1)) | ((with_reducible refine gate_dst (N := 5) rfl ?_); refine box_event ?hg (N := 5) ?hd (cs := #[.int .i64 0, .int .i64 0, .slice none 0 0, .slice none 0 0]) (t := 31) ?hr ?_; (case hd => rfl); (case hg => rfl); (case hr => first | (go_simp; done) | (go_simp; rfl)); intro gb228 hg w12 hbox hb; have n0_ := Aside0.mk (Kd.R_below (by exact zR HO213.out) hb); have n1_ := Aside0.mk (Kd.R_below (by exact zR HO216.out) hb); have n2_ := Aside0.mk (Kd.R_below (by exact zR HO223.out) hb); have n3_ := Aside0.mk (Kd.R_below (by exact zR HO226.out) hb); have n4_ := Aside0.mk (blk_below (g := gb218) (o := .cells #[.int .i64 t209, .int .i64 t210, .slice Ao9 t211.length co9, .slice Ao10 t214.length co10] 31 (0, 0)) (by exact zK BK218.out) hb); have n5_ := Aside0.mk (below_step (by exact zB1 HB.out GE218.out) hb); have n6_ := Aside0.mk (hbox); have n7_ := Aside0.mk ((by rw [hg]; exact (below_size (by exact zB1 HB.out GE218.out)) : w.heap.size ≤ gb228)); have n8_ := Aside0.mk ((by rw [hg]; exact (below_size (by exact zB1 HB.out GE218.out)) : w.heap.size ≤ gb228)); have n9_ := Aside0.mk ((by rw [hg]; exact Nat.ne_of_lt (blk_lt (g := gb218) (o := .cells #[.int .i64 t209, .int .i64 t210, .slice Ao9 t211.length co9, .slice Ao10 t214.length co10] 31 (0, 0)) (by exact zK BK218.out)) : gb218 ≠ gb228)); have n10_ := Aside0.mk ((by rw [hg]; exact Nat.ne_of_gt (blk_lt (g := gb218) (o := .cells #[.int .i64 t209, .int .i64 t210, .slice Ao9 t211.length co9, .slice Ao10 t214.length co10] 31 (0, 0)) (by exact zK BK218.out)) : gb228 ≠ gb218)); clear HO213; clear HO216; clear HO223; clear HO226; clear BK218; clear HB; have HO213 := n0_; have HO216 := n1_; have HO223 := n2_; have HO226 := n3_; have BK218 := n4_; have HB := n5_; have BK228 := n6_; have GW228 := n7_; have GE228 := n8_; have NB218_228 := n9_; have NB228_218 := n10_; clear n0_ n1_ n2_ n3_ n4_ n5_ n6_ n7_ n8_ n9_ n10_; clear hb hbox hg; have hnb13 := NB228_218.out; have hnc13 := NB218_228.out; obtain ⟨hcz14_0, hcz14_1, hcz14_2, hcz14_3, hfz14_0, hfz14_1, hfz14_2, hfz14_3⟩ := zc4f BK228.out; obtain ⟨Ao15, co15, eo15⟩ := Kd.R_slice HO223.out; subst eo15; obtain ⟨Ao16, co16, eo16⟩ := Kd.R_slice HO226.out; subst eo16))
  (try simp only [zp0, zp1, zp2, zp3, zp4])
  go_cut [32] (fun v32 wc => ∃ (kq : Nat) (x32_4 : Bool), v32 = .bool x32_4 ∧ Aside0 (laws_FnExactPkgRead.j0 kq a0 t217 x32_4 t209 t210 t211 t214 t219 t220 t221 t224 = some r) ∧ Aside0 (kq ≤ k) ∧ Aside0 (Kd.R k67 67 wc w.heap.size (fun k_ => some k_ ≠ ((.slice Ao15 t221.length co15) : Value).ownBlock) (.slice Ao9 t211.length co9) t211) ∧ Aside0 (Kd.R k69 69 wc w.heap.size (fun k_ => some k_ ≠ ((.slice Ao16 t224.length co16) : Value).ownBlock) (.slice Ao10 t214.length co10) t214) ∧ Aside0 (Kd.R k67 67 wc w.heap.size (fun k_ => some k_ ≠ ((.slice Ao9 t211.length co9) : Value).ownBlock) (.slice Ao15 t221.length co15) t221) ∧ Aside0 (Kd.R k69 69 wc w.heap.size (fun k_ => some k_ ≠ ((.slice Ao10 t214.length co10) : Value).ownBlock) (.slice Ao16 t224.length co16) t224) ∧ Aside0 (wc.heap[gb218]? = some (.cells #[.int .i64 t209, .int .i64 t210, (.slice Ao9 t211.length co9), (.slice Ao10 t214.length co10)] 31 (0, 0))) ∧ Aside0 (wc.heap[gb228]? = some (.cells #[.int .i64 t219, .int .i64 t220, (.slice Ao15 t221.length co15), (.slice Ao16 t224.length co16)] 31 (0, 0))) ∧ Aside0 (Below w.heap.size w wc))
  case first =>
   have H := HC5.out
   clear HC5
   replace H := Option.bind_eq_some_iff.mp H
   obtain ⟨t229, A170, H⟩ := H
   replace H : (if t229 = true then (laws_FnExactPkgRead.j0 k a0 t217 (t227 != t217) t209 t210 t211 t214 t219 t220 t221 t224) else (laws_FnExactPkgRead.j0 k a0 t217 true t209 t210 t211 t214 t219 t220 t221 t224)) = some r := H
   have A17 := Aside0.mk A170
   clear A170
   by_cases c18 : t229 = true
   ·subst c18
    have H1 : (laws_FnExactPkgRead.j0 k a0 t217 (t227 != t217) t209 t210 t211 t214 t219 t220 t221 t224) = some r := by rw [if_pos rfl] at H; exact H
    clear H
    have H := H1
    clear H1
    have H' := Aside0.mk H
    clear H
    have hnb19 := NB228_218.out
    have hnc19 := NB218_228.out
    obtain ⟨hcz20_0, hcz20_1, hcz20_2, hcz20_3, hfz20_0, hfz20_1, hfz20_2, hfz20_3⟩ := zc4f BK228.out
    obtain ⟨hcz21_0, hcz21_1, hcz21_2, hcz21_3, hfz21_0, hfz21_1, hfz21_2, hfz21_3⟩ := zc4f BK218.out
    go_wp2_with (first | ((with_reducible refine gate_callee (f := 31) rfl ?_); refine goesL_ (some 26) rfl rfl Tryd.func31 (by kernel_rfl) rfl #[.agg #[.int .i64 t219, .int .i64 t220, .slice Ao15 t221.length co15, .slice Ao16 t224.length co16], .agg #[.int .i64 t209, .int .i64 t210, .slice Ao9 t211.length co9, .slice Ao10 t214.length co10]] rfl (by (try simp only [zm1, zm2, zm3]); first | done | rfl | (simp only [List.length_drop, List.length_take]; rfl)) ?_; (with_reducible refine (laws_eqPkg.calls k t219 t220 _ _ t221 _ _ t224 t209 t210 _ _ t211 _ _ t214 true _ ?side1 ?side2 ?side3 ?side4 ?side5 ?side6 ?side7 ?side8 A17.out).mono ?_); (case side1 => refine (Kd.R_reads' (e := 67) (base := w.heap.size) (ok := fun k_ => (True ∧ some k_ ≠ (.slice Ao9 t211.length co9 : Value).ownBlock)) (n := t221.length) (c := co15) ?_).2.2; exact (by exact zR (Kd.R_mono (Kd.R_far (p := ⟨gb228, 3, none⟩) (Kd.R_far (p := ⟨gb228, 2, none⟩) (Kd.R_far (p := ⟨gb228, 1, none⟩) (Kd.R_far (p := ⟨gb228, 0, none⟩) (Kd.R_types HO223.out BK228.out (by decide)) (fun _ hk => hk.2) (.int .i64 t219)) (fun _ hk => hk.2) (.int .i64 t220)) (fun _ hk => hk.2) (.slice Ao15 t221.length co15)) (fun _ hk => hk.2) (.slice Ao16 t224.length co16)) (fun _ h_ => h_.1)))); (case side2 => exact (Kd.R_reads' HO223.out).2.1); (case side3 => refine (Kd.R_reads' (e := 69) (base := w.heap.size) (ok := fun k_ => (True ∧ some k_ ≠ (.slice Ao10 t214.length co10 : Value).ownBlock)) (n := t224.length) (c := co16) ?_).2.2; exact (by exact zR (Kd.R_mono (Kd.R_far (p := ⟨gb228, 3, none⟩) (Kd.R_far (p := ⟨gb228, 2, none⟩) (Kd.R_far (p := ⟨gb228, 1, none⟩) (Kd.R_far (p := ⟨gb228, 0, none⟩) (Kd.R_types HO226.out BK228.out (by decide)) (fun _ hk => hk.2) (.int .i64 t219)) (fun _ hk => hk.2) (.int .i64 t220)) (fun _ hk => hk.2) (.slice Ao15 t221.length co15)) (fun _ hk => hk.2) (.slice Ao16 t224.length co16)) (fun _ h_ => h_.1)))); (case side4 => exact (Kd.R_reads' HO226.out).2.1); (case side5 => refine (Kd.R_reads' (e := 67) (base := w.heap.size) (ok := fun k_ => (True ∧ some k_ ≠ (.slice Ao15 t221.length co15 : Value).ownBlock)) (n := t211.length) (c := co9) ?_).2.2; exact (by exact zR (Kd.R_mono (Kd.R_far (p := ⟨gb228, 3, none⟩) (Kd.R_far (p := ⟨gb228, 2, none⟩) (Kd.R_far (p := ⟨gb228, 1, none⟩) (Kd.R_far (p := ⟨gb228, 0, none⟩) (Kd.R_types HO213.out BK228.out (by decide)) (fun _ hk => hk.2) (.int .i64 t219)) (fun _ hk => hk.2) (.int .i64 t220)) (fun _ hk => hk.2) (.slice Ao15 t221.length co15)) (fun _ hk => hk.2) (.slice Ao16 t224.length co16)) (fun _ h_ => h_.1)))); (case side6 => exact (Kd.R_reads' HO213.out).2.1); (case side7 => refine (Kd.R_reads' (e := 69) (base := w.heap.size) (ok := fun k_ => (True ∧ some k_ ≠ (.slice Ao16 t224.length co16 : Value).ownBlock)) (n := t214.length) (c := co10) ?_).2.2; exact (by exact zR (Kd.R_mono (Kd.R_far (p := ⟨gb228, 3, none⟩) (Kd.R_far (p := ⟨gb228, 2, none⟩) (Kd.R_far (p := ⟨gb228, 1, none⟩) (Kd.R_far (p := ⟨gb228, 0, none⟩) (Kd.R_types HO216.out BK228.out (by decide)) (fun _ hk => hk.2) (.int .i64 t219)) (fun _ hk => hk.2) (.int .i64 t220)) (fun _ hk => hk.2) (.slice Ao15 t221.length co15)) (fun _ hk => hk.2) (.slice Ao16 t224.length co16)) (fun _ h_ => h_.1)))); (case side8 => exact (Kd.R_reads' HO216.out).2.1); rintro e w22 ⟨rfl, hb⟩; refine ⟨_, rfl, ?_⟩; have n0_ := Aside0.mk (Kd.R_below (by exact zR (Kd.R_mono (Kd.R_far (p := ⟨gb228, 3, none⟩) (Kd.R_far (p := ⟨gb228, 2, none⟩) (Kd.R_far (p := ⟨gb228, 1, none⟩) (Kd.R_far (p := ⟨gb228, 0, none⟩) (Kd.R_types HO213.out BK228.out (by decide)) (fun _ hk => hk.2) (.int .i64 t219)) (fun _ hk => hk.2) (.int .i64 t220)) (fun _ hk => hk.2) (.slice Ao15 t221.length co15)) (fun _ hk => hk.2) (.slice Ao16 t224.length co16)) (fun _ h_ => h_.1))) hb); have n1_ := Aside0.mk (Kd.R_below (by exact zR (Kd.R_mono (Kd.R_far (p := ⟨gb228, 3, none⟩) (Kd.R_far (p := ⟨gb228, 2, none⟩) (Kd.R_far (p := ⟨gb228, 1, none⟩) (Kd.R_far (p := ⟨gb228, 0, none⟩) (Kd.R_types HO216.out BK228.out (by decide)) (fun _ hk => hk.2) (.int .i64 t219)) (fun _ hk => hk.2) (.int .i64 t220)) (fun _ hk => hk.2) (.slice Ao15 t221.length co15)) (fun _ hk => hk.2) (.slice Ao16 t224.length co16)) (fun _ h_ => h_.1))) hb); have n2_ := Aside0.mk (Kd.R_below (by exact zR (Kd.R_mono (Kd.R_far (p := ⟨gb228, 3, none⟩) (Kd.R_far (p := ⟨gb228, 2, none⟩) (Kd.R_far (p := ⟨gb228, 1, none⟩) (Kd.R_far (p := ⟨gb228, 0, none⟩) (Kd.R_types HO223.out BK228.out (by decide)) (fun _ hk => hk.2) (.int .i64 t219)) (fun _ hk => hk.2) (.int .i64 t220)) (fun _ hk => hk.2) (.slice Ao15 t221.length co15)) (fun _ hk => hk.2) (.slice Ao16 t224.length co16)) (fun _ h_ => h_.1))) hb); have n3_ := Aside0.mk (Kd.R_below (by exact zR (Kd.R_mono (Kd.R_far (p := ⟨gb228, 3, none⟩) (Kd.R_far (p := ⟨gb228, 2, none⟩) (Kd.R_far (p := ⟨gb228, 1, none⟩) (Kd.R_far (p := ⟨gb228, 0, none⟩) (Kd.R_types HO226.out BK228.out (by decide)) (fun _ hk => hk.2) (.int .i64 t219)) (fun _ hk => hk.2) (.int .i64 t220)) (fun _ hk => hk.2) (.slice Ao15 t221.length co15)) (fun _ hk => hk.2) (.slice Ao16 t224.length co16)) (fun _ h_ => h_.1))) hb); have n4_ := Aside0.mk (blk_below (g := gb218) (o := .cells #[.int .i64 t209, .int .i64 t210, .slice Ao9 t211.length co9, .slice Ao10 t214.length co10] 31 (0, 0)) (by (with_reducible repeat (first | refine blk_drewN ?_ _ | refine blk_drew ?_ | refine blk_alloc ?_ _)); refine blk_far ?_ NB218_228.out _; (with_reducible repeat (first | refine blk_drewN ?_ _ | refine blk_drew ?_ | refine blk_alloc ?_ _)); refine blk_far ?_ NB218_228.out _; (with_reducible repeat (first | refine blk_drewN ?_ _ | refine blk_drew ?_ | refine blk_alloc ?_ _)); refine blk_far ?_ NB218_228.out _; (with_reducible repeat (first | refine blk_drewN ?_ _ | refine blk_drew ?_ | refine blk_alloc ?_ _)); refine blk_far ?_ NB218_228.out _; exact zK BK218.out) hb); have n5_ := Aside0.mk (blk_below (g := gb228) (o := .cells #[.int .i64 t219, .int .i64 t220, .slice Ao15 t221.length co15, .slice Ao16 t224.length co16] 31 (0, 0)) (by (with_reducible repeat (first | refine blk_drewN ?_ _ | refine blk_drew ?_ | refine blk_alloc ?_ _)); refine blk_put (cs := #[.int .i64 t219, .int .i64 t220, .slice Ao15 t221.length co15, .slice none 0 0]) ?_ 3 _ rfl; (with_reducible repeat (first | refine blk_drewN ?_ _ | refine blk_drew ?_ | refine blk_alloc ?_ _)); refine blk_put (cs := #[.int .i64 t219, .int .i64 t220, .slice none 0 0, .slice none 0 0]) ?_ 2 _ rfl; (with_reducible repeat (first | refine blk_drewN ?_ _ | refine blk_drew ?_ | refine blk_alloc ?_ _)); refine blk_put (cs := #[.int .i64 t219, .int .i64 0, .slice none 0 0, .slice none 0 0]) ?_ 1 _ rfl; (with_reducible repeat (first | refine blk_drewN ?_ _ | refine blk_drew ?_ | refine blk_alloc ?_ _)); refine blk_put (cs := #[.int .i64 0, .int .i64 0, .slice none 0 0, .slice none 0 0]) ?_ 0 _ rfl; exact zK BK228.out) hb); have n6_ := Aside0.mk (below_step (by exact zB2 HB.out GE218.out GE228.out) hb); clear HO213; clear HO216; clear HO223; clear HO226; clear BK218; clear BK228; clear HB; have HO213 := n0_; have HO216 := n1_; have HO223 := n2_; have HO226 := n3_; have BK218 := n4_; have BK228 := n5_; have HB := n6_; clear n0_ n1_ n2_ n3_ n4_ n5_ n6_; (try clear hb); (try clear hb2); (try clear hk); (try clear hi)))
    go_meet
    case rel => exact ⟨_, ((t227 != t217)), (by first | rfl | (simp; done) | (simp [*]; done)), H', ⟨by first | omega | exact Nat.le_refl _⟩, ⟨by exact zR (Kd.R_mono HO213.out (fun _ hk => hk.2))⟩, ⟨by exact zR (Kd.R_mono HO216.out (fun _ hk => hk.2))⟩, ⟨by exact zR (Kd.R_mono HO223.out (fun _ hk => hk.2))⟩, ⟨by exact zR (Kd.R_mono HO226.out (fun _ hk => hk.2))⟩, ⟨by exact zK BK218.out⟩, ⟨by exact zK BK228.out⟩, ⟨by exact zB2 HB.out GE218.out GE228.out⟩⟩
   ·replace c18 := Bool.eq_false_iff.mpr c18
    subst c18
    have H1 : (laws_FnExactPkgRead.j0 k a0 t217 true t209 t210 t211 t214 t219 t220 t221 t224) = some r := by rw [if_neg (show ¬ (false = true) by decide)] at H; exact H
    clear H
    have H := H1
    clear H1
    have H' := Aside0.mk H
    clear H
    have hnb23 := NB228_218.out
    have hnc23 := NB218_228.out
    obtain ⟨hcz24_0, hcz24_1, hcz24_2, hcz24_3, hfz24_0, hfz24_1, hfz24_2, hfz24_3⟩ := zc4f BK228.out
    obtain ⟨hcz25_0, hcz25_1, hcz25_2, hcz25_3, hfz25_0, hfz25_1, hfz25_2, hfz25_3⟩ := zc4f BK218.out
    go_wp2_with (first | ((with_reducible refine gate_callee (f := 31) rfl ?_); refine goesL_ (some 26) rfl rfl Tryd.func31 (by kernel_rfl) rfl #[.agg #[.int .i64 t219, .int .i64 t220, .slice Ao15 t221.length co15, .slice Ao16 t224.length co16], .agg #[.int .i64 t209, .int .i64 t210, .slice Ao9 t211.length co9, .slice Ao10 t214.length co10]] rfl (by (try simp only [zm1, zm2, zm3]); first | done | rfl | (simp only [List.length_drop, List.length_take]; rfl)) ?_; (with_reducible refine (laws_eqPkg.calls k t219 t220 _ _ t221 _ _ t224 t209 t210 _ _ t211 _ _ t214 false _ ?side1 ?side2 ?side3 ?side4 ?side5 ?side6 ?side7 ?side8 A17.out).mono ?_); (case side1 => refine (Kd.R_reads' (e := 67) (base := w.heap.size) (ok := fun k_ => (True ∧ some k_ ≠ (.slice Ao9 t211.length co9 : Value).ownBlock)) (n := t221.length) (c := co15) ?_).2.2; exact (by exact zR (Kd.R_mono (Kd.R_far (p := ⟨gb228, 3, none⟩) (Kd.R_far (p := ⟨gb228, 2, none⟩) (Kd.R_far (p := ⟨gb228, 1, none⟩) (Kd.R_far (p := ⟨gb228, 0, none⟩) (Kd.R_types HO223.out BK228.out (by decide)) (fun _ hk => hk.2) (.int .i64 t219)) (fun _ hk => hk.2) (.int .i64 t220)) (fun _ hk => hk.2) (.slice Ao15 t221.length co15)) (fun _ hk => hk.2) (.slice Ao16 t224.length co16)) (fun _ h_ => h_.1)))); (case side2 => exact (Kd.R_reads' HO223.out).2.1); (case side3 => refine (Kd.R_reads' (e := 69) (base := w.heap.size) (ok := fun k_ => (True ∧ some k_ ≠ (.slice Ao10 t214.length co10 : Value).ownBlock)) (n := t224.length) (c := co16) ?_).2.2; exact (by exact zR (Kd.R_mono (Kd.R_far (p := ⟨gb228, 3, none⟩) (Kd.R_far (p := ⟨gb228, 2, none⟩) (Kd.R_far (p := ⟨gb228, 1, none⟩) (Kd.R_far (p := ⟨gb228, 0, none⟩) (Kd.R_types HO226.out BK228.out (by decide)) (fun _ hk => hk.2) (.int .i64 t219)) (fun _ hk => hk.2) (.int .i64 t220)) (fun _ hk => hk.2) (.slice Ao15 t221.length co15)) (fun _ hk => hk.2) (.slice Ao16 t224.length co16)) (fun _ h_ => h_.1)))); (case side4 => exact (Kd.R_reads' HO226.out).2.1); (case side5 => refine (Kd.R_reads' (e := 67) (base := w.heap.size) (ok := fun k_ => (True ∧ some k_ ≠ (.slice Ao15 t221.length co15 : Value).ownBlock)) (n := t211.length) (c := co9) ?_).2.2; exact (by exact zR (Kd.R_mono (Kd.R_far (p := ⟨gb228, 3, none⟩) (Kd.R_far (p := ⟨gb228, 2, none⟩) (Kd.R_far (p := ⟨gb228, 1, none⟩) (Kd.R_far (p := ⟨gb228, 0, none⟩) (Kd.R_types HO213.out BK228.out (by decide)) (fun _ hk => hk.2) (.int .i64 t219)) (fun _ hk => hk.2) (.int .i64 t220)) (fun _ hk => hk.2) (.slice Ao15 t221.length co15)) (fun _ hk => hk.2) (.slice Ao16 t224.length co16)) (fun _ h_ => h_.1)))); (case side6 => exact (Kd.R_reads' HO213.out).2.1); (case side7 => refine (Kd.R_reads' (e := 69) (base := w.heap.size) (ok := fun k_ => (True ∧ some k_ ≠ (.slice Ao16 t224.length co16 : Value).ownBlock)) (n := t214.length) (c := co10) ?_).2.2; exact (by exact zR (Kd.R_mono (Kd.R_far (p := ⟨gb228, 3, none⟩) (Kd.R_far (p := ⟨gb228, 2, none⟩) (Kd.R_far (p := ⟨gb228, 1, none⟩) (Kd.R_far (p := ⟨gb228, 0, none⟩) (Kd.R_types HO216.out BK228.out (by decide)) (fun _ hk => hk.2) (.int .i64 t219)) (fun _ hk => hk.2) (.int .i64 t220)) (fun _ hk => hk.2) (.slice Ao15 t221.length co15)) (fun _ hk => hk.2) (.slice Ao16 t224.length co16)) (fun _ h_ => h_.1)))); (case side8 => exact (Kd.R_reads' HO216.out).2.1); rintro e w26 ⟨rfl, hb⟩; refine ⟨_, rfl, ?_⟩; have n0_ := Aside0.mk (Kd.R_below (by exact zR (Kd.R_mono (Kd.R_far (p := ⟨gb228, 3, none⟩) (Kd.R_far (p := ⟨gb228, 2, none⟩) (Kd.R_far (p := ⟨gb228, 1, none⟩) (Kd.R_far (p := ⟨gb228, 0, none⟩) (Kd.R_types HO213.out BK228.out (by decide)) (fun _ hk => hk.2) (.int .i64 t219)) (fun _ hk => hk.2) (.int .i64 t220)) (fun _ hk => hk.2) (.slice Ao15 t221.length co15)) (fun _ hk => hk.2) (.slice Ao16 t224.length co16)) (fun _ h_ => h_.1))) hb); have n1_ := Aside0.mk (Kd.R_below (by exact zR (Kd.R_mono (Kd.R_far (p := ⟨gb228, 3, none⟩) (Kd.R_far (p := ⟨gb228, 2, none⟩) (Kd.R_far (p := ⟨gb228, 1, none⟩) (Kd.R_far (p := ⟨gb228, 0, none⟩) (Kd.R_types HO216.out BK228.out (by decide)) (fun _ hk => hk.2) (.int .i64 t219)) (fun _ hk => hk.2) (.int .i64 t220)) (fun _ hk => hk.2) (.slice Ao15 t221.length co15)) (fun _ hk => hk.2) (.slice Ao16 t224.length co16)) (fun _ h_ => h_.1))) hb); have n2_ := Aside0.mk (Kd.R_below (by exact zR (Kd.R_mono (Kd.R_far (p := ⟨gb228, 3, none⟩) (Kd.R_far (p := ⟨gb228, 2, none⟩) (Kd.R_far (p := ⟨gb228, 1, none⟩) (Kd.R_far (p := ⟨gb228, 0, none⟩) (Kd.R_types HO223.out BK228.out (by decide)) (fun _ hk => hk.2) (.int .i64 t219)) (fun _ hk => hk.2) (.int .i64 t220)) (fun _ hk => hk.2) (.slice Ao15 t221.length co15)) (fun _ hk => hk.2) (.slice Ao16 t224.length co16)) (fun _ h_ => h_.1))) hb); have n3_ := Aside0.mk (Kd.R_below (by exact zR (Kd.R_mono (Kd.R_far (p := ⟨gb228, 3, none⟩) (Kd.R_far (p := ⟨gb228, 2, none⟩) (Kd.R_far (p := ⟨gb228, 1, none⟩) (Kd.R_far (p := ⟨gb228, 0, none⟩) (Kd.R_types HO226.out BK228.out (by decide)) (fun _ hk => hk.2) (.int .i64 t219)) (fun _ hk => hk.2) (.int .i64 t220)) (fun _ hk => hk.2) (.slice Ao15 t221.length co15)) (fun _ hk => hk.2) (.slice Ao16 t224.length co16)) (fun _ h_ => h_.1))) hb); have n4_ := Aside0.mk (blk_below (g := gb218) (o := .cells #[.int .i64 t209, .int .i64 t210, .slice Ao9 t211.length co9, .slice Ao10 t214.length co10] 31 (0, 0)) (by (with_reducible repeat (first | refine blk_drewN ?_ _ | refine blk_drew ?_ | refine blk_alloc ?_ _)); refine blk_far ?_ NB218_228.out _; (with_reducible repeat (first | refine blk_drewN ?_ _ | refine blk_drew ?_ | refine blk_alloc ?_ _)); refine blk_far ?_ NB218_228.out _; (with_reducible repeat (first | refine blk_drewN ?_ _ | refine blk_drew ?_ | refine blk_alloc ?_ _)); refine blk_far ?_ NB218_228.out _; (with_reducible repeat (first | refine blk_drewN ?_ _ | refine blk_drew ?_ | refine blk_alloc ?_ _)); refine blk_far ?_ NB218_228.out _; exact zK BK218.out) hb); have n5_ := Aside0.mk (blk_below (g := gb228) (o := .cells #[.int .i64 t219, .int .i64 t220, .slice Ao15 t221.length co15, .slice Ao16 t224.length co16] 31 (0, 0)) (by (with_reducible repeat (first | refine blk_drewN ?_ _ | refine blk_drew ?_ | refine blk_alloc ?_ _)); refine blk_put (cs := #[.int .i64 t219, .int .i64 t220, .slice Ao15 t221.length co15, .slice none 0 0]) ?_ 3 _ rfl; (with_reducible repeat (first | refine blk_drewN ?_ _ | refine blk_drew ?_ | refine blk_alloc ?_ _)); refine blk_put (cs := #[.int .i64 t219, .int .i64 t220, .slice none 0 0, .slice none 0 0]) ?_ 2 _ rfl; (with_reducible repeat (first | refine blk_drewN ?_ _ | refine blk_drew ?_ | refine blk_alloc ?_ _)); refine blk_put (cs := #[.int .i64 t219, .int .i64 0, .slice none 0 0, .slice none 0 0]) ?_ 1 _ rfl; (with_reducible repeat (first | refine blk_drewN ?_ _ | refine blk_drew ?_ | refine blk_alloc ?_ _)); refine blk_put (cs := #[.int .i64 0, .int .i64 0, .slice none 0 0, .slice none 0 0]) ?_ 0 _ rfl; exact zK BK228.out) hb); have n6_ := Aside0.mk (below_step (by exact zB2 HB.out GE218.out GE228.out) hb); clear HO213; clear HO216; clear HO223; clear HO226; clear BK218; clear BK228; clear HB; have HO213 := n0_; have HO216 := n1_; have HO223 := n2_; have HO226 := n3_; have BK218 := n4_; have BK228 := n5_; have HB := n6_; clear n0_ n1_ n2_ n3_ n4_ n5_ n6_; (try clear hb); (try clear hb2); (try clear hk); (try clear hi)))
    go_meet
    case rel => exact ⟨_, (true), (by first | rfl | (simp; done) | (simp [*]; done)), H', ⟨by first | omega | exact Nat.le_refl _⟩, ⟨by exact zR (Kd.R_mono HO213.out (fun _ hk => hk.2))⟩, ⟨by exact zR (Kd.R_mono HO216.out (fun _ hk => hk.2))⟩, ⟨by exact zR (Kd.R_mono HO223.out (fun _ hk => hk.2))⟩, ⟨by exact zR (Kd.R_mono HO226.out (fun _ hk => hk.2))⟩, ⟨by exact zK BK218.out⟩, ⟨by exact zK BK228.out⟩, ⟨by exact zB2 HB.out GE218.out GE228.out⟩⟩
  case rest =>
   clear HC5
   try clear c1
   try clear c2
   try clear c2b0
   try clear c2b1
   try clear p2
   try clear c3
   try clear c9
   try clear c13
   try clear c18
   try clear c19
   try clear c23
   try clear c25
   try clear hcz14_0
   try clear hcz14_1
   try clear hcz14_2
   try clear hcz14_3
   try clear hcz20_0
   try clear hcz20_1
   try clear hcz20_2
   try clear hcz20_3
   try clear hcz21_0
   try clear hcz21_1
   try clear hcz21_2
   try clear hcz21_3
   try clear hcz24_0
   try clear hcz24_1
   try clear hcz24_2
   try clear hcz24_3
   try clear hcz25_0
   try clear hcz25_1
   try clear hcz25_2
   try clear hcz25_3
   try clear hcz8_0
   try clear hcz8_1
   try clear hcz8_2
   try clear hcz8_3
   try clear hfz14_0
   try clear hfz14_1
   try clear hfz14_2
   try clear hfz14_3
   try clear hfz20_0
   try clear hfz20_1
   try clear hfz20_2
   try clear hfz20_3
   try clear hfz21_0
   try clear hfz21_1
   try clear hfz21_2
   try clear hfz21_3
   try clear hfz24_0
   try clear hfz24_1
   try clear hfz24_2
   try clear hfz24_3
   try clear hfz25_0
   try clear hfz25_1
   try clear hfz25_2
   try clear hfz25_3
   try clear hfz8_0
   try clear hfz8_1
   try clear hfz8_2
   try clear hfz8_3
   obtain ⟨kq, x32_4, rfl, HA, HJ4, HO_219002, HO_219003, HO_229002, HO_229003, BK218, BK228, HB⟩ := hcut
   cases kq with
   | zero => exact absurd HA.out (by simp [laws_FnExactPkgRead.j0])
   | succ kj4 =>
    have H := HA.out
    clear HA
    simp only [laws_FnExactPkgRead.j0] at H
    by_cases c27 : x32_4 = true
    ·subst c27
     have H1 : (none) = some r := by rw [if_pos rfl] at H; exact H
     clear H
     have H := H1
     clear H1
     exact absurd H (by simp)
    ·replace c27 := Bool.eq_false_iff.mpr c27
     subst c27
     have H1 : ((laws_markPkg.f kj4 t219 t220 t221 t224 1).bind fun bt230 => ((laws_heldPkg.f kj4 t219 t220 bt230.2.1 bt230.2.2 1).bind fun t233 => (if t233 < 0 then (none) else (if t233 = bt230.1 then ((impl_PkgRead.f kj4 a0).bind fun bt234 => ((laws_eqPkg.f kj4 bt234.1 bt234.2.1 bt234.2.2.1 bt234.2.2.2.1 t209 t210 t211 t214).bind fun t244 => (if t244 = true then (laws_FnExactPkgRead.j1 kj4 bt230.1 (bt234.2.2.2.2 != t217) t219 t220 bt230.2.1 bt230.2.2) else (laws_FnExactPkgRead.j1 kj4 bt230.1 true t219 t220 bt230.2.1 bt230.2.2)))) else (none))))) = some r := by rw [if_neg (show ¬ (false = true) by decide)] at H; exact H
     clear H
     have H := H1
     clear H1
     replace H := Option.bind_eq_some_iff.mp H
     obtain ⟨⟨t230, t231, t232⟩, A280, H⟩ := H
     replace H : ((laws_heldPkg.f kj4 t219 t220 t231 t232 1).bind fun t233 => (if t233 < 0 then (none) else (if t233 = t230 then ((impl_PkgRead.f kj4 a0).bind fun bt234 => ((laws_eqPkg.f kj4 bt234.1 bt234.2.1 bt234.2.2.1 bt234.2.2.2.1 t209 t210 t211 t214).bind fun t244 => (if t244 = true then (laws_FnExactPkgRead.j1 kj4 t230 (bt234.2.2.2.2 != t217) t219 t220 t231 t232) else (laws_FnExactPkgRead.j1 kj4 t230 true t219 t220 t231 t232)))) else (none)))) = some r := H
     have A28 := Aside0.mk A280
     clear A280
     replace H := Option.bind_eq_some_iff.mp H
     obtain ⟨t233, A290, H⟩ := H
     replace H : (if t233 < 0 then (none) else (if t233 = t230 then ((impl_PkgRead.f kj4 a0).bind fun bt234 => ((laws_eqPkg.f kj4 bt234.1 bt234.2.1 bt234.2.2.1 bt234.2.2.2.1 t209 t210 t211 t214).bind fun t244 => (if t244 = true then (laws_FnExactPkgRead.j1 kj4 t230 (bt234.2.2.2.2 != t217) t219 t220 t231 t232) else (laws_FnExactPkgRead.j1 kj4 t230 true t219 t220 t231 t232)))) else (none))) = some r := H
     have A29 := Aside0.mk A290
     clear A290
     by_cases c30 : t233 < 0
     ·rw [if_pos c30] at H
      exact absurd H (by simp)
     ·rw [if_neg c30] at H
      have c30b0 : decide (t233 < 0) = false := decide_eq_false c30
      clear c30
      by_cases c31 : t233 = t230
      ·rw [if_pos c31] at H
       have c31b0 : (t233 == t230) = true := beq_iff_eq.mpr c31
       have c31b1 : (t233 != t230) = false := bne_eq_false_iff_eq.mpr c31
       clear c31
       replace H := Option.bind_eq_some_iff.mp H
       obtain ⟨⟨t234, t235, t236, t239, t242⟩, A320, H⟩ := H
       replace H : ((laws_eqPkg.f kj4 t234 t235 t236 t239 t209 t210 t211 t214).bind fun t244 => (if t244 = true then (laws_FnExactPkgRead.j1 kj4 t230 (t242 != t217) t219 t220 t231 t232) else (laws_FnExactPkgRead.j1 kj4 t230 true t219 t220 t231 t232))) = some r := H
       have A32 := Aside0.mk A320
       clear A320
       have HC33 := Aside0.mk H
       clear H
       have hnb34 := NB228_218.out
       have hnc34 := NB218_228.out
       obtain ⟨hcz35_0, hcz35_1, hcz35_2, hcz35_3, hfz35_0, hfz35_1, hfz35_2, hfz35_3⟩ := zc4f BK228.out
       go_upto_region 16 with (first | ((with_reducible refine gate_callee (f := 32) rfl ?_); refine goesL_ (some 35) rfl rfl Tryd.func32 (by kernel_rfl) rfl #[.agg #[.int .i64 t219, .int .i64 t220, .slice Ao15 t221.length co15, .slice Ao16 t224.length co16], .int .i64 1] rfl (by (try simp only [zm1, zm2, zm3]); first | done | rfl | (simp only [List.length_drop, List.length_take]; rfl)) ?_; (with_reducible refine (laws_markPkg.calls kj4 t219 t220 (fun k_ => some k_ = (.slice Ao15 t221.length co15 : Value).ownBlock) (.slice Ao15 t221.length co15) t221 (fun k_ => some k_ = (.slice Ao16 t224.length co16 : Value).ownBlock) (.slice Ao16 t224.length co16) t224 1 t230 t231 t232 w _ ?side1 ?side2 ?side3 A28.out).mono ?_); (case side1 => exact zB2 HB.out GE218.out GE228.out); (case side2 => exact Kd.R_tight rfl HO_229002.out); (case side3 => exact Kd.R_tight rfl HO_229003.out); rintro e w36 ⟨rfl, hy0, hy1, hb, hkp⟩; refine ⟨_, rfl, ?_⟩; have n0_ := Aside0.mk (Kd.R_mono (ok' := fun k_ => some k_ ≠ (.slice Ao15 t221.length co15 : Value).ownBlock) (Kd.R_keptB ((Kd.R_apart' HO_219002.out (Kd.R_typed HO_229003.out) (by decide))) hkp (fun k_ hk_ hs_ => Or.elim hs_ (fun e_ => (hk_.1) e_) (fun e_ => (hk_.2) e_))) (fun k_ hk_ => hk_.1.1)); have n1_ := Aside0.mk (Kd.R_mono (ok' := fun k_ => some k_ ≠ (.slice Ao16 t224.length co16 : Value).ownBlock) (Kd.R_keptB ((Kd.R_apart' HO_219003.out (Kd.R_typed HO_229002.out) (by decide))) hkp (fun k_ hk_ hs_ => Or.elim hs_ (fun e_ => (hk_.2) e_) (fun e_ => (hk_.1) e_))) (fun k_ hk_ => hk_.1.1)); have n2_ := Aside0.mk (Kd.R_reok rfl hy0 (fun k_ e_ => HO_229002.out.1 k_ e_)); have n3_ := Aside0.mk (Kd.R_reok rfl hy1 (fun k_ e_ => HO_229003.out.1 k_ e_)); have n4_ := Aside0.mk (blk_kept (by exact zK BK218.out) hkp (fun hs_ => Or.elim hs_ (fun e_ => (fun e_ => (Kd.R_ne HO_229002.out BK218.out (by decide)) e_) e_) (fun e_ => (fun e_ => (Kd.R_ne HO_229003.out BK218.out (by decide)) e_) e_))); have n5_ := Aside0.mk (blk_kept (by exact zK BK228.out) hkp (fun hs_ => Or.elim hs_ (fun e_ => (fun e_ => (Kd.R_ne HO_229002.out BK228.out (by decide)) e_) e_) (fun e_ => (fun e_ => (Kd.R_ne HO_229003.out BK228.out (by decide)) e_) e_))); have n6_ := Aside0.mk (hb); clear HO_219002; clear HO_219003; clear HO_229002; clear HO_229003; clear BK218; clear BK228; clear HB; have HO_219002 := n0_; have HO_219003 := n1_; have HO_229002 := n2_; have HO_229003 := n3_; have BK218 := n4_; have BK228 := n5_; have HB := n6_; clear n0_ n1_ n2_ n3_ n4_ n5_ n6_; (try clear hb); (try clear hkp); (try clear hy0); (try clear hy1); obtain ⟨hcz37_0, hcz37_1, hcz37_2, hcz37_3, hfz37_0, hfz37_1, hfz37_2, hfz37_3⟩ := zc4f BK228.out) | ((with_reducible refine gate_callee (f := 33) rfl ?_); refine goesL_ (some 38) rfl rfl Tryd.func33 (by kernel_rfl) rfl #[.agg #[.int .i64 t219, .int .i64 t220, .slice Ao15 t231.length co15, .slice Ao16 t232.length co16], .int .i64 1] rfl (by (try simp only [zm1, zm2, zm3]); first | done | (rw [show t231.length = t221.length from (Kd.R_reads' HO_229002.out).1.symm, show t232.length = t224.length from (Kd.R_reads' HO_229003.out).1.symm] <;> rfl) | rfl | (simp only [List.length_drop, List.length_take]; rfl)) ?_; (with_reducible refine (laws_heldPkg.calls kj4 t219 t220 _ _ t231 _ _ t232 1 t233 _ ?side1 ?side2 ?side3 ?side4 A29.out).mono ?_); (case side1 => exact zC (Kd.R_reads' HO_229002.out).2.2); (case side2 => rw [show t231.length = t221.length from (Kd.R_reads' HO_229002.out).1.symm]; exact (Kd.R_reads' HO_229002.out).2.1); (case side3 => exact zC (Kd.R_reads' HO_229003.out).2.2); (case side4 => rw [show t232.length = t224.length from (Kd.R_reads' HO_229003.out).1.symm]; exact (Kd.R_reads' HO_229003.out).2.1); rintro e w38 ⟨rfl, hb⟩; refine ⟨_, rfl, ?_⟩; have n0_ := Aside0.mk (Kd.R_below (by exact zR HO_219002.out) hb); have n1_ := Aside0.mk (Kd.R_below (by exact zR HO_219003.out) hb); have n2_ := Aside0.mk (Kd.R_below (by exact zR HO_229002.out) hb); have n3_ := Aside0.mk (Kd.R_below (by exact zR HO_229003.out) hb); have n4_ := Aside0.mk (blk_below (g := gb218) (o := .cells #[.int .i64 t209, .int .i64 t210, .slice Ao9 t211.length co9, .slice Ao10 t214.length co10] 31 (0, 0)) (by exact zK BK218.out) hb); have n5_ := Aside0.mk (blk_below (g := gb228) (o := .cells #[.int .i64 t219, .int .i64 t220, .slice Ao15 t221.length co15, .slice Ao16 t224.length co16] 31 (0, 0)) (by exact zK BK228.out) hb); have n6_ := Aside0.mk (below_step (by exact zB2 HB.out GE218.out GE228.out) hb); clear HO_219002; clear HO_219003; clear HO_229002; clear HO_229003; clear BK218; clear BK228; clear HB; have HO_219002 := n0_; have HO_219003 := n1_; have HO_229002 := n2_; have HO_229003 := n3_; have BK218 := n4_; have BK228 := n5_; have HB := n6_; clear n0_ n1_ n2_ n3_ n4_ n5_ n6_; (try clear hb); (try clear hb2); (try clear hk); (try clear hi)) | ((with_reducible refine gate_callee (f := 19) rfl ?_); refine goesL_ (some 46) rfl rfl Tryd.func19 (by kernel_rfl) rfl #[.string a0] rfl (by (try simp only [zm1, zm2, zm3]); first | done | rfl | (simp only [List.length_drop, List.length_take]; rfl)) ?_; (with_reducible refine (impl_PkgRead.calls kj4 a0 t234 t235 t236 t239 t242 _ ?sideL A32.out).mono ?_); (case sideL => exact HLD.out.on (by exact zB2 HB.out GE218.out GE228.out)); rintro e w39 ⟨v237, v240, rfl, ho0, ho1, hb⟩; refine ⟨_, rfl, ?_⟩; have n0_ := Aside0.mk (Kd.R_elder' (by exact zR HO_219002.out) (Kd.R_base ho0) hb); have n1_ := Aside0.mk (Kd.R_elder' (by exact zR HO_219003.out) (Kd.R_base ho1) hb); have n2_ := Aside0.mk (Kd.R_elder' (by exact zR HO_229002.out) (Kd.R_base ho0) hb); have n3_ := Aside0.mk (Kd.R_elder' (by exact zR HO_229003.out) (Kd.R_base ho1) hb); have n4_ := Aside0.mk (Kd.R_lower (Kd.R_new' (Kd.R_new' ho0 (Kd.R_lt (by exact zR HO_219002.out))) (Kd.R_lt (by exact zR HO_229002.out))) (below_size (by exact zB2 HB.out GE218.out GE228.out))); have n5_ := Aside0.mk (Kd.R_lower (Kd.R_new' (Kd.R_new' ho1 (Kd.R_lt (by exact zR HO_219003.out))) (Kd.R_lt (by exact zR HO_229003.out))) (below_size (by exact zB2 HB.out GE218.out GE228.out))); have n6_ := Aside0.mk (blk_below (g := gb218) (o := .cells #[.int .i64 t209, .int .i64 t210, .slice Ao9 t211.length co9, .slice Ao10 t214.length co10] 31 (0, 0)) (by exact zK BK218.out) hb); have n7_ := Aside0.mk (blk_below (g := gb228) (o := .cells #[.int .i64 t219, .int .i64 t220, .slice Ao15 t221.length co15, .slice Ao16 t224.length co16] 31 (0, 0)) (by exact zK BK228.out) hb); have n8_ := Aside0.mk (below_step (by exact zB2 HB.out GE218.out GE228.out) hb); clear HO_219002; clear HO_219003; clear HO_229002; clear HO_229003; clear BK218; clear BK228; clear HB; have HO_219002 := n0_; have HO_219003 := n1_; have HO_229002 := n2_; have HO_229003 := n3_; have HO238 := n4_; have HO241 := n5_; have BK218 := n6_; have BK228 := n7_; have HB := n8_; clear n0_ n1_ n2_ n3_ n4_ n5_ n6_ n7_ n8_; (try clear hb); (try clear hb2); (try clear hk); (try clear hi); (try clear ho0); (try clear ho1)) | ((with_reducible refine gate_dst (N := 9) rfl ?_); refine box_event ?hg (N := 9) ?hd (cs := #[.int .i64 0, .int .i64 0, .slice none 0 0, .slice none 0 0]) (t := 31) ?hr ?_; (case hd => rfl); (case hg => rfl); (case hr => first | (go_simp; done) | (go_simp; rfl)); intro gb243 hg w40 hbox hb; have n0_ := Aside0.mk (Kd.R_below (by exact zR HO_219002.out) hb); have n1_ := Aside0.mk (Kd.R_below (by exact zR HO_219003.out) hb); have n2_ := Aside0.mk (Kd.R_below (by exact zR HO_229002.out) hb); have n3_ := Aside0.mk (Kd.R_below (by exact zR HO_229003.out) hb); have n4_ := Aside0.mk (Kd.R_below (by exact zR HO238.out) hb); have n5_ := Aside0.mk (Kd.R_below (by exact zR HO241.out) hb); have n6_ := Aside0.mk (blk_below (g := gb218) (o := .cells #[.int .i64 t209, .int .i64 t210, .slice Ao9 t211.length co9, .slice Ao10 t214.length co10] 31 (0, 0)) (by exact zK BK218.out) hb); have n7_ := Aside0.mk (blk_below (g := gb228) (o := .cells #[.int .i64 t219, .int .i64 t220, .slice Ao15 t221.length co15, .slice Ao16 t224.length co16] 31 (0, 0)) (by exact zK BK228.out) hb); have n8_ := Aside0.mk (below_step (by exact zB2 HB.out GE218.out GE228.out) hb); have n9_ := Aside0.mk (hbox); have n10_ := Aside0.mk ((by rw [hg]; exact (below_size (by exact zB2 HB.out GE218.out GE228.out)) : w.heap.size ≤ gb243)); have n11_ := Aside0.mk ((by rw [hg]; exact (below_size (by exact zB2 HB.out GE218.out GE228.out)) : w.heap.size ≤ gb243)); have n12_ := Aside0.mk ((by rw [hg]; exact Nat.ne_of_lt (blk_lt (g := gb218) (o := .cells #[.int .i64 t209, .int .i64 t210, .slice Ao9 t211.length co9, .slice Ao10 t214.length co10] 31 (0, 0)) (by exact zK BK218.out)) : gb218 ≠ gb243)); have n13_ := Aside0.mk ((by rw [hg]; exact Nat.ne_of_gt (blk_lt (g := gb218) (o := .cells #[.int .i64 t209, .int .i64 t210, .slice Ao9 t211.length co9, .slice Ao10 t214.length co10] 31 (0, 0)) (by exact zK BK218.out)) : gb243 ≠ gb218)); have n14_ := Aside0.mk ((by rw [hg]; exact Nat.ne_of_lt (blk_lt (g := gb228) (o := .cells #[.int .i64 t219, .int .i64 t220, .slice Ao15 t221.length co15, .slice Ao16 t224.length co16] 31 (0, 0)) (by exact zK BK228.out)) : gb228 ≠ gb243)); have n15_ := Aside0.mk ((by rw [hg]; exact Nat.ne_of_gt (blk_lt (g := gb228) (o := .cells #[.int .i64 t219, .int .i64 t220, .slice Ao15 t221.length co15, .slice Ao16 t224.length co16] 31 (0, 0)) (by exact zK BK228.out)) : gb243 ≠ gb228)); clear HO_219002; clear HO_219003; clear HO_229002; clear HO_229003; clear HO238; clear HO241; clear BK218; clear BK228; clear HB; have HO_219002 := n0_; have HO_219003 := n1_; have HO_229002 := n2_; have HO_229003 := n3_; have HO238 := n4_; have HO241 := n5_; have BK218 := n6_; have BK228 := n7_; have HB := n8_; have BK243 := n9_; have GW243 := n10_; have GE243 := n11_; have NB218_243 := n12_; have NB243_218 := n13_; have NB228_243 := n14_; have NB243_228 := n15_; clear n0_ n1_ n2_ n3_ n4_ n5_ n6_ n7_ n8_ n9_ n10_ n11_ n12_ n13_ n14_ n15_; clear hb hbox hg; have hnb41 := NB243_218.out; have hnc41 := NB218_243.out; have hnb42 := NB243_228.out; have hnc42 := NB228_243.out; obtain ⟨hcz43_0, hcz43_1, hcz43_2, hcz43_3, hfz43_0, hfz43_1, hfz43_2, hfz43_3⟩ := zc4f BK243.out; obtain ⟨Ao44, co44, eo44⟩ := Kd.R_slice HO238.out; subst eo44; obtain ⟨Ao45, co45, eo45⟩ := Kd.R_slice HO241.out; subst eo45))
       (try simp only [zp0, zp1, zp2, zp3, zp4])
       go_cut [57] (fun v57 wc => ∃ (kq : Nat) (x57_32 : Bool), v57 = .bool x57_32 ∧ Aside0 (laws_FnExactPkgRead.j1 kq t230 x57_32 t219 t220 t231 t232 = some r) ∧ Aside0 (kq ≤ kj4) ∧ Aside0 (Kd.R k67 67 wc w.heap.size (fun k_ => some k_ ≠ ((.slice Ao15 t221.length co15) : Value).ownBlock ∧ some k_ ≠ ((.slice Ao44 t236.length co44) : Value).ownBlock) (.slice Ao9 t211.length co9) t211) ∧ Aside0 (Kd.R k69 69 wc w.heap.size (fun k_ => some k_ ≠ ((.slice Ao16 t224.length co16) : Value).ownBlock ∧ some k_ ≠ ((.slice Ao45 t239.length co45) : Value).ownBlock) (.slice Ao10 t214.length co10) t214) ∧ Aside0 (Kd.R k67 67 wc w.heap.size (fun k_ => some k_ ≠ ((.slice Ao9 t211.length co9) : Value).ownBlock ∧ some k_ ≠ ((.slice Ao44 t236.length co44) : Value).ownBlock) (.slice Ao15 t221.length co15) t231) ∧ Aside0 (Kd.R k69 69 wc w.heap.size (fun k_ => some k_ ≠ ((.slice Ao10 t214.length co10) : Value).ownBlock ∧ some k_ ≠ ((.slice Ao45 t239.length co45) : Value).ownBlock) (.slice Ao16 t224.length co16) t232) ∧ Aside0 (Kd.R k67 67 wc w.heap.size (fun k_ => some k_ ≠ ((.slice Ao9 t211.length co9) : Value).ownBlock ∧ some k_ ≠ ((.slice Ao15 t221.length co15) : Value).ownBlock) (.slice Ao44 t236.length co44) t236) ∧ Aside0 (Kd.R k69 69 wc w.heap.size (fun k_ => some k_ ≠ ((.slice Ao10 t214.length co10) : Value).ownBlock ∧ some k_ ≠ ((.slice Ao16 t224.length co16) : Value).ownBlock) (.slice Ao45 t239.length co45) t239) ∧ Aside0 (wc.heap[gb218]? = some (.cells #[.int .i64 t209, .int .i64 t210, (.slice Ao9 t211.length co9), (.slice Ao10 t214.length co10)] 31 (0, 0))) ∧ Aside0 (wc.heap[gb228]? = some (.cells #[.int .i64 t219, .int .i64 t220, (.slice Ao15 t221.length co15), (.slice Ao16 t224.length co16)] 31 (0, 0))) ∧ Aside0 (wc.heap[gb243]? = some (.cells #[.int .i64 t234, .int .i64 t235, (.slice Ao44 t236.length co44), (.slice Ao45 t239.length co45)] 31 (0, 0))) ∧ Aside0 (Below w.heap.size w wc))
       case first =>
        have H := HC33.out
        clear HC33
        replace H := Option.bind_eq_some_iff.mp H
        obtain ⟨t244, A460, H⟩ := H
        replace H : (if t244 = true then (laws_FnExactPkgRead.j1 kj4 t230 (t242 != t217) t219 t220 t231 t232) else (laws_FnExactPkgRead.j1 kj4 t230 true t219 t220 t231 t232)) = some r := H
        have A46 := Aside0.mk A460
        clear A460
        by_cases c47 : t244 = true
        ·subst c47
         have H1 : (laws_FnExactPkgRead.j1 kj4 t230 (t242 != t217) t219 t220 t231 t232) = some r := by rw [if_pos rfl] at H; exact H
         clear H
         have H := H1
         clear H1
         have H' := Aside0.mk H
         clear H
         have hnb48 := NB243_218.out
         have hnc48 := NB218_243.out
         have hnb49 := NB243_228.out
         have hnc49 := NB228_243.out
         obtain ⟨hcz50_0, hcz50_1, hcz50_2, hcz50_3, hfz50_0, hfz50_1, hfz50_2, hfz50_3⟩ := zc4f BK243.out
         have hnb51 := NB218_228.out
         have hnc51 := NB228_218.out
         obtain ⟨hcz52_0, hcz52_1, hcz52_2, hcz52_3, hfz52_0, hfz52_1, hfz52_2, hfz52_3⟩ := zc4f BK218.out
         go_wp2_with (first | ((with_reducible refine gate_callee (f := 31) rfl ?_); refine goesL_ (some 51) rfl rfl Tryd.func31 (by kernel_rfl) rfl #[.agg #[.int .i64 t234, .int .i64 t235, .slice Ao44 t236.length co44, .slice Ao45 t239.length co45], .agg #[.int .i64 t209, .int .i64 t210, .slice Ao9 t211.length co9, .slice Ao10 t214.length co10]] rfl (by (try simp only [zm1, zm2, zm3]); first | done | rfl | (simp only [List.length_drop, List.length_take]; rfl)) ?_; (with_reducible refine (laws_eqPkg.calls kj4 t234 t235 _ _ t236 _ _ t239 t209 t210 _ _ t211 _ _ t214 true _ ?side1 ?side2 ?side3 ?side4 ?side5 ?side6 ?side7 ?side8 A46.out).mono ?_); (case side1 => refine (Kd.R_reads' (e := 67) (base := w.heap.size) (ok := fun k_ => ((True ∧ some k_ ≠ (.slice Ao9 t211.length co9 : Value).ownBlock) ∧ some k_ ≠ (.slice Ao15 t221.length co15 : Value).ownBlock)) (n := t236.length) (c := co44) ?_).2.2; exact (by exact zR (Kd.R_mono (Kd.R_far (p := ⟨gb243, 3, none⟩) (Kd.R_far (p := ⟨gb243, 2, none⟩) (Kd.R_far (p := ⟨gb243, 1, none⟩) (Kd.R_far (p := ⟨gb243, 0, none⟩) (Kd.R_types HO238.out BK243.out (by decide)) (fun _ hk => hk.2) (.int .i64 t234)) (fun _ hk => hk.2) (.int .i64 t235)) (fun _ hk => hk.2) (.slice Ao44 t236.length co44)) (fun _ hk => hk.2) (.slice Ao45 t239.length co45)) (fun _ h_ => h_.1)))); (case side2 => exact (Kd.R_reads' HO238.out).2.1); (case side3 => refine (Kd.R_reads' (e := 69) (base := w.heap.size) (ok := fun k_ => ((True ∧ some k_ ≠ (.slice Ao10 t214.length co10 : Value).ownBlock) ∧ some k_ ≠ (.slice Ao16 t224.length co16 : Value).ownBlock)) (n := t239.length) (c := co45) ?_).2.2; exact (by exact zR (Kd.R_mono (Kd.R_far (p := ⟨gb243, 3, none⟩) (Kd.R_far (p := ⟨gb243, 2, none⟩) (Kd.R_far (p := ⟨gb243, 1, none⟩) (Kd.R_far (p := ⟨gb243, 0, none⟩) (Kd.R_types HO241.out BK243.out (by decide)) (fun _ hk => hk.2) (.int .i64 t234)) (fun _ hk => hk.2) (.int .i64 t235)) (fun _ hk => hk.2) (.slice Ao44 t236.length co44)) (fun _ hk => hk.2) (.slice Ao45 t239.length co45)) (fun _ h_ => h_.1)))); (case side4 => exact (Kd.R_reads' HO241.out).2.1); (case side5 => refine (Kd.R_reads' (e := 67) (base := w.heap.size) (ok := fun k_ => (some k_ ≠ (.slice Ao15 t221.length co15 : Value).ownBlock ∧ some k_ ≠ (.slice Ao44 t236.length co44 : Value).ownBlock)) (n := t211.length) (c := co9) ?_).2.2; exact (by exact zR (Kd.R_mono (Kd.R_far (p := ⟨gb243, 3, none⟩) (Kd.R_far (p := ⟨gb243, 2, none⟩) (Kd.R_far (p := ⟨gb243, 1, none⟩) (Kd.R_far (p := ⟨gb243, 0, none⟩) (Kd.R_types HO_219002.out BK243.out (by decide)) (fun _ hk => hk.2) (.int .i64 t234)) (fun _ hk => hk.2) (.int .i64 t235)) (fun _ hk => hk.2) (.slice Ao44 t236.length co44)) (fun _ hk => hk.2) (.slice Ao45 t239.length co45)) (fun _ h_ => h_.1)))); (case side6 => exact (Kd.R_reads' HO_219002.out).2.1); (case side7 => refine (Kd.R_reads' (e := 69) (base := w.heap.size) (ok := fun k_ => (some k_ ≠ (.slice Ao16 t224.length co16 : Value).ownBlock ∧ some k_ ≠ (.slice Ao45 t239.length co45 : Value).ownBlock)) (n := t214.length) (c := co10) ?_).2.2; exact (by exact zR (Kd.R_mono (Kd.R_far (p := ⟨gb243, 3, none⟩) (Kd.R_far (p := ⟨gb243, 2, none⟩) (Kd.R_far (p := ⟨gb243, 1, none⟩) (Kd.R_far (p := ⟨gb243, 0, none⟩) (Kd.R_types HO_219003.out BK243.out (by decide)) (fun _ hk => hk.2) (.int .i64 t234)) (fun _ hk => hk.2) (.int .i64 t235)) (fun _ hk => hk.2) (.slice Ao44 t236.length co44)) (fun _ hk => hk.2) (.slice Ao45 t239.length co45)) (fun _ h_ => h_.1)))); (case side8 => exact (Kd.R_reads' HO_219003.out).2.1); rintro e w53 ⟨rfl, hb⟩; refine ⟨_, rfl, ?_⟩; have n0_ := Aside0.mk (Kd.R_below (by exact zR (Kd.R_mono (Kd.R_far (p := ⟨gb243, 3, none⟩) (Kd.R_far (p := ⟨gb243, 2, none⟩) (Kd.R_far (p := ⟨gb243, 1, none⟩) (Kd.R_far (p := ⟨gb243, 0, none⟩) (Kd.R_types HO_219002.out BK243.out (by decide)) (fun _ hk => hk.2) (.int .i64 t234)) (fun _ hk => hk.2) (.int .i64 t235)) (fun _ hk => hk.2) (.slice Ao44 t236.length co44)) (fun _ hk => hk.2) (.slice Ao45 t239.length co45)) (fun _ h_ => h_.1))) hb); have n1_ := Aside0.mk (Kd.R_below (by exact zR (Kd.R_mono (Kd.R_far (p := ⟨gb243, 3, none⟩) (Kd.R_far (p := ⟨gb243, 2, none⟩) (Kd.R_far (p := ⟨gb243, 1, none⟩) (Kd.R_far (p := ⟨gb243, 0, none⟩) (Kd.R_types HO_219003.out BK243.out (by decide)) (fun _ hk => hk.2) (.int .i64 t234)) (fun _ hk => hk.2) (.int .i64 t235)) (fun _ hk => hk.2) (.slice Ao44 t236.length co44)) (fun _ hk => hk.2) (.slice Ao45 t239.length co45)) (fun _ h_ => h_.1))) hb); have n2_ := Aside0.mk (Kd.R_below (by exact zR (Kd.R_mono (Kd.R_far (p := ⟨gb243, 3, none⟩) (Kd.R_far (p := ⟨gb243, 2, none⟩) (Kd.R_far (p := ⟨gb243, 1, none⟩) (Kd.R_far (p := ⟨gb243, 0, none⟩) (Kd.R_types HO_229002.out BK243.out (by decide)) (fun _ hk => hk.2) (.int .i64 t234)) (fun _ hk => hk.2) (.int .i64 t235)) (fun _ hk => hk.2) (.slice Ao44 t236.length co44)) (fun _ hk => hk.2) (.slice Ao45 t239.length co45)) (fun _ h_ => h_.1))) hb); have n3_ := Aside0.mk (Kd.R_below (by exact zR (Kd.R_mono (Kd.R_far (p := ⟨gb243, 3, none⟩) (Kd.R_far (p := ⟨gb243, 2, none⟩) (Kd.R_far (p := ⟨gb243, 1, none⟩) (Kd.R_far (p := ⟨gb243, 0, none⟩) (Kd.R_types HO_229003.out BK243.out (by decide)) (fun _ hk => hk.2) (.int .i64 t234)) (fun _ hk => hk.2) (.int .i64 t235)) (fun _ hk => hk.2) (.slice Ao44 t236.length co44)) (fun _ hk => hk.2) (.slice Ao45 t239.length co45)) (fun _ h_ => h_.1))) hb); have n4_ := Aside0.mk (Kd.R_below (by exact zR (Kd.R_mono (Kd.R_far (p := ⟨gb243, 3, none⟩) (Kd.R_far (p := ⟨gb243, 2, none⟩) (Kd.R_far (p := ⟨gb243, 1, none⟩) (Kd.R_far (p := ⟨gb243, 0, none⟩) (Kd.R_types HO238.out BK243.out (by decide)) (fun _ hk => hk.2) (.int .i64 t234)) (fun _ hk => hk.2) (.int .i64 t235)) (fun _ hk => hk.2) (.slice Ao44 t236.length co44)) (fun _ hk => hk.2) (.slice Ao45 t239.length co45)) (fun _ h_ => h_.1))) hb); have n5_ := Aside0.mk (Kd.R_below (by exact zR (Kd.R_mono (Kd.R_far (p := ⟨gb243, 3, none⟩) (Kd.R_far (p := ⟨gb243, 2, none⟩) (Kd.R_far (p := ⟨gb243, 1, none⟩) (Kd.R_far (p := ⟨gb243, 0, none⟩) (Kd.R_types HO241.out BK243.out (by decide)) (fun _ hk => hk.2) (.int .i64 t234)) (fun _ hk => hk.2) (.int .i64 t235)) (fun _ hk => hk.2) (.slice Ao44 t236.length co44)) (fun _ hk => hk.2) (.slice Ao45 t239.length co45)) (fun _ h_ => h_.1))) hb); have n6_ := Aside0.mk (blk_below (g := gb218) (o := .cells #[.int .i64 t209, .int .i64 t210, .slice Ao9 t211.length co9, .slice Ao10 t214.length co10] 31 (0, 0)) (by (with_reducible repeat (first | refine blk_drewN ?_ _ | refine blk_drew ?_ | refine blk_alloc ?_ _)); refine blk_far ?_ NB218_243.out _; (with_reducible repeat (first | refine blk_drewN ?_ _ | refine blk_drew ?_ | refine blk_alloc ?_ _)); refine blk_far ?_ NB218_243.out _; (with_reducible repeat (first | refine blk_drewN ?_ _ | refine blk_drew ?_ | refine blk_alloc ?_ _)); refine blk_far ?_ NB218_243.out _; (with_reducible repeat (first | refine blk_drewN ?_ _ | refine blk_drew ?_ | refine blk_alloc ?_ _)); refine blk_far ?_ NB218_243.out _; exact zK BK218.out) hb); have n7_ := Aside0.mk (blk_below (g := gb228) (o := .cells #[.int .i64 t219, .int .i64 t220, .slice Ao15 t221.length co15, .slice Ao16 t224.length co16] 31 (0, 0)) (by (with_reducible repeat (first | refine blk_drewN ?_ _ | refine blk_drew ?_ | refine blk_alloc ?_ _)); refine blk_far ?_ NB228_243.out _; (with_reducible repeat (first | refine blk_drewN ?_ _ | refine blk_drew ?_ | refine blk_alloc ?_ _)); refine blk_far ?_ NB228_243.out _; (with_reducible repeat (first | refine blk_drewN ?_ _ | refine blk_drew ?_ | refine blk_alloc ?_ _)); refine blk_far ?_ NB228_243.out _; (with_reducible repeat (first | refine blk_drewN ?_ _ | refine blk_drew ?_ | refine blk_alloc ?_ _)); refine blk_far ?_ NB228_243.out _; exact zK BK228.out) hb); have n8_ := Aside0.mk (blk_below (g := gb243) (o := .cells #[.int .i64 t234, .int .i64 t235, .slice Ao44 t236.length co44, .slice Ao45 t239.length co45] 31 (0, 0)) (by (with_reducible repeat (first | refine blk_drewN ?_ _ | refine blk_drew ?_ | refine blk_alloc ?_ _)); refine blk_put (cs := #[.int .i64 t234, .int .i64 t235, .slice Ao44 t236.length co44, .slice none 0 0]) ?_ 3 _ rfl; (with_reducible repeat (first | refine blk_drewN ?_ _ | refine blk_drew ?_ | refine blk_alloc ?_ _)); refine blk_put (cs := #[.int .i64 t234, .int .i64 t235, .slice none 0 0, .slice none 0 0]) ?_ 2 _ rfl; (with_reducible repeat (first | refine blk_drewN ?_ _ | refine blk_drew ?_ | refine blk_alloc ?_ _)); refine blk_put (cs := #[.int .i64 t234, .int .i64 0, .slice none 0 0, .slice none 0 0]) ?_ 1 _ rfl; (with_reducible repeat (first | refine blk_drewN ?_ _ | refine blk_drew ?_ | refine blk_alloc ?_ _)); refine blk_put (cs := #[.int .i64 0, .int .i64 0, .slice none 0 0, .slice none 0 0]) ?_ 0 _ rfl; exact zK BK243.out) hb); have n9_ := Aside0.mk (below_step (by exact zB3 HB.out GE218.out GE228.out GE243.out) hb); clear HO_219002; clear HO_219003; clear HO_229002; clear HO_229003; clear HO238; clear HO241; clear BK218; clear BK228; clear BK243; clear HB; have HO_219002 := n0_; have HO_219003 := n1_; have HO_229002 := n2_; have HO_229003 := n3_; have HO238 := n4_; have HO241 := n5_; have BK218 := n6_; have BK228 := n7_; have BK243 := n8_; have HB := n9_; clear n0_ n1_ n2_ n3_ n4_ n5_ n6_ n7_ n8_ n9_; (try clear hb); (try clear hb2); (try clear hk); (try clear hi)))
         go_meet
         case rel => exact ⟨_, ((t242 != t217)), (by first | rfl | (simp; done) | (simp [*]; done)), H', ⟨by have := HJ4.out; first | omega | exact Nat.le_refl _⟩, ⟨by exact zR HO_219002.out⟩, ⟨by exact zR HO_219003.out⟩, ⟨by exact zR HO_229002.out⟩, ⟨by exact zR HO_229003.out⟩, ⟨by exact zR (Kd.R_mono HO238.out (fun _ hk => ⟨hk.1.2, hk.2⟩))⟩, ⟨by exact zR (Kd.R_mono HO241.out (fun _ hk => ⟨hk.1.2, hk.2⟩))⟩, ⟨by exact zK BK218.out⟩, ⟨by exact zK BK228.out⟩, ⟨by exact zK BK243.out⟩, ⟨by exact zB3 HB.out GE218.out GE228.out GE243.out⟩⟩
        ·replace c47 := Bool.eq_false_iff.mpr c47
         subst c47
         have H1 : (laws_FnExactPkgRead.j1 kj4 t230 true t219 t220 t231 t232) = some r := by rw [if_neg (show ¬ (false = true) by decide)] at H; exact H
         clear H
         have H := H1
         clear H1
         have H' := Aside0.mk H
         clear H
         have hnb54 := NB243_218.out
         have hnc54 := NB218_243.out
         have hnb55 := NB243_228.out
         have hnc55 := NB228_243.out
         obtain ⟨hcz56_0, hcz56_1, hcz56_2, hcz56_3, hfz56_0, hfz56_1, hfz56_2, hfz56_3⟩ := zc4f BK243.out
         have hnb57 := NB218_228.out
         have hnc57 := NB228_218.out
         obtain ⟨hcz58_0, hcz58_1, hcz58_2, hcz58_3, hfz58_0, hfz58_1, hfz58_2, hfz58_3⟩ := zc4f BK218.out
         go_wp2_with (first | ((with_reducible refine gate_callee (f := 31) rfl ?_); refine goesL_ (some 51) rfl rfl Tryd.func31 (by kernel_rfl) rfl #[.agg #[.int .i64 t234, .int .i64 t235, .slice Ao44 t236.length co44, .slice Ao45 t239.length co45], .agg #[.int .i64 t209, .int .i64 t210, .slice Ao9 t211.length co9, .slice Ao10 t214.length co10]] rfl (by (try simp only [zm1, zm2, zm3]); first | done | rfl | (simp only [List.length_drop, List.length_take]; rfl)) ?_; (with_reducible refine (laws_eqPkg.calls kj4 t234 t235 _ _ t236 _ _ t239 t209 t210 _ _ t211 _ _ t214 false _ ?side1 ?side2 ?side3 ?side4 ?side5 ?side6 ?side7 ?side8 A46.out).mono ?_); (case side1 => refine (Kd.R_reads' (e := 67) (base := w.heap.size) (ok := fun k_ => ((True ∧ some k_ ≠ (.slice Ao9 t211.length co9 : Value).ownBlock) ∧ some k_ ≠ (.slice Ao15 t221.length co15 : Value).ownBlock)) (n := t236.length) (c := co44) ?_).2.2; exact (by exact zR (Kd.R_mono (Kd.R_far (p := ⟨gb243, 3, none⟩) (Kd.R_far (p := ⟨gb243, 2, none⟩) (Kd.R_far (p := ⟨gb243, 1, none⟩) (Kd.R_far (p := ⟨gb243, 0, none⟩) (Kd.R_types HO238.out BK243.out (by decide)) (fun _ hk => hk.2) (.int .i64 t234)) (fun _ hk => hk.2) (.int .i64 t235)) (fun _ hk => hk.2) (.slice Ao44 t236.length co44)) (fun _ hk => hk.2) (.slice Ao45 t239.length co45)) (fun _ h_ => h_.1)))); (case side2 => exact (Kd.R_reads' HO238.out).2.1); (case side3 => refine (Kd.R_reads' (e := 69) (base := w.heap.size) (ok := fun k_ => ((True ∧ some k_ ≠ (.slice Ao10 t214.length co10 : Value).ownBlock) ∧ some k_ ≠ (.slice Ao16 t224.length co16 : Value).ownBlock)) (n := t239.length) (c := co45) ?_).2.2; exact (by exact zR (Kd.R_mono (Kd.R_far (p := ⟨gb243, 3, none⟩) (Kd.R_far (p := ⟨gb243, 2, none⟩) (Kd.R_far (p := ⟨gb243, 1, none⟩) (Kd.R_far (p := ⟨gb243, 0, none⟩) (Kd.R_types HO241.out BK243.out (by decide)) (fun _ hk => hk.2) (.int .i64 t234)) (fun _ hk => hk.2) (.int .i64 t235)) (fun _ hk => hk.2) (.slice Ao44 t236.length co44)) (fun _ hk => hk.2) (.slice Ao45 t239.length co45)) (fun _ h_ => h_.1)))); (case side4 => exact (Kd.R_reads' HO241.out).2.1); (case side5 => refine (Kd.R_reads' (e := 67) (base := w.heap.size) (ok := fun k_ => (some k_ ≠ (.slice Ao15 t221.length co15 : Value).ownBlock ∧ some k_ ≠ (.slice Ao44 t236.length co44 : Value).ownBlock)) (n := t211.length) (c := co9) ?_).2.2; exact (by exact zR (Kd.R_mono (Kd.R_far (p := ⟨gb243, 3, none⟩) (Kd.R_far (p := ⟨gb243, 2, none⟩) (Kd.R_far (p := ⟨gb243, 1, none⟩) (Kd.R_far (p := ⟨gb243, 0, none⟩) (Kd.R_types HO_219002.out BK243.out (by decide)) (fun _ hk => hk.2) (.int .i64 t234)) (fun _ hk => hk.2) (.int .i64 t235)) (fun _ hk => hk.2) (.slice Ao44 t236.length co44)) (fun _ hk => hk.2) (.slice Ao45 t239.length co45)) (fun _ h_ => h_.1)))); (case side6 => exact (Kd.R_reads' HO_219002.out).2.1); (case side7 => refine (Kd.R_reads' (e := 69) (base := w.heap.size) (ok := fun k_ => (some k_ ≠ (.slice Ao16 t224.length co16 : Value).ownBlock ∧ some k_ ≠ (.slice Ao45 t239.length co45 : Value).ownBlock)) (n := t214.length) (c := co10) ?_).2.2; exact (by exact zR (Kd.R_mono (Kd.R_far (p := ⟨gb243, 3, none⟩) (Kd.R_far (p := ⟨gb243, 2, none⟩) (Kd.R_far (p := ⟨gb243, 1, none⟩) (Kd.R_far (p := ⟨gb243, 0, none⟩) (Kd.R_types HO_219003.out BK243.out (by decide)) (fun _ hk => hk.2) (.int .i64 t234)) (fun _ hk => hk.2) (.int .i64 t235)) (fun _ hk => hk.2) (.slice Ao44 t236.length co44)) (fun _ hk => hk.2) (.slice Ao45 t239.length co45)) (fun _ h_ => h_.1)))); (case side8 => exact (Kd.R_reads' HO_219003.out).2.1); rintro e w59 ⟨rfl, hb⟩; refine ⟨_, rfl, ?_⟩; have n0_ := Aside0.mk (Kd.R_below (by exact zR (Kd.R_mono (Kd.R_far (p := ⟨gb243, 3, none⟩) (Kd.R_far (p := ⟨gb243, 2, none⟩) (Kd.R_far (p := ⟨gb243, 1, none⟩) (Kd.R_far (p := ⟨gb243, 0, none⟩) (Kd.R_types HO_219002.out BK243.out (by decide)) (fun _ hk => hk.2) (.int .i64 t234)) (fun _ hk => hk.2) (.int .i64 t235)) (fun _ hk => hk.2) (.slice Ao44 t236.length co44)) (fun _ hk => hk.2) (.slice Ao45 t239.length co45)) (fun _ h_ => h_.1))) hb); have n1_ := Aside0.mk (Kd.R_below (by exact zR (Kd.R_mono (Kd.R_far (p := ⟨gb243, 3, none⟩) (Kd.R_far (p := ⟨gb243, 2, none⟩) (Kd.R_far (p := ⟨gb243, 1, none⟩) (Kd.R_far (p := ⟨gb243, 0, none⟩) (Kd.R_types HO_219003.out BK243.out (by decide)) (fun _ hk => hk.2) (.int .i64 t234)) (fun _ hk => hk.2) (.int .i64 t235)) (fun _ hk => hk.2) (.slice Ao44 t236.length co44)) (fun _ hk => hk.2) (.slice Ao45 t239.length co45)) (fun _ h_ => h_.1))) hb); have n2_ := Aside0.mk (Kd.R_below (by exact zR (Kd.R_mono (Kd.R_far (p := ⟨gb243, 3, none⟩) (Kd.R_far (p := ⟨gb243, 2, none⟩) (Kd.R_far (p := ⟨gb243, 1, none⟩) (Kd.R_far (p := ⟨gb243, 0, none⟩) (Kd.R_types HO_229002.out BK243.out (by decide)) (fun _ hk => hk.2) (.int .i64 t234)) (fun _ hk => hk.2) (.int .i64 t235)) (fun _ hk => hk.2) (.slice Ao44 t236.length co44)) (fun _ hk => hk.2) (.slice Ao45 t239.length co45)) (fun _ h_ => h_.1))) hb); have n3_ := Aside0.mk (Kd.R_below (by exact zR (Kd.R_mono (Kd.R_far (p := ⟨gb243, 3, none⟩) (Kd.R_far (p := ⟨gb243, 2, none⟩) (Kd.R_far (p := ⟨gb243, 1, none⟩) (Kd.R_far (p := ⟨gb243, 0, none⟩) (Kd.R_types HO_229003.out BK243.out (by decide)) (fun _ hk => hk.2) (.int .i64 t234)) (fun _ hk => hk.2) (.int .i64 t235)) (fun _ hk => hk.2) (.slice Ao44 t236.length co44)) (fun _ hk => hk.2) (.slice Ao45 t239.length co45)) (fun _ h_ => h_.1))) hb); have n4_ := Aside0.mk (Kd.R_below (by exact zR (Kd.R_mono (Kd.R_far (p := ⟨gb243, 3, none⟩) (Kd.R_far (p := ⟨gb243, 2, none⟩) (Kd.R_far (p := ⟨gb243, 1, none⟩) (Kd.R_far (p := ⟨gb243, 0, none⟩) (Kd.R_types HO238.out BK243.out (by decide)) (fun _ hk => hk.2) (.int .i64 t234)) (fun _ hk => hk.2) (.int .i64 t235)) (fun _ hk => hk.2) (.slice Ao44 t236.length co44)) (fun _ hk => hk.2) (.slice Ao45 t239.length co45)) (fun _ h_ => h_.1))) hb); have n5_ := Aside0.mk (Kd.R_below (by exact zR (Kd.R_mono (Kd.R_far (p := ⟨gb243, 3, none⟩) (Kd.R_far (p := ⟨gb243, 2, none⟩) (Kd.R_far (p := ⟨gb243, 1, none⟩) (Kd.R_far (p := ⟨gb243, 0, none⟩) (Kd.R_types HO241.out BK243.out (by decide)) (fun _ hk => hk.2) (.int .i64 t234)) (fun _ hk => hk.2) (.int .i64 t235)) (fun _ hk => hk.2) (.slice Ao44 t236.length co44)) (fun _ hk => hk.2) (.slice Ao45 t239.length co45)) (fun _ h_ => h_.1))) hb); have n6_ := Aside0.mk (blk_below (g := gb218) (o := .cells #[.int .i64 t209, .int .i64 t210, .slice Ao9 t211.length co9, .slice Ao10 t214.length co10] 31 (0, 0)) (by (with_reducible repeat (first | refine blk_drewN ?_ _ | refine blk_drew ?_ | refine blk_alloc ?_ _)); refine blk_far ?_ NB218_243.out _; (with_reducible repeat (first | refine blk_drewN ?_ _ | refine blk_drew ?_ | refine blk_alloc ?_ _)); refine blk_far ?_ NB218_243.out _; (with_reducible repeat (first | refine blk_drewN ?_ _ | refine blk_drew ?_ | refine blk_alloc ?_ _)); refine blk_far ?_ NB218_243.out _; (with_reducible repeat (first | refine blk_drewN ?_ _ | refine blk_drew ?_ | refine blk_alloc ?_ _)); refine blk_far ?_ NB218_243.out _; exact zK BK218.out) hb); have n7_ := Aside0.mk (blk_below (g := gb228) (o := .cells #[.int .i64 t219, .int .i64 t220, .slice Ao15 t221.length co15, .slice Ao16 t224.length co16] 31 (0, 0)) (by (with_reducible repeat (first | refine blk_drewN ?_ _ | refine blk_drew ?_ | refine blk_alloc ?_ _)); refine blk_far ?_ NB228_243.out _; (with_reducible repeat (first | refine blk_drewN ?_ _ | refine blk_drew ?_ | refine blk_alloc ?_ _)); refine blk_far ?_ NB228_243.out _; (with_reducible repeat (first | refine blk_drewN ?_ _ | refine blk_drew ?_ | refine blk_alloc ?_ _)); refine blk_far ?_ NB228_243.out _; (with_reducible repeat (first | refine blk_drewN ?_ _ | refine blk_drew ?_ | refine blk_alloc ?_ _)); refine blk_far ?_ NB228_243.out _; exact zK BK228.out) hb); have n8_ := Aside0.mk (blk_below (g := gb243) (o := .cells #[.int .i64 t234, .int .i64 t235, .slice Ao44 t236.length co44, .slice Ao45 t239.length co45] 31 (0, 0)) (by (with_reducible repeat (first | refine blk_drewN ?_ _ | refine blk_drew ?_ | refine blk_alloc ?_ _)); refine blk_put (cs := #[.int .i64 t234, .int .i64 t235, .slice Ao44 t236.length co44, .slice none 0 0]) ?_ 3 _ rfl; (with_reducible repeat (first | refine blk_drewN ?_ _ | refine blk_drew ?_ | refine blk_alloc ?_ _)); refine blk_put (cs := #[.int .i64 t234, .int .i64 t235, .slice none 0 0, .slice none 0 0]) ?_ 2 _ rfl; (with_reducible repeat (first | refine blk_drewN ?_ _ | refine blk_drew ?_ | refine blk_alloc ?_ _)); refine blk_put (cs := #[.int .i64 t234, .int .i64 0, .slice none 0 0, .slice none 0 0]) ?_ 1 _ rfl; (with_reducible repeat (first | refine blk_drewN ?_ _ | refine blk_drew ?_ | refine blk_alloc ?_ _)); refine blk_put (cs := #[.int .i64 0, .int .i64 0, .slice none 0 0, .slice none 0 0]) ?_ 0 _ rfl; exact zK BK243.out) hb); have n9_ := Aside0.mk (below_step (by exact zB3 HB.out GE218.out GE228.out GE243.out) hb); clear HO_219002; clear HO_219003; clear HO_229002; clear HO_229003; clear HO238; clear HO241; clear BK218; clear BK228; clear BK243; clear HB; have HO_219002 := n0_; have HO_219003 := n1_; have HO_229002 := n2_; have HO_229003 := n3_; have HO238 := n4_; have HO241 := n5_; have BK218 := n6_; have BK228 := n7_; have BK243 := n8_; have HB := n9_; clear n0_ n1_ n2_ n3_ n4_ n5_ n6_ n7_ n8_ n9_; (try clear hb); (try clear hb2); (try clear hk); (try clear hi)))
         go_meet
         case rel => exact ⟨_, (true), (by first | rfl | (simp; done) | (simp [*]; done)), H', ⟨by have := HJ4.out; first | omega | exact Nat.le_refl _⟩, ⟨by exact zR HO_219002.out⟩, ⟨by exact zR HO_219003.out⟩, ⟨by exact zR HO_229002.out⟩, ⟨by exact zR HO_229003.out⟩, ⟨by exact zR (Kd.R_mono HO238.out (fun _ hk => ⟨hk.1.2, hk.2⟩))⟩, ⟨by exact zR (Kd.R_mono HO241.out (fun _ hk => ⟨hk.1.2, hk.2⟩))⟩, ⟨by exact zK BK218.out⟩, ⟨by exact zK BK228.out⟩, ⟨by exact zK BK243.out⟩, ⟨by exact zB3 HB.out GE218.out GE228.out GE243.out⟩⟩
       case rest =>
        clear HC33
        try clear c1
        try clear c2
        try clear c2b0
        try clear c2b1
        try clear p2
        try clear c3
        try clear c4
        try clear c5
        try clear c9
        try clear c13
        try clear c18
        try clear c19
        try clear c23
        try clear c25
        try clear c27
        try clear c30
        try clear c30b0
        try clear c31
        try clear c31b0
        try clear c31b1
        try clear c32
        try clear c33
        try clear c34
        try clear c41
        try clear c42
        try clear c47
        try clear c48
        try clear c49
        try clear c51
        try clear c54
        try clear c55
        try clear c57
        try clear hcz14_0
        try clear hcz14_1
        try clear hcz14_2
        try clear hcz14_3
        try clear hcz20_0
        try clear hcz20_1
        try clear hcz20_2
        try clear hcz20_3
        try clear hcz21_0
        try clear hcz21_1
        try clear hcz21_2
        try clear hcz21_3
        try clear hcz24_0
        try clear hcz24_1
        try clear hcz24_2
        try clear hcz24_3
        try clear hcz25_0
        try clear hcz25_1
        try clear hcz25_2
        try clear hcz25_3
        try clear hcz35_0
        try clear hcz35_1
        try clear hcz35_2
        try clear hcz35_3
        try clear hcz37_0
        try clear hcz37_1
        try clear hcz37_2
        try clear hcz37_3
        try clear hcz43_0
        try clear hcz43_1
        try clear hcz43_2
        try clear hcz43_3
        try clear hcz50_0
        try clear hcz50_1
        try clear hcz50_2
        try clear hcz50_3
        try clear hcz52_0
        try clear hcz52_1
        try clear hcz52_2
        try clear hcz52_3
        try clear hcz56_0
        try clear hcz56_1
        try clear hcz56_2
        try clear hcz56_3
        try clear hcz58_0
        try clear hcz58_1
        try clear hcz58_2
        try clear hcz58_3
        try clear hcz8_0
        try clear hcz8_1
        try clear hcz8_2
        try clear hcz8_3
        try clear hfz14_0
        try clear hfz14_1
        try clear hfz14_2
        try clear hfz14_3
        try clear hfz20_0
        try clear hfz20_1
        try clear hfz20_2
        try clear hfz20_3
        try clear hfz21_0
        try clear hfz21_1
        try clear hfz21_2
        try clear hfz21_3
        try clear hfz24_0
        try clear hfz24_1
        try clear hfz24_2
        try clear hfz24_3
        try clear hfz25_0
        try clear hfz25_1
        try clear hfz25_2
        try clear hfz25_3
        try clear hfz35_0
        try clear hfz35_1
        try clear hfz35_2
        try clear hfz35_3
        try clear hfz37_0
        try clear hfz37_1
        try clear hfz37_2
        try clear hfz37_3
        try clear hfz43_0
        try clear hfz43_1
        try clear hfz43_2
        try clear hfz43_3
        try clear hfz50_0
        try clear hfz50_1
        try clear hfz50_2
        try clear hfz50_3
        try clear hfz52_0
        try clear hfz52_1
        try clear hfz52_2
        try clear hfz52_3
        try clear hfz56_0
        try clear hfz56_1
        try clear hfz56_2
        try clear hfz56_3
        try clear hfz58_0
        try clear hfz58_1
        try clear hfz58_2
        try clear hfz58_3
        try clear hfz8_0
        try clear hfz8_1
        try clear hfz8_2
        try clear hfz8_3
        try clear p2
        obtain ⟨kq, x57_32, rfl, HA, HJ32, HO_219002, HO_219003, HO_229002, HO_229003, HO_244002, HO_244003, BK218, BK228, BK243, HB⟩ := hcut
        have hl229002_32 := (Kd.R_reads' HO_229002.out).1
        rw [hl229002_32] at HO_229002
        (try simp only [hl229002_32])
        (try simp only [hl229002_32] at BK218)
        (try simp only [hl229002_32] at BK228)
        (try simp only [hl229002_32] at BK243)
        (try simp only [hl229002_32] at HO_219002)
        (try simp only [hl229002_32] at HO_219003)
        (try simp only [hl229002_32] at HO_229003)
        (try simp only [hl229002_32] at HO_244002)
        (try simp only [hl229002_32] at HO_244003)
        have hl229003_32 := (Kd.R_reads' HO_229003.out).1
        rw [hl229003_32] at HO_229003
        (try simp only [hl229003_32])
        (try simp only [hl229003_32] at BK218)
        (try simp only [hl229003_32] at BK228)
        (try simp only [hl229003_32] at BK243)
        (try simp only [hl229003_32] at HO_219002)
        (try simp only [hl229003_32] at HO_219003)
        (try simp only [hl229003_32] at HO_229002)
        (try simp only [hl229003_32] at HO_244002)
        (try simp only [hl229003_32] at HO_244003)
        cases kq with
        | zero => exact absurd HA.out (by simp [laws_FnExactPkgRead.j1])
        | succ kj32 =>
         have H := HA.out
         clear HA
         simp only [laws_FnExactPkgRead.j1] at H
         by_cases c60 : x57_32 = true
         ·subst c60
          have H1 : (none) = some r := by rw [if_pos rfl] at H; exact H
          clear H
          have H := H1
          clear H1
          exact absurd H (by simp)
         ·replace c60 := Bool.eq_false_iff.mpr c60
          subst c60
          have H1 : ((laws_heldPkg.f kj32 t219 t220 t231 t232 1).bind fun t245 => (if t245 < 0 then (none) else (if t245 = t230 then (some true) else (none)))) = some r := by rw [if_neg (show ¬ (false = true) by decide)] at H; exact H
          clear H
          have H := H1
          clear H1
          replace H := Option.bind_eq_some_iff.mp H
          obtain ⟨t245, A610, H⟩ := H
          replace H : (if t245 < 0 then (none) else (if t245 = t230 then (some true) else (none))) = some r := H
          have A61 := Aside0.mk A610
          clear A610
          by_cases c62 : t245 < 0
          ·rw [if_pos c62] at H
           exact absurd H (by simp)
          ·rw [if_neg c62] at H
           have c62b0 : decide (t245 < 0) = false := decide_eq_false c62
           clear c62
           by_cases c63 : t245 = t230
           ·rw [if_pos c63] at H
            have c63b0 : (t245 == t230) = true := beq_iff_eq.mpr c63
            have c63b1 : (t245 != t230) = false := bne_eq_false_iff_eq.mpr c63
            clear c63
            obtain rfl := Option.some.inj H
            have hnb64 := NB228_218.out
            have hnc64 := NB218_228.out
            have hnb65 := NB228_243.out
            have hnc65 := NB243_228.out
            obtain ⟨hcz66_0, hcz66_1, hcz66_2, hcz66_3, hfz66_0, hfz66_1, hfz66_2, hfz66_3⟩ := zc4f BK228.out
            go_wp2_with (first | ((with_reducible refine gate_callee (f := 33) rfl ?_); refine goesL_ (some 60) rfl rfl Tryd.func33 (by kernel_rfl) rfl #[.agg #[.int .i64 t219, .int .i64 t220, .slice Ao15 t231.length co15, .slice Ao16 t232.length co16], .int .i64 1] rfl (by (try simp only [zm1, zm2, zm3]); first | done | rfl | (simp only [List.length_drop, List.length_take]; rfl)) ?_; (with_reducible refine (laws_heldPkg.calls kj32 t219 t220 _ _ t231 _ _ t232 1 t245 _ ?side1 ?side2 ?side3 ?side4 A61.out).mono ?_); (case side1 => exact zC (Kd.R_reads' HO_229002.out).2.2); (case side2 => exact (Kd.R_reads' HO_229002.out).2.1); (case side3 => exact zC (Kd.R_reads' HO_229003.out).2.2); (case side4 => exact (Kd.R_reads' HO_229003.out).2.1); rintro e w67 ⟨rfl, hb⟩; refine ⟨_, rfl, ?_⟩; have n0_ := Aside0.mk (Kd.R_below (by exact zR HO_219002.out) hb); have n1_ := Aside0.mk (Kd.R_below (by exact zR HO_219003.out) hb); have n2_ := Aside0.mk (Kd.R_below (by exact zR HO_229002.out) hb); have n3_ := Aside0.mk (Kd.R_below (by exact zR HO_229003.out) hb); have n4_ := Aside0.mk (Kd.R_below (by exact zR HO_244002.out) hb); have n5_ := Aside0.mk (Kd.R_below (by exact zR HO_244003.out) hb); have n6_ := Aside0.mk (blk_below (g := gb218) (o := .cells #[.int .i64 t209, .int .i64 t210, .slice Ao9 t211.length co9, .slice Ao10 t214.length co10] 31 (0, 0)) (by exact zK BK218.out) hb); have n7_ := Aside0.mk (blk_below (g := gb228) (o := .cells #[.int .i64 t219, .int .i64 t220, .slice Ao15 t231.length co15, .slice Ao16 t232.length co16] 31 (0, 0)) (by exact zK BK228.out) hb); have n8_ := Aside0.mk (blk_below (g := gb243) (o := .cells #[.int .i64 t234, .int .i64 t235, .slice Ao44 t236.length co44, .slice Ao45 t239.length co45] 31 (0, 0)) (by exact zK BK243.out) hb); have n9_ := Aside0.mk (below_step (by exact zB3 HB.out GE218.out GE228.out GE243.out) hb); clear HO_219002; clear HO_219003; clear HO_229002; clear HO_229003; clear HO_244002; clear HO_244003; clear BK218; clear BK228; clear BK243; clear HB; have HO_219002 := n0_; have HO_219003 := n1_; have HO_229002 := n2_; have HO_229003 := n3_; have HO_244002 := n4_; have HO_244003 := n5_; have BK218 := n6_; have BK228 := n7_; have BK243 := n8_; have HB := n9_; clear n0_ n1_ n2_ n3_ n4_ n5_ n6_ n7_ n8_ n9_; (try clear hb); (try clear hb2); (try clear hk); (try clear hi)))
            go_ret
            exact ⟨by first | rfl | (simp [errW_none, errW_some] <;> rfl) | (simp [*, errW_none, errW_some] <;> rfl), by exact zB3 HB.out GE218.out GE228.out GE243.out⟩
           ·rw [if_neg c63] at H
            exact absurd H (by simp)
      ·rw [if_neg c31] at H
       exact absurd H (by simp)

/-- THE ONE PURE STATEMENT of laws_FnExactPkgRead: yours. -/
def laws_FnExactPkgRead.Pure : Prop := ∀ (a0 : ByteArray), a0.size ≤ 140737488351232 → ∃ k, laws_FnExactPkgRead.f k a0 = some true
theorem laws_FnExactPkgRead.walk (P : laws_FnExactPkgRead.Pure) (a0 : ByteArray) (w : World) (w0 : a0.size ≤ 140737488351232) (hLD : LaidW w) :
  Calls Tryd.prog 9 #[.string a0] w fun e w' => e = .returned (.bool true) ∧ Below w.heap.size w w' := by
 obtain ⟨k, h⟩ := P a0 w0
 refine (laws_FnExactPkgRead.calls k a0 true w hLD h).mono ?_
 rintro e w' ⟨rfl, hd⟩
 exact ⟨rfl, hd⟩

end Go.Proofs.YtkjgnnjcjkphbaaDoor.PFnExactPkgRead
