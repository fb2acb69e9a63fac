-- printed for this claim by a program out of the translation, its tactics shortened by another
import Derived.Test.YtkdmgbolbjedfaaPFnPkgLessx1
namespace Go.Proofs.Ytkdmgbolbjedfaa.PFnPkgLess
open Go.RowKit Go.Proofs.YtkdmgbolbjedfaaW.PrintWords Go.Proofs.YtkdmgbolbjedfaaW.PrintLast Go.Proofs.YtkdmgbolbjedfaaW.PrintMore
attribute [local go_sem] max2_int min2_int max_two min_two max_three min_three max_four min_four   -- for this text's walks alone
set_option linter.unusedVariables false
set_option linter.unusedSimpArgs false

/-! ### spec_DrawPkgOk: function 15 -/
def spec_DrawPkgOk.f (k : Nat) (l0 : List Int) : Option (Int × Int × (List (S82)) × (List (S30))) := (spec_l6Open.f l0).bind fun bt177 => ((spec_l71Any.f k bt177.1 bt177.2).bind fun bt180 => ((spec_l6Rd_pick.f k bt177.1 bt180.2.2.2.2 3).bind fun bt190 => (if bt190.1 = 0 then ((spec_l6Rd_pick.f k bt177.1 bt190.2 7).bind fun bt192 => ((spec_l6Rd_pick.f k bt177.1 bt192.2 12).bind fun bt194 => (if bt180.2.2.1.length < 8796093022208 then (some (bt180.1, bt180.2.1, (bt180.2.2.1 ++ [(⟨bt192.1, bt194.1⟩ : S82)]), bt180.2.2.2.1)) else (none)))) else (some (bt180.1, bt180.2.1, bt180.2.2.1, bt180.2.2.2.1)))))
theorem spec_DrawPkgOk.mono : ∀ a0 k, LeO (spec_DrawPkgOk.f k a0) (spec_DrawPkgOk.f (k + 1) a0) := by
 intro a0 k
 unfold spec_DrawPkgOk.f
 repeat' first
   | (with_reducible exact spec_l6Rd_pick.mono _ _ _ _)
   | (with_reducible exact spec_l71Any.mono _ _ _)
   | (with_reducible exact LeO.refl _)
   | (with_reducible exact LeO.none _)
   | (with_reducible refine LeO.ite ?_ ?_)
   | (with_reducible refine LeO.bind ?_ (fun _ => ?_))
   | exact spec_l6Rd_pick.mono _ _ _ _
   | exact spec_l71Any.mono _ _ _
   | exact LeO.none _
   | refine LeO.ite ?_ ?_
   | refine LeO.bind ?_ (fun _ => ?_)
def spec_DrawPkgOk.T4 : Bool × List (List Nat × List Nat) := (true, [([], []), ([0], [0]), ([], []), ([2], [2]), ([], []), ([4, 3], [4]), ([3, 5], [3, 5]), ([6], [6]), ([1, 7, 5], [1, 7]), ([0, 1, 2, 3, 4, 5, 6, 7, 8], []), ([9, 8, 8, 0, 1, 2, 3, 4, 5, 6, 7, 8], [8, 9])])
def spec_DrawPkgOk.B4 : List Nat := [0, 1, 0, 4, 0, 28, 60, 124, 255, 511, 1023]
theorem spec_DrawPkgOk.tab4 : rtab .any (opsOf Try.f15 4) = spec_DrawPkgOk.T4 := by kernel_rfl
theorem spec_DrawPkgOk.bits4 : waitsOk spec_DrawPkgOk.T4.2 spec_DrawPkgOk.B4 = true := by kernel_rfl
set_option maxHeartbeats 8000000 in
set_option maxRecDepth 100000 in
theorem spec_DrawPkgOk.calls (k : Nat) (A0 : Option Addr) (c0 : Nat) (l0 : List Int) (r1 : Int) (r2 : Int) (r3 : List (S82)) (r4 : List (S30)) (w : World) (hr0 : Kd.C (Kd.int .u8) w A0 l0.length l0) (hc0 : l0.length ≤ c0) (h : spec_DrawPkgOk.f k l0 = some (r1, r2, r3, r4)) :
  Calls Try.prog 15 #[.slice A0 l0.length c0] w fun e w' => ∃ v2_ v3_ : Value, e = .returned (.agg #[.int .i64 r1, .int .i64 r2, v2_, v3_]) ∧ Kd.R k82 82 w' w.heap.size (fun _ => True) v2_ r3 ∧ Kd.R k30 30 w' w.heap.size (fun _ => True) v3_ r4 ∧ Below w.heap.size w w' := by
 have hu26 := Try.underlying26
 have hu82 := Try.underlying82
 have HR0 := Aside0.mk hr0
 have HC0 := Aside0.mk hc0
 clear hr0 hc0
 have HB := Aside0.mk (Below.refl w.heap.size w)
 have H : ((spec_l6Open.f l0).bind fun bt177 => ((spec_l71Any.f k bt177.1 bt177.2).bind fun bt180 => ((spec_l6Rd_pick.f k bt177.1 bt180.2.2.2.2 3).bind fun bt190 => (if bt190.1 = 0 then ((spec_l6Rd_pick.f k bt177.1 bt190.2 7).bind fun bt192 => ((spec_l6Rd_pick.f k bt177.1 bt192.2 12).bind fun bt194 => (if bt180.2.2.1.length < 8796093022208 then (some (bt180.1, bt180.2.1, (bt180.2.2.1 ++ [(⟨bt192.1, bt194.1⟩ : S82)]), bt180.2.2.2.1)) else (none)))) else (some (bt180.1, bt180.2.1, bt180.2.2.1, bt180.2.2.2.1)))))) = some (r1, r2, r3, r4) := h
 clear h
 replace H := Option.bind_eq_some_iff.mp H
 obtain ⟨⟨t177, t178⟩, A20, H⟩ := H
 replace H : ((spec_l71Any.f k t177 t178).bind fun bt180 => ((spec_l6Rd_pick.f k t177 bt180.2.2.2.2 3).bind fun bt190 => (if bt190.1 = 0 then ((spec_l6Rd_pick.f k t177 bt190.2 7).bind fun bt192 => ((spec_l6Rd_pick.f k t177 bt192.2 12).bind fun bt194 => (if bt180.2.2.1.length < 8796093022208 then (some (bt180.1, bt180.2.1, (bt180.2.2.1 ++ [(⟨bt192.1, bt194.1⟩ : S82)]), bt180.2.2.2.1)) else (none)))) else (some (bt180.1, bt180.2.1, bt180.2.2.1, bt180.2.2.2.1))))) = some (r1, r2, r3, r4) := H
 have A2 := Aside0.mk A20
 clear A20
 replace H := Option.bind_eq_some_iff.mp H
 obtain ⟨⟨t180, t181, t182, t185, t188⟩, A30, H⟩ := H
 replace H : ((spec_l6Rd_pick.f k t177 t188 3).bind fun bt190 => (if bt190.1 = 0 then ((spec_l6Rd_pick.f k t177 bt190.2 7).bind fun bt192 => ((spec_l6Rd_pick.f k t177 bt192.2 12).bind fun bt194 => (if t182.length < 8796093022208 then (some (t180, t181, (t182 ++ [(⟨bt192.1, bt194.1⟩ : S82)]), t185)) else (none)))) else (some (t180, t181, t182, t185)))) = some (r1, r2, r3, r4) := H
 have A3 := Aside0.mk A30
 clear A30
 replace H := Option.bind_eq_some_iff.mp H
 obtain ⟨⟨t190, t191⟩, A40, H⟩ := H
 replace H : (if t190 = 0 then ((spec_l6Rd_pick.f k t177 t191 7).bind fun bt192 => ((spec_l6Rd_pick.f k t177 bt192.2 12).bind fun bt194 => (if t182.length < 8796093022208 then (some (t180, t181, (t182 ++ [(⟨bt192.1, bt194.1⟩ : S82)]), t185)) else (none)))) else (some (t180, t181, t182, t185))) = some (r1, r2, r3, r4) := H
 have A4 := Aside0.mk A40
 clear A40
 by_cases c5 : t190 = 0
 ·rw [if_pos c5] at H
  have c5b0 : (t190 == 0) = true := beq_iff_eq.mpr c5
  have c5b1 : (t190 != 0) = false := bne_eq_false_iff_eq.mpr c5
  clear c5
  replace H := Option.bind_eq_some_iff.mp H
  obtain ⟨⟨t192, t193⟩, A60, H⟩ := H
  replace H : ((spec_l6Rd_pick.f k t177 t193 12).bind fun bt194 => (if t182.length < 8796093022208 then (some (t180, t181, (t182 ++ [(⟨t192, bt194.1⟩ : S82)]), t185)) else (none))) = some (r1, r2, r3, r4) := H
  have A6 := Aside0.mk A60
  clear A60
  replace H := Option.bind_eq_some_iff.mp H
  obtain ⟨⟨t194, t195⟩, A70, H⟩ := H
  replace H : (if t182.length < 8796093022208 then (some (t180, t181, (t182 ++ [(⟨t192, t194⟩ : S82)]), t185)) else (none)) = some (r1, r2, r3, r4) := H
  have A7 := Aside0.mk A70
  clear A70
  by_cases c8 : t182.length < 8796093022208
  ·rw [if_pos c8] at H
   have LMc8 := Aside0.mk c8
   clear c8
   obtain ⟨y196, hy196⟩ : ∃ y_ : List (S82), y_ = (t182 ++ [(⟨t192, t194⟩ : S82)]) := ⟨_, rfl⟩
   replace H : (some (t180, t181, y196, t185)) = some (r1, r2, r3, r4) := by first | (rw [hy196]; with_reducible exact H) | (have H2_ := (Option.bind_some _ _).symm.trans H; rw [hy196]; with_reducible exact H2_) | (have H2_ := (Option.bind_some _ _).symm.trans H; with_reducible exact H2_) | with_reducible exact H | (rw [hy196]; exact H) | exact H
   have Ny196 := Aside0.mk hy196
   clear hy196
   simp only [Option.some.injEq, Prod.mk.injEq] at H
   obtain ⟨rfl, rfl, rfl, rfl⟩ := H
   go_enter Try.func15, Try.ntmps15
   try go_wp2_with (first | ((with_reducible refine gate_dst (N := 2) rfl ?_); refine box_event ?hg (N := 2) ?hd (cs := #[.int .i64 0, .int .i64 0, .slice none 0 0, .slice none 0 0]) (t := 26) ?hr ?_; (case hd => rfl); (case hg => rfl); (case hr => first | (go_simp; done) | (go_simp; rfl)); intro gb176 hg w9 hbox hb; have n0_ := Aside0.mk (below_step (by exact zB HB.out) hb); have n1_ := Aside0.mk (hbox); have n2_ := Aside0.mk ((by rw [hg]; exact (below_size (by exact zB HB.out)) : w.heap.size ≤ gb176)); have n3_ := Aside0.mk ((by rw [hg]; exact (below_size (by exact zB HB.out)) : w.heap.size ≤ gb176)); clear HB; have HB := n0_; have BK176 := n1_; have GW176 := n2_; have GE176 := n3_; clear n0_ n1_ n2_ n3_; clear hb hbox hg) | ((with_reducible refine gate_callee (f := 44) rfl ?_); refine goesL_ (some 6) rfl rfl Try.func44 (by kernel_rfl) rfl #[.slice A0 l0.length c0] rfl (by (try simp only [zm1, zm2, zm3]); first | done | rfl | (simp only [List.length_drop, List.length_take]; rfl)) ?_; (with_reducible refine (spec_l6Open.calls _ _ l0 t177 t178 w _ ?side1 ?side2 ?side3 A2.out).mono ?_); (case side1 => exact zB1 HB.out GE176.out); (case side2 => exact HR0.out); (case side3 => exact HC0.out); rintro e w10 ⟨g179, rfl, hi, hb, hb2⟩; refine ⟨_, rfl, ?_⟩; have n0_ := Aside0.mk (blk_below (g := gb176) (o := .cells #[.int .i64 0, .int .i64 0, .slice none 0 0, .slice none 0 0] 26 (0, 0)) (by exact zK BK176.out) hb2); have n1_ := Aside0.mk (hb); have n2_ := Aside0.mk (hi); have n3_ := Aside0.mk (IsS105.ne_blk hi (blk_below (g := gb176) (o := .cells #[.int .i64 0, .int .i64 0, .slice none 0 0, .slice none 0 0] 26 (0, 0)) (by exact zK BK176.out) hb2) (by decide)); have n4_ := Aside0.mk (Ne.symm (IsS105.ne_blk hi (blk_below (g := gb176) (o := .cells #[.int .i64 0, .int .i64 0, .slice none 0 0, .slice none 0 0] 26 (0, 0)) (by exact zK BK176.out) hb2) (by decide))); clear BK176; clear HB; have BK176 := n0_; have HB := n1_; have HI179 := n2_; have NB179_176 := n3_; have NB176_179 := n4_; clear n0_ n1_ n2_ n3_ n4_; (try clear hb); (try clear hb2); (try clear hk); (try clear hi)) | ((with_reducible refine gate_callee (f := 45) rfl ?_); refine goesL_ (some 8) rfl rfl Try.func45 (by kernel_rfl) rfl #[.pointer (some ⟨g179, 0, none⟩)] rfl (by (try simp only [zm1, zm2, zm3]); first | done | rfl | (simp only [List.length_drop, List.length_take]; rfl)) ?_; (with_reducible refine (spec_l71Any.calls k g179 t177 t178 t180 t181 t182 t185 t188 w _ ?side1 ?side2 A3.out).mono ?_); (case side1 => repeat (first | (with_reducible first | exact HI179.out | apply IsS105.alloc | apply IsS105.drewN | apply IsS105.drew | apply IsS105.set_1 | refine IsS105.far ?_ NB179_176.out _) | exact HI179.out)); (case side2 => exact zB2 HB.out (IsS105.ge HI179.out) GE176.out); rintro e w11 ⟨v183, v186, rfl, ho0, ho1, hi, hb, hk⟩; refine ⟨_, rfl, ?_⟩; have n0_ := Aside0.mk (KeepBut.blk hk (g' := gb176) (o := .cells #[.int .i64 0, .int .i64 0, .slice none 0 0, .slice none 0 0] 26 (0, 0)) (by exact zK BK176.out) NB176_179.out (by simp)); have n1_ := Aside0.mk (Kd.R_lower ho0 (below_size (by exact zB2 HB.out (IsS105.ge HI179.out) GE176.out))); have n2_ := Aside0.mk (Kd.R_lower ho1 (below_size (by exact zB2 HB.out (IsS105.ge HI179.out) GE176.out))); have n3_ := Aside0.mk (hb); have n4_ := Aside0.mk (hi); clear BK176; clear HB; clear HI179; have BK176 := n0_; have HO184 := n1_; have HO187 := n2_; have HB := n3_; have HI179 := n4_; clear n0_ n1_ n2_ n3_ n4_; (try clear hb); (try clear hb2); (try clear hk); (try clear hi); (try clear ho0); (try clear ho1)) | ((with_reducible refine gate_dst (N := 4) rfl ?_); refine box_event ?hg (N := 4) ?hd (cs := #[.int .i64 0, .int .i64 0, .slice none 0 0, .slice none 0 0]) (t := 26) ?hr ?_; (case hd => rfl); (case hg => rfl); (case hr => first | (go_simp; done) | (go_simp; rfl)); intro gb189 hg w12 hbox hb; have n0_ := Aside0.mk (Kd.R_below (by exact zR HO184.out) hb); have n1_ := Aside0.mk (Kd.R_below (by exact zR HO187.out) hb); have n2_ := Aside0.mk (blk_below (g := gb176) (o := .cells #[.int .i64 0, .int .i64 0, .slice none 0 0, .slice none 0 0] 26 (0, 0)) (by exact zK BK176.out) hb); have n3_ := Aside0.mk (IsS105.below (by repeat (first | (with_reducible first | exact HI179.out | apply IsS105.alloc | apply IsS105.drewN | apply IsS105.drew | apply IsS105.set_1 | refine IsS105.far ?_ NB179_176.out _) | exact HI179.out)) hb); have n4_ := Aside0.mk (below_step (by exact zB2 HB.out (IsS105.ge HI179.out) GE176.out) hb); have n5_ := Aside0.mk (hbox); have n6_ := Aside0.mk ((by rw [hg]; exact (below_size (by exact zB2 HB.out (IsS105.ge HI179.out) GE176.out)) : w.heap.size ≤ gb189)); have n7_ := Aside0.mk ((by rw [hg]; exact (below_size (by exact zB2 HB.out (IsS105.ge HI179.out) GE176.out)) : w.heap.size ≤ gb189)); have n8_ := Aside0.mk ((by rw [hg]; exact Nat.ne_of_lt (blk_lt (g := gb176) (o := .cells #[.int .i64 0, .int .i64 0, .slice none 0 0, .slice none 0 0] 26 (0, 0)) (by exact zK BK176.out)) : gb176 ≠ gb189)); have n9_ := Aside0.mk ((by rw [hg]; exact Nat.ne_of_gt (blk_lt (g := gb176) (o := .cells #[.int .i64 0, .int .i64 0, .slice none 0 0, .slice none 0 0] 26 (0, 0)) (by exact zK BK176.out)) : gb189 ≠ gb176)); have n10_ := Aside0.mk ((by rw [hg]; exact Nat.ne_of_lt (IsS105.lt (show IsS105 w _ g179 t177 t188 from by repeat (first | (with_reducible first | exact HI179.out | apply IsS105.alloc | apply IsS105.drewN | apply IsS105.drew | apply IsS105.set_1 | refine IsS105.far ?_ NB179_176.out _) | exact HI179.out))) : g179 ≠ gb189)); have n11_ := Aside0.mk ((by rw [hg]; exact Nat.ne_of_gt (IsS105.lt (show IsS105 w _ g179 t177 t188 from by repeat (first | (with_reducible first | exact HI179.out | apply IsS105.alloc | apply IsS105.drewN | apply IsS105.drew | apply IsS105.set_1 | refine IsS105.far ?_ NB179_176.out _) | exact HI179.out))) : gb189 ≠ g179)); clear HO184; clear HO187; clear BK176; clear HI179; clear HB; have HO184 := n0_; have HO187 := n1_; have BK176 := n2_; have HI179 := n3_; have HB := n4_; have BK189 := n5_; have GW189 := n6_; have GE189 := n7_; have NB176_189 := n8_; have NB189_176 := n9_; have NB179_189 := n10_; have NB189_179 := n11_; clear n0_ n1_ n2_ n3_ n4_ n5_ n6_ n7_ n8_ n9_ n10_ n11_; clear hb hbox hg; have hnb13 := NB189_176.out; have hnc13 := NB176_189.out; have hnb14 := NB189_179.out; have hnc14 := NB179_189.out; obtain ⟨hcz15_0, hcz15_1, hcz15_2, hcz15_3, hfz15_0, hfz15_1, hfz15_2, hfz15_3⟩ := zc4f BK189.out; obtain ⟨Ao16, co16, eo16⟩ := Kd.R_slice HO184.out; subst eo16; obtain ⟨Ao17, co17, eo17⟩ := Kd.R_slice HO187.out; subst eo17) | ((with_reducible refine gate_callee (f := 46) rfl ?_); refine goesL_ (some 10) rfl rfl Try.func46 (by kernel_rfl) rfl #[.pointer (some ⟨g179, 0, none⟩), .int .i64 3] rfl (by (try simp only [zm1, zm2, zm3]); first | done | rfl | (simp only [List.length_drop, List.length_take]; rfl)) ?_; (with_reducible refine (spec_l6Rd_pick.calls k g179 t177 t188 3 t190 t191 w _ ?side1 ?side2 A4.out).mono ?_); (case side1 => repeat (first | (with_reducible first | exact HI179.out | apply IsS105.alloc | apply IsS105.drewN | apply IsS105.drew | apply IsS105.set_1 | refine IsS105.far ?_ NB179_176.out _ | refine IsS105.far ?_ NB179_189.out _) | exact HI179.out)); (case side2 => exact zB3 HB.out (IsS105.ge HI179.out) GE176.out GE189.out); rintro e w18 ⟨rfl, hi, hb, hk⟩; refine ⟨_, rfl, ?_⟩; have n0_ := Aside0.mk (KeepBut.blk hk (g' := gb176) (o := .cells #[.int .i64 0, .int .i64 0, .slice none 0 0, .slice none 0 0] 26 (0, 0)) (by (with_reducible repeat (first | refine blk_drewN ?_ _ | refine blk_drew ?_ | refine blk_alloc ?_ _)); refine blk_far ?_ NB176_189.out _; (with_reducible repeat (first | refine blk_drewN ?_ _ | refine blk_drew ?_ | refine blk_alloc ?_ _)); refine blk_far ?_ NB176_189.out _; (with_reducible repeat (first | refine blk_drewN ?_ _ | refine blk_drew ?_ | refine blk_alloc ?_ _)); refine blk_far ?_ NB176_189.out _; (with_reducible repeat (first | refine blk_drewN ?_ _ | refine blk_drew ?_ | refine blk_alloc ?_ _)); refine blk_far ?_ NB176_189.out _; exact zK BK176.out) NB176_179.out (by simp)); have n1_ := Aside0.mk (Kd.R_mono (Kd.R_keep (IsS105.apart (show IsS105 w _ g179 t177 t188 from by repeat (first | (with_reducible first | exact HI179.out | apply IsS105.alloc | apply IsS105.drewN | apply IsS105.drew | apply IsS105.set_1 | refine IsS105.far ?_ NB179_176.out _ | refine IsS105.far ?_ NB179_189.out _) | exact HI179.out)) (by exact zR (Kd.R_mono (Kd.R_far (p := ⟨gb189, 3, none⟩) (Kd.R_far (p := ⟨gb189, 2, none⟩) (Kd.R_far (p := ⟨gb189, 1, none⟩) (Kd.R_far (p := ⟨gb189, 0, none⟩) (Kd.R_types HO184.out BK189.out (by decide)) (fun _ hk => hk.2) (.int .i64 t180)) (fun _ hk => hk.2) (.int .i64 t181)) (fun _ hk => hk.2) (.slice Ao16 t182.length co16)) (fun _ hk => hk.2) (.slice Ao17 t185.length co17)) (fun _ h_ => h_.1))) (by decide)) hk (fun _ h => h.2)) (fun _ h => h.1)); have n2_ := Aside0.mk (Kd.R_mono (Kd.R_keep (IsS105.apart (show IsS105 w _ g179 t177 t188 from by repeat (first | (with_reducible first | exact HI179.out | apply IsS105.alloc | apply IsS105.drewN | apply IsS105.drew | apply IsS105.set_1 | refine IsS105.far ?_ NB179_176.out _ | refine IsS105.far ?_ NB179_189.out _) | exact HI179.out)) (by exact zR (Kd.R_mono (Kd.R_far (p := ⟨gb189, 3, none⟩) (Kd.R_far (p := ⟨gb189, 2, none⟩) (Kd.R_far (p := ⟨gb189, 1, none⟩) (Kd.R_far (p := ⟨gb189, 0, none⟩) (Kd.R_types HO187.out BK189.out (by decide)) (fun _ hk => hk.2) (.int .i64 t180)) (fun _ hk => hk.2) (.int .i64 t181)) (fun _ hk => hk.2) (.slice Ao16 t182.length co16)) (fun _ hk => hk.2) (.slice Ao17 t185.length co17)) (fun _ h_ => h_.1))) (by decide)) hk (fun _ h => h.2)) (fun _ h => h.1)); have n3_ := Aside0.mk (KeepBut.blk hk (g' := gb189) (o := .cells #[.int .i64 t180, .int .i64 t181, .slice Ao16 t182.length co16, .slice Ao17 t185.length co17] 26 (0, 0)) (by (with_reducible repeat (first | refine blk_drewN ?_ _ | refine blk_drew ?_ | refine blk_alloc ?_ _)); refine blk_put (cs := #[.int .i64 t180, .int .i64 t181, .slice Ao16 t182.length co16, .slice none 0 0]) ?_ 3 _ rfl; (with_reducible repeat (first | refine blk_drewN ?_ _ | refine blk_drew ?_ | refine blk_alloc ?_ _)); refine blk_put (cs := #[.int .i64 t180, .int .i64 t181, .slice none 0 0, .slice none 0 0]) ?_ 2 _ rfl; (with_reducible repeat (first | refine blk_drewN ?_ _ | refine blk_drew ?_ | refine blk_alloc ?_ _)); refine blk_put (cs := #[.int .i64 t180, .int .i64 0, .slice none 0 0, .slice none 0 0]) ?_ 1 _ rfl; (with_reducible repeat (first | refine blk_drewN ?_ _ | refine blk_drew ?_ | refine blk_alloc ?_ _)); refine blk_put (cs := #[.int .i64 0, .int .i64 0, .slice none 0 0, .slice none 0 0]) ?_ 0 _ rfl; exact zK BK189.out) NB189_179.out (by simp)); have n4_ := Aside0.mk (hb); have n5_ := Aside0.mk (hi); clear BK176; clear HO184; clear HO187; clear BK189; clear HB; clear HI179; have BK176 := n0_; have HO184 := n1_; have HO187 := n2_; have BK189 := n3_; have HB := n4_; have HI179 := n5_; clear n0_ n1_ n2_ n3_ n4_ n5_; (try clear hb); (try clear hb2); (try clear hk); (try clear hi)))
   have n0_ := Aside0.mk (Kd.R_drew HO184.out)
   have n1_ := Aside0.mk (Kd.R_drew HO187.out)
   have n2_ := Aside0.mk (blk_drew BK176.out)
   have n3_ := Aside0.mk (blk_drew BK189.out)
   have n4_ := Aside0.mk (IsS105.drew HI179.out)
   have n5_ := Aside0.mk (below_drew1 HB.out)
   clear HO184
   clear HO187
   clear BK176
   clear BK189
   clear HI179
   clear HB
   have HO184 := n0_
   have HO187 := n1_
   have BK176 := n2_
   have BK189 := n3_
   have HI179 := n4_
   have HB := n5_
   clear n0_ n1_ n2_ n3_ n4_ n5_
   refine start_ (n := 11) (S := fun w' => w'.cell? ⟨gb189, 0, none⟩ = some (.int .i64 t180) ∧ w'.cell? ⟨gb189, 1, none⟩ = some (.int .i64 t181) ∧ w'.cell? ⟨gb189, 2, none⟩ = some (.slice Ao16 t182.length co16) ∧ w'.cell? ⟨gb189, 3, none⟩ = some (.slice Ao17 t185.length co17)) (ds := [10]) #[false, false, false, false, false, false, false, false, false, false, false] (by kernel_rfl) rfl rfl ⟨(blk_cell BK189.out 0).trans rfl, (blk_cell BK189.out 1).trans rfl, (blk_cell BK189.out 2).trans rfl, (blk_cell BK189.out 3).trans rfl⟩ (fun hHeld => ?_); refine with_tabW spec_DrawPkgOk.tab4 spec_DrawPkgOk.bits4 (fun HT_ HW_ => ?_)
   generalize w18.drew = w19 at HO184 HO187 BK176 BK189 HI179 HB hHeld ⊢
   refine pure_ (i := 0) (N := some 12) (v := ?_) (a' := ?_) #[true, false, false, false, false, false, false, false, false, false, false] rfl rfl (any_of HT_.out (by kernel_rfl)) (fun _ _ _ h => h) (Or.inl ⟨by rfl, ?_⟩) ?_ ?_
   rotate_left
   ·intro w'
    go_simp
    with_reducible rfl
   rotate_left
   ·simp only [zp0, zp1, zp2, zp3, zp4, i64_w, i32_w]
    rfl
   refine pure_ (i := 2) (N := some 14) (v := ?_) (a' := ?_) #[true, false, true, false, false, false, false, false, false, false, false] rfl rfl (any_of HT_.out (by kernel_rfl)) (fun _ _ _ h => h) (Or.inl ⟨by rfl, ?_⟩) ?_ ?_
   rotate_left
   ·intro w'
    go_simp
    with_reducible rfl
   rotate_left
   ·simp only [zp0, zp1, zp2, zp3, zp4, i64_w, i32_w]
    rfl
   refine pure_ (i := 4) (N := some 16) (v := ?_) (a' := ?_) #[true, false, true, false, true, false, false, false, false, false, false] rfl rfl (any_of HT_.out (by kernel_rfl)) (fun _ _ _ h => h) (Or.inl ⟨by rfl, ?_⟩) ?_ ?_
   rotate_left
   ·intro w'
    go_simp
    with_reducible rfl
   rotate_left
   ·simp only [zp0, zp1, zp2, zp3, zp4, i64_w, i32_w]
    rfl
   refine take_ (i := 1) (N := some 13) (v := ?_) (a' := ?_) #[true, true, true, false, true, false, false, false, false, false, false] rfl rfl (take_ofW HT_.out HW_.out (by kernel_rfl)) (fun _ _ _ h => h) (Or.inl ⟨by rfl, ?_⟩) hHeld ?_ ?_
   rotate_left
   ·rintro w' ⟨s0, s1, s2, s3⟩
    go_simp
    with_reducible rfl
   rotate_left
   ·simp only [zp0, zp1, zp2, zp3, zp4, i64_w, i32_w]
    rfl
   refine one_ (i := 3) (N := some 15) #[true, true, true, true, true, false, false, false, false, false, false] rfl rfl (one_of HT_.out (by kernel_rfl)) (by decide) (fun K hK => ?_)
   refine goes_ Try.func46 (by kernel_rfl) rfl #[.pointer (some ⟨g179, 0, none⟩), .int .i64 7] (by rfl) rfl rfl (by (try simp only [zm1, zm2, zm3]); first | done | rfl | (simp only [List.length_drop, List.length_take]; rfl)) ?_
   with_reducible refine (spec_l6Rd_pick.calls k g179 t177 t191 7 t192 t193 w _ ?side1 ?side2 A6.out).mono ?_
   (case side1 => repeat (first | (with_reducible first | exact HI179.out | apply IsS105.alloc | apply IsS105.drewN | apply IsS105.drew | apply IsS105.set_1 | refine IsS105.far ?_ NB179_176.out _ | refine IsS105.far ?_ NB179_189.out _) | exact HI179.out))
   (case side2 => exact zB3 HB.out (IsS105.ge HI179.out) GE176.out GE189.out)
   rintro e w20 ⟨rfl, hi, hb, hk⟩
   refine ⟨_, rfl, ?_⟩
   have n0_ := Aside0.mk (KeepBut.blk hk (g' := gb176) (o := .cells #[.int .i64 0, .int .i64 0, .slice none 0 0, .slice none 0 0] 26 (0, 0)) (by exact zK BK176.out) NB176_179.out (by simp))
   have n1_ := Aside0.mk (Kd.R_mono (Kd.R_keep (IsS105.apart (show IsS105 w _ g179 t177 t191 from by repeat (first | (with_reducible first | exact HI179.out | apply IsS105.alloc | apply IsS105.drewN | apply IsS105.drew | apply IsS105.set_1 | refine IsS105.far ?_ NB179_176.out _ | refine IsS105.far ?_ NB179_189.out _) | exact HI179.out)) (by exact zR HO184.out) (by decide)) hk (fun _ h => h.2)) (fun _ h => h.1))
   have n2_ := Aside0.mk (Kd.R_mono (Kd.R_keep (IsS105.apart (show IsS105 w _ g179 t177 t191 from by repeat (first | (with_reducible first | exact HI179.out | apply IsS105.alloc | apply IsS105.drewN | apply IsS105.drew | apply IsS105.set_1 | refine IsS105.far ?_ NB179_176.out _ | refine IsS105.far ?_ NB179_189.out _) | exact HI179.out)) (by exact zR HO187.out) (by decide)) hk (fun _ h => h.2)) (fun _ h => h.1))
   have n3_ := Aside0.mk (KeepBut.blk hk (g' := gb189) (o := .cells #[.int .i64 t180, .int .i64 t181, .slice Ao16 t182.length co16, .slice Ao17 t185.length co17] 26 (0, 0)) (by exact zK BK189.out) NB189_179.out (by simp))
   have n4_ := Aside0.mk (hb)
   have n5_ := Aside0.mk (hi)
   clear BK176
   clear HO184
   clear HO187
   clear BK189
   clear HB
   clear HI179
   have BK176 := n0_
   have HO184 := n1_
   have HO187 := n2_
   have BK189 := n3_
   have HB := n4_
   have HI179 := n5_
   clear n0_ n1_ n2_ n3_ n4_ n5_
   (try clear hb)
   (try clear hb2)
   (try clear hk)
   (try clear hi)
   refine hK.out _ _ ⟨(blk_cell BK189.out 0).trans rfl, (blk_cell BK189.out 1).trans rfl, (blk_cell BK189.out 2).trans rfl, (blk_cell BK189.out 3).trans rfl⟩ (fun hHeld => ?_)
   clear hK K
   refine norm_ (a' := ?_) ?_ ?_
   rotate_left
   ·show Act.put _ (some 15) _ = _
    simp only [zp0, zp1, zp2, zp3, zp4, i64_w, i32_w]
    rfl
   refine one_ (i := 5) (N := some 17) #[true, true, true, true, true, true, false, false, false, false, false] rfl rfl (one_of HT_.out (by kernel_rfl)) (by decide) (fun K hK => ?_)
   refine goes_ Try.func46 (by kernel_rfl) rfl #[.pointer (some ⟨g179, 0, none⟩), .int .i64 12] (by rfl) rfl rfl (by (try simp only [zm1, zm2, zm3]); first | done | rfl | (simp only [List.length_drop, List.length_take]; rfl)) ?_
   with_reducible refine (spec_l6Rd_pick.calls k g179 t177 t193 12 t194 t195 w _ ?side1 ?side2 A7.out).mono ?_
   (case side1 => repeat (first | (with_reducible first | exact HI179.out | apply IsS105.alloc | apply IsS105.drewN | apply IsS105.drew | apply IsS105.set_1 | refine IsS105.far ?_ NB179_176.out _ | refine IsS105.far ?_ NB179_189.out _) | exact HI179.out))
   (case side2 => exact zB3 HB.out (IsS105.ge HI179.out) GE176.out GE189.out)
   rintro e w21 ⟨rfl, hi, hb, hk⟩
   refine ⟨_, rfl, ?_⟩
   have n0_ := Aside0.mk (KeepBut.blk hk (g' := gb176) (o := .cells #[.int .i64 0, .int .i64 0, .slice none 0 0, .slice none 0 0] 26 (0, 0)) (by exact zK BK176.out) NB176_179.out (by simp))
   have n1_ := Aside0.mk (Kd.R_mono (Kd.R_keep (IsS105.apart (show IsS105 w _ g179 t177 t193 from by repeat (first | (with_reducible first | exact HI179.out | apply IsS105.alloc | apply IsS105.drewN | apply IsS105.drew | apply IsS105.set_1 | refine IsS105.far ?_ NB179_176.out _ | refine IsS105.far ?_ NB179_189.out _) | exact HI179.out)) (by exact zR HO184.out) (by decide)) hk (fun _ h => h.2)) (fun _ h => h.1))
   have n2_ := Aside0.mk (Kd.R_mono (Kd.R_keep (IsS105.apart (show IsS105 w _ g179 t177 t193 from by repeat (first | (with_reducible first | exact HI179.out | apply IsS105.alloc | apply IsS105.drewN | apply IsS105.drew | apply IsS105.set_1 | refine IsS105.far ?_ NB179_176.out _ | refine IsS105.far ?_ NB179_189.out _) | exact HI179.out)) (by exact zR HO187.out) (by decide)) hk (fun _ h => h.2)) (fun _ h => h.1))
   have n3_ := Aside0.mk (KeepBut.blk hk (g' := gb189) (o := .cells #[.int .i64 t180, .int .i64 t181, .slice Ao16 t182.length co16, .slice Ao17 t185.length co17] 26 (0, 0)) (by exact zK BK189.out) NB189_179.out (by simp))
   have n4_ := Aside0.mk (hb)
   have n5_ := Aside0.mk (hi)
   clear BK176
   clear HO184
   clear HO187
   clear BK189
   clear HB
   clear HI179
   have BK176 := n0_
   have HO184 := n1_
   have HO187 := n2_
   have BK189 := n3_
   have HB := n4_
   have HI179 := n5_
   clear n0_ n1_ n2_ n3_ n4_ n5_
   (try clear hb)
   (try clear hb2)
   (try clear hk)
   (try clear hi)
   refine hK.out _ _ ⟨(blk_cell BK189.out 0).trans rfl, (blk_cell BK189.out 1).trans rfl, (blk_cell BK189.out 2).trans rfl, (blk_cell BK189.out 3).trans rfl⟩ (fun hHeld => ?_)
   clear hK K
   refine norm_ (a' := ?_) ?_ ?_
   rotate_left
   ·show Act.put _ (some 17) _ = _
    simp only [zp0, zp1, zp2, zp3, zp4, i64_w, i32_w]
    rfl
   refine pure_ (i := 6) (N := some 18) (v := ?_) (a' := ?_) #[true, true, true, true, true, true, true, false, false, false, false] rfl rfl (any_of HT_.out (by kernel_rfl)) (fun _ _ _ h => h) (Or.inl ⟨by rfl, ?_⟩) ?_ ?_
   rotate_left
   ·intro w'
    go_simp
    with_reducible rfl
   rotate_left
   ·simp only [zp0, zp1, zp2, zp3, zp4, i64_w, i32_w]
    rfl
   refine one_ (i := 7) (N := some 19) #[true, true, true, true, true, true, true, true, false, false, false] rfl rfl (one_of HT_.out (by kernel_rfl)) (by decide) (fun K hK => ?_)
   refine value_ (w1 := ?_) (v := ?_) (by rfl) rfl ?_ ?_
   rotate_left 2
   ·go_simp
    constructor
    ·rfl
    ·rfl
   refine hK.out _ _ ⟨(blk_cell (blk_alloc BK189.out _) 0).trans rfl, (blk_cell (blk_alloc BK189.out _) 1).trans rfl, (blk_cell (blk_alloc BK189.out _) 2).trans rfl, (blk_cell (blk_alloc BK189.out _) 3).trans rfl⟩ (fun hHeld => ?_)
   clear hK K
   refine norm_ (a' := ?_) ?_ ?_
   rotate_left
   ·show Act.put _ (some 19) _ = _
    simp only [zp0, zp1, zp2, zp3, zp4, i64_w, i32_w]
    rfl
   refine one_ (i := 8) (N := some 20) #[true, true, true, true, true, true, true, true, true, false, false] rfl rfl (one_of HT_.out (by kernel_rfl)) (by decide) (fun K hK => ?_)
   refine Kd.R_append_step k82 (w0 := w) w.heap.size (by rfl) (.tmp 13) (.tmp 19) 23 82 (.agg #[(.int .i64 0), (.int .i64 0)]) 16 rfl Try.underlying23 info82 rfl (by decide) (by omega) (.slice Ao16 t182.length co16) t182 (⟨t192, t194⟩ : S82) [.int .i64 t192, .int .i64 t194] (fun _ => True) (fun _ => False) rfl rfl ?aP (fun _ hk => hk.elim) ?aF ?aO ?aB ?aS ?aL ?_
   (case aP => exact k82_mkM _ _ _ (⟨t192, t194⟩ : S82))
   (case aB => exact (by exact zB3 HB.out (IsS105.ge HI179.out) GE176.out GE189.out))
   (case aF => exact (fun _ _ => trivial))
   (case aO => exact (by exact zR HO184.out))
   (case aS => exact (below_size (by exact zB3 HB.out (IsS105.ge HI179.out) GE176.out GE189.out)))
   (case aL => have := LMc8.out; omega)
   intro v197 w22 ho hb hg hat
   rw [← Ny196.out] at ho
   have n0_ := Aside0.mk (blk_grown (g := gb176) (o := .cells #[.int .i64 0, .int .i64 0, .slice none 0 0, .slice none 0 0] 26 (0, 0)) (by exact zK BK176.out) hg (Kd.R_ne HO184.out BK176.out (by decide)))
   have n1_ := Aside0.mk (IsS105.grown (by repeat (first | (with_reducible first | exact HI179.out | apply IsS105.alloc | apply IsS105.drewN | apply IsS105.drew | apply IsS105.set_1 | refine IsS105.far ?_ NB179_176.out _ | refine IsS105.far ?_ NB179_189.out _) | exact HI179.out)) hg (IsS105.own_ne HI179.out HO184.out (by decide)))
   have n2_ := Aside0.mk (Kd.R_over' (by exact zR HO187.out) (Kd.R_typed (by exact zR HO184.out)) (by decide) hg)
   have n3_ := Aside0.mk (blk_grown (g := gb189) (o := .cells #[.int .i64 t180, .int .i64 t181, .slice Ao16 t182.length co16, .slice Ao17 t185.length co17] 26 (0, 0)) (by exact zK BK189.out) hg (Kd.R_ne HO184.out BK189.out (by decide)))
   have n4_ := Aside0.mk (hb)
   have n5_ := Aside0.mk (ho)
   clear BK176
   clear HI179
   clear HO187
   clear BK189
   clear HB
   clear HO184
   have BK176 := n0_
   have HI179 := n1_
   have HO187 := n2_
   have BK189 := n3_
   have HB := n4_
   have HO198 := n5_
   clear n0_ n1_ n2_ n3_ n4_ n5_
   clear ho hb hg hat
   obtain ⟨Ao23, co23, eo23⟩ := Kd.R_slice HO198.out
   (first | subst eo23 | (injection eo23 with f1_ f2_ f3_; have f4_ := f1_.symm; have f5_ := f3_.symm; clear f1_ f2_ f3_; subst f4_; subst f5_))
   refine hK.out _ _ ⟨(blk_cell BK189.out 0).trans rfl, (blk_cell BK189.out 1).trans rfl, (blk_cell BK189.out 2).trans rfl, (blk_cell BK189.out 3).trans rfl⟩ (fun hHeld => ?_)
   clear hK K
   refine norm_ (a' := ?_) ?_ ?_
   rotate_left
   ·show Act.put _ (some 20) _ = _
    simp only [zp0, zp1, zp2, zp3, zp4, i64_w, i32_w]
    rfl
   refine pure_ (i := 9) (N := some 21) (v := ?_) (a' := ?_) #[true, true, true, true, true, true, true, true, true, true, false] rfl rfl (any_of HT_.out (by kernel_rfl)) (fun _ _ _ h => h) (Or.inl ⟨by rfl, ?_⟩) ?_ ?_
   rotate_left
   ·intro w'
    go_simp
    with_reducible rfl
   rotate_left
   ·simp only [zp0, zp1, zp2, zp3, zp4, i64_w, i32_w]
    rfl
   refine last_ (i := 10) (N := none) #[true, true, true, true, true, true, true, true, true, true, true] rfl rfl (one_of HT_.out (by kernel_rfl)) (by decide) (fun K hK => ?_)
   have hs24 : w22.cell? ⟨gb189, 2, none⟩ = some (.slice Ao16 t182.length co16) := (blk_cell BK189.out 2).trans rfl
   have hfs24 := blk_frozen BK189.out 2
   have hns24_0 := NB176_189.out
   have hms24_0 := NB189_176.out
   refine skip_ (w1 := ?_) (by rfl) rfl ?_ ?_
   rotate_left
   ·go_simp
    rfl
   refine hK.out _ _ ?_
   clear hK K
   refine done_ (done_of HT_.out (by kernel_rfl)) ?_
   obtain ⟨hcz25_0, hcz25_1, hcz25_2, hcz25_3, hfz25_0, hfz25_1, hfz25_2, hfz25_3⟩ := zc4f BK189.out
   have hnb26 := NB176_179.out
   have hnc26 := NB179_176.out
   obtain ⟨hcz27_0, hcz27_1, hcz27_2, hcz27_3, hfz27_0, hfz27_1, hfz27_2, hfz27_3⟩ := zc4f BK176.out
   try go_wp2
   refine bodyPost_ret (results_cell_row rfl _ _ gb176 26 #[.int .i64 t180, .int .i64 t181, .slice Ao23 y196.length co23, .slice Ao17 t185.length co17] (0, 0) _ rfl (by (with_reducible repeat (first | refine blk_drewN ?_ _ | refine blk_drew ?_ | refine blk_alloc ?_ _)); refine blk_put (cs := #[.int .i64 t180, .int .i64 t181, .slice Ao23 y196.length co23, .slice none 0 0]) ?_ 3 _ rfl; (with_reducible repeat (first | refine blk_drewN ?_ _ | refine blk_drew ?_ | refine blk_alloc ?_ _)); refine blk_put (cs := #[.int .i64 t180, .int .i64 t181, .slice none 0 0, .slice none 0 0]) ?_ 2 _ rfl; (with_reducible repeat (first | refine blk_drewN ?_ _ | refine blk_drew ?_ | refine blk_alloc ?_ _)); refine blk_put (cs := #[.int .i64 t180, .int .i64 0, .slice none 0 0, .slice none 0 0]) ?_ 1 _ rfl; (with_reducible repeat (first | refine blk_drewN ?_ _ | refine blk_drew ?_ | refine blk_alloc ?_ _)); refine blk_put (cs := #[.int .i64 0, .int .i64 0, .slice none 0 0, .slice none 0 0]) ?_ 0 _ rfl; (with_reducible repeat (first | refine blk_drewN ?_ _ | refine blk_drew ?_ | refine blk_alloc ?_ _)); refine blk_far ?_ NB176_189.out _; exact zK BK176.out) Try.underlying26 rfl (by kernel_rfl)) rfl ?_
   exact ⟨_, _, by first | rfl | (simp [errW_none, errW_some] <;> rfl) | (simp [*, errW_none, errW_some] <;> rfl), by exact zR (Kd.R_mono (Kd.R_far (p := ⟨gb176, 3, none⟩) (Kd.R_far (p := ⟨gb176, 2, none⟩) (Kd.R_far (p := ⟨gb176, 1, none⟩) (Kd.R_far (p := ⟨gb176, 0, none⟩) (Kd.R_far (p := ⟨gb189, 2, none⟩) (Kd.R_types (Kd.R_types HO198.out BK189.out (by decide)) BK176.out (by decide)) (fun _ hk => hk.1.2) (.slice Ao23 y196.length co23)) (fun _ hk => hk.2) (.int .i64 t180)) (fun _ hk => hk.2) (.int .i64 t181)) (fun _ hk => hk.2) (.slice Ao23 y196.length co23)) (fun _ hk => hk.2) (.slice Ao17 t185.length co17)) (fun _ hk => trivial)), by exact zR (Kd.R_mono (Kd.R_far (p := ⟨gb176, 3, none⟩) (Kd.R_far (p := ⟨gb176, 2, none⟩) (Kd.R_far (p := ⟨gb176, 1, none⟩) (Kd.R_far (p := ⟨gb176, 0, none⟩) (Kd.R_far (p := ⟨gb189, 2, none⟩) (Kd.R_types (Kd.R_types HO187.out BK189.out (by decide)) BK176.out (by decide)) (fun _ hk => hk.1.2) (.slice Ao23 y196.length co23)) (fun _ hk => hk.2) (.int .i64 t180)) (fun _ hk => hk.2) (.int .i64 t181)) (fun _ hk => hk.2) (.slice Ao23 y196.length co23)) (fun _ hk => hk.2) (.slice Ao17 t185.length co17)) (fun _ hk => trivial)), by exact zB3 HB.out (IsS105.ge HI179.out) GE176.out GE189.out⟩
  ·rw [if_neg c8] at H
   exact absurd H (by simp)
 ·rw [if_neg c5] at H
  have c5b0 : (t190 == 0) = false := beq_eq_false_iff_ne.mpr c5
  have c5b1 : (t190 != 0) = true := bne_iff_ne.mpr c5
  simp only [Option.some.injEq, Prod.mk.injEq] at H
  obtain ⟨rfl, rfl, rfl, rfl⟩ := H
  go_enter Try.func15, Try.ntmps15
  go_wp2_with (first | ((with_reducible refine gate_dst (N := 2) rfl ?_); refine box_event ?hg (N := 2) ?hd (cs := #[.int .i64 0, .int .i64 0, .slice none 0 0, .slice none 0 0]) (t := 26) ?hr ?_; (case hd => rfl); (case hg => rfl); (case hr => first | (go_simp; done) | (go_simp; rfl)); intro gb176 hg w28 hbox hb; have n0_ := Aside0.mk (below_step (by exact zB HB.out) hb); have n1_ := Aside0.mk (hbox); have n2_ := Aside0.mk ((by rw [hg]; exact (below_size (by exact zB HB.out)) : w.heap.size ≤ gb176)); have n3_ := Aside0.mk ((by rw [hg]; exact (below_size (by exact zB HB.out)) : w.heap.size ≤ gb176)); clear HB; have HB := n0_; have BK176 := n1_; have GW176 := n2_; have GE176 := n3_; clear n0_ n1_ n2_ n3_; clear hb hbox hg) | ((with_reducible refine gate_callee (f := 44) rfl ?_); refine goesL_ (some 6) rfl rfl Try.func44 (by kernel_rfl) rfl #[.slice A0 l0.length c0] rfl (by (try simp only [zm1, zm2, zm3]); first | done | rfl | (simp only [List.length_drop, List.length_take]; rfl)) ?_; (with_reducible refine (spec_l6Open.calls _ _ l0 t177 t178 w _ ?side1 ?side2 ?side3 A2.out).mono ?_); (case side1 => exact zB1 HB.out GE176.out); (case side2 => exact HR0.out); (case side3 => exact HC0.out); rintro e w29 ⟨g179, rfl, hi, hb, hb2⟩; refine ⟨_, rfl, ?_⟩; have n0_ := Aside0.mk (blk_below (g := gb176) (o := .cells #[.int .i64 0, .int .i64 0, .slice none 0 0, .slice none 0 0] 26 (0, 0)) (by exact zK BK176.out) hb2); have n1_ := Aside0.mk (hb); have n2_ := Aside0.mk (hi); have n3_ := Aside0.mk (IsS105.ne_blk hi (blk_below (g := gb176) (o := .cells #[.int .i64 0, .int .i64 0, .slice none 0 0, .slice none 0 0] 26 (0, 0)) (by exact zK BK176.out) hb2) (by decide)); have n4_ := Aside0.mk (Ne.symm (IsS105.ne_blk hi (blk_below (g := gb176) (o := .cells #[.int .i64 0, .int .i64 0, .slice none 0 0, .slice none 0 0] 26 (0, 0)) (by exact zK BK176.out) hb2) (by decide))); clear BK176; clear HB; have BK176 := n0_; have HB := n1_; have HI179 := n2_; have NB179_176 := n3_; have NB176_179 := n4_; clear n0_ n1_ n2_ n3_ n4_; (try clear hb); (try clear hb2); (try clear hk); (try clear hi)) | ((with_reducible refine gate_callee (f := 45) rfl ?_); refine goesL_ (some 8) rfl rfl Try.func45 (by kernel_rfl) rfl #[.pointer (some ⟨g179, 0, none⟩)] rfl (by (try simp only [zm1, zm2, zm3]); first | done | rfl | (simp only [List.length_drop, List.length_take]; rfl)) ?_; (with_reducible refine (spec_l71Any.calls k g179 t177 t178 t180 t181 t182 t185 t188 w _ ?side1 ?side2 A3.out).mono ?_); (case side1 => repeat (first | (with_reducible first | exact HI179.out | apply IsS105.alloc | apply IsS105.drewN | apply IsS105.drew | apply IsS105.set_1 | refine IsS105.far ?_ NB179_176.out _) | exact HI179.out)); (case side2 => exact zB2 HB.out (IsS105.ge HI179.out) GE176.out); rintro e w30 ⟨v183, v186, rfl, ho0, ho1, hi, hb, hk⟩; refine ⟨_, rfl, ?_⟩; have n0_ := Aside0.mk (KeepBut.blk hk (g' := gb176) (o := .cells #[.int .i64 0, .int .i64 0, .slice none 0 0, .slice none 0 0] 26 (0, 0)) (by exact zK BK176.out) NB176_179.out (by simp)); have n1_ := Aside0.mk (Kd.R_lower ho0 (below_size (by exact zB2 HB.out (IsS105.ge HI179.out) GE176.out))); have n2_ := Aside0.mk (Kd.R_lower ho1 (below_size (by exact zB2 HB.out (IsS105.ge HI179.out) GE176.out))); have n3_ := Aside0.mk (hb); have n4_ := Aside0.mk (hi); clear BK176; clear HB; clear HI179; have BK176 := n0_; have HO184 := n1_; have HO187 := n2_; have HB := n3_; have HI179 := n4_; clear n0_ n1_ n2_ n3_ n4_; (try clear hb); (try clear hb2); (try clear hk); (try clear hi); (try clear ho0); (try clear ho1)) | ((with_reducible refine gate_dst (N := 4) rfl ?_); refine box_event ?hg (N := 4) ?hd (cs := #[.int .i64 0, .int .i64 0, .slice none 0 0, .slice none 0 0]) (t := 26) ?hr ?_; (case hd => rfl); (case hg => rfl); (case hr => first | (go_simp; done) | (go_simp; rfl)); intro gb189 hg w31 hbox hb; have n0_ := Aside0.mk (Kd.R_below (by exact zR HO184.out) hb); have n1_ := Aside0.mk (Kd.R_below (by exact zR HO187.out) hb); have n2_ := Aside0.mk (blk_below (g := gb176) (o := .cells #[.int .i64 0, .int .i64 0, .slice none 0 0, .slice none 0 0] 26 (0, 0)) (by exact zK BK176.out) hb); have n3_ := Aside0.mk (IsS105.below (by repeat (first | (with_reducible first | exact HI179.out | apply IsS105.alloc | apply IsS105.drewN | apply IsS105.drew | apply IsS105.set_1 | refine IsS105.far ?_ NB179_176.out _) | exact HI179.out)) hb); have n4_ := Aside0.mk (below_step (by exact zB2 HB.out (IsS105.ge HI179.out) GE176.out) hb); have n5_ := Aside0.mk (hbox); have n6_ := Aside0.mk ((by rw [hg]; exact (below_size (by exact zB2 HB.out (IsS105.ge HI179.out) GE176.out)) : w.heap.size ≤ gb189)); have n7_ := Aside0.mk ((by rw [hg]; exact (below_size (by exact zB2 HB.out (IsS105.ge HI179.out) GE176.out)) : w.heap.size ≤ gb189)); have n8_ := Aside0.mk ((by rw [hg]; exact Nat.ne_of_lt (blk_lt (g := gb176) (o := .cells #[.int .i64 0, .int .i64 0, .slice none 0 0, .slice none 0 0] 26 (0, 0)) (by exact zK BK176.out)) : gb176 ≠ gb189)); have n9_ := Aside0.mk ((by rw [hg]; exact Nat.ne_of_gt (blk_lt (g := gb176) (o := .cells #[.int .i64 0, .int .i64 0, .slice none 0 0, .slice none 0 0] 26 (0, 0)) (by exact zK BK176.out)) : gb189 ≠ gb176)); have n10_ := Aside0.mk ((by rw [hg]; exact Nat.ne_of_lt (IsS105.lt (show IsS105 w _ g179 t177 t188 from by repeat (first | (with_reducible first | exact HI179.out | apply IsS105.alloc | apply IsS105.drewN | apply IsS105.drew | apply IsS105.set_1 | refine IsS105.far ?_ NB179_176.out _) | exact HI179.out))) : g179 ≠ gb189)); have n11_ := Aside0.mk ((by rw [hg]; exact Nat.ne_of_gt (IsS105.lt (show IsS105 w _ g179 t177 t188 from by repeat (first | (with_reducible first | exact HI179.out | apply IsS105.alloc | apply IsS105.drewN | apply IsS105.drew | apply IsS105.set_1 | refine IsS105.far ?_ NB179_176.out _) | exact HI179.out))) : gb189 ≠ g179)); clear HO184; clear HO187; clear BK176; clear HI179; clear HB; have HO184 := n0_; have HO187 := n1_; have BK176 := n2_; have HI179 := n3_; have HB := n4_; have BK189 := n5_; have GW189 := n6_; have GE189 := n7_; have NB176_189 := n8_; have NB189_176 := n9_; have NB179_189 := n10_; have NB189_179 := n11_; clear n0_ n1_ n2_ n3_ n4_ n5_ n6_ n7_ n8_ n9_ n10_ n11_; clear hb hbox hg; have hnb32 := NB189_176.out; have hnc32 := NB176_189.out; have hnb33 := NB189_179.out; have hnc33 := NB179_189.out; obtain ⟨hcz34_0, hcz34_1, hcz34_2, hcz34_3, hfz34_0, hfz34_1, hfz34_2, hfz34_3⟩ := zc4f BK189.out; obtain ⟨Ao35, co35, eo35⟩ := Kd.R_slice HO184.out; subst eo35; obtain ⟨Ao36, co36, eo36⟩ := Kd.R_slice HO187.out; subst eo36) | ((with_reducible refine gate_callee (f := 46) rfl ?_); refine goesL_ (some 10) rfl rfl Try.func46 (by kernel_rfl) rfl #[.pointer (some ⟨g179, 0, none⟩), .int .i64 3] rfl (by (try simp only [zm1, zm2, zm3]); first | done | rfl | (simp only [List.length_drop, List.length_take]; rfl)) ?_; (with_reducible refine (spec_l6Rd_pick.calls k g179 t177 t188 3 t190 t191 w _ ?side1 ?side2 A4.out).mono ?_); (case side1 => repeat (first | (with_reducible first | exact HI179.out | apply IsS105.alloc | apply IsS105.drewN | apply IsS105.drew | apply IsS105.set_1 | refine IsS105.far ?_ NB179_176.out _ | refine IsS105.far ?_ NB179_189.out _) | exact HI179.out)); (case side2 => exact zB3 HB.out (IsS105.ge HI179.out) GE176.out GE189.out); rintro e w37 ⟨rfl, hi, hb, hk⟩; refine ⟨_, rfl, ?_⟩; have n0_ := Aside0.mk (KeepBut.blk hk (g' := gb176) (o := .cells #[.int .i64 0, .int .i64 0, .slice none 0 0, .slice none 0 0] 26 (0, 0)) (by (with_reducible repeat (first | refine blk_drewN ?_ _ | refine blk_drew ?_ | refine blk_alloc ?_ _)); refine blk_far ?_ NB176_189.out _; (with_reducible repeat (first | refine blk_drewN ?_ _ | refine blk_drew ?_ | refine blk_alloc ?_ _)); refine blk_far ?_ NB176_189.out _; (with_reducible repeat (first | refine blk_drewN ?_ _ | refine blk_drew ?_ | refine blk_alloc ?_ _)); refine blk_far ?_ NB176_189.out _; (with_reducible repeat (first | refine blk_drewN ?_ _ | refine blk_drew ?_ | refine blk_alloc ?_ _)); refine blk_far ?_ NB176_189.out _; exact zK BK176.out) NB176_179.out (by simp)); have n1_ := Aside0.mk (Kd.R_mono (Kd.R_keep (IsS105.apart (show IsS105 w _ g179 t177 t188 from by repeat (first | (with_reducible first | exact HI179.out | apply IsS105.alloc | apply IsS105.drewN | apply IsS105.drew | apply IsS105.set_1 | refine IsS105.far ?_ NB179_176.out _ | refine IsS105.far ?_ NB179_189.out _) | exact HI179.out)) (by exact zR (Kd.R_mono (Kd.R_far (p := ⟨gb189, 3, none⟩) (Kd.R_far (p := ⟨gb189, 2, none⟩) (Kd.R_far (p := ⟨gb189, 1, none⟩) (Kd.R_far (p := ⟨gb189, 0, none⟩) (Kd.R_types HO184.out BK189.out (by decide)) (fun _ hk => hk.2) (.int .i64 t180)) (fun _ hk => hk.2) (.int .i64 t181)) (fun _ hk => hk.2) (.slice Ao35 t182.length co35)) (fun _ hk => hk.2) (.slice Ao36 t185.length co36)) (fun _ h_ => h_.1))) (by decide)) hk (fun _ h => h.2)) (fun _ h => h.1)); have n2_ := Aside0.mk (Kd.R_mono (Kd.R_keep (IsS105.apart (show IsS105 w _ g179 t177 t188 from by repeat (first | (with_reducible first | exact HI179.out | apply IsS105.alloc | apply IsS105.drewN | apply IsS105.drew | apply IsS105.set_1 | refine IsS105.far ?_ NB179_176.out _ | refine IsS105.far ?_ NB179_189.out _) | exact HI179.out)) (by exact zR (Kd.R_mono (Kd.R_far (p := ⟨gb189, 3, none⟩) (Kd.R_far (p := ⟨gb189, 2, none⟩) (Kd.R_far (p := ⟨gb189, 1, none⟩) (Kd.R_far (p := ⟨gb189, 0, none⟩) (Kd.R_types HO187.out BK189.out (by decide)) (fun _ hk => hk.2) (.int .i64 t180)) (fun _ hk => hk.2) (.int .i64 t181)) (fun _ hk => hk.2) (.slice Ao35 t182.length co35)) (fun _ hk => hk.2) (.slice Ao36 t185.length co36)) (fun _ h_ => h_.1))) (by decide)) hk (fun _ h => h.2)) (fun _ h => h.1)); have n3_ := Aside0.mk (KeepBut.blk hk (g' := gb189) (o := .cells #[.int .i64 t180, .int .i64 t181, .slice Ao35 t182.length co35, .slice Ao36 t185.length co36] 26 (0, 0)) (by (with_reducible repeat (first | refine blk_drewN ?_ _ | refine blk_drew ?_ | refine blk_alloc ?_ _)); refine blk_put (cs := #[.int .i64 t180, .int .i64 t181, .slice Ao35 t182.length co35, .slice none 0 0]) ?_ 3 _ rfl; (with_reducible repeat (first | refine blk_drewN ?_ _ | refine blk_drew ?_ | refine blk_alloc ?_ _)); refine blk_put (cs := #[.int .i64 t180, .int .i64 t181, .slice none 0 0, .slice none 0 0]) ?_ 2 _ rfl; (with_reducible repeat (first | refine blk_drewN ?_ _ | refine blk_drew ?_ | refine blk_alloc ?_ _)); refine blk_put (cs := #[.int .i64 t180, .int .i64 0, .slice none 0 0, .slice none 0 0]) ?_ 1 _ rfl; (with_reducible repeat (first | refine blk_drewN ?_ _ | refine blk_drew ?_ | refine blk_alloc ?_ _)); refine blk_put (cs := #[.int .i64 0, .int .i64 0, .slice none 0 0, .slice none 0 0]) ?_ 0 _ rfl; exact zK BK189.out) NB189_179.out (by simp)); have n4_ := Aside0.mk (hb); have n5_ := Aside0.mk (hi); clear BK176; clear HO184; clear HO187; clear BK189; clear HB; clear HI179; have BK176 := n0_; have HO184 := n1_; have HO187 := n2_; have BK189 := n3_; have HB := n4_; have HI179 := n5_; clear n0_ n1_ n2_ n3_ n4_ n5_; (try clear hb); (try clear hb2); (try clear hk); (try clear hi); obtain ⟨hcz38_0, hcz38_1, hcz38_2, hcz38_3, hfz38_0, hfz38_1, hfz38_2, hfz38_3⟩ := zc4f BK189.out; have hnb39 := NB176_179.out; have hnc39 := NB179_176.out; obtain ⟨hcz40_0, hcz40_1, hcz40_2, hcz40_3, hfz40_0, hfz40_1, hfz40_2, hfz40_3⟩ := zc4f BK176.out))
  refine bodyPost_ret (results_cell_row rfl _ _ gb176 26 #[.int .i64 t180, .int .i64 t181, .slice Ao35 t182.length co35, .slice Ao36 t185.length co36] (0, 0) _ rfl (by (with_reducible repeat (first | refine blk_drewN ?_ _ | refine blk_drew ?_ | refine blk_alloc ?_ _)); refine blk_put (cs := #[.int .i64 t180, .int .i64 t181, .slice Ao35 t182.length co35, .slice none 0 0]) ?_ 3 _ rfl; (with_reducible repeat (first | refine blk_drewN ?_ _ | refine blk_drew ?_ | refine blk_alloc ?_ _)); refine blk_put (cs := #[.int .i64 t180, .int .i64 t181, .slice none 0 0, .slice none 0 0]) ?_ 2 _ rfl; (with_reducible repeat (first | refine blk_drewN ?_ _ | refine blk_drew ?_ | refine blk_alloc ?_ _)); refine blk_put (cs := #[.int .i64 t180, .int .i64 0, .slice none 0 0, .slice none 0 0]) ?_ 1 _ rfl; (with_reducible repeat (first | refine blk_drewN ?_ _ | refine blk_drew ?_ | refine blk_alloc ?_ _)); refine blk_put (cs := #[.int .i64 0, .int .i64 0, .slice none 0 0, .slice none 0 0]) ?_ 0 _ rfl; exact zK BK176.out) Try.underlying26 rfl (by kernel_rfl)) rfl ?_
  exact ⟨_, _, by first | rfl | (simp [errW_none, errW_some] <;> rfl) | (simp [*, errW_none, errW_some] <;> rfl), by exact zR (Kd.R_mono (Kd.R_far (p := ⟨gb176, 3, none⟩) (Kd.R_far (p := ⟨gb176, 2, none⟩) (Kd.R_far (p := ⟨gb176, 1, none⟩) (Kd.R_far (p := ⟨gb176, 0, none⟩) (Kd.R_types HO184.out BK176.out (by decide)) (fun _ hk => hk.2) (.int .i64 t180)) (fun _ hk => hk.2) (.int .i64 t181)) (fun _ hk => hk.2) (.slice Ao35 t182.length co35)) (fun _ hk => hk.2) (.slice Ao36 t185.length co36)) (fun _ hk => trivial)), by exact zR (Kd.R_mono (Kd.R_far (p := ⟨gb176, 3, none⟩) (Kd.R_far (p := ⟨gb176, 2, none⟩) (Kd.R_far (p := ⟨gb176, 1, none⟩) (Kd.R_far (p := ⟨gb176, 0, none⟩) (Kd.R_types HO187.out BK176.out (by decide)) (fun _ hk => hk.2) (.int .i64 t180)) (fun _ hk => hk.2) (.int .i64 t181)) (fun _ hk => hk.2) (.slice Ao35 t182.length co35)) (fun _ hk => hk.2) (.slice Ao36 t185.length co36)) (fun _ hk => trivial)), by exact zB3 HB.out (IsS105.ge HI179.out) GE176.out GE189.out⟩

/-! ### impl_in: function 49 -/
def impl_in.f (a0 : Int) (a1 : Int) (a2 : Int) : Option (Bool) := if a0 ≥ a1 then (some (decide (a0 ≤ a2))) else (some false)
set_option maxHeartbeats 8000000 in
set_option maxRecDepth 100000 in
theorem impl_in.calls (a0 : Int) (a1 : Int) (a2 : Int) (r : Bool) (w : World) (h : impl_in.f a0 a1 a2 = some r) :
  Calls Try.prog 49 #[.int .i64 a0, .int .i64 a1, .int .i64 a2] w fun e w' => e = .returned (.bool r) ∧ Drawn0 w w' := by
 have H : (if a0 ≥ a1 then (some (decide (a0 ≤ a2))) else (some false)) = some r := h
 clear h
 by_cases c4 : a0 ≥ a1
 ·rw [if_pos c4] at H
  have c4b0 : decide (a1 ≤ a0) = true := decide_eq_true c4
  clear c4
  obtain rfl := Option.some.inj H
  go_enter Try.func49, Try.ntmps49
  go_wp2
  go_ret
  exact ⟨by first | rfl | (simp; done) | (simp [*]; done), by repeat (first | exact Drawn0.refl _ | apply Drawn0.step)⟩
 ·rw [if_neg c4] at H
  have c4b0 : decide (a1 ≤ a0) = false := decide_eq_false c4
  clear c4
  obtain rfl := Option.some.inj H
  go_enter Try.func49, Try.ntmps49
  go_wp2
  go_ret
  exact ⟨by first | rfl | (simp; done) | (simp [*]; done), by repeat (first | exact Drawn0.refl _ | apply Drawn0.step)⟩

/-! ### impl_isName: function 47 -/
def impl_isName.f (a0 : Int) : Option (Bool) := (impl_in.f a0 1 4).bind fun t199 => (some t199)
set_option maxHeartbeats 8000000 in
set_option maxRecDepth 100000 in
theorem impl_isName.calls (a0 : Int) (r : Bool) (w : World) (h : impl_isName.f a0 = some r) :
  Calls Try.prog 47 #[.int .i64 a0] w fun e w' => e = .returned (.bool r) ∧ Drawn0 w w' := by
 have H : ((impl_in.f a0 1 4).bind fun t199 => (some t199)) = some r := h
 clear h
 replace H := Option.bind_eq_some_iff.mp H
 obtain ⟨t199, A20, H⟩ := H
 replace H : (some t199) = some r := H
 have A2 := Aside0.mk A20
 clear A20
 obtain rfl := Option.some.inj H
 go_enter Try.func47, Try.ntmps47
 go_wp2_with (first | ((with_reducible refine gate_callee (f := 49) rfl ?_); refine goesL_ (some 4) rfl rfl Try.func49 (by kernel_rfl) rfl #[.int .i64 a0, .int .i64 1, .int .i64 4] rfl (by (try simp only [zm1, zm2, zm3]); first | done | rfl | (simp only [List.length_drop, List.length_take]; rfl)) ?_; (with_reducible refine (impl_in.calls a0 1 4 t199 _ A2.out).mono ?_); rintro e w' ⟨rfl, ⟨nd, rfl⟩⟩; refine ⟨_, rfl, ?_⟩))
 go_ret
 exact ⟨by first | rfl | (simp; done) | (simp [*]; done), by repeat (first | exact Drawn0.refl _ | apply Drawn0.step)⟩

/-! ### impl_isVer: function 48 -/
def impl_isVer.f (a0 : Int) : Option (Bool) := (impl_in.f a0 1 5).bind fun t200 => (some t200)
set_option maxHeartbeats 8000000 in
set_option maxRecDepth 100000 in
theorem impl_isVer.calls (a0 : Int) (r : Bool) (w : World) (h : impl_isVer.f a0 = some r) :
  Calls Try.prog 48 #[.int .i64 a0] w fun e w' => e = .returned (.bool r) ∧ Drawn0 w w' := by
 have H : ((impl_in.f a0 1 5).bind fun t200 => (some t200)) = some r := h
 clear h
 replace H := Option.bind_eq_some_iff.mp H
 obtain ⟨t200, A20, H⟩ := H
 replace H : (some t200) = some r := H
 have A2 := Aside0.mk A20
 clear A20
 obtain rfl := Option.some.inj H
 go_enter Try.func48, Try.ntmps48
 go_wp2_with (first | ((with_reducible refine gate_callee (f := 49) rfl ?_); refine goesL_ (some 4) rfl rfl Try.func49 (by kernel_rfl) rfl #[.int .i64 a0, .int .i64 1, .int .i64 5] rfl (by (try simp only [zm1, zm2, zm3]); first | done | rfl | (simp only [List.length_drop, List.length_take]; rfl)) ?_; (with_reducible refine (impl_in.calls a0 1 5 t200 _ A2.out).mono ?_); rintro e w' ⟨rfl, ⟨nd, rfl⟩⟩; refine ⟨_, rfl, ?_⟩))
 go_ret
 exact ⟨by first | rfl | (simp; done) | (simp [*]; done), by repeat (first | exact Drawn0.refl _ | apply Drawn0.step)⟩

end Go.Proofs.Ytkdmgbolbjedfaa.PFnPkgLess
