-- printed for this claim by a program out of the translation, its tactics shortened by another
import Derived.Test.YtlmgnnpmcdeclaaDoorPFnExactIndexTextx1
namespace Go.Proofs.YtlmgnnpmcdeclaaDoor.PFnExactIndexText
open Go.RowKit Go.Proofs.YtlmgnnpmcdeclaaDoorW.PrintWords Go.Proofs.YtlmgnnpmcdeclaaDoorW.PrintLast Go.Proofs.YtlmgnnpmcdeclaaDoorW.PrintMore
attribute [local go_sem] max2_int min2_int max_two min_two max_three min_three max_four min_four   -- for this text's walks alone
set_option linter.unusedVariables false
set_option linter.unusedSimpArgs false

/-! ### laws_FnExactIndexText: function 4 -/
def laws_FnExactIndexText.f (k : Nat) (a0_0 : Int) (a0_1 : Int) (l0_2 : List (S93)) : Option (Bool) := (laws_szIndex.f a0_0 a0_1 l0_2 1048576).bind fun t161 => (if t161 < 0 then (some true) else ((laws_toIndex.f k a0_0 a0_1 l0_2).bind fun bt162 => ((spec_IndexText.f k bt162.1 bt162.2.1 bt162.2.2).bind fun t167 => ((laws_toIndex.f k a0_0 a0_1 l0_2).bind fun bt168 => ((impl_IndexText.f k bt168.1 bt168.2.1 bt168.2.2).bind fun t174 => (if t174.toList = t167.toList then ((laws_toIndex.f k a0_0 a0_1 l0_2).bind fun bt175 => ((laws_eqIndex.f k bt168.1 bt168.2.1 bt168.2.2 bt175.1 bt175.2.1 bt175.2.2).bind fun t180 => (if t180 = true then (some true) else (none)))) else (none)))))))
theorem laws_FnExactIndexText.mono : ∀ a0 a1 a2 k, LeO (laws_FnExactIndexText.f k a0 a1 a2) (laws_FnExactIndexText.f (k + 1) a0 a1 a2) := by
 intro a0 a1 a2 k
 unfold laws_FnExactIndexText.f
 repeat' first
   | (with_reducible exact impl_IndexText.mono _ _ _ _)
   | (with_reducible exact laws_eqIndex.mono _ _ _ _ _ _ _)
   | (with_reducible exact laws_toIndex.mono _ _ _ _)
   | (with_reducible exact spec_IndexText.mono _ _ _ _)
   | (with_reducible exact LeO.refl _)
   | (with_reducible exact LeO.none _)
   | (with_reducible refine LeO.ite ?_ ?_)
   | (with_reducible refine LeO.bind ?_ (fun _ => ?_))
   | exact impl_IndexText.mono _ _ _ _
   | exact laws_eqIndex.mono _ _ _ _ _ _ _
   | exact laws_toIndex.mono _ _ _ _
   | exact spec_IndexText.mono _ _ _ _
   | exact LeO.none _
   | refine LeO.ite ?_ ?_
   | refine LeO.bind ?_ (fun _ => ?_)
set_option maxHeartbeats 8000000 in
set_option maxRecDepth 100000 in
theorem laws_FnExactIndexText.calls (k : Nat) (a0_0 : Int) (a0_1 : Int) (A0_2 : Option Addr) (c0_2 : Nat) (l0_2 : List (S93)) (r : Bool) (w : World) (hr0_2 : Kd.C k93 w A0_2 l0_2.length l0_2) (hc0_2 : l0_2.length ≤ c0_2) (hLD : LaidW w) (h : laws_FnExactIndexText.f k a0_0 a0_1 l0_2 = some r) :
  Calls Tryd.prog 4 #[.agg #[.int .i64 a0_0, .int .i64 a0_1, .slice A0_2 l0_2.length c0_2]] w fun e w' => e = .returned (.bool r) ∧ Below w.heap.size w w' := by
 have hu33 := Tryd.underlying33
 have hu38 := Tryd.underlying38
 have HR0_2 := Aside0.mk hr0_2
 have HC0_2 := Aside0.mk hc0_2
 clear hr0_2 hc0_2
 have HB := Aside0.mk (Below.refl w.heap.size w)
 have HLD := Aside0.mk hLD
 clear hLD
 have H : ((laws_szIndex.f a0_0 a0_1 l0_2 1048576).bind fun t161 => (if t161 < 0 then (some true) else ((laws_toIndex.f k a0_0 a0_1 l0_2).bind fun bt162 => ((spec_IndexText.f k bt162.1 bt162.2.1 bt162.2.2).bind fun t167 => ((laws_toIndex.f k a0_0 a0_1 l0_2).bind fun bt168 => ((impl_IndexText.f k bt168.1 bt168.2.1 bt168.2.2).bind fun t174 => (if t174.toList = t167.toList then ((laws_toIndex.f k a0_0 a0_1 l0_2).bind fun bt175 => ((laws_eqIndex.f k bt168.1 bt168.2.1 bt168.2.2 bt175.1 bt175.2.1 bt175.2.2).bind fun t180 => (if t180 = true then (some true) else (none)))) else (none)))))))) = some r := h
 clear h
 replace H := Option.bind_eq_some_iff.mp H
 obtain ⟨t161, A20, H⟩ := H
 replace H : (if t161 < 0 then (some true) else ((laws_toIndex.f k a0_0 a0_1 l0_2).bind fun bt162 => ((spec_IndexText.f k bt162.1 bt162.2.1 bt162.2.2).bind fun t167 => ((laws_toIndex.f k a0_0 a0_1 l0_2).bind fun bt168 => ((impl_IndexText.f k bt168.1 bt168.2.1 bt168.2.2).bind fun t174 => (if t174.toList = t167.toList then ((laws_toIndex.f k a0_0 a0_1 l0_2).bind fun bt175 => ((laws_eqIndex.f k bt168.1 bt168.2.1 bt168.2.2 bt175.1 bt175.2.1 bt175.2.2).bind fun t180 => (if t180 = true then (some true) else (none)))) else (none))))))) = some r := H
 have A2 := Aside0.mk A20
 clear A20
 by_cases c3 : t161 < 0
 ·rw [if_pos c3] at H
  have c3b0 : decide (t161 < 0) = true := decide_eq_true c3
  clear c3
  obtain rfl := Option.some.inj H
  go_enter Tryd.func4, Tryd.ntmps4
  go_wp2_with (first | ((with_reducible refine gate_dst (N := 1) rfl ?_); refine box_event ?hg (N := 1) ?hd (cs := #[.int .i64 a0_0, .int .i64 a0_1, .slice A0_2 l0_2.length c0_2]) (t := 33) ?hr ?_; (case hd => rfl); (case hg => rfl); (case hr => first | (go_simp; done) | (go_simp; rfl)); intro gb160 hg w4 hbox hb; have n0_ := Aside0.mk (below_step (by exact zB HB.out) hb); have n1_ := Aside0.mk (hbox); have n2_ := Aside0.mk ((by rw [hg]; exact (below_size (by exact zB HB.out)) : w.heap.size ≤ gb160)); have n3_ := Aside0.mk ((by rw [hg]; exact (below_size (by exact zB HB.out)) : w.heap.size ≤ gb160)); clear HB; have HB := n0_; have BK160 := n1_; have GW160 := n2_; have GE160 := n3_; clear n0_ n1_ n2_ n3_; clear hb hbox hg; obtain ⟨hcz5_0, hcz5_1, hcz5_2, hfz5_0, hfz5_1, hfz5_2⟩ := zc3f BK160.out) | ((with_reducible refine gate_callee (f := 12) rfl ?_); refine goesL_ (some 9) rfl rfl Tryd.func12 (by kernel_rfl) rfl #[.agg #[.int .i64 a0_0, .int .i64 a0_1, .slice A0_2 l0_2.length c0_2], .int .i64 1048576] rfl (by (try simp only [zm1, zm2, zm3]); first | done | rfl | (simp only [List.length_drop, List.length_take]; rfl)) ?_; (with_reducible refine (laws_szIndex.calls a0_0 a0_1 _ _ l0_2 1048576 t161 _ ?side1 ?side2 A2.out).mono ?_); (case side1 => exact zC (Kd.C_below HR0_2.out HB.out)); (case side2 => exact HC0_2.out); rintro e w6 ⟨rfl, hb⟩; refine ⟨_, rfl, ?_⟩; have n0_ := Aside0.mk (blk_below (g := gb160) (o := .cells #[.int .i64 a0_0, .int .i64 a0_1, .slice A0_2 l0_2.length c0_2] 33 (0, 0)) (by exact zK BK160.out) hb); have n1_ := Aside0.mk (below_step (by exact zB1 HB.out GE160.out) hb); clear BK160; clear HB; have BK160 := n0_; have HB := n1_; clear n0_ n1_; (try clear hb); (try clear hb2); (try clear hk); (try clear hi)))
  go_ret
  exact ⟨by first | rfl | (simp [errW_none, errW_some] <;> rfl) | (simp [*, errW_none, errW_some] <;> rfl), by exact zB1 HB.out GE160.out⟩
 ·rw [if_neg c3] at H
  have c3b0 : decide (t161 < 0) = false := decide_eq_false c3
  clear c3
  replace H := Option.bind_eq_some_iff.mp H
  obtain ⟨⟨t162, t163, t164⟩, A70, H⟩ := H
  replace H : ((spec_IndexText.f k t162 t163 t164).bind fun t167 => ((laws_toIndex.f k a0_0 a0_1 l0_2).bind fun bt168 => ((impl_IndexText.f k bt168.1 bt168.2.1 bt168.2.2).bind fun t174 => (if t174.toList = t167.toList then ((laws_toIndex.f k a0_0 a0_1 l0_2).bind fun bt175 => ((laws_eqIndex.f k bt168.1 bt168.2.1 bt168.2.2 bt175.1 bt175.2.1 bt175.2.2).bind fun t180 => (if t180 = true then (some true) else (none)))) else (none))))) = some r := H
  have A7 := Aside0.mk A70
  clear A70
  replace H := Option.bind_eq_some_iff.mp H
  obtain ⟨t167, A80, H⟩ := H
  replace H : ((laws_toIndex.f k a0_0 a0_1 l0_2).bind fun bt168 => ((impl_IndexText.f k bt168.1 bt168.2.1 bt168.2.2).bind fun t174 => (if t174.toList = t167.toList then ((laws_toIndex.f k a0_0 a0_1 l0_2).bind fun bt175 => ((laws_eqIndex.f k bt168.1 bt168.2.1 bt168.2.2 bt175.1 bt175.2.1 bt175.2.2).bind fun t180 => (if t180 = true then (some true) else (none)))) else (none)))) = some r := H
  have A8 := Aside0.mk A80
  clear A80
  replace H := Option.bind_eq_some_iff.mp H
  obtain ⟨⟨t168, t169, t170⟩, A90, H⟩ := H
  replace H : ((impl_IndexText.f k t168 t169 t170).bind fun t174 => (if t174.toList = t167.toList then ((laws_toIndex.f k a0_0 a0_1 l0_2).bind fun bt175 => ((laws_eqIndex.f k t168 t169 t170 bt175.1 bt175.2.1 bt175.2.2).bind fun t180 => (if t180 = true then (some true) else (none)))) else (none))) = some r := H
  have A9 := Aside0.mk A90
  clear A90
  replace H := Option.bind_eq_some_iff.mp H
  obtain ⟨t174, A100, H⟩ := H
  replace H : (if t174.toList = t167.toList then ((laws_toIndex.f k a0_0 a0_1 l0_2).bind fun bt175 => ((laws_eqIndex.f k t168 t169 t170 bt175.1 bt175.2.1 bt175.2.2).bind fun t180 => (if t180 = true then (some true) else (none)))) else (none)) = some r := H
  have A10 := Aside0.mk A100
  clear A100
  by_cases c11 : t174.toList = t167.toList
  ·rw [if_pos c11] at H
   have c11b0 : (t174.toList == t167.toList) = true := beq_iff_eq.mpr c11
   have c11b1 : (t174.toList != t167.toList) = false := bne_eq_false_iff_eq.mpr c11
   clear c11
   replace H := Option.bind_eq_some_iff.mp H
   obtain ⟨⟨t175, t176, t177⟩, A120, H⟩ := H
   replace H : ((laws_eqIndex.f k t168 t169 t170 t175 t176 t177).bind fun t180 => (if t180 = true then (some true) else (none))) = some r := H
   have A12 := Aside0.mk A120
   clear A120
   replace H := Option.bind_eq_some_iff.mp H
   obtain ⟨t180, A130, H⟩ := H
   replace H : (if t180 = true then (some true) else (none)) = some r := H
   have A13 := Aside0.mk A130
   clear A130
   by_cases c14 : t180 = true
   ·subst c14
    have H1 : (some true) = some r := by rw [if_pos rfl] at H; exact H
    clear H
    have H := H1
    clear H1
    obtain rfl := Option.some.inj H
    go_enter Tryd.func4, Tryd.ntmps4
    try go_wp2_with (first | ((with_reducible refine gate_dst (N := 1) rfl ?_); refine box_event ?hg (N := 1) ?hd (cs := #[.int .i64 a0_0, .int .i64 a0_1, .slice A0_2 l0_2.length c0_2]) (t := 33) ?hr ?_; (case hd => rfl); (case hg => rfl); (case hr => first | (go_simp; done) | (go_simp; rfl)); intro gb160 hg w15 hbox hb; have n0_ := Aside0.mk (below_step (by exact zB HB.out) hb); have n1_ := Aside0.mk (hbox); have n2_ := Aside0.mk ((by rw [hg]; exact (below_size (by exact zB HB.out)) : w.heap.size ≤ gb160)); have n3_ := Aside0.mk ((by rw [hg]; exact (below_size (by exact zB HB.out)) : w.heap.size ≤ gb160)); clear HB; have HB := n0_; have BK160 := n1_; have GW160 := n2_; have GE160 := n3_; clear n0_ n1_ n2_ n3_; clear hb hbox hg; obtain ⟨hcz16_0, hcz16_1, hcz16_2, hfz16_0, hfz16_1, hfz16_2⟩ := zc3f BK160.out) | ((with_reducible refine gate_callee (f := 12) rfl ?_); refine goesL_ (some 9) rfl rfl Tryd.func12 (by kernel_rfl) rfl #[.agg #[.int .i64 a0_0, .int .i64 a0_1, .slice A0_2 l0_2.length c0_2], .int .i64 1048576] rfl (by (try simp only [zm1, zm2, zm3]); first | done | rfl | (simp only [List.length_drop, List.length_take]; rfl)) ?_; (with_reducible refine (laws_szIndex.calls a0_0 a0_1 _ _ l0_2 1048576 t161 _ ?side1 ?side2 A2.out).mono ?_); (case side1 => exact zC (Kd.C_below HR0_2.out HB.out)); (case side2 => exact HC0_2.out); rintro e w17 ⟨rfl, hb⟩; refine ⟨_, rfl, ?_⟩; have n0_ := Aside0.mk (blk_below (g := gb160) (o := .cells #[.int .i64 a0_0, .int .i64 a0_1, .slice A0_2 l0_2.length c0_2] 33 (0, 0)) (by exact zK BK160.out) hb); have n1_ := Aside0.mk (below_step (by exact zB1 HB.out GE160.out) hb); clear BK160; clear HB; have BK160 := n0_; have HB := n1_; clear n0_ n1_; (try clear hb); (try clear hb2); (try clear hk); (try clear hi); obtain ⟨hcz18_0, hcz18_1, hcz18_2, hfz18_0, hfz18_1, hfz18_2⟩ := zc3f BK160.out) | ((with_reducible refine gate_callee (f := 14) rfl ?_); refine goesL_ (some 13) rfl rfl Tryd.func14 (by kernel_rfl) rfl #[.agg #[.int .i64 a0_0, .int .i64 a0_1, .slice A0_2 l0_2.length c0_2]] rfl (by (try simp only [zm1, zm2, zm3]); first | done | rfl | (simp only [List.length_drop, List.length_take]; rfl)) ?_; (with_reducible refine (laws_toIndex.calls k a0_0 a0_1 _ _ l0_2 t162 t163 t164 _ ?side1 ?side2 A7.out).mono ?_); (case side1 => exact zC (Kd.C_below HR0_2.out HB.out)); (case side2 => exact HC0_2.out); rintro e w19 ⟨v165, rfl, ho0, hb⟩; refine ⟨_, rfl, ?_⟩; have n0_ := Aside0.mk (Kd.R_lower ho0 (below_size (by exact zB1 HB.out GE160.out))); have n1_ := Aside0.mk (blk_below (g := gb160) (o := .cells #[.int .i64 a0_0, .int .i64 a0_1, .slice A0_2 l0_2.length c0_2] 33 (0, 0)) (by exact zK BK160.out) hb); have n2_ := Aside0.mk (below_step (by exact zB1 HB.out GE160.out) hb); clear BK160; clear HB; have HO166 := n0_; have BK160 := n1_; have HB := n2_; clear n0_ n1_ n2_; (try clear hb); (try clear hb2); (try clear hk); (try clear hi); (try clear ho0); obtain ⟨Ao20, co20, eo20⟩ := Kd.R_slice HO166.out; subst eo20) | ((with_reducible refine gate_callee (f := 13) rfl ?_); refine goesL_ (some 14) rfl rfl Tryd.func13 (by kernel_rfl) rfl #[.agg #[.int .i64 t162, .int .i64 t163, .slice Ao20 t164.length co20]] rfl (by (try simp only [zm1, zm2, zm3]); first | done | rfl | (simp only [List.length_drop, List.length_take]; rfl)) ?_; (with_reducible refine (spec_IndexText.calls k t162 t163 _ _ t164 t167 _ ?side1 ?side2 A8.out).mono ?_); (case side1 => exact zC (Kd.R_reads' HO166.out).2.2); (case side2 => exact (Kd.R_reads' HO166.out).2.1); rintro e w21 ⟨rfl, hb⟩; refine ⟨_, rfl, ?_⟩; have n0_ := Aside0.mk (Kd.R_below (by exact zR HO166.out) hb); have n1_ := Aside0.mk (blk_below (g := gb160) (o := .cells #[.int .i64 a0_0, .int .i64 a0_1, .slice A0_2 l0_2.length c0_2] 33 (0, 0)) (by exact zK BK160.out) hb); have n2_ := Aside0.mk (below_step (by exact zB1 HB.out GE160.out) hb); clear HO166; clear BK160; clear HB; have HO166 := n0_; have BK160 := n1_; have HB := n2_; clear n0_ n1_ n2_; (try clear hb); (try clear hb2); (try clear hk); (try clear hi); obtain ⟨hcz22_0, hcz22_1, hcz22_2, hfz22_0, hfz22_1, hfz22_2⟩ := zc3f BK160.out) | ((with_reducible refine gate_callee (f := 14) rfl ?_); refine goesL_ (some 16) rfl rfl Tryd.func14 (by kernel_rfl) rfl #[.agg #[.int .i64 a0_0, .int .i64 a0_1, .slice A0_2 l0_2.length c0_2]] rfl (by (try simp only [zm1, zm2, zm3]); first | done | rfl | (simp only [List.length_drop, List.length_take]; rfl)) ?_; (with_reducible refine (laws_toIndex.calls k a0_0 a0_1 _ _ l0_2 t168 t169 t170 _ ?side1 ?side2 A9.out).mono ?_); (case side1 => exact zC (Kd.C_below HR0_2.out HB.out)); (case side2 => exact HC0_2.out); rintro e w23 ⟨v171, rfl, ho0, hb⟩; refine ⟨_, rfl, ?_⟩; have n0_ := Aside0.mk (Kd.R_elder' (by exact zR HO166.out) (Kd.R_base ho0) hb); have n1_ := Aside0.mk (Kd.R_lower (Kd.R_new' ho0 (Kd.R_lt (by exact zR HO166.out))) (below_size (by exact zB1 HB.out GE160.out))); have n2_ := Aside0.mk (blk_below (g := gb160) (o := .cells #[.int .i64 a0_0, .int .i64 a0_1, .slice A0_2 l0_2.length c0_2] 33 (0, 0)) (by exact zK BK160.out) hb); have n3_ := Aside0.mk (below_step (by exact zB1 HB.out GE160.out) hb); clear HO166; clear BK160; clear HB; have HO166 := n0_; have HO172 := n1_; have BK160 := n2_; have HB := n3_; clear n0_ n1_ n2_ n3_; (try clear hb); (try clear hb2); (try clear hk); (try clear hi); (try clear ho0)) | ((with_reducible refine gate_dst (N := 5) rfl ?_); refine box_event ?hg (N := 5) ?hd (cs := #[.int .i64 0, .int .i64 0, .slice none 0 0]) (t := 38) ?hr ?_; (case hd => rfl); (case hg => rfl); (case hr => first | (go_simp; done) | (go_simp; rfl)); intro gb173 hg w24 hbox hb; have n0_ := Aside0.mk (Kd.R_below (by exact zR HO166.out) hb); have n1_ := Aside0.mk (Kd.R_below (by exact zR HO172.out) hb); have n2_ := Aside0.mk (blk_below (g := gb160) (o := .cells #[.int .i64 a0_0, .int .i64 a0_1, .slice A0_2 l0_2.length c0_2] 33 (0, 0)) (by exact zK BK160.out) hb); have n3_ := Aside0.mk (below_step (by exact zB1 HB.out GE160.out) hb); have n4_ := Aside0.mk (hbox); have n5_ := Aside0.mk ((by rw [hg]; exact (below_size (by exact zB1 HB.out GE160.out)) : w.heap.size ≤ gb173)); have n6_ := Aside0.mk ((by rw [hg]; exact (below_size (by exact zB1 HB.out GE160.out)) : w.heap.size ≤ gb173)); have n7_ := Aside0.mk ((by rw [hg]; exact Nat.ne_of_lt (blk_lt (g := gb160) (o := .cells #[.int .i64 a0_0, .int .i64 a0_1, .slice A0_2 l0_2.length c0_2] 33 (0, 0)) (by exact zK BK160.out)) : gb160 ≠ gb173)); have n8_ := Aside0.mk ((by rw [hg]; exact Nat.ne_of_gt (blk_lt (g := gb160) (o := .cells #[.int .i64 a0_0, .int .i64 a0_1, .slice A0_2 l0_2.length c0_2] 33 (0, 0)) (by exact zK BK160.out)) : gb173 ≠ gb160)); clear HO166; clear HO172; clear BK160; clear HB; have HO166 := n0_; have HO172 := n1_; have BK160 := n2_; have HB := n3_; have BK173 := n4_; have GW173 := n5_; have GE173 := n6_; have NB160_173 := n7_; have NB173_160 := n8_; clear n0_ n1_ n2_ n3_ n4_ n5_ n6_ n7_ n8_; clear hb hbox hg; have hnb25 := NB173_160.out; have hnc25 := NB160_173.out; obtain ⟨hcz26_0, hcz26_1, hcz26_2, hfz26_0, hfz26_1, hfz26_2⟩ := zc3f BK173.out; obtain ⟨Ao27, co27, eo27⟩ := Kd.R_slice HO172.out; subst eo27) | ((with_reducible refine gate_callee (f := 15) rfl ?_); refine goesL_ (some 18) rfl rfl Tryd.func15 (by kernel_rfl) rfl #[.agg #[.int .i64 t168, .int .i64 t169, .slice Ao27 t170.length co27]] rfl (by (try simp only [zm1, zm2, zm3]); first | done | rfl | (simp only [List.length_drop, List.length_take]; rfl)) ?_; (with_reducible refine (impl_IndexText.calls k t168 t169 _ _ t170 t174 _ ?side1 ?side2 ?sideL A10.out).mono ?_); (case sideL => exact HLD.out.on (by exact zB2 HB.out GE160.out GE173.out)); (case side1 => refine (Kd.R_reads' (e := 73) (base := w.heap.size) (ok := fun k_ => (True ∧ some k_ ≠ (.slice Ao20 t164.length co20 : Value).ownBlock)) (n := t170.length) (c := co27) ?_).2.2; exact (by exact zR (Kd.R_mono (Kd.R_far (p := ⟨gb173, 2, none⟩) (Kd.R_far (p := ⟨gb173, 1, none⟩) (Kd.R_far (p := ⟨gb173, 0, none⟩) (Kd.R_types HO172.out BK173.out (by decide)) (fun _ hk => hk.2) (.int .i64 t168)) (fun _ hk => hk.2) (.int .i64 t169)) (fun _ hk => hk.2) (.slice Ao27 t170.length co27)) (fun _ h_ => h_.1)))); (case side2 => exact (Kd.R_reads' HO172.out).2.1); rintro e w28 ⟨rfl, hb⟩; refine ⟨_, rfl, ?_⟩; have n0_ := Aside0.mk (Kd.R_below (by exact zR (Kd.R_mono (Kd.R_far (p := ⟨gb173, 2, none⟩) (Kd.R_far (p := ⟨gb173, 1, none⟩) (Kd.R_far (p := ⟨gb173, 0, none⟩) (Kd.R_types HO166.out BK173.out (by decide)) (fun _ hk => hk.2) (.int .i64 t168)) (fun _ hk => hk.2) (.int .i64 t169)) (fun _ hk => hk.2) (.slice Ao27 t170.length co27)) (fun _ h_ => h_.1))) hb); have n1_ := Aside0.mk (Kd.R_below (by exact zR (Kd.R_mono (Kd.R_far (p := ⟨gb173, 2, none⟩) (Kd.R_far (p := ⟨gb173, 1, none⟩) (Kd.R_far (p := ⟨gb173, 0, none⟩) (Kd.R_types HO172.out BK173.out (by decide)) (fun _ hk => hk.2) (.int .i64 t168)) (fun _ hk => hk.2) (.int .i64 t169)) (fun _ hk => hk.2) (.slice Ao27 t170.length co27)) (fun _ h_ => h_.1))) hb); have n2_ := Aside0.mk (blk_below (g := gb160) (o := .cells #[.int .i64 a0_0, .int .i64 a0_1, .slice A0_2 l0_2.length c0_2] 33 (0, 0)) (by (with_reducible repeat (first | refine blk_drewN ?_ _ | refine blk_drew ?_ | refine blk_alloc ?_ _)); refine blk_far ?_ NB160_173.out _; (with_reducible repeat (first | refine blk_drewN ?_ _ | refine blk_drew ?_ | refine blk_alloc ?_ _)); refine blk_far ?_ NB160_173.out _; (with_reducible repeat (first | refine blk_drewN ?_ _ | refine blk_drew ?_ | refine blk_alloc ?_ _)); refine blk_far ?_ NB160_173.out _; exact zK BK160.out) hb); have n3_ := Aside0.mk (blk_below (g := gb173) (o := .cells #[.int .i64 t168, .int .i64 t169, .slice Ao27 t170.length co27] 38 (0, 0)) (by (with_reducible repeat (first | refine blk_drewN ?_ _ | refine blk_drew ?_ | refine blk_alloc ?_ _)); refine blk_put (cs := #[.int .i64 t168, .int .i64 t169, .slice none 0 0]) ?_ 2 _ rfl; (with_reducible repeat (first | refine blk_drewN ?_ _ | refine blk_drew ?_ | refine blk_alloc ?_ _)); refine blk_put (cs := #[.int .i64 t168, .int .i64 0, .slice none 0 0]) ?_ 1 _ rfl; (with_reducible repeat (first | refine blk_drewN ?_ _ | refine blk_drew ?_ | refine blk_alloc ?_ _)); refine blk_put (cs := #[.int .i64 0, .int .i64 0, .slice none 0 0]) ?_ 0 _ rfl; exact zK BK173.out) hb); have n4_ := Aside0.mk (below_step (by exact zB2 HB.out GE160.out GE173.out) hb); clear HO166; clear HO172; clear BK160; clear BK173; clear HB; have HO166 := n0_; have HO172 := n1_; have BK160 := n2_; have BK173 := n3_; have HB := n4_; clear n0_ n1_ n2_ n3_ n4_; (try clear hb); (try clear hb2); (try clear hk); (try clear hi)))
    have n0_ := Aside0.mk (Kd.R_drew HO166.out)
    have n1_ := Aside0.mk (Kd.R_drew HO172.out)
    have n2_ := Aside0.mk (blk_drew BK160.out)
    have n3_ := Aside0.mk (blk_drew BK173.out)
    have n4_ := Aside0.mk (below_drew1 HB.out)
    clear HO166
    clear HO172
    clear BK160
    clear BK173
    clear HB
    have HO166 := n0_
    have HO172 := n1_
    have BK160 := n2_
    have BK173 := n3_
    have HB := n4_
    clear n0_ n1_ n2_ n3_ n4_
    refine start_ (n := 5) (S := fun w' => w'.cell? ⟨gb173, 0, none⟩ = some (.int .i64 t168) ∧ w'.cell? ⟨gb173, 1, none⟩ = some (.int .i64 t169) ∧ w'.cell? ⟨gb173, 2, none⟩ = some (.slice Ao27 t170.length co27) ∧ w'.cell? ⟨gb160, 0, none⟩ = some (.int .i64 a0_0) ∧ w'.cell? ⟨gb160, 1, none⟩ = some (.int .i64 a0_1) ∧ w'.cell? ⟨gb160, 2, none⟩ = some (.slice A0_2 l0_2.length c0_2)) (ds := []) #[false, false, false, false, false] (by kernel_rfl) rfl rfl ⟨(blk_cell BK173.out 0).trans rfl, (blk_cell BK173.out 1).trans rfl, (blk_cell BK173.out 2).trans rfl, (blk_cell BK160.out 0).trans rfl, (blk_cell BK160.out 1).trans rfl, (blk_cell BK160.out 2).trans rfl⟩ (fun hHeld => ?_)
    generalize w28.drew = w29 at HO166 HO172 BK160 BK173 HB hHeld ⊢
    refine take_ (i := 0) (N := some 22) (v := ?_) (a' := ?_) #[true, false, false, false, false] rfl rfl (by kernel_rfl) (fun _ _ _ h => h) (Or.inl ⟨by rfl, ?_⟩) hHeld ?_ ?_
    rotate_left
    ·rintro w' ⟨s0, s1, s2, s3, s4, s5⟩
     go_simp
     with_reducible rfl
    rotate_left
    ·simp only [zp0, zp1, zp2, zp3, zp4, i64_w, i32_w]
     rfl
    refine take_ (i := 1) (N := some 23) (v := ?_) (a' := ?_) #[true, true, false, false, false] rfl rfl (by kernel_rfl) (fun _ _ _ h => h) (Or.inl ⟨by rfl, ?_⟩) hHeld ?_ ?_
    rotate_left
    ·rintro w' ⟨s0, s1, s2, s3, s4, s5⟩
     go_simp
     with_reducible rfl
    rotate_left
    ·simp only [zp0, zp1, zp2, zp3, zp4, i64_w, i32_w]
     rfl
    refine one_ (i := 2) (N := some 24) #[true, true, true, false, false] rfl rfl (by kernel_rfl) (by decide) (fun K hK => ?_)
    refine goes_ Tryd.func14 (by kernel_rfl) rfl #[.agg #[.int .i64 a0_0, .int .i64 a0_1, .slice A0_2 l0_2.length c0_2]] (by rfl) rfl rfl (by (try simp only [zm1, zm2, zm3]); first | done | rfl | (simp only [List.length_drop, List.length_take]; rfl)) ?_
    with_reducible refine (laws_toIndex.calls k a0_0 a0_1 _ _ l0_2 t175 t176 t177 _ ?side1 ?side2 A12.out).mono ?_
    (case side1 => exact zC (Kd.C_below HR0_2.out HB.out))
    (case side2 => exact HC0_2.out)
    rintro e w30 ⟨v178, rfl, ho0, hb⟩
    refine ⟨_, rfl, ?_⟩
    have n0_ := Aside0.mk (Kd.R_elder' (by exact zR HO166.out) (Kd.R_base ho0) hb)
    have n1_ := Aside0.mk (Kd.R_elder' (by exact zR HO172.out) (Kd.R_base ho0) hb)
    have n2_ := Aside0.mk (Kd.R_lower (Kd.R_new' (Kd.R_new' ho0 (Kd.R_lt (by exact zR HO166.out))) (Kd.R_lt (by exact zR HO172.out))) (below_size (by exact zB2 HB.out GE160.out GE173.out)))
    have n3_ := Aside0.mk (blk_below (g := gb160) (o := .cells #[.int .i64 a0_0, .int .i64 a0_1, .slice A0_2 l0_2.length c0_2] 33 (0, 0)) (by exact zK BK160.out) hb)
    have n4_ := Aside0.mk (blk_below (g := gb173) (o := .cells #[.int .i64 t168, .int .i64 t169, .slice Ao27 t170.length co27] 38 (0, 0)) (by exact zK BK173.out) hb)
    have n5_ := Aside0.mk (below_step (by exact zB2 HB.out GE160.out GE173.out) hb)
    clear HO166
    clear HO172
    clear BK160
    clear BK173
    clear HB
    have HO166 := n0_
    have HO172 := n1_
    have HO179 := n2_
    have BK160 := n3_
    have BK173 := n4_
    have HB := n5_
    clear n0_ n1_ n2_ n3_ n4_ n5_
    (try clear hb)
    (try clear hb2)
    (try clear hk)
    (try clear hi)
    (try clear ho0)
    obtain ⟨Ao31, co31, eo31⟩ := Kd.R_slice HO179.out
    (first | subst eo31 | (injection eo31 with f1_ f2_ f3_; have f4_ := f1_.symm; have f5_ := f3_.symm; clear f1_ f2_ f3_; subst f4_; subst f5_))
    refine hK.out _ _ ⟨(blk_cell BK173.out 0).trans rfl, (blk_cell BK173.out 1).trans rfl, (blk_cell BK173.out 2).trans rfl, (blk_cell BK160.out 0).trans rfl, (blk_cell BK160.out 1).trans rfl, (blk_cell BK160.out 2).trans rfl⟩ (fun hHeld => ?_)
    clear hK K
    refine norm_ (a' := ?_) ?_ ?_
    rotate_left
    ·show Act.put _ (some 24) _ = _
     simp only [zp0, zp1, zp2, zp3, zp4, i64_w, i32_w]
     rfl
    refine one_ (i := 3) (N := some 25) #[true, true, true, true, false] rfl rfl (by kernel_rfl) (by decide) (fun K hK => ?_)
    refine goes_ Tryd.func16 (by kernel_rfl) rfl #[.agg #[.int .i64 t168, .int .i64 t169, .slice Ao27 t170.length co27], .agg #[.int .i64 t175, .int .i64 t176, .slice Ao31 t177.length co31]] (by rfl) rfl rfl (by (try simp only [zm1, zm2, zm3]); first | done | rfl | (simp only [List.length_drop, List.length_take]; rfl)) ?_
    with_reducible refine (laws_eqIndex.calls k t168 t169 _ _ t170 t175 t176 _ _ t177 true _ ?side1 ?side2 ?side3 ?side4 A13.out).mono ?_
    (case side1 => exact zC (Kd.R_reads' HO172.out).2.2)
    (case side2 => exact (Kd.R_reads' HO172.out).2.1)
    (case side3 => exact zC (Kd.R_reads' HO179.out).2.2)
    (case side4 => exact (Kd.R_reads' HO179.out).2.1)
    rintro e w32 ⟨rfl, hb⟩
    refine ⟨_, rfl, ?_⟩
    have n0_ := Aside0.mk (Kd.R_below (by exact zR HO166.out) hb)
    have n1_ := Aside0.mk (Kd.R_below (by exact zR HO172.out) hb)
    have n2_ := Aside0.mk (Kd.R_below (by exact zR HO179.out) hb)
    have n3_ := Aside0.mk (blk_below (g := gb160) (o := .cells #[.int .i64 a0_0, .int .i64 a0_1, .slice A0_2 l0_2.length c0_2] 33 (0, 0)) (by exact zK BK160.out) hb)
    have n4_ := Aside0.mk (blk_below (g := gb173) (o := .cells #[.int .i64 t168, .int .i64 t169, .slice Ao27 t170.length co27] 38 (0, 0)) (by exact zK BK173.out) hb)
    have n5_ := Aside0.mk (below_step (by exact zB2 HB.out GE160.out GE173.out) hb)
    clear HO166
    clear HO172
    clear HO179
    clear BK160
    clear BK173
    clear HB
    have HO166 := n0_
    have HO172 := n1_
    have HO179 := n2_
    have BK160 := n3_
    have BK173 := n4_
    have HB := n5_
    clear n0_ n1_ n2_ n3_ n4_ n5_
    (try clear hb)
    (try clear hb2)
    (try clear hk)
    (try clear hi)
    refine hK.out _ _ ⟨(blk_cell BK173.out 0).trans rfl, (blk_cell BK173.out 1).trans rfl, (blk_cell BK173.out 2).trans rfl, (blk_cell BK160.out 0).trans rfl, (blk_cell BK160.out 1).trans rfl, (blk_cell BK160.out 2).trans rfl⟩ (fun hHeld => ?_)
    clear hK K
    refine norm_ (a' := ?_) ?_ ?_
    rotate_left
    ·show Act.put _ (some 25) _ = _
     simp only [zp0, zp1, zp2, zp3, zp4, i64_w, i32_w]
     rfl
    refine pure_ (i := 4) (N := some 26) (v := ?_) (a' := ?_) #[true, true, true, true, true] rfl rfl (by kernel_rfl) (fun _ _ _ h => h) (Or.inl ⟨by rfl, ?_⟩) ?_ ?_
    rotate_left
    ·intro w'
     go_simp
     with_reducible rfl
    rotate_left
    ·simp only [zp0, zp1, zp2, zp3, zp4, i64_w, i32_w]
     rfl
    refine done_ (by kernel_rfl) ?_
    try go_wp2
    go_ret
    exact ⟨by first | rfl | (simp [errW_none, errW_some] <;> rfl) | (simp [*, errW_none, errW_some] <;> rfl), by exact zB2 HB.out GE160.out GE173.out⟩
   ·replace c14 := Bool.eq_false_iff.mpr c14
    subst c14
    have H1 : (none) = some r := by rw [if_neg (show ¬ (false = true) by decide)] at H; exact H
    clear H
    have H := H1
    clear H1
    exact absurd H (by simp)
  ·rw [if_neg c11] at H
   exact absurd H (by simp)

end Go.Proofs.YtlmgnnpmcdeclaaDoor.PFnExactIndexText
