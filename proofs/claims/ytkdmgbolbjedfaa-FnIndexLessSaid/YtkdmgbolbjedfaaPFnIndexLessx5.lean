-- printed for this claim by a program out of the translation, its tactics shortened by another
import Derived.Test.YtkdmgbolbjedfaaPFnIndexLessx4
namespace Go.Proofs.Ytkdmgbolbjedfaa.PFnIndexLess
open Go.RowKit Go.Proofs.YtkdmgbolbjedfaaW.PrintWords Go.Proofs.YtkdmgbolbjedfaaW.PrintLast Go.Proofs.YtkdmgbolbjedfaaW.PrintMore
attribute [local go_sem] max2_int min2_int max_two min_two max_three min_three max_four min_four   -- for this text's walks alone
set_option linter.unusedVariables false
set_option linter.unusedSimpArgs false

/-! ### laws_FnIndexLess: function 14 -/
mutual
def laws_FnIndexLess.j0 : Nat → List Int → List Int → Bool → Option (Bool)
 | 0, _, _, _ => none
 | k + 1, x0, x1, x17 => if x17 = true then (some true) else ((spec_DrawIndexOk.f k x0).bind fun bt313 => ((impl_IndexOk.f k bt313.1 bt313.2.1 bt313.2.2).bind fun t319 => ((spec_IndexOk.f k bt313.1 bt313.2.1 bt313.2.2).bind fun t320 => (if (t319 != t320) = true then (laws_FnIndexLess.j1 k x1 t319 true bt313.1 bt313.2.1 bt313.2.2) else (if t319 = true then (laws_FnIndexLess.j1 k x1 t319 ((bt313.2.2.length : Int) == 0) bt313.1 bt313.2.1 bt313.2.2) else (laws_FnIndexLess.j1 k x1 t319 true bt313.1 bt313.2.1 bt313.2.2))))))
def laws_FnIndexLess.j1 : Nat → List Int → Bool → Bool → Int → Int → List (S76) → Option (Bool)
 | 0, _, _, _, _, _, _ => none
 | k + 1, x1, x6, x35, x319000, x319001, x319002 => if x35 = true then ((spec_IndexOk.f k x319000 x319001 x319002).bind fun t321 => (some (x6 == t321))) else (if (x319002.length : Int) = 0 then (none) else ((some (([] : List (S76)) : List (S76))).bind fun y323 => (if 0 ≤ ((x1.length : Int) % (x319002.length : Int)) then (if ((x1.length : Int) % (x319002.length : Int)) ≤ (x319002.length : Int) then ((some (x319002.take (((x1.length : Int) % (x319002.length : Int)) : Int).toNat : List (S76))).bind fun y326 => (if y323.length + y326.length < 5864062014805 then ((some (y323 ++ y326 : List (S76))).bind fun y330 => (if 0 ≤ (wrap64 (((x1.length : Int) % (x319002.length : Int)) + 1)) then (if (wrap64 (((x1.length : Int) % (x319002.length : Int)) + 1)) ≤ (x319002.length : Int) then ((some (x319002.drop ((wrap64 (((x1.length : Int) % (x319002.length : Int)) + 1)) : Int).toNat : List (S76))).bind fun y333 => (if y330.length + y333.length < 5864062014805 then ((some (([] : List (S76)) : List (S76))).bind fun y341 => (if y341.length + x319002.length < 5864062014805 then ((some (y341 ++ x319002 : List (S76))).bind fun y344 => (if ((x1.length : Int) % (x319002.length : Int)) < (x319002.length : Int) then ((some (([(⟨(rd_T76 x319002 ((x1.length : Int) % (x319002.length : Int))).f0, (rd_T76 x319002 ((x1.length : Int) % (x319002.length : Int))).f1, (rd_T76 x319002 ((x1.length : Int) % (x319002.length : Int))).f2⟩ : S76)] : List (S76)) : List (S76))).bind fun y348 => (if y344.length + y348.length < 5864062014805 then ((impl_IndexOk.f k x319000 x319001 (y330 ++ y333)).bind fun t354 => (if t354 = true then ((impl_IndexOk.f k x319000 x319001 (y344 ++ y348)).bind fun t355 => (some (!t355))) else (none))) else (none))) else (none))) else (none))) else (none))) else (none)) else (none))) else (none))) else (none)) else (none))))
end
def laws_FnIndexLess.f (k : Nat) (l0 : List Int) (l1 : List Int) : Option (Bool) := if (l0.length : Int) > 1048576 then (laws_FnIndexLess.j0 k l0 l1 true) else (laws_FnIndexLess.j0 k l0 l1 (decide ((l1.length : Int) > 1048576)))
theorem laws_FnIndexLess.mono_l : ∀ k, (∀ y0 y1 y2, LeO (laws_FnIndexLess.j0 k y0 y1 y2) (laws_FnIndexLess.j0 (k + 1) y0 y1 y2)) ∧ (∀ y0 y1 y2 y3 y4 y5, LeO (laws_FnIndexLess.j1 k y0 y1 y2 y3 y4 y5) (laws_FnIndexLess.j1 (k + 1) y0 y1 y2 y3 y4 y5))
 | 0 => ⟨fun _ _ _ r h => by simp [laws_FnIndexLess.j0] at h, fun _ _ _ _ _ _ r h => by simp [laws_FnIndexLess.j1] at h⟩
 | k + 1 => by
  obtain ⟨ih0, ih1⟩ := laws_FnIndexLess.mono_l k
  refine ⟨?_, ?_⟩
  ·intro y0 y1 y2
   unfold laws_FnIndexLess.j0
   repeat' first
   | (with_reducible exact ih0 _ _ _)
   | (with_reducible exact ih1 _ _ _ _ _ _)
   | (with_reducible exact impl_IndexOk.mono _ _ _ _)
   | (with_reducible exact spec_DrawIndexOk.mono _ _)
   | (with_reducible exact spec_IndexOk.mono _ _ _ _)
   | (with_reducible exact LeO.refl _)
   | (with_reducible exact LeO.none _)
   | (with_reducible refine LeO.ite ?_ ?_)
   | (with_reducible refine LeO.bind ?_ (fun _ => ?_))
   | exact ih0 _ _ _
   | exact ih1 _ _ _ _ _ _
   | exact impl_IndexOk.mono _ _ _ _
   | exact spec_DrawIndexOk.mono _ _
   | exact spec_IndexOk.mono _ _ _ _
   | exact LeO.none _
   | refine LeO.ite ?_ ?_
   | refine LeO.bind ?_ (fun _ => ?_)
  ·intro y0 y1 y2 y3 y4 y5
   unfold laws_FnIndexLess.j1
   repeat' first
   | (with_reducible exact ih0 _ _ _)
   | (with_reducible exact ih1 _ _ _ _ _ _)
   | (with_reducible exact impl_IndexOk.mono _ _ _ _)
   | (with_reducible exact spec_DrawIndexOk.mono _ _)
   | (with_reducible exact spec_IndexOk.mono _ _ _ _)
   | (with_reducible exact LeO.refl _)
   | (with_reducible exact LeO.none _)
   | (with_reducible refine LeO.ite ?_ ?_)
   | (with_reducible refine LeO.bind ?_ (fun _ => ?_))
   | exact ih0 _ _ _
   | exact ih1 _ _ _ _ _ _
   | exact impl_IndexOk.mono _ _ _ _
   | exact spec_DrawIndexOk.mono _ _
   | exact spec_IndexOk.mono _ _ _ _
   | exact LeO.none _
   | refine LeO.ite ?_ ?_
   | refine LeO.bind ?_ (fun _ => ?_)
theorem laws_FnIndexLess.mono : ∀ a0 a1 k, LeO (laws_FnIndexLess.f k a0 a1) (laws_FnIndexLess.f (k + 1) a0 a1) := by
 intro a0 a1 k
 obtain ⟨ih0, ih1⟩ := laws_FnIndexLess.mono_l k
 unfold laws_FnIndexLess.f
 repeat' first
   | (with_reducible exact ih0 _ _ _)
   | (with_reducible exact ih1 _ _ _ _ _ _)
   | (with_reducible exact impl_IndexOk.mono _ _ _ _)
   | (with_reducible exact spec_DrawIndexOk.mono _ _)
   | (with_reducible exact spec_IndexOk.mono _ _ _ _)
   | (with_reducible exact LeO.refl _)
   | (with_reducible exact LeO.none _)
   | (with_reducible refine LeO.ite ?_ ?_)
   | (with_reducible refine LeO.bind ?_ (fun _ => ?_))
   | exact ih0 _ _ _
   | exact ih1 _ _ _ _ _ _
   | exact impl_IndexOk.mono _ _ _ _
   | exact spec_DrawIndexOk.mono _ _
   | exact spec_IndexOk.mono _ _ _ _
   | exact LeO.none _
   | refine LeO.ite ?_ ?_
   | refine LeO.bind ?_ (fun _ => ?_)
def laws_FnIndexLess.T9 : Bool × List (List Nat × List Nat) := (true, [([], []), ([], []), ([1], [1]), ([], []), ([2, 3], [2, 3]), ([0, 4], [0, 4]), ([], []), ([6], [6]), ([], []), ([8], [8]), ([7, 9], [7, 9]), ([5, 10, 5], [5, 10]), ([0, 1, 2, 3, 4, 5, 6, 7, 8, 9, 10, 11], []), ([12, 11, 11, 0, 1, 2, 3, 4, 5, 6, 7, 8, 9, 10, 11], [11, 12])])
def laws_FnIndexLess.B9 : List Nat := [0, 0, 2, 0, 14, 31, 0, 64, 0, 256, 960, 2047, 4095, 8191]
theorem laws_FnIndexLess.tab9 : rtab .any (opsOf Try.f14 9) = laws_FnIndexLess.T9 := by kernel_rfl
theorem laws_FnIndexLess.bits9 : waitsOk laws_FnIndexLess.T9.2 laws_FnIndexLess.B9 = true := by kernel_rfl
def laws_FnIndexLess.T11 : Bool × List (List Nat × List Nat) := (true, [([], []), ([], []), ([1], [1]), ([0, 2], [0, 2]), ([], []), ([4], [4]), ([], []), ([5, 6], [5, 6]), ([7], [7]), ([8], [8]), ([3, 9, 3], [3, 9]), ([0, 1, 2, 3, 4, 5, 6, 7, 8, 9, 10], []), ([11, 10, 10, 0, 1, 2, 3, 4, 5, 6, 7, 8, 9, 10], [10, 11])])
def laws_FnIndexLess.B11 : List Nat := [0, 0, 2, 7, 0, 16, 0, 112, 240, 496, 1023, 2047, 4095]
theorem laws_FnIndexLess.tab11 : rtab .any (opsOf Try.f14 11) = laws_FnIndexLess.T11 := by kernel_rfl
theorem laws_FnIndexLess.bits11 : waitsOk laws_FnIndexLess.T11.2 laws_FnIndexLess.B11 = true := by kernel_rfl
set_option maxHeartbeats 8000000 in
set_option maxRecDepth 100000 in
theorem laws_FnIndexLess.calls (k : Nat) (A0 : Option Addr) (c0 : Nat) (l0 : List Int) (A1 : Option Addr) (c1 : Nat) (l1 : List Int) (r : Bool) (w : World) (hr0 : Kd.C (Kd.int .u8) w A0 l0.length l0) (hc0 : l0.length ≤ c0) (hr1 : Kd.C (Kd.int .u8) w A1 l1.length l1) (hc1 : l1.length ≤ c1) (h : laws_FnIndexLess.f k l0 l1 = some r) :
  Calls Try.prog 14 #[.slice A0 l0.length c0, .slice A1 l1.length c1] w fun e w' => e = .returned (.bool r) ∧ Below w.heap.size w w' := by
 have hu72 := Try.underlying72
 have hu76 := Try.underlying76
 have HR0 := Aside0.mk hr0
 have HC0 := Aside0.mk hc0
 clear hr0 hc0
 have HR1 := Aside0.mk hr1
 have HC1 := Aside0.mk hc1
 clear hr1 hc1
 have HB := Aside0.mk (Below.refl w.heap.size w)
 have H : (if (l0.length : Int) > 1048576 then (laws_FnIndexLess.j0 k l0 l1 true) else (laws_FnIndexLess.j0 k l0 l1 (decide ((l1.length : Int) > 1048576)))) = some r := h
 clear h
 have HC3 := Aside0.mk H
 clear H
 go_enter Try.func14, Try.ntmps14
 go_upto_region 1 with (fail)
 go_cut [17] (fun v17 wc => ∃ (kq : Nat) (x17_2 : Bool), v17 = .bool x17_2 ∧ Aside0 (laws_FnIndexLess.j0 kq l0 l1 x17_2 = some r) ∧ Aside0 (kq ≤ k) ∧ Aside0 (Below w.heap.size w wc))
 case first =>
  have H := HC3.out
  clear HC3
  by_cases c4 : (l0.length : Int) > 1048576
  ·rw [if_pos c4] at H
   have c4b0 : decide (1048576 < (l0.length : Int)) = true := decide_eq_true c4
   have c4b1 : decide (1048576 < l0.length) = true := decide_eq_true (by omega)
   clear c4
   (first | rw [c4b0] | (simp only [i64_w, i32_w]; rw [c4b0]) | skip)
   have H' := Aside0.mk H
   clear H
   go_wp2
   go_meet
   case rel => exact ⟨_, (true), (by first | rfl | (simp; done) | (simp [*]; done)), H', ⟨by first | omega | exact Nat.le_refl _⟩, ⟨by exact zB HB.out⟩⟩
  ·rw [if_neg c4] at H
   have c4b0 : decide (1048576 < (l0.length : Int)) = false := decide_eq_false c4
   have c4b1 : decide (1048576 < l0.length) = false := decide_eq_false (by omega)
   clear c4
   (first | rw [c4b0] | (simp only [i64_w, i32_w]; rw [c4b0]) | skip)
   have H' := Aside0.mk H
   clear H
   go_wp2
   go_meet
   case rel => exact ⟨_, (decide ((l1.length : Int) > 1048576)), (by first | rfl | (simp; done) | (simp [*]; done)), H', ⟨by first | omega | exact Nat.le_refl _⟩, ⟨by exact zB HB.out⟩⟩
 case rest =>
  clear HC3
  try clear c1
  try clear p2
  try clear c4
  try clear c4b0
  try clear c4b1
  obtain ⟨kq, x17_2, rfl, HA, HJ2, HB⟩ := hcut
  cases kq with
  | zero => exact absurd HA.out (by simp [laws_FnIndexLess.j0])
  | succ kj2 =>
   have H := HA.out
   clear HA
   simp only [laws_FnIndexLess.j0] at H
   by_cases c5 : x17_2 = true
   ·subst c5
    have H1 : (some true) = some r := by rw [if_pos rfl] at H; exact H
    clear H
    have H := H1
    clear H1
    obtain rfl := Option.some.inj H
    go_wp2
    go_ret
    exact ⟨by first | rfl | (simp [errW_none, errW_some] <;> rfl) | (simp [*, errW_none, errW_some] <;> rfl), by exact zB HB.out⟩
   ·replace c5 := Bool.eq_false_iff.mpr c5
    subst c5
    have H1 : ((spec_DrawIndexOk.f kj2 l0).bind fun bt313 => ((impl_IndexOk.f kj2 bt313.1 bt313.2.1 bt313.2.2).bind fun t319 => ((spec_IndexOk.f kj2 bt313.1 bt313.2.1 bt313.2.2).bind fun t320 => (if (t319 != t320) = true then (laws_FnIndexLess.j1 kj2 l1 t319 true bt313.1 bt313.2.1 bt313.2.2) else (if t319 = true then (laws_FnIndexLess.j1 kj2 l1 t319 ((bt313.2.2.length : Int) == 0) bt313.1 bt313.2.1 bt313.2.2) else (laws_FnIndexLess.j1 kj2 l1 t319 true bt313.1 bt313.2.1 bt313.2.2)))))) = some r := by rw [if_neg (show ¬ (false = true) by decide)] at H; exact H
    clear H
    have H := H1
    clear H1
    replace H := Option.bind_eq_some_iff.mp H
    obtain ⟨⟨t313, t314, t315⟩, A60, H⟩ := H
    replace H : ((impl_IndexOk.f kj2 t313 t314 t315).bind fun t319 => ((spec_IndexOk.f kj2 t313 t314 t315).bind fun t320 => (if (t319 != t320) = true then (laws_FnIndexLess.j1 kj2 l1 t319 true t313 t314 t315) else (if t319 = true then (laws_FnIndexLess.j1 kj2 l1 t319 ((t315.length : Int) == 0) t313 t314 t315) else (laws_FnIndexLess.j1 kj2 l1 t319 true t313 t314 t315))))) = some r := H
    have A6 := Aside0.mk A60
    clear A60
    replace H := Option.bind_eq_some_iff.mp H
    obtain ⟨t319, A70, H⟩ := H
    replace H : ((spec_IndexOk.f kj2 t313 t314 t315).bind fun t320 => (if (t319 != t320) = true then (laws_FnIndexLess.j1 kj2 l1 t319 true t313 t314 t315) else (if t319 = true then (laws_FnIndexLess.j1 kj2 l1 t319 ((t315.length : Int) == 0) t313 t314 t315) else (laws_FnIndexLess.j1 kj2 l1 t319 true t313 t314 t315)))) = some r := H
    have A7 := Aside0.mk A70
    clear A70
    have HC8 := Aside0.mk H
    clear H
    go_upto_region 5 with (first | ((with_reducible refine gate_callee (f := 41) rfl ?_); refine goesL_ (some 19) rfl rfl Try.func41 (by kernel_rfl) rfl #[.slice A0 l0.length c0] rfl (by (try simp only [zm1, zm2, zm3]); first | done | rfl | (simp only [List.length_drop, List.length_take]; rfl)) ?_; (with_reducible refine (spec_DrawIndexOk.calls kj2 _ _ l0 t313 t314 t315 _ ?side1 ?side2 A6.out).mono ?_); (case side1 => exact zC (Kd.C_below HR0.out HB.out)); (case side2 => exact HC0.out); rintro e w9 ⟨v316, rfl, ho0, hb⟩; refine ⟨_, rfl, ?_⟩; have n0_ := Aside0.mk (Kd.R_lower ho0 (below_size (by exact zB HB.out))); have n1_ := Aside0.mk (below_step (by exact zB HB.out) hb); clear HB; have HO317 := n0_; have HB := n1_; clear n0_ n1_; (try clear hb); (try clear hb2); (try clear hk); (try clear hi); (try clear ho0)) | ((with_reducible refine gate_dst (N := 5) rfl ?_); (try (refine gate_guard (by rfl) ?_; dsimp only)); refine box_event ?hg (N := 5) ?hd (cs := #[.int .i64 0, .int .i64 0, .slice none 0 0]) (t := 72) ?hr ?_; (case hd => rfl); (case hg => rfl); (case hr => first | (go_simp; done) | (go_simp; rfl)); intro gb318 hg w10 hbox hb; have n0_ := Aside0.mk (Kd.R_below (by exact zR HO317.out) hb); have n1_ := Aside0.mk (below_step (by exact zB HB.out) hb); have n2_ := Aside0.mk (hbox); have n3_ := Aside0.mk ((by rw [hg]; exact (below_size (by exact zB HB.out)) : w.heap.size ≤ gb318)); have n4_ := Aside0.mk ((by rw [hg]; exact (below_size (by exact zB HB.out)) : w.heap.size ≤ gb318)); clear HO317; clear HB; have HO317 := n0_; have HB := n1_; have BK318 := n2_; have GW318 := n3_; have GE318 := n4_; clear n0_ n1_ n2_ n3_ n4_; clear hb hbox hg; obtain ⟨hcz11_0, hcz11_1, hcz11_2, hfz11_0, hfz11_1, hfz11_2⟩ := zc3f BK318.out; obtain ⟨Ao12, co12, eo12⟩ := Kd.R_slice HO317.out; subst eo12) | ((with_reducible refine gate_callee (f := 42) rfl ?_); refine goesL_ (some 21) rfl rfl Try.func42 (by kernel_rfl) rfl #[.agg #[.int .i64 t313, .int .i64 t314, .slice Ao12 t315.length co12]] rfl (by (try simp only [zm1, zm2, zm3]); first | done | rfl | (simp only [List.length_drop, List.length_take]; rfl)) ?_; (with_reducible refine (impl_IndexOk.calls kj2 t313 t314 _ _ t315 t319 _ ?side1 ?side2 A7.out).mono ?_); (case side1 => refine (Kd.R_reads' (e := 76) (base := w.heap.size) (ok := fun k_ => True) (n := t315.length) (c := co12) ?_).2.2; exact (by exact zR (Kd.R_mono (Kd.R_far (p := ⟨gb318, 2, none⟩) (Kd.R_far (p := ⟨gb318, 1, none⟩) (Kd.R_far (p := ⟨gb318, 0, none⟩) (Kd.R_types HO317.out BK318.out (by decide)) (fun _ hk => hk.2) (.int .i64 t313)) (fun _ hk => hk.2) (.int .i64 t314)) (fun _ hk => hk.2) (.slice Ao12 t315.length co12)) (fun _ h_ => h_.1)))); (case side2 => exact (Kd.R_reads' HO317.out).2.1); rintro e w13 ⟨rfl, hb⟩; refine ⟨_, rfl, ?_⟩; have n0_ := Aside0.mk (Kd.R_below (by exact zR (Kd.R_mono (Kd.R_far (p := ⟨gb318, 2, none⟩) (Kd.R_far (p := ⟨gb318, 1, none⟩) (Kd.R_far (p := ⟨gb318, 0, none⟩) (Kd.R_types HO317.out BK318.out (by decide)) (fun _ hk => hk.2) (.int .i64 t313)) (fun _ hk => hk.2) (.int .i64 t314)) (fun _ hk => hk.2) (.slice Ao12 t315.length co12)) (fun _ h_ => h_.1))) hb); have n1_ := Aside0.mk (blk_below (g := gb318) (o := .cells #[.int .i64 t313, .int .i64 t314, .slice Ao12 t315.length co12] 72 (0, 0)) (by (with_reducible repeat (first | refine blk_drewN ?_ _ | refine blk_drew ?_ | refine blk_alloc ?_ _)); refine blk_put (cs := #[.int .i64 t313, .int .i64 t314, .slice none 0 0]) ?_ 2 _ rfl; (with_reducible repeat (first | refine blk_drewN ?_ _ | refine blk_drew ?_ | refine blk_alloc ?_ _)); refine blk_put (cs := #[.int .i64 t313, .int .i64 0, .slice none 0 0]) ?_ 1 _ rfl; (with_reducible repeat (first | refine blk_drewN ?_ _ | refine blk_drew ?_ | refine blk_alloc ?_ _)); refine blk_put (cs := #[.int .i64 0, .int .i64 0, .slice none 0 0]) ?_ 0 _ rfl; exact zK BK318.out) hb); have n2_ := Aside0.mk (below_step (by exact zB1 HB.out GE318.out) hb); clear HO317; clear BK318; clear HB; have HO317 := n0_; have BK318 := n1_; have HB := n2_; clear n0_ n1_ n2_; (try clear hb); (try clear hb2); (try clear hk); (try clear hi)))
    (try simp only [zp0, zp1, zp2, zp3, zp4])
    go_cut [35] (fun v35 wc => ∃ (kq : Nat) (x35_7 : Bool), v35 = .bool x35_7 ∧ Aside0 (laws_FnIndexLess.j1 kq l1 t319 x35_7 t313 t314 t315 = some r) ∧ Aside0 (kq ≤ kj2) ∧ Aside0 (Kd.R k76 76 wc w.heap.size (fun _ => True) (.slice Ao12 t315.length co12) t315) ∧ Aside0 (wc.heap[gb318]? = some (.cells #[.int .i64 t313, .int .i64 t314, (.slice Ao12 t315.length co12)] 72 (0, 0))) ∧ Aside0 (Below w.heap.size w wc))
    case first =>
     have H := HC8.out
     clear HC8
     replace H := Option.bind_eq_some_iff.mp H
     obtain ⟨t320, A140, H⟩ := H
     replace H : (if (t319 != t320) = true then (laws_FnIndexLess.j1 kj2 l1 t319 true t313 t314 t315) else (if t319 = true then (laws_FnIndexLess.j1 kj2 l1 t319 ((t315.length : Int) == 0) t313 t314 t315) else (laws_FnIndexLess.j1 kj2 l1 t319 true t313 t314 t315))) = some r := H
     have A14 := Aside0.mk A140
     clear A140
     by_cases c15 : (t319 != t320) = true
     ·rw [if_pos c15] at H
      have c15b0 : (t319 != t320) = true := c15
      (try (have c15b1 : decide (t319 = t320) = false := by simpa using c15))
      (try (have c15b2 : (t319 == t320) = false := by simpa using c15))
      (try (have c15b3 : ¬ (t319 = t320) := by simpa using c15))
      clear c15
      (first | rw [c15b0] | (simp only [i64_w, i32_w]; rw [c15b0]) | skip)
      have H' := Aside0.mk H
      clear H
      obtain ⟨hcz16_0, hcz16_1, hcz16_2, hfz16_0, hfz16_1, hfz16_2⟩ := zc3f BK318.out
      go_wp2_with (first | ((with_reducible refine gate_callee (f := 43) rfl ?_); refine goesL_ (some 24) rfl rfl Try.func43 (by kernel_rfl) rfl #[.agg #[.int .i64 t313, .int .i64 t314, .slice Ao12 t315.length co12]] rfl (by (try simp only [zm1, zm2, zm3]); first | done | rfl | (simp only [List.length_drop, List.length_take]; rfl)) ?_; (with_reducible refine (spec_IndexOk.calls kj2 t313 t314 _ _ t315 t320 _ ?side1 ?side2 A14.out).mono ?_); (case side1 => exact zC (Kd.R_reads' HO317.out).2.2); (case side2 => exact (Kd.R_reads' HO317.out).2.1); rintro e w17 ⟨rfl, hb⟩; refine ⟨_, rfl, ?_⟩; have n0_ := Aside0.mk (Kd.R_below (by exact zR HO317.out) hb); have n1_ := Aside0.mk (blk_below (g := gb318) (o := .cells #[.int .i64 t313, .int .i64 t314, .slice Ao12 t315.length co12] 72 (0, 0)) (by exact zK BK318.out) hb); have n2_ := Aside0.mk (below_step (by exact zB1 HB.out GE318.out) hb); clear HO317; clear BK318; clear HB; have HO317 := n0_; have BK318 := n1_; have HB := n2_; clear n0_ n1_ n2_; (try clear hb); (try clear hb2); (try clear hk); (try clear hi)))
      go_meet
      case rel => exact ⟨_, (true), (by first | rfl | (simp; done) | (simp [*]; done)), H', ⟨by have := HJ2.out; first | omega | exact Nat.le_refl _⟩, ⟨by exact zR HO317.out⟩, ⟨by exact zK BK318.out⟩, ⟨by exact zB1 HB.out GE318.out⟩⟩
     ·rw [if_neg c15] at H
      have c15b0 : (t319 != t320) = false := by simpa using c15
      (try (have c15b1 : decide (t319 = t320) = true := by simpa using c15))
      (try (have c15b2 : (t319 == t320) = true := by simpa using c15))
      clear c15
      (first | rw [c15b0] | (simp only [i64_w, i32_w]; rw [c15b0]) | skip)
      by_cases c18 : t319 = true
      ·subst c18
       have H1 : (laws_FnIndexLess.j1 kj2 l1 true ((t315.length : Int) == 0) t313 t314 t315) = some r := by rw [if_pos rfl] at H; exact H
       clear H
       have H := H1
       clear H1
       have H' := Aside0.mk H
       clear H
       obtain ⟨hcz19_0, hcz19_1, hcz19_2, hfz19_0, hfz19_1, hfz19_2⟩ := zc3f BK318.out
       go_wp2_with (first | ((with_reducible refine gate_callee (f := 43) rfl ?_); refine goesL_ (some 24) rfl rfl Try.func43 (by kernel_rfl) rfl #[.agg #[.int .i64 t313, .int .i64 t314, .slice Ao12 t315.length co12]] rfl (by (try simp only [zm1, zm2, zm3]); first | done | rfl | (simp only [List.length_drop, List.length_take]; rfl)) ?_; (with_reducible refine (spec_IndexOk.calls kj2 t313 t314 _ _ t315 t320 _ ?side1 ?side2 A14.out).mono ?_); (case side1 => exact zC (Kd.R_reads' HO317.out).2.2); (case side2 => exact (Kd.R_reads' HO317.out).2.1); rintro e w20 ⟨rfl, hb⟩; refine ⟨_, rfl, ?_⟩; have n0_ := Aside0.mk (Kd.R_below (by exact zR HO317.out) hb); have n1_ := Aside0.mk (blk_below (g := gb318) (o := .cells #[.int .i64 t313, .int .i64 t314, .slice Ao12 t315.length co12] 72 (0, 0)) (by exact zK BK318.out) hb); have n2_ := Aside0.mk (below_step (by exact zB1 HB.out GE318.out) hb); clear HO317; clear BK318; clear HB; have HO317 := n0_; have BK318 := n1_; have HB := n2_; clear n0_ n1_ n2_; (try clear hb); (try clear hb2); (try clear hk); (try clear hi); obtain ⟨hcz21_0, hcz21_1, hcz21_2, hfz21_0, hfz21_1, hfz21_2⟩ := zc3f BK318.out))
       go_meet
       case rel => exact ⟨_, (((t315.length : Int) == 0)), (by first | rfl | (simp; done) | (simp [*]; done)), H', ⟨by have := HJ2.out; first | omega | exact Nat.le_refl _⟩, ⟨by exact zR HO317.out⟩, ⟨by exact zK BK318.out⟩, ⟨by exact zB1 HB.out GE318.out⟩⟩
      ·replace c18 := Bool.eq_false_iff.mpr c18
       subst c18
       have H1 : (laws_FnIndexLess.j1 kj2 l1 false true t313 t314 t315) = some r := by rw [if_neg (show ¬ (false = true) by decide)] at H; exact H
       clear H
       have H := H1
       clear H1
       have H' := Aside0.mk H
       clear H
       obtain ⟨hcz22_0, hcz22_1, hcz22_2, hfz22_0, hfz22_1, hfz22_2⟩ := zc3f BK318.out
       go_wp2_with (first | ((with_reducible refine gate_callee (f := 43) rfl ?_); refine goesL_ (some 24) rfl rfl Try.func43 (by kernel_rfl) rfl #[.agg #[.int .i64 t313, .int .i64 t314, .slice Ao12 t315.length co12]] rfl (by (try simp only [zm1, zm2, zm3]); first | done | rfl | (simp only [List.length_drop, List.length_take]; rfl)) ?_; (with_reducible refine (spec_IndexOk.calls kj2 t313 t314 _ _ t315 t320 _ ?side1 ?side2 A14.out).mono ?_); (case side1 => exact zC (Kd.R_reads' HO317.out).2.2); (case side2 => exact (Kd.R_reads' HO317.out).2.1); rintro e w23 ⟨rfl, hb⟩; refine ⟨_, rfl, ?_⟩; have n0_ := Aside0.mk (Kd.R_below (by exact zR HO317.out) hb); have n1_ := Aside0.mk (blk_below (g := gb318) (o := .cells #[.int .i64 t313, .int .i64 t314, .slice Ao12 t315.length co12] 72 (0, 0)) (by exact zK BK318.out) hb); have n2_ := Aside0.mk (below_step (by exact zB1 HB.out GE318.out) hb); clear HO317; clear BK318; clear HB; have HO317 := n0_; have BK318 := n1_; have HB := n2_; clear n0_ n1_ n2_; (try clear hb); (try clear hb2); (try clear hk); (try clear hi)))
       go_meet
       case rel => exact ⟨_, (true), (by first | rfl | (simp; done) | (simp [*]; done)), H', ⟨by have := HJ2.out; first | omega | exact Nat.le_refl _⟩, ⟨by exact zR HO317.out⟩, ⟨by exact zK BK318.out⟩, ⟨by exact zB1 HB.out GE318.out⟩⟩
    case rest =>
     clear HC8
     try clear c1
     try clear p2
     try clear c4
     try clear c4b0
     try clear c4b1
     try clear c5
     try clear c14
     try clear c15
     try clear c15b0
     try clear c15b1
     try clear c15b2
     try clear c18
     try clear hcz11_0
     try clear hcz11_1
     try clear hcz11_2
     try clear hcz16_0
     try clear hcz16_1
     try clear hcz16_2
     try clear hcz19_0
     try clear hcz19_1
     try clear hcz19_2
     try clear hcz21_0
     try clear hcz21_1
     try clear hcz21_2
     try clear hcz22_0
     try clear hcz22_1
     try clear hcz22_2
     try clear hfz11_0
     try clear hfz11_1
     try clear hfz11_2
     try clear hfz16_0
     try clear hfz16_1
     try clear hfz16_2
     try clear hfz19_0
     try clear hfz19_1
     try clear hfz19_2
     try clear hfz21_0
     try clear hfz21_1
     try clear hfz21_2
     try clear hfz22_0
     try clear hfz22_1
     try clear hfz22_2
     try clear p2
     obtain ⟨kq, x35_7, rfl, HA, HJ7, HO_319002, BK318, HB⟩ := hcut
     cases kq with
     | zero => exact absurd HA.out (by simp [laws_FnIndexLess.j1])
     | succ kj7 =>
      have H := HA.out
      clear HA
      simp only [laws_FnIndexLess.j1] at H
      by_cases c24 : x35_7 = true
      ·subst c24
       have H1 : ((spec_IndexOk.f kj7 t313 t314 t315).bind fun t321 => (some (t319 == t321))) = some r := by rw [if_pos rfl] at H; exact H
       clear H
       have H := H1
       clear H1
       replace H := Option.bind_eq_some_iff.mp H
       obtain ⟨t321, A250, H⟩ := H
       replace H : (some (t319 == t321)) = some r := H
       have A25 := Aside0.mk A250
       clear A250
       obtain rfl := Option.some.inj H
       obtain ⟨hcz26_0, hcz26_1, hcz26_2, hfz26_0, hfz26_1, hfz26_2⟩ := zc3f BK318.out
       go_wp2_with (first | ((with_reducible refine gate_callee (f := 43) rfl ?_); refine goesL_ (some 38) rfl rfl Try.func43 (by kernel_rfl) rfl #[.agg #[.int .i64 t313, .int .i64 t314, .slice Ao12 t315.length co12]] rfl (by (try simp only [zm1, zm2, zm3]); first | done | rfl | (simp only [List.length_drop, List.length_take]; rfl)) ?_; (with_reducible refine (spec_IndexOk.calls kj7 t313 t314 _ _ t315 t321 _ ?side1 ?side2 A25.out).mono ?_); (case side1 => exact zC (Kd.R_reads' HO_319002.out).2.2); (case side2 => exact (Kd.R_reads' HO_319002.out).2.1); rintro e w27 ⟨rfl, hb⟩; refine ⟨_, rfl, ?_⟩; have n0_ := Aside0.mk (Kd.R_below (by exact zR HO_319002.out) hb); have n1_ := Aside0.mk (blk_below (g := gb318) (o := .cells #[.int .i64 t313, .int .i64 t314, .slice Ao12 t315.length co12] 72 (0, 0)) (by exact zK BK318.out) hb); have n2_ := Aside0.mk (below_step (by exact zB1 HB.out GE318.out) hb); clear HO_319002; clear BK318; clear HB; have HO_319002 := n0_; have BK318 := n1_; have HB := n2_; clear n0_ n1_ n2_; (try clear hb); (try clear hb2); (try clear hk); (try clear hi)))
       go_ret
       exact ⟨by first | rfl | (simp [errW_none, errW_some] <;> rfl) | (simp [*, errW_none, errW_some] <;> rfl), by exact zB1 HB.out GE318.out⟩
      ·replace c24 := Bool.eq_false_iff.mpr c24
       subst c24
       have H1 : (if (t315.length : Int) = 0 then (none) else ((some (([] : List (S76)) : List (S76))).bind fun y323 => (if 0 ≤ ((l1.length : Int) % (t315.length : Int)) then (if ((l1.length : Int) % (t315.length : Int)) ≤ (t315.length : Int) then ((some (t315.take (((l1.length : Int) % (t315.length : Int)) : Int).toNat : List (S76))).bind fun y326 => (if y323.length + y326.length < 5864062014805 then ((some (y323 ++ y326 : List (S76))).bind fun y330 => (if 0 ≤ (wrap64 (((l1.length : Int) % (t315.length : Int)) + 1)) then (if (wrap64 (((l1.length : Int) % (t315.length : Int)) + 1)) ≤ (t315.length : Int) then ((some (t315.drop ((wrap64 (((l1.length : Int) % (t315.length : Int)) + 1)) : Int).toNat : List (S76))).bind fun y333 => (if y330.length + y333.length < 5864062014805 then ((some (([] : List (S76)) : List (S76))).bind fun y341 => (if y341.length + t315.length < 5864062014805 then ((some (y341 ++ t315 : List (S76))).bind fun y344 => (if ((l1.length : Int) % (t315.length : Int)) < (t315.length : Int) then ((some (([(⟨(rd_T76 t315 ((l1.length : Int) % (t315.length : Int))).f0, (rd_T76 t315 ((l1.length : Int) % (t315.length : Int))).f1, (rd_T76 t315 ((l1.length : Int) % (t315.length : Int))).f2⟩ : S76)] : List (S76)) : List (S76))).bind fun y348 => (if y344.length + y348.length < 5864062014805 then ((impl_IndexOk.f kj7 t313 t314 (y330 ++ y333)).bind fun t354 => (if t354 = true then ((impl_IndexOk.f kj7 t313 t314 (y344 ++ y348)).bind fun t355 => (some (!t355))) else (none))) else (none))) else (none))) else (none))) else (none))) else (none)) else (none))) else (none))) else (none)) else (none)))) = some r := by rw [if_neg (show ¬ (false = true) by decide)] at H; exact H
       clear H
       have H := H1
       clear H1
       by_cases c28 : (t315.length : Int) = 0
       ·rw [if_pos c28] at H
        exact absurd H (by simp)
       ·rw [if_neg c28] at H
        have c28b0 : ((t315.length : Int) == 0) = false := beq_eq_false_iff_ne.mpr c28
        have c28b1 : ((t315.length : Int) != 0) = true := bne_iff_ne.mpr c28
        have c28b2 : ¬ (t315 = []) := fun h_ => c28 (by rw [h_]; rfl)
        obtain ⟨y323, hy323⟩ : ∃ y_ : List (S76), y_ = (([] : List (S76))) := ⟨_, rfl⟩
        replace H : (if 0 ≤ ((l1.length : Int) % (t315.length : Int)) then (if ((l1.length : Int) % (t315.length : Int)) ≤ (t315.length : Int) then ((some (t315.take (((l1.length : Int) % (t315.length : Int)) : Int).toNat : List (S76))).bind fun y326 => (if y323.length + y326.length < 5864062014805 then ((some (y323 ++ y326 : List (S76))).bind fun y330 => (if 0 ≤ (wrap64 (((l1.length : Int) % (t315.length : Int)) + 1)) then (if (wrap64 (((l1.length : Int) % (t315.length : Int)) + 1)) ≤ (t315.length : Int) then ((some (t315.drop ((wrap64 (((l1.length : Int) % (t315.length : Int)) + 1)) : Int).toNat : List (S76))).bind fun y333 => (if y330.length + y333.length < 5864062014805 then ((some (([] : List (S76)) : List (S76))).bind fun y341 => (if y341.length + t315.length < 5864062014805 then ((some (y341 ++ t315 : List (S76))).bind fun y344 => (if ((l1.length : Int) % (t315.length : Int)) < (t315.length : Int) then ((some (([(⟨(rd_T76 t315 ((l1.length : Int) % (t315.length : Int))).f0, (rd_T76 t315 ((l1.length : Int) % (t315.length : Int))).f1, (rd_T76 t315 ((l1.length : Int) % (t315.length : Int))).f2⟩ : S76)] : List (S76)) : List (S76))).bind fun y348 => (if y344.length + y348.length < 5864062014805 then ((impl_IndexOk.f kj7 t313 t314 (y330 ++ y333)).bind fun t354 => (if t354 = true then ((impl_IndexOk.f kj7 t313 t314 (y344 ++ y348)).bind fun t355 => (some (!t355))) else (none))) else (none))) else (none))) else (none))) else (none))) else (none)) else (none))) else (none))) else (none)) else (none)) = some r := by first | (rw [hy323]; with_reducible exact H) | (have H2_ := (Option.bind_some _ _).symm.trans H; rw [hy323]; with_reducible exact H2_) | (have H2_ := (Option.bind_some _ _).symm.trans H; with_reducible exact H2_) | with_reducible exact H | (rw [hy323]; exact H) | exact H
        have Ny323 := Aside0.mk hy323
        clear hy323
        obtain ⟨ji29, hji29⟩ : ∃ j_ : Int, ((l1.length : Int) % (t315.length : Int)) = j_ := ⟨_, rfl⟩
        replace H : (if 0 ≤ (ji29) then (if (ji29) ≤ (t315.length : Int) then ((some (t315.take ((ji29) : Int).toNat : List (S76))).bind fun y326 => (if y323.length + y326.length < 5864062014805 then ((some (y323 ++ y326 : List (S76))).bind fun y330 => (if 0 ≤ (wrap64 ((ji29) + 1)) then (if (wrap64 ((ji29) + 1)) ≤ (t315.length : Int) then ((some (t315.drop ((wrap64 ((ji29) + 1)) : Int).toNat : List (S76))).bind fun y333 => (if y330.length + y333.length < 5864062014805 then ((some (([] : List (S76)) : List (S76))).bind fun y341 => (if y341.length + t315.length < 5864062014805 then ((some (y341 ++ t315 : List (S76))).bind fun y344 => (if (ji29) < (t315.length : Int) then ((some (([(⟨(rd_T76 t315 (ji29)).f0, (rd_T76 t315 (ji29)).f1, (rd_T76 t315 (ji29)).f2⟩ : S76)] : List (S76)) : List (S76))).bind fun y348 => (if y344.length + y348.length < 5864062014805 then ((impl_IndexOk.f kj7 t313 t314 (y330 ++ y333)).bind fun t354 => (if t354 = true then ((impl_IndexOk.f kj7 t313 t314 (y344 ++ y348)).bind fun t355 => (some (!t355))) else (none))) else (none))) else (none))) else (none))) else (none))) else (none)) else (none))) else (none))) else (none)) else (none)) = some r := by first | (rw [hji29] at H; exact H) | (simp only [hji29] at H ⊢; exact H)
        by_cases c30 : 0 ≤ (ji29)
        ·rw [if_pos c30] at H
         have c30b0 := eq_true c30
         have c30b1 : decide (0 ≤ (ji29)) = true := decide_eq_true c30
         clear c30
         by_cases c31 : (ji29) ≤ (t315.length : Int)
         ·rw [if_pos c31] at H
          have c31b0 := eq_true c31
          have c31b1 : decide ((ji29) ≤ (t315.length : Int)) = true := decide_eq_true c31
          clear c31
          obtain ⟨y326, hy326⟩ : ∃ y_ : List (S76), y_ = (t315.take ((ji29) : Int).toNat) := ⟨_, rfl⟩
          replace H : (if y323.length + y326.length < 5864062014805 then ((some (y323 ++ y326 : List (S76))).bind fun y330 => (if 0 ≤ (wrap64 ((ji29) + 1)) then (if (wrap64 ((ji29) + 1)) ≤ (t315.length : Int) then ((some (t315.drop ((wrap64 ((ji29) + 1)) : Int).toNat : List (S76))).bind fun y333 => (if y330.length + y333.length < 5864062014805 then ((some (([] : List (S76)) : List (S76))).bind fun y341 => (if y341.length + t315.length < 5864062014805 then ((some (y341 ++ t315 : List (S76))).bind fun y344 => (if (ji29) < (t315.length : Int) then ((some (([(⟨(rd_T76 t315 (ji29)).f0, (rd_T76 t315 (ji29)).f1, (rd_T76 t315 (ji29)).f2⟩ : S76)] : List (S76)) : List (S76))).bind fun y348 => (if y344.length + y348.length < 5864062014805 then ((impl_IndexOk.f kj7 t313 t314 (y330 ++ y333)).bind fun t354 => (if t354 = true then ((impl_IndexOk.f kj7 t313 t314 (y344 ++ y348)).bind fun t355 => (some (!t355))) else (none))) else (none))) else (none))) else (none))) else (none))) else (none)) else (none))) else (none)) = some r := by first | (rw [hy326]; with_reducible exact H) | (have H2_ := (Option.bind_some _ _).symm.trans H; rw [hy326]; with_reducible exact H2_) | (have H2_ := (Option.bind_some _ _).symm.trans H; with_reducible exact H2_) | with_reducible exact H | (rw [hy326]; exact H) | exact H
          have Ny326 := Aside0.mk hy326
          clear hy326
          by_cases c32 : y323.length + y326.length < 5864062014805
          ·rw [if_pos c32] at H
           have LMc32 := Aside0.mk c32
           clear c32
           obtain ⟨y330, hy330⟩ : ∃ y_ : List (S76), y_ = (y323 ++ y326) := ⟨_, rfl⟩
           replace H : (if 0 ≤ (wrap64 ((ji29) + 1)) then (if (wrap64 ((ji29) + 1)) ≤ (t315.length : Int) then ((some (t315.drop ((wrap64 ((ji29) + 1)) : Int).toNat : List (S76))).bind fun y333 => (if y330.length + y333.length < 5864062014805 then ((some (([] : List (S76)) : List (S76))).bind fun y341 => (if y341.length + t315.length < 5864062014805 then ((some (y341 ++ t315 : List (S76))).bind fun y344 => (if (ji29) < (t315.length : Int) then ((some (([(⟨(rd_T76 t315 (ji29)).f0, (rd_T76 t315 (ji29)).f1, (rd_T76 t315 (ji29)).f2⟩ : S76)] : List (S76)) : List (S76))).bind fun y348 => (if y344.length + y348.length < 5864062014805 then ((impl_IndexOk.f kj7 t313 t314 (y330 ++ y333)).bind fun t354 => (if t354 = true then ((impl_IndexOk.f kj7 t313 t314 (y344 ++ y348)).bind fun t355 => (some (!t355))) else (none))) else (none))) else (none))) else (none))) else (none))) else (none)) else (none)) = some r := by first | (rw [hy330]; with_reducible exact H) | (have H2_ := (Option.bind_some _ _).symm.trans H; rw [hy330]; with_reducible exact H2_) | (have H2_ := (Option.bind_some _ _).symm.trans H; with_reducible exact H2_) | with_reducible exact H | (rw [hy330]; exact H) | exact H
           have Ny330 := Aside0.mk hy330
           clear hy330
           obtain ⟨ji33, hji33⟩ : ∃ j_ : Int, (wrap64 ((ji29) + 1)) = j_ := ⟨_, rfl⟩
           replace H : (if 0 ≤ (ji33) then (if (ji33) ≤ (t315.length : Int) then ((some (t315.drop ((ji33) : Int).toNat : List (S76))).bind fun y333 => (if y330.length + y333.length < 5864062014805 then ((some (([] : List (S76)) : List (S76))).bind fun y341 => (if y341.length + t315.length < 5864062014805 then ((some (y341 ++ t315 : List (S76))).bind fun y344 => (if (ji29) < (t315.length : Int) then ((some (([(⟨(rd_T76 t315 (ji29)).f0, (rd_T76 t315 (ji29)).f1, (rd_T76 t315 (ji29)).f2⟩ : S76)] : List (S76)) : List (S76))).bind fun y348 => (if y344.length + y348.length < 5864062014805 then ((impl_IndexOk.f kj7 t313 t314 (y330 ++ y333)).bind fun t354 => (if t354 = true then ((impl_IndexOk.f kj7 t313 t314 (y344 ++ y348)).bind fun t355 => (some (!t355))) else (none))) else (none))) else (none))) else (none))) else (none))) else (none)) else (none)) = some r := by first | (rw [hji33] at H; exact H) | (simp only [hji33] at H ⊢; exact H)
           have hji33w : (IntKind.i64.wrap ((ji29) + 1)) = ji33 := (i64_w _).trans hji33
           by_cases c34 : 0 ≤ (ji33)
           ·rw [if_pos c34] at H
            have c34b0 := eq_true c34
            have c34b1 : decide (0 ≤ (ji33)) = true := decide_eq_true c34
            clear c34
            by_cases c35 : (ji33) ≤ (t315.length : Int)
            ·rw [if_pos c35] at H
             have c35b0 := eq_true c35
             have c35b1 : decide ((ji33) ≤ (t315.length : Int)) = true := decide_eq_true c35
             clear c35
             obtain ⟨y333, hy333⟩ : ∃ y_ : List (S76), y_ = (t315.drop ((ji33) : Int).toNat) := ⟨_, rfl⟩
             replace H : (if y330.length + y333.length < 5864062014805 then ((some (([] : List (S76)) : List (S76))).bind fun y341 => (if y341.length + t315.length < 5864062014805 then ((some (y341 ++ t315 : List (S76))).bind fun y344 => (if (ji29) < (t315.length : Int) then ((some (([(⟨(rd_T76 t315 (ji29)).f0, (rd_T76 t315 (ji29)).f1, (rd_T76 t315 (ji29)).f2⟩ : S76)] : List (S76)) : List (S76))).bind fun y348 => (if y344.length + y348.length < 5864062014805 then ((impl_IndexOk.f kj7 t313 t314 (y330 ++ y333)).bind fun t354 => (if t354 = true then ((impl_IndexOk.f kj7 t313 t314 (y344 ++ y348)).bind fun t355 => (some (!t355))) else (none))) else (none))) else (none))) else (none))) else (none)) = some r := by first | (rw [hy333]; with_reducible exact H) | (have H2_ := (Option.bind_some _ _).symm.trans H; rw [hy333]; with_reducible exact H2_) | (have H2_ := (Option.bind_some _ _).symm.trans H; with_reducible exact H2_) | with_reducible exact H | (rw [hy333]; exact H) | exact H
             have Ny333 := Aside0.mk hy333
             clear hy333
             by_cases c36 : y330.length + y333.length < 5864062014805
             ·rw [if_pos c36] at H
              have LMc36 := Aside0.mk c36
              clear c36
              obtain ⟨y337, hy337⟩ : ∃ y_ : List (S76), y_ = (y330 ++ y333) := ⟨_, rfl⟩
              replace H : ((some (([] : List (S76)) : List (S76))).bind fun y341 => (if y341.length + t315.length < 5864062014805 then ((some (y341 ++ t315 : List (S76))).bind fun y344 => (if (ji29) < (t315.length : Int) then ((some (([(⟨(rd_T76 t315 (ji29)).f0, (rd_T76 t315 (ji29)).f1, (rd_T76 t315 (ji29)).f2⟩ : S76)] : List (S76)) : List (S76))).bind fun y348 => (if y344.length + y348.length < 5864062014805 then ((impl_IndexOk.f kj7 t313 t314 y337).bind fun t354 => (if t354 = true then ((impl_IndexOk.f kj7 t313 t314 (y344 ++ y348)).bind fun t355 => (some (!t355))) else (none))) else (none))) else (none))) else (none))) = some r := by first | (rw [hy337]; with_reducible exact H) | (have H2_ := (Option.bind_some _ _).symm.trans H; rw [hy337]; with_reducible exact H2_) | (have H2_ := (Option.bind_some _ _).symm.trans H; with_reducible exact H2_) | with_reducible exact H | (rw [hy337]; exact H) | exact H
              have Ny337 := Aside0.mk hy337
              clear hy337
              obtain ⟨y341, hy341⟩ : ∃ y_ : List (S76), y_ = (([] : List (S76))) := ⟨_, rfl⟩
              replace H : (if y341.length + t315.length < 5864062014805 then ((some (y341 ++ t315 : List (S76))).bind fun y344 => (if (ji29) < (t315.length : Int) then ((some (([(⟨(rd_T76 t315 (ji29)).f0, (rd_T76 t315 (ji29)).f1, (rd_T76 t315 (ji29)).f2⟩ : S76)] : List (S76)) : List (S76))).bind fun y348 => (if y344.length + y348.length < 5864062014805 then ((impl_IndexOk.f kj7 t313 t314 y337).bind fun t354 => (if t354 = true then ((impl_IndexOk.f kj7 t313 t314 (y344 ++ y348)).bind fun t355 => (some (!t355))) else (none))) else (none))) else (none))) else (none)) = some r := by first | (rw [hy341]; with_reducible exact H) | (have H2_ := (Option.bind_some _ _).symm.trans H; rw [hy341]; with_reducible exact H2_) | (have H2_ := (Option.bind_some _ _).symm.trans H; with_reducible exact H2_) | with_reducible exact H | (rw [hy341]; exact H) | exact H
              have Ny341 := Aside0.mk hy341
              clear hy341
              by_cases c37 : y341.length + t315.length < 5864062014805
              ·rw [if_pos c37] at H
               have LMc37 := Aside0.mk c37
               clear c37
               obtain ⟨y344, hy344⟩ : ∃ y_ : List (S76), y_ = (y341 ++ t315) := ⟨_, rfl⟩
               replace H : (if (ji29) < (t315.length : Int) then ((some (([(⟨(rd_T76 t315 (ji29)).f0, (rd_T76 t315 (ji29)).f1, (rd_T76 t315 (ji29)).f2⟩ : S76)] : List (S76)) : List (S76))).bind fun y348 => (if y344.length + y348.length < 5864062014805 then ((impl_IndexOk.f kj7 t313 t314 y337).bind fun t354 => (if t354 = true then ((impl_IndexOk.f kj7 t313 t314 (y344 ++ y348)).bind fun t355 => (some (!t355))) else (none))) else (none))) else (none)) = some r := by first | (rw [hy344]; with_reducible exact H) | (have H2_ := (Option.bind_some _ _).symm.trans H; rw [hy344]; with_reducible exact H2_) | (have H2_ := (Option.bind_some _ _).symm.trans H; with_reducible exact H2_) | with_reducible exact H | (rw [hy344]; exact H) | exact H
               have Ny344 := Aside0.mk hy344
               clear hy344
               by_cases c38 : (ji29) < (t315.length : Int)
               ·rw [if_pos c38] at H
                have c38b0 : decide ((ji29) < (t315.length : Int)) = true := decide_eq_true c38
                clear c38
                obtain ⟨y348, hy348⟩ : ∃ y_ : List (S76), y_ = (([(⟨(rd_T76 t315 (ji29)).f0, (rd_T76 t315 (ji29)).f1, (rd_T76 t315 (ji29)).f2⟩ : S76)] : List (S76))) := ⟨_, rfl⟩
                replace H : (if y344.length + y348.length < 5864062014805 then ((impl_IndexOk.f kj7 t313 t314 y337).bind fun t354 => (if t354 = true then ((impl_IndexOk.f kj7 t313 t314 (y344 ++ y348)).bind fun t355 => (some (!t355))) else (none))) else (none)) = some r := by first | (rw [hy348]; with_reducible exact H) | (have H2_ := (Option.bind_some _ _).symm.trans H; rw [hy348]; with_reducible exact H2_) | (have H2_ := (Option.bind_some _ _).symm.trans H; with_reducible exact H2_) | with_reducible exact H | (rw [hy348]; exact H) | exact H
                have Ny348 := Aside0.mk hy348
                clear hy348
                by_cases c39 : y344.length + y348.length < 5864062014805
                ·rw [if_pos c39] at H
                 have LMc39 := Aside0.mk c39
                 clear c39
                 obtain ⟨y351, hy351⟩ : ∃ y_ : List (S76), y_ = (y344 ++ y348) := ⟨_, rfl⟩
                 replace H : ((impl_IndexOk.f kj7 t313 t314 y337).bind fun t354 => (if t354 = true then ((impl_IndexOk.f kj7 t313 t314 y351).bind fun t355 => (some (!t355))) else (none))) = some r := by first | (rw [hy351]; with_reducible exact H) | (have H2_ := (Option.bind_some _ _).symm.trans H; rw [hy351]; with_reducible exact H2_) | (have H2_ := (Option.bind_some _ _).symm.trans H; with_reducible exact H2_) | with_reducible exact H | (rw [hy351]; exact H) | exact H
                 have Ny351 := Aside0.mk hy351
                 clear hy351
                 replace H := Option.bind_eq_some_iff.mp H
                 obtain ⟨t354, A400, H⟩ := H
                 replace H : (if t354 = true then ((impl_IndexOk.f kj7 t313 t314 y351).bind fun t355 => (some (!t355))) else (none)) = some r := H
                 have A40 := Aside0.mk A400
                 clear A400
                 by_cases c41 : t354 = true
                 ·subst c41
                  have H1 : ((impl_IndexOk.f kj7 t313 t314 y351).bind fun t355 => (some (!t355))) = some r := by rw [if_pos rfl] at H; exact H
                  clear H
                  have H := H1
                  clear H1
                  replace H := Option.bind_eq_some_iff.mp H
                  obtain ⟨t355, A420, H⟩ := H
                  replace H : (some (!t355)) = some r := H
                  have A42 := Aside0.mk A420
                  clear A420
                  obtain rfl := Option.some.inj H
                  obtain ⟨hcz43_0, hcz43_1, hcz43_2, hfz43_0, hfz43_1, hfz43_2⟩ := zc3f BK318.out
                  try go_wp2_with (first | ((with_reducible refine gate_dst (N := 8) rfl ?_); (try (refine gate_guard (by rfl) ?_; dsimp only)); refine box_event ?hg (N := 8) ?hd (cs := #[.int .i64 0, .int .i64 0, .slice none 0 0]) (t := 72) ?hr ?_; (case hd => rfl); (case hg => rfl); (case hr => first | (go_simp; done) | (go_simp; rfl)); intro gb322 hg w44 hbox hb; have n0_ := Aside0.mk (Kd.R_below (by exact zR HO_319002.out) hb); have n1_ := Aside0.mk (blk_below (g := gb318) (o := .cells #[.int .i64 t313, .int .i64 t314, .slice Ao12 t315.length co12] 72 (0, 0)) (by exact zK BK318.out) hb); have n2_ := Aside0.mk (below_step (by exact zB1 HB.out GE318.out) hb); have n3_ := Aside0.mk (hbox); have n4_ := Aside0.mk ((by rw [hg]; exact (below_size (by exact zB1 HB.out GE318.out)) : w.heap.size ≤ gb322)); have n5_ := Aside0.mk ((by rw [hg]; exact (below_size (by exact zB1 HB.out GE318.out)) : w.heap.size ≤ gb322)); have n6_ := Aside0.mk ((by rw [hg]; exact Nat.ne_of_lt (blk_lt (g := gb318) (o := .cells #[.int .i64 t313, .int .i64 t314, .slice Ao12 t315.length co12] 72 (0, 0)) (by exact zK BK318.out)) : gb318 ≠ gb322)); have n7_ := Aside0.mk ((by rw [hg]; exact Nat.ne_of_gt (blk_lt (g := gb318) (o := .cells #[.int .i64 t313, .int .i64 t314, .slice Ao12 t315.length co12] 72 (0, 0)) (by exact zK BK318.out)) : gb322 ≠ gb318)); clear HO_319002; clear BK318; clear HB; have HO_319002 := n0_; have BK318 := n1_; have HB := n2_; have BK322 := n3_; have GW322 := n4_; have GE322 := n5_; have NB318_322 := n6_; have NB322_318 := n7_; clear n0_ n1_ n2_ n3_ n4_ n5_ n6_ n7_; clear hb hbox hg; have hnb45 := NB322_318.out; have hnc45 := NB318_322.out; obtain ⟨hcz46_0, hcz46_1, hcz46_2, hfz46_0, hfz46_1, hfz46_2⟩ := zc3f BK322.out) | ((with_reducible refine gate_store (t := 72) (p := 8) rfl ?_); refine store_event (t := 72) (p := 8) (v := ?vo_w47) (w1 := (((w44.setCell ⟨gb322, 0, none⟩ (.int .i64 t313)).setCell ⟨gb322, 1, none⟩ (.int .i64 t314)).setCell ⟨gb322, 2, none⟩ (.slice Ao12 t315.length co12))) ?hg ?ho ?hn ?hr ?_; (case ho => rfl); (case hg => rfl); (case hn => rfl); (case hr => first | (go_simp; done) | (go_simp; rfl)); intro w47 hw; have n0_ : Aside0 (Kd.R k76 76 w47 w.heap.size (fun _ => True) (.slice Ao12 t315.length co12) t315) := ⟨(by rw [hw]; exact (by exact zR (Kd.R_mono (Kd.R_far (p := ⟨gb322, 2, none⟩) (Kd.R_far (p := ⟨gb322, 1, none⟩) (Kd.R_far (p := ⟨gb322, 0, none⟩) (Kd.R_types HO_319002.out BK322.out (by decide)) (fun _ hk => hk.2) (.int .i64 t313)) (fun _ hk => hk.2) (.int .i64 t314)) (fun _ hk => hk.2) (.slice Ao12 t315.length co12)) (fun _ hk => trivial))))⟩; have n1_ : Aside0 (w47.heap[gb318]? = some (.cells #[.int .i64 t313, .int .i64 t314, .slice Ao12 t315.length co12] 72 (0, 0))) := ⟨(by rw [hw]; exact (by (with_reducible repeat (first | refine blk_drewN ?_ _ | refine blk_drew ?_ | refine blk_alloc ?_ _)); refine blk_far ?_ NB318_322.out _; (with_reducible repeat (first | refine blk_drewN ?_ _ | refine blk_drew ?_ | refine blk_alloc ?_ _)); refine blk_far ?_ NB318_322.out _; (with_reducible repeat (first | refine blk_drewN ?_ _ | refine blk_drew ?_ | refine blk_alloc ?_ _)); refine blk_far ?_ NB318_322.out _; exact zK BK318.out))⟩; have n2_ : Aside0 (w47.heap[gb322]? = some (.cells #[.int .i64 t313, .int .i64 t314, .slice Ao12 t315.length co12] 72 (0, 0))) := ⟨(by rw [hw]; exact (by (with_reducible repeat (first | refine blk_drewN ?_ _ | refine blk_drew ?_ | refine blk_alloc ?_ _)); refine blk_put (cs := #[.int .i64 t313, .int .i64 t314, .slice none 0 0]) ?_ 2 _ rfl; (with_reducible repeat (first | refine blk_drewN ?_ _ | refine blk_drew ?_ | refine blk_alloc ?_ _)); refine blk_put (cs := #[.int .i64 t313, .int .i64 0, .slice none 0 0]) ?_ 1 _ rfl; (with_reducible repeat (first | refine blk_drewN ?_ _ | refine blk_drew ?_ | refine blk_alloc ?_ _)); refine blk_put (cs := #[.int .i64 0, .int .i64 0, .slice none 0 0]) ?_ 0 _ rfl; exact zK BK322.out))⟩; have n3_ : Aside0 (Below w.heap.size w w47) := ⟨(by rw [hw]; exact (by exact zB2 HB.out GE318.out GE322.out))⟩; clear hw; clear HO_319002; clear BK318; clear BK322; clear HB; have HO_319002 := n0_; have BK318 := n1_; have BK322 := n2_; have HB := n3_; clear n0_ n1_ n2_ n3_))
                  have n0_ := Aside0.mk (Kd.R_drew HO_319002.out)
                  have n1_ := Aside0.mk (blk_drew BK318.out)
                  have n2_ := Aside0.mk (blk_drew BK322.out)
                  have n3_ := Aside0.mk (below_drew1 HB.out)
                  clear HO_319002
                  clear BK318
                  clear BK322
                  clear HB
                  have HO_319002 := n0_
                  have BK318 := n1_
                  have BK322 := n2_
                  have HB := n3_
                  clear n0_ n1_ n2_ n3_
                  have q49 : ((ji29) : Int) ≤ ((t315.length : Int) : Int) := of_decide_eq_true (by first | (with_reducible assumption) | assumption)
                  obtain ⟨i049, hi049, _, hsz49, _⟩ := info_parts info76
                  have hroom49 : t315.length ≤ co12 := (Kd.R_reads' HO_319002.out).2.1
                  have hC49 : Kd.C k76 _ Ao12 t315.length t315 := (Kd.R_reads' HO_319002.out).2.2
                  have hcut49 := cut_to (P := Try.prog) 70 76 .i64 Try.underlying70 hi049 Ao12 t315.length co12 (ji29) (of_decide_eq_true (by first | (with_reducible assumption) | assumption)) q49 hroom49
                  have hr49 := Kd.C_take (m := ((ji29) : Int).toNat) hC49 (by omega)
                  have hy49 : y326.length = ((ji29) : Int).toNat := (by rw [Ny326.out, List.length_take]; omega)
                  rw [← Ny326.out] at hr49
                  rw [← hy49] at hcut49
                  have HR329 := Aside0.mk hr49
                  have HC329 := Aside0.mk (show y326.length ≤ co12 from by omega)
                  clear hr49 hC49 hroom49 hi049 hsz49
                  have KY49 := Aside0.mk hy49
                  clear hy49
                  have KL49 := Aside0.mk (show ((ji29) : Int).toNat ≤ t315.length from by omega)
                  replace q49 := eq_true q49
                  have q50 : ((ji33) : Int) ≤ ((t315.length : Int) : Int) := of_decide_eq_true (by first | (with_reducible assumption) | assumption)
                  obtain ⟨i050, hi050, _, hsz50, _⟩ := info_parts info76
                  have hroom50 : t315.length ≤ co12 := (Kd.R_reads' HO_319002.out).2.1
                  have hC50 : Kd.C k76 _ Ao12 t315.length t315 := (Kd.R_reads' HO_319002.out).2.2
                  have q050 : (0 : Int) ≤ ((ji33) : Int) := of_decide_eq_true (by first | (with_reducible assumption) | assumption)
                  have hcut50 := cut_from (P := Try.prog) 70 76 .i64 Try.underlying70 hi050 3 hsz50 Ao12 t315.length co12 (ji33) q050 q50
                  have hr50 := Kd.C_drop (m := ((ji33) : Int).toNat) (c := co12) hC50 (by omega) hroom50
                  obtain ⟨A50, hA50⟩ : ∃ A1, A1 = (if co12 = ((ji33) : Int).toNat then Ao12 else (Ao12 : Option Addr).map (·.add (((ji33) : Int).toNat * 3))) := ⟨_, rfl⟩
                  obtain ⟨c50, hc50⟩ : ∃ c1, c1 = co12 - ((ji33) : Int).toNat := ⟨_, rfl⟩
                  have hy50 : y333.length = t315.length - ((ji33) : Int).toNat := (by rw [Ny333.out, List.length_drop] <;> omega)
                  rw [show (t315).drop ((ji33) : Int).toNat = y333 from Ny333.out.symm] at hr50
                  replace hr50 : Kd.C k76 _ A50 y333.length y333 := (by rw [hA50]; exact hr50)
                  rw [← hy50, ← hA50, ← hc50] at hcut50
                  have HR336 := Aside0.mk hr50
                  have HC336 := Aside0.mk (show y333.length ≤ c50 from by rw [hy50, hc50]; exact Nat.sub_le_sub_right hroom50 _)
                  clear hr50 hC50 hroom50 hi050 hsz50 hc50
                  have KY50 := Aside0.mk hy50
                  have KA50 := Aside0.mk hA50
                  clear hy50 hA50
                  have KL50 := Aside0.mk (show ((ji33) : Int).toNat ≤ t315.length from by omega)
                  replace q50 := eq_true q50
                  refine start_ (n := 14) (S := fun w' => w'.cell? ⟨gb318, 0, none⟩ = some (.int .i64 t313) ∧ w'.cell? ⟨gb318, 1, none⟩ = some (.int .i64 t314) ∧ w'.cell? ⟨gb318, 2, none⟩ = some (.slice Ao12 t315.length co12)) (ds := []) #[false, false, false, false, false, false, false, false, false, false, false, false, false, false] (by kernel_rfl) rfl rfl ⟨(blk_cell BK318.out 0).trans rfl, (blk_cell BK318.out 1).trans rfl, (blk_cell BK318.out 2).trans rfl⟩ (fun hHeld => ?_); refine with_tabW laws_FnIndexLess.tab9 laws_FnIndexLess.bits9 (fun HT_ HW_ => ?_)
                  generalize w47.drew = w48 at HO_319002 BK318 BK322 HB HR329 HR336 hHeld ⊢
                  refine pure_ (i := 1) (N := some 48) (v := ?_) (a' := ?_) #[false, true, false, false, false, false, false, false, false, false, false, false, false, false] rfl rfl (any_of HT_.out (by kernel_rfl)) (fun _ _ _ h => h) (Or.inl ⟨by rfl, ?_⟩) ?_ ?_
                  rotate_left
                  ·intro w'
                   go_simp
                   with_reducible rfl
                  rotate_left
                  ·simp only [zp0, zp1, zp2, zp3, zp4, i64_w, i32_w]
                   rfl
                  refine pure_ (i := 3) (N := some 50) (v := ?_) (a' := ?_) #[false, true, false, true, false, false, false, false, false, false, false, false, false, false] rfl rfl (any_of HT_.out (by kernel_rfl)) (fun _ _ _ h => h) (Or.inl ⟨by rfl, ?_⟩) ?_ ?_
                  rotate_left
                  ·intro w'
                   go_simp
                   with_reducible rfl
                  rotate_left
                  ·simp only [zp0, zp1, zp2, zp3, zp4, i64_w, i32_w]
                   rfl
                  refine pure_ (i := 6) (N := some 53) (v := ?_) (a' := ?_) #[false, true, false, true, false, false, true, false, false, false, false, false, false, false] rfl rfl (any_of HT_.out (by kernel_rfl)) (fun _ _ _ h => h) (Or.inl ⟨by rfl, ?_⟩) ?_ ?_
                  rotate_left
                  ·intro w'
                   go_simp
                   with_reducible rfl
                  rotate_left
                  ·simp only [zp0, zp1, zp2, zp3, zp4, i64_w, i32_w]
                   rfl
                  refine pure_ (i := 8) (N := some 55) (v := ?_) (a' := ?_) #[false, true, false, true, false, false, true, false, true, false, false, false, false, false] rfl rfl (any_of HT_.out (by kernel_rfl)) (fun _ _ _ h => h) (Or.inl ⟨by rfl, ?_⟩) ?_ ?_
                  rotate_left
                  ·intro w'
                   go_simp
                   with_reducible rfl
                  rotate_left
                  ·simp only [zp0, zp1, zp2, zp3, zp4, i64_w, i32_w]
                   rfl
                  refine pure_ (i := 9) (N := some 56) (v := ?_) (a' := ?_) #[false, true, false, true, false, false, true, false, true, true, false, false, false, false] rfl rfl (any_of HT_.out (by kernel_rfl)) (fun _ _ _ h => h) (Or.inl ⟨by rfl, ?_⟩) ?_ ?_
                  rotate_left
                  ·intro w'
                   go_simp
                   with_reducible rfl
                  rotate_left
                  ·simp only [zp0, zp1, zp2, zp3, zp4, i64_w, i32_w]
                   rfl
                  refine take_ (i := 2) (N := some 49) (v := ?_) (a' := ?_) #[false, true, true, true, false, false, true, false, true, true, false, false, false, false] rfl rfl (take_ofW HT_.out HW_.out (by kernel_rfl)) (fun _ _ _ h => h) (Or.inl ⟨by rfl, ?_⟩) hHeld ?_ ?_
                  rotate_left
                  ·rintro w' ⟨s0, s1, s2⟩
                   go_simp
                   with_reducible rfl
                  rotate_left
                  ·simp only [zp0, zp1, zp2, zp3, zp4, i64_w, i32_w]
                   rfl
                  refine pure_ (i := 4) (N := some 51) (v := ?_) (a' := ?_) #[false, true, true, true, true, false, true, false, true, true, false, false, false, false] rfl rfl (any_of HT_.out (by kernel_rfl)) (fun _ _ _ h => h) (Or.inl ⟨by rfl, ?_⟩) ?_ ?_
                  rotate_left
                  ·intro w'
                   go_simp
                   with_reducible rfl
                  rotate_left
                  ·simp only [zp0, zp1, zp2, zp3, zp4, i64_w, i32_w]
                   rfl
                  refine take_ (i := 7) (N := some 54) (v := ?_) (a' := ?_) #[false, true, true, true, true, false, true, true, true, true, false, false, false, false] rfl rfl (take_ofW HT_.out HW_.out (by kernel_rfl)) (fun _ _ _ h => h) (Or.inl ⟨by rfl, ?_⟩) hHeld ?_ ?_
                  rotate_left
                  ·rintro w' ⟨s0, s1, s2⟩
                   go_simp
                   with_reducible rfl
                  rotate_left
                  ·simp only [zp0, zp1, zp2, zp3, zp4, i64_w, i32_w]
                   rfl
                  refine pure_ (i := 10) (N := some 57) (v := ?_) (a' := ?_) #[false, true, true, true, true, false, true, true, true, true, true, false, false, false] rfl rfl (any_of HT_.out (by kernel_rfl)) (fun _ _ _ h => h) (Or.inl ⟨by rfl, ?_⟩) ?_ ?_
                  rotate_left
                  ·intro w'
                   go_simp
                   with_reducible rfl
                  rotate_left
                  ·simp only [zp0, zp1, zp2, zp3, zp4, i64_w, i32_w]
                   rfl
                  refine one_ (i := 0) (N := some 47) #[true, true, true, true, true, false, true, true, true, true, true, false, false, false] rfl rfl (one_of HT_.out (by kernel_rfl)) (by decide) (fun K hK => ?_)
                  refine Kd.R_lit_step k76 _ 76 ?hg (N := 47) ?hd (xs := ([] : List (S76))) (inner := []) (ok := fun _ => True) (okp := fun _ => True) ?hr ?hp (fun _ hk => hk) trivial (Below.refl _ _) (Nat.le_refl _) (by simp) ?_; (case hd => rfl); (case hg => rfl); (case hr => first | (go_simp; done) | (go_simp; rfl)); (case hp => exact (Reps.none _ _))
                  intro v324 w51 ho52 hb hg_ hnew_
                  clear hg_ hnew_
                  (first | rw [← Ny323.out] at ho52 | (simp only [Int.reduceToNat] at ho52; rw [← Ny323.out] at ho52))
                  have n0_ := Aside0.mk (Kd.R_elder' (by exact zR HO_319002.out) (Kd.R_base ho52) hb)
                  have n1_ := Aside0.mk (Kd.R_lower (Kd.R_new' ho52 (Kd.R_lt (by exact zR HO_319002.out))) (below_size (by exact zB2 HB.out GE318.out GE322.out)))
                  have n2_ := Aside0.mk (blk_below (g := gb318) (o := .cells #[.int .i64 t313, .int .i64 t314, .slice Ao12 t315.length co12] 72 (0, 0)) (by exact zK BK318.out) hb)
                  have n3_ := Aside0.mk (blk_below (g := gb322) (o := .cells #[.int .i64 t313, .int .i64 t314, .slice Ao12 t315.length co12] 72 (0, 0)) (by exact zK BK322.out) hb)
                  have n4_ := Aside0.mk (Kd.C_below (by repeat (first | (with_reducible exact HR329.out) | (with_reducible refine Kd.C_alloc ?_ _) | (with_reducible refine Kd.C_drewN ?_ _) | (with_reducible refine Kd.C_drew ?_) | exact HR329.out)) hb)
                  have n5_ := Aside0.mk (Kd.C_below (by repeat (first | (with_reducible exact HR336.out) | (with_reducible refine Kd.C_alloc ?_ _) | (with_reducible refine Kd.C_drewN ?_ _) | (with_reducible refine Kd.C_drew ?_) | exact HR336.out)) hb)
                  have n6_ := Aside0.mk (below_step (by exact zB2 HB.out GE318.out GE322.out) hb)
                  clear HO_319002
                  clear BK318
                  clear BK322
                  clear HR329
                  clear HR336
                  clear HB
                  have HO_319002 := n0_
                  have HO325 := n1_
                  have BK318 := n2_
                  have BK322 := n3_
                  have HR329 := n4_
                  have HR336 := n5_
                  have HB := n6_
                  clear n0_ n1_ n2_ n3_ n4_ n5_ n6_
                  clear hb ho52
                  refine hK.out _ _ ⟨(blk_cell BK318.out 0).trans rfl, (blk_cell BK318.out 1).trans rfl, (blk_cell BK318.out 2).trans rfl⟩ (fun hHeld => ?_)
                  clear hK K
                  refine norm_ (a' := ?_) ?_ ?_
                  rotate_left
                  ·show Act.put _ (some 47) _ = _
                   simp only [zp0, zp1, zp2, zp3, zp4, i64_w, i32_w]
                   rfl
                  refine one_ (i := 5) (N := some 52) #[true, true, true, true, true, true, true, true, true, true, true, false, false, false] rfl rfl (one_of HT_.out (by kernel_rfl)) (by decide) (fun K hK => ?_)
                  refine Kd.R_append_rows_step k76 (w0 := w) w.heap.size (by rfl) (.tmp 47) (.tmp 51) 70 76 (.agg #[(.int .i64 0), (.int .i64 0), (.int .i64 0)]) 24 rfl Try.underlying70 info76 rfl (by decide) (by omega) v324 y323 y326 _ _ _ (fun k_ => some k_ ≠ (.slice Ao12 t315.length co12 : Value).ownBlock) (fun _ => False) rfl rfl ?aO ?aR (fun _ _ h => h) (fun _ h => h.elim) ?aF ?aB ?aS ?aL ?_
                  (case aR => repeat (first | exact (by repeat (first | (with_reducible exact HR329.out) | (with_reducible refine Kd.C_alloc ?_ _) | (with_reducible refine Kd.C_drewN ?_ _) | (with_reducible refine Kd.C_drew ?_) | exact HR329.out)) | (with_reducible refine Kd.C_alloc ?_ _) | (with_reducible refine Kd.C_drewN ?_ _) | (with_reducible refine Kd.C_drew ?_)))
                  (case aB => exact (by exact zB2 HB.out GE318.out GE322.out))
                  (case aF => exact (fun k_ hk => Kd.fresh' (Kd.R_lt (by exact zR HO_319002.out)) k_ hk))
                  (case aO => exact (by exact zR (Kd.R_mono HO325.out (fun _ hk => hk.2))))
                  (case aS => exact (below_size (by exact zB2 HB.out GE318.out GE322.out)))
                  (case aL => have := LMc32.out; omega)
                  intro v331 w53 ho hb hg hat
                  rw [← Ny330.out] at ho
                  have n0_ := Aside0.mk (Kd.R_after (ok := (fun _ => True)) (by exact zR HO_319002.out) hg hat)
                  have n1_ := Aside0.mk (blk_grown (g := gb318) (o := .cells #[.int .i64 t313, .int .i64 t314, .slice Ao12 t315.length co12] 72 (0, 0)) (by exact zK BK318.out) hg (Kd.R_ne HO325.out BK318.out (by decide)))
                  have n2_ := Aside0.mk (blk_grown (g := gb322) (o := .cells #[.int .i64 t313, .int .i64 t314, .slice Ao12 t315.length co12] 72 (0, 0)) (by exact zK BK322.out) hg (Kd.R_ne HO325.out BK322.out (by decide)))
                  have n3_ := Aside0.mk (hb)
                  have n4_ := Aside0.mk ((show Kd.C k76 w53 Ao12 y326.length y326 from by rw [Ny326.out]; exact Kd.C_take (m := ((ji29) : Int).toNat) ((Kd.R_reads' (Kd.R_after (ok := (fun _ => True)) (by exact zR HO_319002.out) hg hat)).2.2) KL49.out))
                  have n5_ := Aside0.mk ((show Kd.C k76 w53 A50 y333.length y333 from by rw [Ny333.out, KA50.out]; exact Kd.C_drop (m := ((ji33) : Int).toNat) (c := co12) ((Kd.R_reads' (Kd.R_after (ok := (fun _ => True)) (by exact zR HO_319002.out) hg hat)).2.2) KL50.out ((Kd.R_reads' (Kd.R_after (ok := (fun _ => True)) (by exact zR HO_319002.out) hg hat)).2.1)))
                  have n6_ := Aside0.mk (ho)
                  clear HO_319002
                  clear BK318
                  clear BK322
                  clear HB
                  clear HR329
                  clear HR336
                  clear HO325
                  have HO_319002 := n0_
                  have BK318 := n1_
                  have BK322 := n2_
                  have HB := n3_
                  have HR329 := n4_
                  have HR336 := n5_
                  have HO332 := n6_
                  clear n0_ n1_ n2_ n3_ n4_ n5_ n6_
                  clear ho hb hg hat
                  refine hK.out _ _ ⟨(blk_cell BK318.out 0).trans rfl, (blk_cell BK318.out 1).trans rfl, (blk_cell BK318.out 2).trans rfl⟩ (fun hHeld => ?_)
                  clear hK K
                  refine norm_ (a' := ?_) ?_ ?_
                  rotate_left
                  ·show Act.put _ (some 52) _ = _
                   simp only [zp0, zp1, zp2, zp3, zp4, i64_w, i32_w]
                   rfl
                  refine one_ (i := 11) (N := some 58) #[true, true, true, true, true, true, true, true, true, true, true, true, false, false] rfl rfl (one_of HT_.out (by kernel_rfl)) (by decide) (fun K hK => ?_)
                  refine Kd.R_append_rows_step k76 (w0 := w) w.heap.size (by rfl) (.tmp 52) (.tmp 57) 70 76 (.agg #[(.int .i64 0), (.int .i64 0), (.int .i64 0)]) 24 rfl Try.underlying70 info76 rfl (by decide) (by omega) v331 y330 y333 _ _ _ (fun k_ => some k_ ≠ (.slice Ao12 t315.length co12 : Value).ownBlock) (fun _ => False) rfl rfl ?aO ?aR (fun _ _ h => h) (fun _ h => h.elim) ?aF ?aB ?aS ?aL ?_
                  (case aR => repeat (first | exact (by repeat (first | (with_reducible exact HR336.out) | (with_reducible refine Kd.C_alloc ?_ _) | (with_reducible refine Kd.C_drewN ?_ _) | (with_reducible refine Kd.C_drew ?_) | exact HR336.out)) | (with_reducible refine Kd.C_alloc ?_ _) | (with_reducible refine Kd.C_drewN ?_ _) | (with_reducible refine Kd.C_drew ?_)))
                  (case aB => exact (by exact zB2 HB.out GE318.out GE322.out))
                  (case aF => exact (fun k_ hk => Kd.fresh' (Kd.R_lt (by exact zR HO_319002.out)) k_ hk))
                  (case aO => exact (by exact zR HO332.out))
                  (case aS => exact (below_size (by exact zB2 HB.out GE318.out GE322.out)))
                  (case aL => have := LMc36.out; omega)
                  intro v338 w54 ho hb hg hat
                  rw [← Ny337.out] at ho
                  have n0_ := Aside0.mk (Kd.R_after (ok := (fun _ => True)) (by exact zR HO_319002.out) hg hat)
                  have n1_ := Aside0.mk (blk_grown (g := gb318) (o := .cells #[.int .i64 t313, .int .i64 t314, .slice Ao12 t315.length co12] 72 (0, 0)) (by exact zK BK318.out) hg (Kd.R_ne HO332.out BK318.out (by decide)))
                  have n2_ := Aside0.mk (blk_grown (g := gb322) (o := .cells #[.int .i64 t313, .int .i64 t314, .slice Ao12 t315.length co12] 72 (0, 0)) (by exact zK BK322.out) hg (Kd.R_ne HO332.out BK322.out (by decide)))
                  have n3_ := Aside0.mk (hb)
                  have n4_ := Aside0.mk ((show Kd.C k76 w54 Ao12 y326.length y326 from by rw [Ny326.out]; exact Kd.C_take (m := ((ji29) : Int).toNat) ((Kd.R_reads' (Kd.R_after (ok := (fun _ => True)) (by exact zR HO_319002.out) hg hat)).2.2) KL49.out))
                  have n5_ := Aside0.mk ((show Kd.C k76 w54 A50 y333.length y333 from by rw [Ny333.out, KA50.out]; exact Kd.C_drop (m := ((ji33) : Int).toNat) (c := co12) ((Kd.R_reads' (Kd.R_after (ok := (fun _ => True)) (by exact zR HO_319002.out) hg hat)).2.2) KL50.out ((Kd.R_reads' (Kd.R_after (ok := (fun _ => True)) (by exact zR HO_319002.out) hg hat)).2.1)))
                  have n6_ := Aside0.mk (ho)
                  clear HO_319002
                  clear BK318
                  clear BK322
                  clear HB
                  clear HR329
                  clear HR336
                  clear HO332
                  have HO_319002 := n0_
                  have BK318 := n1_
                  have BK322 := n2_
                  have HB := n3_
                  have HR329 := n4_
                  have HR336 := n5_
                  have HO339 := n6_
                  clear n0_ n1_ n2_ n3_ n4_ n5_ n6_
                  clear ho hb hg hat
                  obtain ⟨Ao55, co55, eo55⟩ := Kd.R_slice HO339.out
                  (first | subst eo55 | (injection eo55 with f1_ f2_ f3_; have f4_ := f1_.symm; have f5_ := f3_.symm; clear f1_ f2_ f3_; subst f4_; subst f5_))
                  refine hK.out _ _ ⟨(blk_cell BK318.out 0).trans rfl, (blk_cell BK318.out 1).trans rfl, (blk_cell BK318.out 2).trans rfl⟩ (fun hHeld => ?_)
                  clear hK K
                  refine norm_ (a' := ?_) ?_ ?_
                  rotate_left
                  ·show Act.put _ (some 58) _ = _
                   simp only [zp0, zp1, zp2, zp3, zp4, i64_w, i32_w]
                   rfl
                  refine pure_ (i := 12) (N := some 59) (v := ?_) (a' := ?_) #[true, true, true, true, true, true, true, true, true, true, true, true, true, false] rfl rfl (any_of HT_.out (by kernel_rfl)) (fun _ _ _ h => h) (Or.inl ⟨by rfl, ?_⟩) ?_ ?_
                  rotate_left
                  ·intro w'
                   go_simp
                   with_reducible rfl
                  rotate_left
                  ·simp only [zp0, zp1, zp2, zp3, zp4, i64_w, i32_w]
                   rfl
                  refine one_ (i := 13) (N := none) #[true, true, true, true, true, true, true, true, true, true, true, true, true, true] rfl rfl (one_of HT_.out (by kernel_rfl)) (by decide) (fun K hK => ?_)
                  have hs56 : w54.cell? ⟨gb322, 2, none⟩ = some (.slice Ao12 t315.length co12) := (blk_cell BK322.out 2).trans rfl
                  have hfs56 := blk_frozen BK322.out 2
                  have hns56_0 := NB318_322.out
                  have hms56_0 := NB322_318.out
                  refine skip_ (w1 := ?_) (by rfl) rfl ?_ ?_
                  rotate_left
                  ·go_simp
                   rfl
                  refine hK.out _ _ ⟨((cell_far (p := ⟨gb322, _, none⟩) NB318_322.out _).trans (hHeld.1)), ((cell_far (p := ⟨gb322, _, none⟩) NB318_322.out _).trans (hHeld.2.1)), ((cell_far (p := ⟨gb322, _, none⟩) NB318_322.out _).trans (hHeld.2.2))⟩ (fun hHeld => ?_)
                  clear hK K
                  refine done_ (done_of HT_.out (by kernel_rfl)) ?_
                  obtain ⟨hcz57_0, hcz57_1, hcz57_2, hfz57_0, hfz57_1, hfz57_2⟩ := zc3f BK318.out
                  try go_wp2_with (first | ((with_reducible refine gate_dst (N := 9) rfl ?_); (try (refine gate_guard (by rfl) ?_; dsimp only)); refine box_event ?hg (N := 9) ?hd (cs := #[.int .i64 0, .int .i64 0, .slice none 0 0]) (t := 72) ?hr ?_; (case hd => rfl); (case hg => rfl); (case hr => first | (go_simp; done) | (go_simp; rfl)); intro gb340 hg w58 hbox hb; have n0_ := Aside0.mk (Kd.R_below (by exact zR (Kd.R_mono (Kd.R_far (p := ⟨gb322, 2, none⟩) (Kd.R_types HO_319002.out BK322.out (by decide)) (fun _ hk => hk.2) (.slice Ao55 y337.length co55)) (fun _ h_ => h_.1))) hb); have n1_ := Aside0.mk (Kd.R_below (by exact zR (Kd.R_mono (Kd.R_far (p := ⟨gb322, 2, none⟩) (Kd.R_types HO339.out BK322.out (by decide)) (fun _ hk => hk.2) (.slice Ao55 y337.length co55)) (fun _ h_ => h_.1))) hb); have n2_ := Aside0.mk (blk_below (g := gb318) (o := .cells #[.int .i64 t313, .int .i64 t314, .slice Ao12 t315.length co12] 72 (0, 0)) (by (with_reducible repeat (first | refine blk_drewN ?_ _ | refine blk_drew ?_ | refine blk_alloc ?_ _)); refine blk_far ?_ NB318_322.out _; exact zK BK318.out) hb); have n3_ := Aside0.mk (blk_below (g := gb322) (o := .cells #[.int .i64 t313, .int .i64 t314, .slice Ao55 y337.length co55] 72 (0, 0)) (by (with_reducible repeat (first | refine blk_drewN ?_ _ | refine blk_drew ?_ | refine blk_alloc ?_ _)); refine blk_put (cs := #[.int .i64 t313, .int .i64 t314, .slice Ao12 t315.length co12]) ?_ 2 _ rfl; exact zK BK322.out) hb); have n4_ := Aside0.mk (below_step (by exact zB2 HB.out GE318.out GE322.out) hb); have n5_ := Aside0.mk (hbox); have n6_ := Aside0.mk ((by rw [hg]; exact (below_size (by exact zB2 HB.out GE318.out GE322.out)) : w.heap.size ≤ gb340)); have n7_ := Aside0.mk ((by rw [hg]; exact (below_size (by exact zB2 HB.out GE318.out GE322.out)) : w.heap.size ≤ gb340)); have n8_ := Aside0.mk ((by rw [hg]; exact Nat.ne_of_lt (blk_lt (g := gb318) (o := .cells #[.int .i64 t313, .int .i64 t314, .slice Ao12 t315.length co12] 72 (0, 0)) (by (with_reducible repeat (first | refine blk_drewN ?_ _ | refine blk_drew ?_ | refine blk_alloc ?_ _)); refine blk_far ?_ NB318_322.out _; exact zK BK318.out)) : gb318 ≠ gb340)); have n9_ := Aside0.mk ((by rw [hg]; exact Nat.ne_of_gt (blk_lt (g := gb318) (o := .cells #[.int .i64 t313, .int .i64 t314, .slice Ao12 t315.length co12] 72 (0, 0)) (by (with_reducible repeat (first | refine blk_drewN ?_ _ | refine blk_drew ?_ | refine blk_alloc ?_ _)); refine blk_far ?_ NB318_322.out _; exact zK BK318.out)) : gb340 ≠ gb318)); have n10_ := Aside0.mk ((by rw [hg]; exact Nat.ne_of_lt (blk_lt (g := gb322) (o := .cells #[.int .i64 t313, .int .i64 t314, .slice Ao55 y337.length co55] 72 (0, 0)) (by (with_reducible repeat (first | refine blk_drewN ?_ _ | refine blk_drew ?_ | refine blk_alloc ?_ _)); refine blk_put (cs := #[.int .i64 t313, .int .i64 t314, .slice Ao12 t315.length co12]) ?_ 2 _ rfl; exact zK BK322.out)) : gb322 ≠ gb340)); have n11_ := Aside0.mk ((by rw [hg]; exact Nat.ne_of_gt (blk_lt (g := gb322) (o := .cells #[.int .i64 t313, .int .i64 t314, .slice Ao55 y337.length co55] 72 (0, 0)) (by (with_reducible repeat (first | refine blk_drewN ?_ _ | refine blk_drew ?_ | refine blk_alloc ?_ _)); refine blk_put (cs := #[.int .i64 t313, .int .i64 t314, .slice Ao12 t315.length co12]) ?_ 2 _ rfl; exact zK BK322.out)) : gb340 ≠ gb322)); clear HO_319002; clear HO339; clear BK318; clear BK322; clear HB; have HO_319002 := n0_; have HO339 := n1_; have BK318 := n2_; have BK322 := n3_; have HB := n4_; have BK340 := n5_; have GW340 := n6_; have GE340 := n7_; have NB318_340 := n8_; have NB340_318 := n9_; have NB322_340 := n10_; have NB340_322 := n11_; clear n0_ n1_ n2_ n3_ n4_ n5_ n6_ n7_ n8_ n9_ n10_ n11_; clear hb hbox hg; have hnb59 := NB340_318.out; have hnc59 := NB318_340.out; have hnb60 := NB340_322.out; have hnc60 := NB322_340.out; obtain ⟨hcz61_0, hcz61_1, hcz61_2, hfz61_0, hfz61_1, hfz61_2⟩ := zc3f BK340.out) | ((with_reducible refine gate_store (t := 72) (p := 9) rfl ?_); refine store_event (t := 72) (p := 9) (v := ?vo_w62) (w1 := (((w58.setCell ⟨gb340, 0, none⟩ (.int .i64 t313)).setCell ⟨gb340, 1, none⟩ (.int .i64 t314)).setCell ⟨gb340, 2, none⟩ (.slice Ao12 t315.length co12))) ?hg ?ho ?hn ?hr ?_; (case ho => rfl); (case hg => rfl); (case hn => rfl); (case hr => first | (go_simp; done) | (go_simp; rfl)); intro w62 hw; have n0_ : Aside0 (Kd.R k76 76 w62 w.heap.size (fun k_ => some k_ ≠ (.slice Ao55 y337.length co55 : Value).ownBlock) (.slice Ao12 t315.length co12) t315) := ⟨(by rw [hw]; exact (by exact zR (Kd.R_mono (Kd.R_far (p := ⟨gb340, 2, none⟩) (Kd.R_far (p := ⟨gb340, 1, none⟩) (Kd.R_far (p := ⟨gb340, 0, none⟩) (Kd.R_types HO_319002.out BK340.out (by decide)) (fun _ hk => hk.2) (.int .i64 t313)) (fun _ hk => hk.2) (.int .i64 t314)) (fun _ hk => hk.2) (.slice Ao12 t315.length co12)) (fun _ hk => hk.1.2))))⟩; have n1_ : Aside0 (Kd.R k76 76 w62 w.heap.size (fun k_ => some k_ ≠ (.slice Ao12 t315.length co12 : Value).ownBlock) (.slice Ao55 y337.length co55) y337) := ⟨(by rw [hw]; exact (by exact zR (Kd.R_mono (Kd.R_far (p := ⟨gb340, 2, none⟩) (Kd.R_far (p := ⟨gb340, 1, none⟩) (Kd.R_far (p := ⟨gb340, 0, none⟩) (Kd.R_types HO339.out BK340.out (by decide)) (fun _ hk => hk.2) (.int .i64 t313)) (fun _ hk => hk.2) (.int .i64 t314)) (fun _ hk => hk.2) (.slice Ao12 t315.length co12)) (fun _ hk => hk.1))))⟩; have n2_ : Aside0 (w62.heap[gb318]? = some (.cells #[.int .i64 t313, .int .i64 t314, .slice Ao12 t315.length co12] 72 (0, 0))) := ⟨(by rw [hw]; exact (by (with_reducible repeat (first | refine blk_drewN ?_ _ | refine blk_drew ?_ | refine blk_alloc ?_ _)); refine blk_far ?_ NB318_340.out _; (with_reducible repeat (first | refine blk_drewN ?_ _ | refine blk_drew ?_ | refine blk_alloc ?_ _)); refine blk_far ?_ NB318_340.out _; (with_reducible repeat (first | refine blk_drewN ?_ _ | refine blk_drew ?_ | refine blk_alloc ?_ _)); refine blk_far ?_ NB318_340.out _; exact zK BK318.out))⟩; have n3_ : Aside0 (w62.heap[gb322]? = some (.cells #[.int .i64 t313, .int .i64 t314, .slice Ao55 y337.length co55] 72 (0, 0))) := ⟨(by rw [hw]; exact (by (with_reducible repeat (first | refine blk_drewN ?_ _ | refine blk_drew ?_ | refine blk_alloc ?_ _)); refine blk_far ?_ NB322_340.out _; (with_reducible repeat (first | refine blk_drewN ?_ _ | refine blk_drew ?_ | refine blk_alloc ?_ _)); refine blk_far ?_ NB322_340.out _; (with_reducible repeat (first | refine blk_drewN ?_ _ | refine blk_drew ?_ | refine blk_alloc ?_ _)); refine blk_far ?_ NB322_340.out _; exact zK BK322.out))⟩; have n4_ : Aside0 (w62.heap[gb340]? = some (.cells #[.int .i64 t313, .int .i64 t314, .slice Ao12 t315.length co12] 72 (0, 0))) := ⟨(by rw [hw]; exact (by (with_reducible repeat (first | refine blk_drewN ?_ _ | refine blk_drew ?_ | refine blk_alloc ?_ _)); refine blk_put (cs := #[.int .i64 t313, .int .i64 t314, .slice none 0 0]) ?_ 2 _ rfl; (with_reducible repeat (first | refine blk_drewN ?_ _ | refine blk_drew ?_ | refine blk_alloc ?_ _)); refine blk_put (cs := #[.int .i64 t313, .int .i64 0, .slice none 0 0]) ?_ 1 _ rfl; (with_reducible repeat (first | refine blk_drewN ?_ _ | refine blk_drew ?_ | refine blk_alloc ?_ _)); refine blk_put (cs := #[.int .i64 0, .int .i64 0, .slice none 0 0]) ?_ 0 _ rfl; exact zK BK340.out))⟩; have n5_ : Aside0 (Below w.heap.size w w62) := ⟨(by rw [hw]; exact (by exact zB3 HB.out GE318.out GE322.out GE340.out))⟩; clear hw; clear HO_319002; clear HO339; clear BK318; clear BK322; clear BK340; clear HB; have HO_319002 := n0_; have HO339 := n1_; have BK318 := n2_; have BK322 := n3_; have BK340 := n4_; have HB := n5_; clear n0_ n1_ n2_ n3_ n4_ n5_))
                  have n0_ := Aside0.mk (Kd.R_drew HO_319002.out)
                  have n1_ := Aside0.mk (Kd.R_drew HO339.out)
                  have n2_ := Aside0.mk (blk_drew BK318.out)
                  have n3_ := Aside0.mk (blk_drew BK322.out)
                  have n4_ := Aside0.mk (blk_drew BK340.out)
                  have n5_ := Aside0.mk (below_drew1 HB.out)
                  clear HO_319002
                  clear HO339
                  clear BK318
                  clear BK322
                  clear BK340
                  clear HB
                  have HO_319002 := n0_
                  have HO339 := n1_
                  have BK318 := n2_
                  have BK322 := n3_
                  have BK340 := n4_
                  have HB := n5_
                  clear n0_ n1_ n2_ n3_ n4_ n5_
                  have p347 : 0 ≤ ((ji29) : Int) := of_decide_eq_true (by first | (with_reducible assumption) | assumption)
                  have q347 : (ji29) < (t315.length : Int) := of_decide_eq_true (by first | (with_reducible assumption) | assumption)
                  obtain ⟨ad347, e347, hx347_0, hx347_1, hx347_2⟩ := at_T76 (Kd.R_reads' HO_319002.out).2.2 (ji29) p347 q347
                  cases e347
                  replace p347 := eq_true p347
                  replace q347 := eq_true q347
                  refine start_ (n := 13) (S := fun w' => w'.cell? ⟨gb318, 0, none⟩ = some (.int .i64 t313) ∧ w'.cell? ⟨gb318, 1, none⟩ = some (.int .i64 t314) ∧ w'.cell? ⟨gb318, 2, none⟩ = some (.slice (some ad347) t315.length co12) ∧ w'.cell? (ad347.add (((ji29)).toNat * 3)) = some (.int .i64 ((rd_T76 t315 (ji29)).f0)) ∧ w'.cell? ⟨(ad347.add (((ji29)).toNat * 3)).block, (ad347.add (((ji29)).toNat * 3)).off + 1, none⟩ = some (.int .i64 ((rd_T76 t315 (ji29)).f1)) ∧ w'.cell? ⟨(ad347.add (((ji29)).toNat * 3)).block, (ad347.add (((ji29)).toNat * 3)).off + 2, none⟩ = some (.int .i64 ((rd_T76 t315 (ji29)).f2))) (ds := []) #[false, false, false, false, false, false, false, false, false, false, false, false, false] (by kernel_rfl) rfl rfl ⟨(blk_cell BK318.out 0).trans rfl, (blk_cell BK318.out 1).trans rfl, (blk_cell BK318.out 2).trans rfl, hx347_0, hx347_1, hx347_2⟩ (fun hHeld => ?_); refine with_tabW laws_FnIndexLess.tab11 laws_FnIndexLess.bits11 (fun HT_ HW_ => ?_)
                  generalize w62.drew = w63 at HO_319002 HO339 BK318 BK322 BK340 HB hx347_0 hx347_1 hx347_2 hHeld ⊢
                  refine pure_ (i := 1) (N := some 62) (v := ?_) (a' := ?_) #[false, true, false, false, false, false, false, false, false, false, false, false, false] rfl rfl (any_of HT_.out (by kernel_rfl)) (fun _ _ _ h => h) (Or.inl ⟨by rfl, ?_⟩) ?_ ?_
                  rotate_left
                  ·intro w'
                   go_simp
                   with_reducible rfl
                  rotate_left
                  ·simp only [zp0, zp1, zp2, zp3, zp4, i64_w, i32_w]
                   rfl
                  refine pure_ (i := 4) (N := some 65) (v := ?_) (a' := ?_) #[false, true, false, false, true, false, false, false, false, false, false, false, false] rfl rfl (any_of HT_.out (by kernel_rfl)) (fun _ _ _ h => h) (Or.inl ⟨by rfl, ?_⟩) ?_ ?_
                  rotate_left
                  ·intro w'
                   go_simp
                   with_reducible rfl
                  rotate_left
                  ·simp only [zp0, zp1, zp2, zp3, zp4, i64_w, i32_w]
                   rfl
                  refine pure_ (i := 6) (N := some 67) (v := ?_) (a' := ?_) #[false, true, false, false, true, false, true, false, false, false, false, false, false] rfl rfl (any_of HT_.out (by kernel_rfl)) (fun _ _ _ h => h) (Or.inl ⟨by rfl, ?_⟩) ?_ ?_
                  rotate_left
                  ·intro w'
                   go_simp
                   with_reducible rfl
                  rotate_left
                  ·simp only [zp0, zp1, zp2, zp3, zp4, i64_w, i32_w]
                   rfl
                  refine take_ (i := 2) (N := some 63) (v := ?_) (a' := ?_) #[false, true, true, false, true, false, true, false, false, false, false, false, false] rfl rfl (take_ofW HT_.out HW_.out (by kernel_rfl)) (fun _ _ _ h => h) (Or.inl ⟨by rfl, ?_⟩) hHeld ?_ ?_
                  rotate_left
                  ·rintro w' ⟨s0, s1, s2, s3, s4, s5⟩
                   go_simp
                   with_reducible rfl
                  rotate_left
                  ·simp only [zp0, zp1, zp2, zp3, zp4, i64_w, i32_w]
                   rfl
                  refine take_ (i := 5) (N := some 66) (v := ?_) (a' := ?_) #[false, true, true, false, true, true, true, false, false, false, false, false, false] rfl rfl (take_ofW HT_.out HW_.out (by kernel_rfl)) (fun _ _ _ h => h) (Or.inl ⟨by rfl, ?_⟩) hHeld ?_ ?_
                  rotate_left
                  ·rintro w' ⟨s0, s1, s2, s3, s4, s5⟩
                   go_simp
                   with_reducible rfl
                  rotate_left
                  ·simp only [zp0, zp1, zp2, zp3, zp4, i64_w, i32_w]
                   rfl
                  refine pure_ (i := 7) (N := some 68) (v := ?_) (a' := ?_) #[false, true, true, false, true, true, true, true, false, false, false, false, false] rfl rfl (any_of HT_.out (by kernel_rfl)) (fun _ _ _ h => h) (Or.inl ⟨by rfl, ?_⟩) ?_ ?_
                  rotate_left
                  ·intro w'
                   go_simp
                   with_reducible rfl
                  rotate_left
                  ·simp only [zp0, zp1, zp2, zp3, zp4, i64_w, i32_w]
                   rfl
                  refine take_ (i := 8) (N := some 69) (v := ?_) (a' := ?_) #[false, true, true, false, true, true, true, true, true, false, false, false, false] rfl rfl (take_ofW HT_.out HW_.out (by kernel_rfl)) (fun _ _ _ h => h) (Or.inl ⟨by rfl, ?_⟩) hHeld ?_ ?_
                  rotate_left
                  ·rintro w' ⟨s0, s1, s2, s3, s4, s5⟩
                   go_simp
                   with_reducible rfl
                  rotate_left
                  ·simp only [zp0, zp1, zp2, zp3, zp4, i64_w, i32_w]
                   rfl
                  refine join_ (σ := Value × Value × Value) 3 #[true, true, true, true, true, true, true, true, true, true, false, false, false] (fun s_ => [(61, s_.1), (64, s_.2.1), (70, s_.2.2)]) (fun s_ w' => (w'.cell? ⟨gb318, 0, none⟩ = some (.int .i64 t313) ∧ w'.cell? ⟨gb318, 1, none⟩ = some (.int .i64 t314) ∧ w'.cell? ⟨gb318, 2, none⟩ = some (.slice (some ad347) t315.length co12) ∧ w'.cell? (ad347.add (((ji29)).toNat * 3)) = some (.int .i64 ((rd_T76 t315 (ji29)).f0)) ∧ w'.cell? ⟨(ad347.add (((ji29)).toNat * 3)).block, (ad347.add (((ji29)).toNat * 3)).off + 1, none⟩ = some (.int .i64 ((rd_T76 t315 (ji29)).f1)) ∧ w'.cell? ⟨(ad347.add (((ji29)).toNat * 3)).block, (ad347.add (((ji29)).toNat * 3)).off + 2, none⟩ = some (.int .i64 ((rd_T76 t315 (ji29)).f2))) ∧ (Kd.R k76 76 w' w.heap.size (fun k_ => some k_ ≠ (s_.2.1 : Value).ownBlock ∧ some k_ ≠ (s_.2.2 : Value).ownBlock ∧ some k_ ≠ (.slice (some ad347) t315.length co12 : Value).ownBlock) (.slice Ao55 y337.length co55) y337) ∧ (Kd.R k76 76 w' w.heap.size (fun k_ => some k_ ≠ (.slice Ao55 y337.length co55 : Value).ownBlock ∧ some k_ ≠ (s_.2.2 : Value).ownBlock ∧ some k_ ≠ (.slice (some ad347) t315.length co12 : Value).ownBlock) s_.2.1 y344) ∧ (Kd.R k76 76 w' w.heap.size (fun k_ => some k_ ≠ (.slice Ao55 y337.length co55 : Value).ownBlock ∧ some k_ ≠ (s_.2.1 : Value).ownBlock ∧ some k_ ≠ (.slice (some ad347) t315.length co12 : Value).ownBlock) s_.2.2 y348) ∧ (Kd.R k76 76 w' w.heap.size (fun k_ => some k_ ≠ (.slice Ao55 y337.length co55 : Value).ownBlock ∧ some k_ ≠ (s_.2.1 : Value).ownBlock ∧ some k_ ≠ (s_.2.2 : Value).ownBlock) (.slice (some ad347) t315.length co12) t315) ∧ (w'.heap[gb318]? = some (.cells #[.int .i64 t313, .int .i64 t314, .slice (some ad347) t315.length co12] 72 (0, 0))) ∧ (w'.heap[gb322]? = some (.cells #[.int .i64 t313, .int .i64 t314, .slice Ao55 y337.length co55] 72 (0, 0))) ∧ (w'.heap[gb340]? = some (.cells #[.int .i64 t313, .int .i64 t314, .slice (some ad347) t315.length co12] 72 (0, 0))) ∧ (Below w.heap.size w w')) ?_ ?_
                  rotate_left
                  ·intro hCont
                   refine two_ (i := 0) (j := 9) (Ni := some 61) (Nj := some 70) #[true, true, true, false, true, true, true, true, true, false, false, false, false] #[false, true, true, false, true, true, true, true, true, true, false, false, false] rfl rfl rfl rfl (two_of HT_.out (by kernel_rfl)) (by decide) (by decide) (fun K hK => ?_) (fun K hK => ?_)
                   ·skip
                    refine Kd.R_lit_step k76 _ 76 ?hg (N := 61) ?hd (xs := ([] : List (S76))) (inner := []) (ok := fun _ => True) (okp := fun _ => True) ?hr ?hp (fun _ hk => hk) trivial (Below.refl _ _) (Nat.le_refl _) (by simp) ?_; (case hd => rfl); (case hg => rfl); (case hr => first | (go_simp; done) | (go_simp; rfl)); (case hp => exact (Reps.none _ _))
                    intro v342 w64 ho65 hb hg_ hnew_
                    have HS3_ := (hb.cell (World.block_lt_of_cell? _ _ (hHeld.2.2.2.1))).trans (hHeld.2.2.2.1)
                    have HS4_ := (hb.cell (World.block_lt_of_cell? _ _ (hHeld.2.2.2.2.1))).trans (hHeld.2.2.2.2.1)
                    have HS5_ := (hb.cell (World.block_lt_of_cell? _ _ (hHeld.2.2.2.2.2))).trans (hHeld.2.2.2.2.2)
                    clear hg_ hnew_
                    (first | rw [← Ny341.out] at ho65 | (simp only [Int.reduceToNat] at ho65; rw [← Ny341.out] at ho65))
                    have n0_ := Aside0.mk (Kd.R_elder' (by exact zR HO_319002.out) (Kd.R_base ho65) hb)
                    have n1_ := Aside0.mk (Kd.R_elder' (by exact zR HO339.out) (Kd.R_base ho65) hb)
                    have n2_ := Aside0.mk (Kd.R_lower (Kd.R_new' (Kd.R_new' ho65 (Kd.R_lt (by exact zR HO_319002.out))) (Kd.R_lt (by exact zR HO339.out))) (below_size (by exact zB3 HB.out GE318.out GE322.out GE340.out)))
                    have n3_ := Aside0.mk (blk_below (g := gb318) (o := .cells #[.int .i64 t313, .int .i64 t314, .slice (some ad347) t315.length co12] 72 (0, 0)) (by exact zK BK318.out) hb)
                    have n4_ := Aside0.mk (blk_below (g := gb322) (o := .cells #[.int .i64 t313, .int .i64 t314, .slice Ao55 y337.length co55] 72 (0, 0)) (by exact zK BK322.out) hb)
                    have n5_ := Aside0.mk (blk_below (g := gb340) (o := .cells #[.int .i64 t313, .int .i64 t314, .slice (some ad347) t315.length co12] 72 (0, 0)) (by exact zK BK340.out) hb)
                    have n6_ := Aside0.mk (below_step (by exact zB3 HB.out GE318.out GE322.out GE340.out) hb)
                    clear HO_319002
                    clear HO339
                    clear BK318
                    clear BK322
                    clear BK340
                    clear HB
                    have HO_319002 := n0_
                    have HO339 := n1_
                    have HO343 := n2_
                    have BK318 := n3_
                    have BK322 := n4_
                    have BK340 := n5_
                    have HB := n6_
                    clear n0_ n1_ n2_ n3_ n4_ n5_ n6_
                    clear hb ho65
                    refine hK.out _ _ ⟨(blk_cell BK318.out 0).trans rfl, (blk_cell BK318.out 1).trans rfl, (blk_cell BK318.out 2).trans rfl, HS3_, HS4_, HS5_⟩ (fun hHeld => ?_)
                    clear hK K
                    refine norm_ (a' := ?_) ?_ ?_
                    rotate_left
                    ·show Act.put _ (some 61) _ = _
                     simp only [zp0, zp1, zp2, zp3, zp4, i64_w, i32_w]
                     rfl
                    refine two_ (i := 3) (j := 9) (Ni := some 64) (Nj := some 70) #[true, true, true, true, true, true, true, true, true, false, false, false, false] #[true, true, true, false, true, true, true, true, true, true, false, false, false] rfl rfl rfl rfl (two_of HT_.out (by kernel_rfl)) (by decide) (by decide) (fun K hK => ?_) (fun K hK => ?_)
                    ·skip
                     refine Kd.R_append_rows_step k76 (w0 := w) w.heap.size (by rfl) (.tmp 61) (.tmp 63) 70 76 (.agg #[(.int .i64 0), (.int .i64 0), (.int .i64 0)]) 24 rfl Try.underlying70 info76 rfl (by decide) (by omega) v342 y341 t315 _ _ _ (fun k_ => some k_ ≠ (.slice (some ad347) t315.length co12 : Value).ownBlock ∧ some k_ ≠ (.slice Ao55 y337.length co55 : Value).ownBlock) (fun _ => False) rfl rfl ?aO ?aR (fun _ _ h => h) (fun _ h => h.elim) ?aF ?aB ?aS ?aL ?_
                     (case aR => exact zC (Kd.R_reads' HO_319002.out).2.2)
                     (case aB => exact (by exact zB3 HB.out GE318.out GE322.out GE340.out))
                     (case aF => exact (fun k_ hk => ⟨Kd.fresh' (Kd.R_lt (by exact zR HO_319002.out)) k_ hk, Kd.fresh' (Kd.R_lt (by exact zR HO339.out)) k_ hk⟩))
                     (case aO => exact (by exact zR (Kd.R_mono HO343.out (fun _ hk => ⟨hk.1.2, hk.2⟩))))
                     (case aS => exact (below_size (by exact zB3 HB.out GE318.out GE322.out GE340.out)))
                     (case aL => have := LMc37.out; omega)
                     intro v345 w66 ho hb hg hat
                     have HS3_ := cell_grown hg (hHeld.2.2.2.1) (by intro e_; (try rw [add_block] at e_); have h_ := HO343.out.1 _ e_.symm; first | exact h_ rfl | exact h_.1 rfl | exact h_.2 rfl | exact h_.1.1 rfl | exact h_.1.2 rfl | exact h_.2.1 rfl | exact h_.2.2 rfl | exact h_.1.1.1 rfl | exact h_.1.1.2 rfl | exact h_.1.2.1 rfl | exact h_.1.2.2 rfl | exact h_.2.2.1 rfl | exact h_.2.2.2 rfl | exact h_.1.1.1.1 rfl | exact h_.1.1.1.2 rfl)
                     have HS4_ := cell_grown hg (hHeld.2.2.2.2.1) (by intro e_; (try rw [add_block] at e_); have h_ := HO343.out.1 _ e_.symm; first | exact h_ rfl | exact h_.1 rfl | exact h_.2 rfl | exact h_.1.1 rfl | exact h_.1.2 rfl | exact h_.2.1 rfl | exact h_.2.2 rfl | exact h_.1.1.1 rfl | exact h_.1.1.2 rfl | exact h_.1.2.1 rfl | exact h_.1.2.2 rfl | exact h_.2.2.1 rfl | exact h_.2.2.2 rfl | exact h_.1.1.1.1 rfl | exact h_.1.1.1.2 rfl)
                     have HS5_ := cell_grown hg (hHeld.2.2.2.2.2) (by intro e_; (try rw [add_block] at e_); have h_ := HO343.out.1 _ e_.symm; first | exact h_ rfl | exact h_.1 rfl | exact h_.2 rfl | exact h_.1.1 rfl | exact h_.1.2 rfl | exact h_.2.1 rfl | exact h_.2.2 rfl | exact h_.1.1.1 rfl | exact h_.1.1.2 rfl | exact h_.1.2.1 rfl | exact h_.1.2.2 rfl | exact h_.2.2.1 rfl | exact h_.2.2.2 rfl | exact h_.1.1.1.1 rfl | exact h_.1.1.1.2 rfl)
                     rw [← Ny344.out] at ho
                     have n0_ := Aside0.mk (Kd.R_after (ok := (fun k_ => some k_ ≠ (.slice Ao55 y337.length co55 : Value).ownBlock)) (by exact zR HO_319002.out) hg hat)
                     have n1_ := Aside0.mk (blk_grown (g := gb318) (o := .cells #[.int .i64 t313, .int .i64 t314, .slice (some ad347) t315.length co12] 72 (0, 0)) (by exact zK BK318.out) hg (Kd.R_ne HO343.out BK318.out (by decide)))
                     have n2_ := Aside0.mk (blk_grown (g := gb322) (o := .cells #[.int .i64 t313, .int .i64 t314, .slice Ao55 y337.length co55] 72 (0, 0)) (by exact zK BK322.out) hg (Kd.R_ne HO343.out BK322.out (by decide)))
                     have n3_ := Aside0.mk (Kd.R_after (ok := (fun k_ => some k_ ≠ (.slice (some ad347) t315.length co12 : Value).ownBlock)) (by exact zR HO339.out) hg hat)
                     have n4_ := Aside0.mk (blk_grown (g := gb340) (o := .cells #[.int .i64 t313, .int .i64 t314, .slice (some ad347) t315.length co12] 72 (0, 0)) (by exact zK BK340.out) hg (Kd.R_ne HO343.out BK340.out (by decide)))
                     have n5_ := Aside0.mk (hb)
                     have n6_ := Aside0.mk (ho)
                     clear HO_319002
                     clear BK318
                     clear BK322
                     clear HO339
                     clear BK340
                     clear HB
                     clear HO343
                     have HO_319002 := n0_
                     have BK318 := n1_
                     have BK322 := n2_
                     have HO339 := n3_
                     have BK340 := n4_
                     have HB := n5_
                     have HO346 := n6_
                     clear n0_ n1_ n2_ n3_ n4_ n5_ n6_
                     clear ho hb hg hat
                     refine hK.out _ _ ⟨(blk_cell BK318.out 0).trans rfl, (blk_cell BK318.out 1).trans rfl, (blk_cell BK318.out 2).trans rfl, HS3_, HS4_, HS5_⟩ (fun hHeld => ?_)
                     clear hK K
                     refine norm_ (a' := ?_) ?_ ?_
                     rotate_left
                     ·show Act.put _ (some 64) _ = _
                      simp only [zp0, zp1, zp2, zp3, zp4, i64_w, i32_w]
                      rfl
                     refine one_ (i := 9) (N := some 70) #[true, true, true, true, true, true, true, true, true, true, false, false, false] rfl rfl (one_of HT_.out (by kernel_rfl)) (by decide) (fun K hK => ?_)
                     refine Kd.R_lit_step k76 _ 76 ?hg (N := 70) ?hd (xs := ([(⟨(rd_T76 t315 (ji29)).f0, (rd_T76 t315 (ji29)).f1, (rd_T76 t315 (ji29)).f2⟩ : S76)] : List (S76))) (inner := [.int .i64 ((rd_T76 t315 (ji29)).f0), .int .i64 ((rd_T76 t315 (ji29)).f1), .int .i64 ((rd_T76 t315 (ji29)).f2)]) (ok := fun _ => True) (okp := fun _ => True) ?hr ?hp (fun _ hk => hk) trivial (Below.refl _ _) (Nat.le_refl _) (by simp) ?_; (case hd => rfl); (case hg => rfl); (case hr => first | (go_simp; done) | (go_simp; rfl)); (case hp => exact (Reps.c3 (show Kd.M k76 _ _ _ (⟨(rd_T76 t315 (ji29)).f0, (rd_T76 t315 (ji29)).f1, (rd_T76 t315 (ji29)).f2⟩ : S76) [.int .i64 ((rd_T76 t315 (ji29)).f0), .int .i64 ((rd_T76 t315 (ji29)).f1), .int .i64 ((rd_T76 t315 (ji29)).f2)] from (k76_mkM _ _ _ (⟨(rd_T76 t315 (ji29)).f0, (rd_T76 t315 (ji29)).f1, (rd_T76 t315 (ji29)).f2⟩ : S76) )) (Reps.none _ _)))
                     intro v349 w67 ho68 hb hg_ hnew_
                     have HS3_ := (hb.cell (World.block_lt_of_cell? _ _ (hHeld.2.2.2.1))).trans (hHeld.2.2.2.1)
                     have HS4_ := (hb.cell (World.block_lt_of_cell? _ _ (hHeld.2.2.2.2.1))).trans (hHeld.2.2.2.2.1)
                     have HS5_ := (hb.cell (World.block_lt_of_cell? _ _ (hHeld.2.2.2.2.2))).trans (hHeld.2.2.2.2.2)
                     clear hg_ hnew_
                     (first | rw [← Ny348.out] at ho68 | (simp only [Int.reduceToNat] at ho68; rw [← Ny348.out] at ho68))
                     have n0_ := Aside0.mk (Kd.R_elder' (by exact zR HO_319002.out) (Kd.R_base ho68) hb)
                     have n1_ := Aside0.mk (Kd.R_elder' (by exact zR HO339.out) (Kd.R_base ho68) hb)
                     have n2_ := Aside0.mk (Kd.R_elder' (by exact zR HO346.out) (Kd.R_base ho68) hb)
                     have n3_ := Aside0.mk (Kd.R_lower (Kd.R_new' (Kd.R_new' (Kd.R_new' ho68 (Kd.R_lt (by exact zR HO_319002.out))) (Kd.R_lt (by exact zR HO339.out))) (Kd.R_lt (by exact zR HO346.out))) (below_size (by exact zB3 HB.out GE318.out GE322.out GE340.out)))
                     have n4_ := Aside0.mk (blk_below (g := gb318) (o := .cells #[.int .i64 t313, .int .i64 t314, .slice (some ad347) t315.length co12] 72 (0, 0)) (by exact zK BK318.out) hb)
                     have n5_ := Aside0.mk (blk_below (g := gb322) (o := .cells #[.int .i64 t313, .int .i64 t314, .slice Ao55 y337.length co55] 72 (0, 0)) (by exact zK BK322.out) hb)
                     have n6_ := Aside0.mk (blk_below (g := gb340) (o := .cells #[.int .i64 t313, .int .i64 t314, .slice (some ad347) t315.length co12] 72 (0, 0)) (by exact zK BK340.out) hb)
                     have n7_ := Aside0.mk (below_step (by exact zB3 HB.out GE318.out GE322.out GE340.out) hb)
                     clear HO_319002
                     clear HO339
                     clear HO346
                     clear BK318
                     clear BK322
                     clear BK340
                     clear HB
                     have HO_319002 := n0_
                     have HO339 := n1_
                     have HO346 := n2_
                     have HO350 := n3_
                     have BK318 := n4_
                     have BK322 := n5_
                     have BK340 := n6_
                     have HB := n7_
                     clear n0_ n1_ n2_ n3_ n4_ n5_ n6_ n7_
                     clear hb ho68
                     refine hK.out _ _ ⟨(blk_cell BK318.out 0).trans rfl, (blk_cell BK318.out 1).trans rfl, (blk_cell BK318.out 2).trans rfl, HS3_, HS4_, HS5_⟩ (fun hHeld => ?_)
                     clear hK K
                     refine norm_ (a' := ?_) ?_ ?_
                     rotate_left
                     ·show Act.put _ (some 70) _ = _
                      simp only [zp0, zp1, zp2, zp3, zp4, i64_w, i32_w]
                      rfl
                     exact norm_ (by simp only [putAll, zp0, zp1, zp2, zp3, zp4]) (hCont (v342, v345, v349) _ ⟨hHeld, (by exact zR (Kd.R_mono HO339.out (fun _ hk => ⟨hk.1.2, ⟨hk.2, hk.1.1⟩⟩))), (by exact zR (Kd.R_mono HO346.out (fun _ hk => ⟨hk.1.2, ⟨hk.2, hk.1.1⟩⟩))), (by exact zR (Kd.R_mono HO350.out (fun _ hk => ⟨hk.1.2, ⟨hk.2, hk.1.1.2⟩⟩))), (by exact zR (Kd.R_mono HO_319002.out (fun _ hk => ⟨hk.1.1, ⟨hk.1.2, hk.2⟩⟩))), (by exact zK BK318.out), (by exact zK BK322.out), (by exact zK BK340.out), (by exact zB3 HB.out GE318.out GE322.out GE340.out)⟩)
                    ·skip
                     refine Kd.R_lit_step k76 _ 76 ?hg (N := 70) ?hd (xs := ([(⟨(rd_T76 t315 (ji29)).f0, (rd_T76 t315 (ji29)).f1, (rd_T76 t315 (ji29)).f2⟩ : S76)] : List (S76))) (inner := [.int .i64 ((rd_T76 t315 (ji29)).f0), .int .i64 ((rd_T76 t315 (ji29)).f1), .int .i64 ((rd_T76 t315 (ji29)).f2)]) (ok := fun _ => True) (okp := fun _ => True) ?hr ?hp (fun _ hk => hk) trivial (Below.refl _ _) (Nat.le_refl _) (by simp) ?_; (case hd => rfl); (case hg => rfl); (case hr => first | (go_simp; done) | (go_simp; rfl)); (case hp => exact (Reps.c3 (show Kd.M k76 _ _ _ (⟨(rd_T76 t315 (ji29)).f0, (rd_T76 t315 (ji29)).f1, (rd_T76 t315 (ji29)).f2⟩ : S76) [.int .i64 ((rd_T76 t315 (ji29)).f0), .int .i64 ((rd_T76 t315 (ji29)).f1), .int .i64 ((rd_T76 t315 (ji29)).f2)] from (k76_mkM _ _ _ (⟨(rd_T76 t315 (ji29)).f0, (rd_T76 t315 (ji29)).f1, (rd_T76 t315 (ji29)).f2⟩ : S76) )) (Reps.none _ _)))
                     intro v349 w66 ho67 hb hg_ hnew_
                     have HS3_ := (hb.cell (World.block_lt_of_cell? _ _ (hHeld.2.2.2.1))).trans (hHeld.2.2.2.1)
                     have HS4_ := (hb.cell (World.block_lt_of_cell? _ _ (hHeld.2.2.2.2.1))).trans (hHeld.2.2.2.2.1)
                     have HS5_ := (hb.cell (World.block_lt_of_cell? _ _ (hHeld.2.2.2.2.2))).trans (hHeld.2.2.2.2.2)
                     clear hg_ hnew_
                     (first | rw [← Ny348.out] at ho67 | (simp only [Int.reduceToNat] at ho67; rw [← Ny348.out] at ho67))
                     have n0_ := Aside0.mk (Kd.R_elder' (by exact zR HO_319002.out) (Kd.R_base ho67) hb)
                     have n1_ := Aside0.mk (Kd.R_elder' (by exact zR HO339.out) (Kd.R_base ho67) hb)
                     have n2_ := Aside0.mk (Kd.R_elder' (by exact zR HO343.out) (Kd.R_base ho67) hb)
                     have n3_ := Aside0.mk (Kd.R_lower (Kd.R_new' (Kd.R_new' (Kd.R_new' ho67 (Kd.R_lt (by exact zR HO_319002.out))) (Kd.R_lt (by exact zR HO339.out))) (Kd.R_lt (by exact zR HO343.out))) (below_size (by exact zB3 HB.out GE318.out GE322.out GE340.out)))
                     have n4_ := Aside0.mk (blk_below (g := gb318) (o := .cells #[.int .i64 t313, .int .i64 t314, .slice (some ad347) t315.length co12] 72 (0, 0)) (by exact zK BK318.out) hb)
                     have n5_ := Aside0.mk (blk_below (g := gb322) (o := .cells #[.int .i64 t313, .int .i64 t314, .slice Ao55 y337.length co55] 72 (0, 0)) (by exact zK BK322.out) hb)
                     have n6_ := Aside0.mk (blk_below (g := gb340) (o := .cells #[.int .i64 t313, .int .i64 t314, .slice (some ad347) t315.length co12] 72 (0, 0)) (by exact zK BK340.out) hb)
                     have n7_ := Aside0.mk (below_step (by exact zB3 HB.out GE318.out GE322.out GE340.out) hb)
                     clear HO_319002
                     clear HO339
                     clear HO343
                     clear BK318
                     clear BK322
                     clear BK340
                     clear HB
                     have HO_319002 := n0_
                     have HO339 := n1_
                     have HO343 := n2_
                     have HO350 := n3_
                     have BK318 := n4_
                     have BK322 := n5_
                     have BK340 := n6_
                     have HB := n7_
                     clear n0_ n1_ n2_ n3_ n4_ n5_ n6_ n7_
                     clear hb ho67
                     refine hK.out _ _ ⟨(blk_cell BK318.out 0).trans rfl, (blk_cell BK318.out 1).trans rfl, (blk_cell BK318.out 2).trans rfl, HS3_, HS4_, HS5_⟩ (fun hHeld => ?_)
                     clear hK K
                     refine norm_ (a' := ?_) ?_ ?_
                     rotate_left
                     ·show Act.put _ (some 70) _ = _
                      simp only [zp0, zp1, zp2, zp3, zp4, i64_w, i32_w]
                      rfl
                     refine one_ (i := 3) (N := some 64) #[true, true, true, true, true, true, true, true, true, true, false, false, false] rfl rfl (one_of HT_.out (by kernel_rfl)) (by decide) (fun K hK => ?_)
                     refine Kd.R_append_rows_step k76 (w0 := w) w.heap.size (by rfl) (.tmp 61) (.tmp 63) 70 76 (.agg #[(.int .i64 0), (.int .i64 0), (.int .i64 0)]) 24 rfl Try.underlying70 info76 rfl (by decide) (by omega) v342 y341 t315 _ _ _ (fun k_ => some k_ ≠ (.slice (some ad347) t315.length co12 : Value).ownBlock ∧ some k_ ≠ (.slice Ao55 y337.length co55 : Value).ownBlock ∧ some k_ ≠ (v349 : Value).ownBlock) (fun _ => False) rfl rfl ?aO ?aR (fun _ _ h => h) (fun _ h => h.elim) ?aF ?aB ?aS ?aL ?_
                     (case aR => exact zC (Kd.R_reads' HO_319002.out).2.2)
                     (case aB => exact (by exact zB3 HB.out GE318.out GE322.out GE340.out))
                     (case aF => exact (fun k_ hk => ⟨Kd.fresh' (Kd.R_lt (by exact zR HO_319002.out)) k_ hk, Kd.fresh' (Kd.R_lt (by exact zR HO339.out)) k_ hk, Kd.fresh' (Kd.R_lt (by exact zR HO350.out)) k_ hk⟩))
                     (case aO => exact (by exact zR (Kd.R_mono HO343.out (fun _ hk => ⟨hk.1.1.2, ⟨hk.1.2, hk.2⟩⟩))))
                     (case aS => exact (below_size (by exact zB3 HB.out GE318.out GE322.out GE340.out)))
                     (case aL => have := LMc37.out; omega)
                     intro v345 w68 ho hb hg hat
                     have HS3_ := cell_grown hg (hHeld.2.2.2.1) (by intro e_; (try rw [add_block] at e_); have h_ := HO343.out.1 _ e_.symm; first | exact h_ rfl | exact h_.1 rfl | exact h_.2 rfl | exact h_.1.1 rfl | exact h_.1.2 rfl | exact h_.2.1 rfl | exact h_.2.2 rfl | exact h_.1.1.1 rfl | exact h_.1.1.2 rfl | exact h_.1.2.1 rfl | exact h_.1.2.2 rfl | exact h_.2.2.1 rfl | exact h_.2.2.2 rfl | exact h_.1.1.1.1 rfl | exact h_.1.1.1.2 rfl)
                     have HS4_ := cell_grown hg (hHeld.2.2.2.2.1) (by intro e_; (try rw [add_block] at e_); have h_ := HO343.out.1 _ e_.symm; first | exact h_ rfl | exact h_.1 rfl | exact h_.2 rfl | exact h_.1.1 rfl | exact h_.1.2 rfl | exact h_.2.1 rfl | exact h_.2.2 rfl | exact h_.1.1.1 rfl | exact h_.1.1.2 rfl | exact h_.1.2.1 rfl | exact h_.1.2.2 rfl | exact h_.2.2.1 rfl | exact h_.2.2.2 rfl | exact h_.1.1.1.1 rfl | exact h_.1.1.1.2 rfl)
                     have HS5_ := cell_grown hg (hHeld.2.2.2.2.2) (by intro e_; (try rw [add_block] at e_); have h_ := HO343.out.1 _ e_.symm; first | exact h_ rfl | exact h_.1 rfl | exact h_.2 rfl | exact h_.1.1 rfl | exact h_.1.2 rfl | exact h_.2.1 rfl | exact h_.2.2 rfl | exact h_.1.1.1 rfl | exact h_.1.1.2 rfl | exact h_.1.2.1 rfl | exact h_.1.2.2 rfl | exact h_.2.2.1 rfl | exact h_.2.2.2 rfl | exact h_.1.1.1.1 rfl | exact h_.1.1.1.2 rfl)
                     rw [← Ny344.out] at ho
                     have n0_ := Aside0.mk (Kd.R_after (ok := (fun k_ => some k_ ≠ (.slice Ao55 y337.length co55 : Value).ownBlock ∧ some k_ ≠ (v349 : Value).ownBlock)) (by exact zR (Kd.R_mono HO_319002.out (fun _ hk => ⟨⟨hk.1.1, hk.2⟩, hk.1.2⟩))) hg hat)
                     have n1_ := Aside0.mk (blk_grown (g := gb318) (o := .cells #[.int .i64 t313, .int .i64 t314, .slice (some ad347) t315.length co12] 72 (0, 0)) (by exact zK BK318.out) hg (Kd.R_ne HO343.out BK318.out (by decide)))
                     have n2_ := Aside0.mk (blk_grown (g := gb322) (o := .cells #[.int .i64 t313, .int .i64 t314, .slice Ao55 y337.length co55] 72 (0, 0)) (by exact zK BK322.out) hg (Kd.R_ne HO343.out BK322.out (by decide)))
                     have n3_ := Aside0.mk (Kd.R_after (ok := (fun k_ => some k_ ≠ (.slice (some ad347) t315.length co12 : Value).ownBlock ∧ some k_ ≠ (v349 : Value).ownBlock)) (by exact zR (Kd.R_mono HO339.out (fun _ hk => ⟨⟨hk.1.1, hk.2⟩, hk.1.2⟩))) hg hat)
                     have n4_ := Aside0.mk (blk_grown (g := gb340) (o := .cells #[.int .i64 t313, .int .i64 t314, .slice (some ad347) t315.length co12] 72 (0, 0)) (by exact zK BK340.out) hg (Kd.R_ne HO343.out BK340.out (by decide)))
                     have n5_ := Aside0.mk (Kd.R_after (ok := (fun k_ => some k_ ≠ (.slice (some ad347) t315.length co12 : Value).ownBlock ∧ some k_ ≠ (.slice Ao55 y337.length co55 : Value).ownBlock)) (by exact zR (Kd.R_mono HO350.out (fun _ hk => ⟨⟨hk.1.1.2, hk.1.2⟩, hk.2⟩))) hg hat)
                     have n6_ := Aside0.mk (hb)
                     have n7_ := Aside0.mk (ho)
                     clear HO_319002
                     clear BK318
                     clear BK322
                     clear HO339
                     clear BK340
                     clear HO350
                     clear HB
                     clear HO343
                     have HO_319002 := n0_
                     have BK318 := n1_
                     have BK322 := n2_
                     have HO339 := n3_
                     have BK340 := n4_
                     have HO350 := n5_
                     have HB := n6_
                     have HO346 := n7_
                     clear n0_ n1_ n2_ n3_ n4_ n5_ n6_ n7_
                     clear ho hb hg hat
                     refine hK.out _ _ ⟨(blk_cell BK318.out 0).trans rfl, (blk_cell BK318.out 1).trans rfl, (blk_cell BK318.out 2).trans rfl, HS3_, HS4_, HS5_⟩ (fun hHeld => ?_)
                     clear hK K
                     refine norm_ (a' := ?_) ?_ ?_
                     rotate_left
                     ·show Act.put _ (some 64) _ = _
                      simp only [zp0, zp1, zp2, zp3, zp4, i64_w, i32_w]
                      rfl
                     exact norm_ (by simp only [putAll, zp0, zp1, zp2, zp3, zp4]) (hCont (v342, v345, v349) _ ⟨hHeld, (by exact zR (Kd.R_mono HO339.out (fun _ hk => ⟨hk.2, ⟨hk.1.2, hk.1.1⟩⟩))), (by exact zR (Kd.R_mono HO346.out (fun _ hk => ⟨hk.2.1, ⟨hk.2.2, hk.1⟩⟩))), (by exact zR (Kd.R_mono HO350.out (fun _ hk => ⟨hk.1.2, ⟨hk.2, hk.1.1⟩⟩))), (by exact zR (Kd.R_mono HO_319002.out (fun _ hk => ⟨hk.1.1, ⟨hk.2, hk.1.2⟩⟩))), (by exact zK BK318.out), (by exact zK BK322.out), (by exact zK BK340.out), (by exact zB3 HB.out GE318.out GE322.out GE340.out)⟩)
                   ·skip
                    refine Kd.R_lit_step k76 _ 76 ?hg (N := 70) ?hd (xs := ([(⟨(rd_T76 t315 (ji29)).f0, (rd_T76 t315 (ji29)).f1, (rd_T76 t315 (ji29)).f2⟩ : S76)] : List (S76))) (inner := [.int .i64 ((rd_T76 t315 (ji29)).f0), .int .i64 ((rd_T76 t315 (ji29)).f1), .int .i64 ((rd_T76 t315 (ji29)).f2)]) (ok := fun _ => True) (okp := fun _ => True) ?hr ?hp (fun _ hk => hk) trivial (Below.refl _ _) (Nat.le_refl _) (by simp) ?_; (case hd => rfl); (case hg => rfl); (case hr => first | (go_simp; done) | (go_simp; rfl)); (case hp => exact (Reps.c3 (show Kd.M k76 _ _ _ (⟨(rd_T76 t315 (ji29)).f0, (rd_T76 t315 (ji29)).f1, (rd_T76 t315 (ji29)).f2⟩ : S76) [.int .i64 ((rd_T76 t315 (ji29)).f0), .int .i64 ((rd_T76 t315 (ji29)).f1), .int .i64 ((rd_T76 t315 (ji29)).f2)] from (k76_mkM _ _ _ (⟨(rd_T76 t315 (ji29)).f0, (rd_T76 t315 (ji29)).f1, (rd_T76 t315 (ji29)).f2⟩ : S76) )) (Reps.none _ _)))
                    intro v349 w64 ho65 hb hg_ hnew_
                    have HS3_ := (hb.cell (World.block_lt_of_cell? _ _ (hHeld.2.2.2.1))).trans (hHeld.2.2.2.1)
                    have HS4_ := (hb.cell (World.block_lt_of_cell? _ _ (hHeld.2.2.2.2.1))).trans (hHeld.2.2.2.2.1)
                    have HS5_ := (hb.cell (World.block_lt_of_cell? _ _ (hHeld.2.2.2.2.2))).trans (hHeld.2.2.2.2.2)
                    clear hg_ hnew_
                    (first | rw [← Ny348.out] at ho65 | (simp only [Int.reduceToNat] at ho65; rw [← Ny348.out] at ho65))
                    have n0_ := Aside0.mk (Kd.R_elder' (by exact zR HO_319002.out) (Kd.R_base ho65) hb)
                    have n1_ := Aside0.mk (Kd.R_elder' (by exact zR HO339.out) (Kd.R_base ho65) hb)
                    have n2_ := Aside0.mk (Kd.R_lower (Kd.R_new' (Kd.R_new' ho65 (Kd.R_lt (by exact zR HO_319002.out))) (Kd.R_lt (by exact zR HO339.out))) (below_size (by exact zB3 HB.out GE318.out GE322.out GE340.out)))
                    have n3_ := Aside0.mk (blk_below (g := gb318) (o := .cells #[.int .i64 t313, .int .i64 t314, .slice (some ad347) t315.length co12] 72 (0, 0)) (by exact zK BK318.out) hb)
                    have n4_ := Aside0.mk (blk_below (g := gb322) (o := .cells #[.int .i64 t313, .int .i64 t314, .slice Ao55 y337.length co55] 72 (0, 0)) (by exact zK BK322.out) hb)
                    have n5_ := Aside0.mk (blk_below (g := gb340) (o := .cells #[.int .i64 t313, .int .i64 t314, .slice (some ad347) t315.length co12] 72 (0, 0)) (by exact zK BK340.out) hb)
                    have n6_ := Aside0.mk (below_step (by exact zB3 HB.out GE318.out GE322.out GE340.out) hb)
                    clear HO_319002
                    clear HO339
                    clear BK318
                    clear BK322
                    clear BK340
                    clear HB
                    have HO_319002 := n0_
                    have HO339 := n1_
                    have HO350 := n2_
                    have BK318 := n3_
                    have BK322 := n4_
                    have BK340 := n5_
                    have HB := n6_
                    clear n0_ n1_ n2_ n3_ n4_ n5_ n6_
                    clear hb ho65
                    refine hK.out _ _ ⟨(blk_cell BK318.out 0).trans rfl, (blk_cell BK318.out 1).trans rfl, (blk_cell BK318.out 2).trans rfl, HS3_, HS4_, HS5_⟩ (fun hHeld => ?_)
                    clear hK K
                    refine norm_ (a' := ?_) ?_ ?_
                    rotate_left
                    ·show Act.put _ (some 70) _ = _
                     simp only [zp0, zp1, zp2, zp3, zp4, i64_w, i32_w]
                     rfl
                    refine one_ (i := 0) (N := some 61) #[true, true, true, false, true, true, true, true, true, true, false, false, false] rfl rfl (one_of HT_.out (by kernel_rfl)) (by decide) (fun K hK => ?_)
                    refine Kd.R_lit_step k76 _ 76 ?hg (N := 61) ?hd (xs := ([] : List (S76))) (inner := []) (ok := fun _ => True) (okp := fun _ => True) ?hr ?hp (fun _ hk => hk) trivial (Below.refl _ _) (Nat.le_refl _) (by simp) ?_; (case hd => rfl); (case hg => rfl); (case hr => first | (go_simp; done) | (go_simp; rfl)); (case hp => exact (Reps.none _ _))
                    intro v342 w66 ho67 hb hg_ hnew_
                    have HS3_ := (hb.cell (World.block_lt_of_cell? _ _ (hHeld.2.2.2.1))).trans (hHeld.2.2.2.1)
                    have HS4_ := (hb.cell (World.block_lt_of_cell? _ _ (hHeld.2.2.2.2.1))).trans (hHeld.2.2.2.2.1)
                    have HS5_ := (hb.cell (World.block_lt_of_cell? _ _ (hHeld.2.2.2.2.2))).trans (hHeld.2.2.2.2.2)
                    clear hg_ hnew_
                    (first | rw [← Ny341.out] at ho67 | (simp only [Int.reduceToNat] at ho67; rw [← Ny341.out] at ho67))
                    have n0_ := Aside0.mk (Kd.R_elder' (by exact zR HO_319002.out) (Kd.R_base ho67) hb)
                    have n1_ := Aside0.mk (Kd.R_elder' (by exact zR HO339.out) (Kd.R_base ho67) hb)
                    have n2_ := Aside0.mk (Kd.R_elder' (by exact zR HO350.out) (Kd.R_base ho67) hb)
                    have n3_ := Aside0.mk (Kd.R_lower (Kd.R_new' (Kd.R_new' (Kd.R_new' ho67 (Kd.R_lt (by exact zR HO_319002.out))) (Kd.R_lt (by exact zR HO339.out))) (Kd.R_lt (by exact zR HO350.out))) (below_size (by exact zB3 HB.out GE318.out GE322.out GE340.out)))
                    have n4_ := Aside0.mk (blk_below (g := gb318) (o := .cells #[.int .i64 t313, .int .i64 t314, .slice (some ad347) t315.length co12] 72 (0, 0)) (by exact zK BK318.out) hb)
                    have n5_ := Aside0.mk (blk_below (g := gb322) (o := .cells #[.int .i64 t313, .int .i64 t314, .slice Ao55 y337.length co55] 72 (0, 0)) (by exact zK BK322.out) hb)
                    have n6_ := Aside0.mk (blk_below (g := gb340) (o := .cells #[.int .i64 t313, .int .i64 t314, .slice (some ad347) t315.length co12] 72 (0, 0)) (by exact zK BK340.out) hb)
                    have n7_ := Aside0.mk (below_step (by exact zB3 HB.out GE318.out GE322.out GE340.out) hb)
                    clear HO_319002
                    clear HO339
                    clear HO350
                    clear BK318
                    clear BK322
                    clear BK340
                    clear HB
                    have HO_319002 := n0_
                    have HO339 := n1_
                    have HO350 := n2_
                    have HO343 := n3_
                    have BK318 := n4_
                    have BK322 := n5_
                    have BK340 := n6_
                    have HB := n7_
                    clear n0_ n1_ n2_ n3_ n4_ n5_ n6_ n7_
                    clear hb ho67
                    refine hK.out _ _ ⟨(blk_cell BK318.out 0).trans rfl, (blk_cell BK318.out 1).trans rfl, (blk_cell BK318.out 2).trans rfl, HS3_, HS4_, HS5_⟩ (fun hHeld => ?_)
                    clear hK K
                    refine norm_ (a' := ?_) ?_ ?_
                    rotate_left
                    ·show Act.put _ (some 61) _ = _
                     simp only [zp0, zp1, zp2, zp3, zp4, i64_w, i32_w]
                     rfl
                    refine one_ (i := 3) (N := some 64) #[true, true, true, true, true, true, true, true, true, true, false, false, false] rfl rfl (one_of HT_.out (by kernel_rfl)) (by decide) (fun K hK => ?_)
                    refine Kd.R_append_rows_step k76 (w0 := w) w.heap.size (by rfl) (.tmp 61) (.tmp 63) 70 76 (.agg #[(.int .i64 0), (.int .i64 0), (.int .i64 0)]) 24 rfl Try.underlying70 info76 rfl (by decide) (by omega) v342 y341 t315 _ _ _ (fun k_ => some k_ ≠ (.slice (some ad347) t315.length co12 : Value).ownBlock ∧ some k_ ≠ (.slice Ao55 y337.length co55 : Value).ownBlock ∧ some k_ ≠ (v349 : Value).ownBlock) (fun _ => False) rfl rfl ?aO ?aR (fun _ _ h => h) (fun _ h => h.elim) ?aF ?aB ?aS ?aL ?_
                    (case aR => exact zC (Kd.R_reads' HO_319002.out).2.2)
                    (case aB => exact (by exact zB3 HB.out GE318.out GE322.out GE340.out))
                    (case aF => exact (fun k_ hk => ⟨Kd.fresh' (Kd.R_lt (by exact zR HO_319002.out)) k_ hk, Kd.fresh' (Kd.R_lt (by exact zR HO339.out)) k_ hk, Kd.fresh' (Kd.R_lt (by exact zR HO350.out)) k_ hk⟩))
                    (case aO => exact (by exact zR (Kd.R_mono HO343.out (fun _ hk => ⟨hk.1.1.2, ⟨hk.1.2, hk.2⟩⟩))))
                    (case aS => exact (below_size (by exact zB3 HB.out GE318.out GE322.out GE340.out)))
                    (case aL => have := LMc37.out; omega)
                    intro v345 w68 ho hb hg hat
                    have HS3_ := cell_grown hg (hHeld.2.2.2.1) (by intro e_; (try rw [add_block] at e_); have h_ := HO343.out.1 _ e_.symm; first | exact h_ rfl | exact h_.1 rfl | exact h_.2 rfl | exact h_.1.1 rfl | exact h_.1.2 rfl | exact h_.2.1 rfl | exact h_.2.2 rfl | exact h_.1.1.1 rfl | exact h_.1.1.2 rfl | exact h_.1.2.1 rfl | exact h_.1.2.2 rfl | exact h_.2.2.1 rfl | exact h_.2.2.2 rfl | exact h_.1.1.1.1 rfl | exact h_.1.1.1.2 rfl)
                    have HS4_ := cell_grown hg (hHeld.2.2.2.2.1) (by intro e_; (try rw [add_block] at e_); have h_ := HO343.out.1 _ e_.symm; first | exact h_ rfl | exact h_.1 rfl | exact h_.2 rfl | exact h_.1.1 rfl | exact h_.1.2 rfl | exact h_.2.1 rfl | exact h_.2.2 rfl | exact h_.1.1.1 rfl | exact h_.1.1.2 rfl | exact h_.1.2.1 rfl | exact h_.1.2.2 rfl | exact h_.2.2.1 rfl | exact h_.2.2.2 rfl | exact h_.1.1.1.1 rfl | exact h_.1.1.1.2 rfl)
                    have HS5_ := cell_grown hg (hHeld.2.2.2.2.2) (by intro e_; (try rw [add_block] at e_); have h_ := HO343.out.1 _ e_.symm; first | exact h_ rfl | exact h_.1 rfl | exact h_.2 rfl | exact h_.1.1 rfl | exact h_.1.2 rfl | exact h_.2.1 rfl | exact h_.2.2 rfl | exact h_.1.1.1 rfl | exact h_.1.1.2 rfl | exact h_.1.2.1 rfl | exact h_.1.2.2 rfl | exact h_.2.2.1 rfl | exact h_.2.2.2 rfl | exact h_.1.1.1.1 rfl | exact h_.1.1.1.2 rfl)
                    rw [← Ny344.out] at ho
                    have n0_ := Aside0.mk (Kd.R_after (ok := (fun k_ => some k_ ≠ (.slice Ao55 y337.length co55 : Value).ownBlock ∧ some k_ ≠ (v349 : Value).ownBlock)) (by exact zR HO_319002.out) hg hat)
                    have n1_ := Aside0.mk (blk_grown (g := gb318) (o := .cells #[.int .i64 t313, .int .i64 t314, .slice (some ad347) t315.length co12] 72 (0, 0)) (by exact zK BK318.out) hg (Kd.R_ne HO343.out BK318.out (by decide)))
                    have n2_ := Aside0.mk (blk_grown (g := gb322) (o := .cells #[.int .i64 t313, .int .i64 t314, .slice Ao55 y337.length co55] 72 (0, 0)) (by exact zK BK322.out) hg (Kd.R_ne HO343.out BK322.out (by decide)))
                    have n3_ := Aside0.mk (Kd.R_after (ok := (fun k_ => some k_ ≠ (.slice (some ad347) t315.length co12 : Value).ownBlock ∧ some k_ ≠ (v349 : Value).ownBlock)) (by exact zR HO339.out) hg hat)
                    have n4_ := Aside0.mk (blk_grown (g := gb340) (o := .cells #[.int .i64 t313, .int .i64 t314, .slice (some ad347) t315.length co12] 72 (0, 0)) (by exact zK BK340.out) hg (Kd.R_ne HO343.out BK340.out (by decide)))
                    have n5_ := Aside0.mk (Kd.R_after (ok := (fun k_ => some k_ ≠ (.slice (some ad347) t315.length co12 : Value).ownBlock ∧ some k_ ≠ (.slice Ao55 y337.length co55 : Value).ownBlock)) (by exact zR (Kd.R_mono HO350.out (fun _ hk => ⟨⟨hk.1.1.2, hk.1.2⟩, hk.2⟩))) hg hat)
                    have n6_ := Aside0.mk (hb)
                    have n7_ := Aside0.mk (ho)
                    clear HO_319002
                    clear BK318
                    clear BK322
                    clear HO339
                    clear BK340
                    clear HO350
                    clear HB
                    clear HO343
                    have HO_319002 := n0_
                    have BK318 := n1_
                    have BK322 := n2_
                    have HO339 := n3_
                    have BK340 := n4_
                    have HO350 := n5_
                    have HB := n6_
                    have HO346 := n7_
                    clear n0_ n1_ n2_ n3_ n4_ n5_ n6_ n7_
                    clear ho hb hg hat
                    refine hK.out _ _ ⟨(blk_cell BK318.out 0).trans rfl, (blk_cell BK318.out 1).trans rfl, (blk_cell BK318.out 2).trans rfl, HS3_, HS4_, HS5_⟩ (fun hHeld => ?_)
                    clear hK K
                    refine norm_ (a' := ?_) ?_ ?_
                    rotate_left
                    ·show Act.put _ (some 64) _ = _
                     simp only [zp0, zp1, zp2, zp3, zp4, i64_w, i32_w]
                     rfl
                    exact norm_ (by simp only [putAll, zp0, zp1, zp2, zp3, zp4]) (hCont (v342, v345, v349) _ ⟨hHeld, (by exact zR (Kd.R_mono HO339.out (fun _ hk => ⟨hk.2, ⟨hk.1.2, hk.1.1⟩⟩))), (by exact zR (Kd.R_mono HO346.out (fun _ hk => ⟨hk.2.1, ⟨hk.2.2, hk.1⟩⟩))), (by exact zR (Kd.R_mono HO350.out (fun _ hk => ⟨hk.1.2, ⟨hk.2, hk.1.1⟩⟩))), (by exact zR (Kd.R_mono HO_319002.out (fun _ hk => ⟨hk.1.1, ⟨hk.2, hk.1.2⟩⟩))), (by exact zK BK318.out), (by exact zK BK322.out), (by exact zK BK340.out), (by exact zB3 HB.out GE318.out GE322.out GE340.out)⟩)
                  rintro ⟨v342, v345, v349⟩ w69 ⟨hS_, h0_, h1_, h2_, h3_, h4_, h5_, h6_, h7_⟩
                  have n0_ : Aside0 (Kd.R k76 76 w69 w.heap.size (fun k_ => some k_ ≠ (v345 : Value).ownBlock ∧ some k_ ≠ (v349 : Value).ownBlock ∧ some k_ ≠ (.slice (some ad347) t315.length co12 : Value).ownBlock) (.slice Ao55 y337.length co55) y337) := ⟨h0_⟩
                  have n1_ : Aside0 (Kd.R k76 76 w69 w.heap.size (fun k_ => some k_ ≠ (.slice Ao55 y337.length co55 : Value).ownBlock ∧ some k_ ≠ (v349 : Value).ownBlock ∧ some k_ ≠ (.slice (some ad347) t315.length co12 : Value).ownBlock) v345 y344) := ⟨h1_⟩
                  have n2_ : Aside0 (Kd.R k76 76 w69 w.heap.size (fun k_ => some k_ ≠ (.slice Ao55 y337.length co55 : Value).ownBlock ∧ some k_ ≠ (v345 : Value).ownBlock ∧ some k_ ≠ (.slice (some ad347) t315.length co12 : Value).ownBlock) v349 y348) := ⟨h2_⟩
                  have n3_ : Aside0 (Kd.R k76 76 w69 w.heap.size (fun k_ => some k_ ≠ (.slice Ao55 y337.length co55 : Value).ownBlock ∧ some k_ ≠ (v345 : Value).ownBlock ∧ some k_ ≠ (v349 : Value).ownBlock) (.slice (some ad347) t315.length co12) t315) := ⟨h3_⟩
                  have n4_ : Aside0 (w69.heap[gb318]? = some (.cells #[.int .i64 t313, .int .i64 t314, .slice (some ad347) t315.length co12] 72 (0, 0))) := ⟨h4_⟩
                  have n5_ : Aside0 (w69.heap[gb322]? = some (.cells #[.int .i64 t313, .int .i64 t314, .slice Ao55 y337.length co55] 72 (0, 0))) := ⟨h5_⟩
                  have n6_ : Aside0 (w69.heap[gb340]? = some (.cells #[.int .i64 t313, .int .i64 t314, .slice (some ad347) t315.length co12] 72 (0, 0))) := ⟨h6_⟩
                  have n7_ : Aside0 (Below w.heap.size w w69) := ⟨h7_⟩
                  clear HO_319002
                  clear HO339
                  clear BK318
                  clear BK322
                  clear BK340
                  clear HB
                  clear h0_ h1_ h2_ h3_ h4_ h5_ h6_ h7_
                  have HO339 := n0_
                  have HO346 := n1_
                  have HO350 := n2_
                  have HO_319002 := n3_
                  have BK318 := n4_
                  have BK322 := n5_
                  have BK340 := n6_
                  have HB := n7_
                  clear n0_ n1_ n2_ n3_ n4_ n5_ n6_ n7_
                  have hHeld : w69.cell? ⟨gb318, 0, none⟩ = some (.int .i64 t313) ∧ w69.cell? ⟨gb318, 1, none⟩ = some (.int .i64 t314) ∧ w69.cell? ⟨gb318, 2, none⟩ = some (.slice (some ad347) t315.length co12) ∧ w69.cell? (ad347.add (((ji29)).toNat * 3)) = some (.int .i64 ((rd_T76 t315 (ji29)).f0)) ∧ w69.cell? ⟨(ad347.add (((ji29)).toNat * 3)).block, (ad347.add (((ji29)).toNat * 3)).off + 1, none⟩ = some (.int .i64 ((rd_T76 t315 (ji29)).f1)) ∧ w69.cell? ⟨(ad347.add (((ji29)).toNat * 3)).block, (ad347.add (((ji29)).toNat * 3)).off + 2, none⟩ = some (.int .i64 ((rd_T76 t315 (ji29)).f2)) := hS_
                  obtain ⟨Ao71, co71, eo71⟩ := Kd.R_slice HO350.out
                  (first | subst eo71 | (injection eo71 with f1_ f2_ f3_; have f4_ := f1_.symm; have f5_ := f3_.symm; clear f1_ f2_ f3_; subst f4_; subst f5_))
                  refine norm_ (a' := ?_) ?_ ?_
                  rotate_left
                  ·simp only [putAll, zp0, zp1, zp2, zp3, zp4]
                   rfl
                  refine one_ (i := 10) (N := some 71) #[true, true, true, true, true, true, true, true, true, true, true, false, false] rfl rfl (one_of HT_.out (by kernel_rfl)) (by decide) (fun K hK => ?_)
                  refine Kd.R_append_rows_step k76 (w0 := w) w.heap.size (by rfl) (.tmp 64) (.tmp 70) 70 76 (.agg #[(.int .i64 0), (.int .i64 0), (.int .i64 0)]) 24 rfl Try.underlying70 info76 rfl (by decide) (by omega) v345 y344 y348 _ _ _ (fun k_ => some k_ ≠ (.slice (some ad347) t315.length co12 : Value).ownBlock ∧ some k_ ≠ (.slice Ao55 y337.length co55 : Value).ownBlock ∧ some k_ ≠ (.slice Ao71 y348.length co71 : Value).ownBlock) (fun _ => False) rfl rfl ?aO ?aR (fun _ _ h => h) (fun _ h => h.elim) ?aF ?aB ?aS ?aL ?_
                  (case aR => exact zC (Kd.R_reads' HO350.out).2.2)
                  (case aB => exact (by exact zB3 HB.out GE318.out GE322.out GE340.out))
                  (case aF => exact (fun k_ hk => ⟨Kd.fresh' (Kd.R_lt (by exact zR HO_319002.out)) k_ hk, Kd.fresh' (Kd.R_lt (by exact zR HO339.out)) k_ hk, Kd.fresh' (Kd.R_lt (by exact zR HO350.out)) k_ hk⟩))
                  (case aO => exact (by exact zR (Kd.R_mono HO346.out (fun _ hk => ⟨hk.2.2, ⟨hk.1, hk.2.1⟩⟩))))
                  (case aS => exact (below_size (by exact zB3 HB.out GE318.out GE322.out GE340.out)))
                  (case aL => have := LMc39.out; omega)
                  intro v352 w70 ho hb hg hat
                  have HS3_ := cell_grown hg (hHeld.2.2.2.1) (by intro e_; (try rw [add_block] at e_); have h_ := HO346.out.1 _ e_.symm; first | exact h_ rfl | exact h_.1 rfl | exact h_.2 rfl | exact h_.1.1 rfl | exact h_.1.2 rfl | exact h_.2.1 rfl | exact h_.2.2 rfl | exact h_.1.1.1 rfl | exact h_.1.1.2 rfl | exact h_.1.2.1 rfl | exact h_.1.2.2 rfl | exact h_.2.2.1 rfl | exact h_.2.2.2 rfl | exact h_.1.1.1.1 rfl | exact h_.1.1.1.2 rfl)
                  have HS4_ := cell_grown hg (hHeld.2.2.2.2.1) (by intro e_; (try rw [add_block] at e_); have h_ := HO346.out.1 _ e_.symm; first | exact h_ rfl | exact h_.1 rfl | exact h_.2 rfl | exact h_.1.1 rfl | exact h_.1.2 rfl | exact h_.2.1 rfl | exact h_.2.2 rfl | exact h_.1.1.1 rfl | exact h_.1.1.2 rfl | exact h_.1.2.1 rfl | exact h_.1.2.2 rfl | exact h_.2.2.1 rfl | exact h_.2.2.2 rfl | exact h_.1.1.1.1 rfl | exact h_.1.1.1.2 rfl)
                  have HS5_ := cell_grown hg (hHeld.2.2.2.2.2) (by intro e_; (try rw [add_block] at e_); have h_ := HO346.out.1 _ e_.symm; first | exact h_ rfl | exact h_.1 rfl | exact h_.2 rfl | exact h_.1.1 rfl | exact h_.1.2 rfl | exact h_.2.1 rfl | exact h_.2.2 rfl | exact h_.1.1.1 rfl | exact h_.1.1.2 rfl | exact h_.1.2.1 rfl | exact h_.1.2.2 rfl | exact h_.2.2.1 rfl | exact h_.2.2.2 rfl | exact h_.1.1.1.1 rfl | exact h_.1.1.1.2 rfl)
                  rw [← Ny351.out] at ho
                  have n0_ := Aside0.mk (Kd.R_after (ok := (fun k_ => some k_ ≠ (.slice Ao55 y337.length co55 : Value).ownBlock ∧ some k_ ≠ (.slice Ao71 y348.length co71 : Value).ownBlock)) (by exact zR (Kd.R_mono HO_319002.out (fun _ hk => ⟨⟨hk.1, hk.2.2⟩, hk.2.1⟩))) hg hat)
                  have n1_ := Aside0.mk (blk_grown (g := gb318) (o := .cells #[.int .i64 t313, .int .i64 t314, .slice (some ad347) t315.length co12] 72 (0, 0)) (by exact zK BK318.out) hg (Kd.R_ne HO346.out BK318.out (by decide)))
                  have n2_ := Aside0.mk (blk_grown (g := gb322) (o := .cells #[.int .i64 t313, .int .i64 t314, .slice Ao55 y337.length co55] 72 (0, 0)) (by exact zK BK322.out) hg (Kd.R_ne HO346.out BK322.out (by decide)))
                  have n3_ := Aside0.mk (Kd.R_after (ok := (fun k_ => some k_ ≠ (.slice (some ad347) t315.length co12 : Value).ownBlock ∧ some k_ ≠ (.slice Ao71 y348.length co71 : Value).ownBlock)) (by exact zR (Kd.R_mono HO339.out (fun _ hk => ⟨⟨hk.2.2, hk.2.1⟩, hk.1⟩))) hg hat)
                  have n4_ := Aside0.mk (blk_grown (g := gb340) (o := .cells #[.int .i64 t313, .int .i64 t314, .slice (some ad347) t315.length co12] 72 (0, 0)) (by exact zK BK340.out) hg (Kd.R_ne HO346.out BK340.out (by decide)))
                  have n5_ := Aside0.mk (Kd.R_after (ok := (fun k_ => some k_ ≠ (.slice (some ad347) t315.length co12 : Value).ownBlock ∧ some k_ ≠ (.slice Ao55 y337.length co55 : Value).ownBlock)) (by exact zR (Kd.R_mono HO350.out (fun _ hk => ⟨⟨hk.2.2, hk.1⟩, hk.2.1⟩))) hg hat)
                  have n6_ := Aside0.mk (hb)
                  have n7_ := Aside0.mk (ho)
                  clear HO_319002
                  clear BK318
                  clear BK322
                  clear HO339
                  clear BK340
                  clear HO350
                  clear HB
                  clear HO346
                  have HO_319002 := n0_
                  have BK318 := n1_
                  have BK322 := n2_
                  have HO339 := n3_
                  have BK340 := n4_
                  have HO350 := n5_
                  have HB := n6_
                  have HO353 := n7_
                  clear n0_ n1_ n2_ n3_ n4_ n5_ n6_ n7_
                  clear ho hb hg hat
                  obtain ⟨Ao72, co72, eo72⟩ := Kd.R_slice HO353.out
                  (first | subst eo72 | (injection eo72 with f1_ f2_ f3_; have f4_ := f1_.symm; have f5_ := f3_.symm; clear f1_ f2_ f3_; subst f4_; subst f5_))
                  refine hK.out _ _ ⟨(blk_cell BK318.out 0).trans rfl, (blk_cell BK318.out 1).trans rfl, (blk_cell BK318.out 2).trans rfl, HS3_, HS4_, HS5_⟩ (fun hHeld => ?_)
                  clear hK K
                  refine norm_ (a' := ?_) ?_ ?_
                  rotate_left
                  ·show Act.put _ (some 71) _ = _
                   simp only [zp0, zp1, zp2, zp3, zp4, i64_w, i32_w]
                   rfl
                  refine pure_ (i := 11) (N := some 72) (v := ?_) (a' := ?_) #[true, true, true, true, true, true, true, true, true, true, true, true, false] rfl rfl (any_of HT_.out (by kernel_rfl)) (fun _ _ _ h => h) (Or.inl ⟨by rfl, ?_⟩) ?_ ?_
                  rotate_left
                  ·intro w'
                   go_simp
                   with_reducible rfl
                  rotate_left
                  ·simp only [zp0, zp1, zp2, zp3, zp4, i64_w, i32_w]
                   rfl
                  refine one_ (i := 12) (N := none) #[true, true, true, true, true, true, true, true, true, true, true, true, true] rfl rfl (one_of HT_.out (by kernel_rfl)) (by decide) (fun K hK => ?_)
                  have hs73 : w70.cell? ⟨gb340, 2, none⟩ = some (.slice (some ad347) t315.length co12) := (blk_cell BK340.out 2).trans rfl
                  have hfs73 := blk_frozen BK340.out 2
                  have hns73_0 := NB318_340.out
                  have hns73_1 := NB322_340.out
                  have hms73_0 := NB340_318.out
                  have hms73_1 := NB340_322.out
                  refine skip_ (w1 := ?_) (by rfl) rfl ?_ ?_
                  rotate_left
                  ·go_simp
                   rfl
                  refine hK.out _ _ ⟨((cell_far (p := ⟨gb340, _, none⟩) NB318_340.out _).trans (hHeld.1)), ((cell_far (p := ⟨gb340, _, none⟩) NB318_340.out _).trans (hHeld.2.1)), ((cell_far (p := ⟨gb340, _, none⟩) NB318_340.out _).trans (hHeld.2.2.1)), ((cell_far (p := ⟨gb340, _, none⟩) (by first | exact Kd.own_blk (Kd.R_ne HO_319002.out BK340.out (by decide)) | (rw [add_block]; exact Kd.own_blk (Kd.R_ne HO_319002.out BK340.out (by decide))) | (show (Addr.add _ _).block ≠ _; rw [add_block]; exact Kd.own_blk (Kd.R_ne HO_319002.out BK340.out (by decide))) | (dsimp only; exact Kd.own_blk (Kd.R_ne HO_319002.out BK340.out (by decide)))) _).trans (hHeld.2.2.2.1)), ((cell_far (p := ⟨gb340, _, none⟩) (by first | exact Kd.own_blk (Kd.R_ne HO_319002.out BK340.out (by decide)) | (rw [add_block]; exact Kd.own_blk (Kd.R_ne HO_319002.out BK340.out (by decide))) | (show (Addr.add _ _).block ≠ _; rw [add_block]; exact Kd.own_blk (Kd.R_ne HO_319002.out BK340.out (by decide))) | (dsimp only; exact Kd.own_blk (Kd.R_ne HO_319002.out BK340.out (by decide)))) _).trans (hHeld.2.2.2.2.1)), ((cell_far (p := ⟨gb340, _, none⟩) (by first | exact Kd.own_blk (Kd.R_ne HO_319002.out BK340.out (by decide)) | (rw [add_block]; exact Kd.own_blk (Kd.R_ne HO_319002.out BK340.out (by decide))) | (show (Addr.add _ _).block ≠ _; rw [add_block]; exact Kd.own_blk (Kd.R_ne HO_319002.out BK340.out (by decide))) | (dsimp only; exact Kd.own_blk (Kd.R_ne HO_319002.out BK340.out (by decide)))) _).trans (hHeld.2.2.2.2.2))⟩ (fun hHeld => ?_)
                  clear hK K
                  refine done_ (done_of HT_.out (by kernel_rfl)) ?_
                  obtain ⟨hcz74_0, hcz74_1, hcz74_2, hfz74_0, hfz74_1, hfz74_2⟩ := zc3f BK322.out
                  try go_wp2_with (first | ((with_reducible refine gate_callee (f := 42) rfl ?_); refine goesL_ (some 74) rfl rfl Try.func42 (by kernel_rfl) rfl #[.agg #[.int .i64 t313, .int .i64 t314, .slice Ao55 y337.length co55]] rfl (by (try simp only [zm1, zm2, zm3]); first | done | rfl | (simp only [List.length_drop, List.length_take]; rfl)) ?_; (with_reducible refine (impl_IndexOk.calls kj7 t313 t314 _ _ y337 true _ ?side1 ?side2 A40.out).mono ?_); (case side1 => refine (Kd.R_reads' (e := 76) (base := w.heap.size) (ok := fun k_ => ((some k_ ≠ (.slice (some ad347) t315.length co12 : Value).ownBlock ∧ some k_ ≠ (.slice Ao71 y348.length co71 : Value).ownBlock) ∧ some k_ ≠ (.slice Ao72 y351.length co72 : Value).ownBlock)) (n := y337.length) (c := co55) ?_).2.2; exact (by exact zR (Kd.R_mono (Kd.R_far (p := ⟨gb340, 2, none⟩) (Kd.R_types HO339.out BK340.out (by decide)) (fun _ hk => hk.2) (.slice Ao72 y351.length co72)) (fun _ h_ => h_.1)))); (case side2 => exact (Kd.R_reads' HO339.out).2.1); rintro e w75 ⟨rfl, hb⟩; refine ⟨_, rfl, ?_⟩; have n0_ := Aside0.mk (Kd.R_below (by exact zR (Kd.R_mono (Kd.R_far (p := ⟨gb340, 2, none⟩) (Kd.R_types HO_319002.out BK340.out (by decide)) (fun _ hk => hk.2) (.slice Ao72 y351.length co72)) (fun _ h_ => h_.1))) hb); have n1_ := Aside0.mk (Kd.R_below (by exact zR (Kd.R_mono (Kd.R_far (p := ⟨gb340, 2, none⟩) (Kd.R_types HO339.out BK340.out (by decide)) (fun _ hk => hk.2) (.slice Ao72 y351.length co72)) (fun _ h_ => h_.1))) hb); have n2_ := Aside0.mk (Kd.R_below (by exact zR (Kd.R_mono (Kd.R_far (p := ⟨gb340, 2, none⟩) (Kd.R_types HO350.out BK340.out (by decide)) (fun _ hk => hk.2) (.slice Ao72 y351.length co72)) (fun _ h_ => h_.1))) hb); have n3_ := Aside0.mk (Kd.R_below (by exact zR (Kd.R_mono (Kd.R_far (p := ⟨gb340, 2, none⟩) (Kd.R_types HO353.out BK340.out (by decide)) (fun _ hk => hk.2) (.slice Ao72 y351.length co72)) (fun _ h_ => h_.1))) hb); have n4_ := Aside0.mk (blk_below (g := gb318) (o := .cells #[.int .i64 t313, .int .i64 t314, .slice (some ad347) t315.length co12] 72 (0, 0)) (by (with_reducible repeat (first | refine blk_drewN ?_ _ | refine blk_drew ?_ | refine blk_alloc ?_ _)); refine blk_far ?_ NB318_340.out _; exact zK BK318.out) hb); have n5_ := Aside0.mk (blk_below (g := gb322) (o := .cells #[.int .i64 t313, .int .i64 t314, .slice Ao55 y337.length co55] 72 (0, 0)) (by (with_reducible repeat (first | refine blk_drewN ?_ _ | refine blk_drew ?_ | refine blk_alloc ?_ _)); refine blk_far ?_ NB322_340.out _; exact zK BK322.out) hb); have n6_ := Aside0.mk (blk_below (g := gb340) (o := .cells #[.int .i64 t313, .int .i64 t314, .slice Ao72 y351.length co72] 72 (0, 0)) (by (with_reducible repeat (first | refine blk_drewN ?_ _ | refine blk_drew ?_ | refine blk_alloc ?_ _)); refine blk_put (cs := #[.int .i64 t313, .int .i64 t314, .slice (some ad347) t315.length co12]) ?_ 2 _ rfl; exact zK BK340.out) hb); have n7_ := Aside0.mk (below_step (by exact zB3 HB.out GE318.out GE322.out GE340.out) hb); clear HO_319002; clear HO339; clear HO350; clear HO353; clear BK318; clear BK322; clear BK340; clear HB; have HO_319002 := n0_; have HO339 := n1_; have HO350 := n2_; have HO353 := n3_; have BK318 := n4_; have BK322 := n5_; have BK340 := n6_; have HB := n7_; clear n0_ n1_ n2_ n3_ n4_ n5_ n6_ n7_; (try clear hb); (try clear hb2); (try clear hk); (try clear hi); obtain ⟨hcz76_0, hcz76_1, hcz76_2, hfz76_0, hfz76_1, hfz76_2⟩ := zc3f BK340.out) | (go_at_call 42; (with_reducible refine (impl_IndexOk.calls kj7 t313 t314 _ _ y351 t355 _ ?side1 ?side2 A42.out).mono ?_); (case side1 => exact zC (Kd.R_reads' HO353.out).2.2); (case side2 => exact (Kd.R_reads' HO353.out).2.1); rintro e w77 ⟨rfl, hb⟩; have n0_ := Aside0.mk (Kd.R_below (by exact zR HO_319002.out) hb); have n1_ := Aside0.mk (Kd.R_below (by exact zR HO339.out) hb); have n2_ := Aside0.mk (Kd.R_below (by exact zR HO350.out) hb); have n3_ := Aside0.mk (Kd.R_below (by exact zR HO353.out) hb); have n4_ := Aside0.mk (blk_below (g := gb318) (o := .cells #[.int .i64 t313, .int .i64 t314, .slice (some ad347) t315.length co12] 72 (0, 0)) (by exact zK BK318.out) hb); have n5_ := Aside0.mk (blk_below (g := gb322) (o := .cells #[.int .i64 t313, .int .i64 t314, .slice Ao55 y337.length co55] 72 (0, 0)) (by exact zK BK322.out) hb); have n6_ := Aside0.mk (blk_below (g := gb340) (o := .cells #[.int .i64 t313, .int .i64 t314, .slice Ao72 y351.length co72] 72 (0, 0)) (by exact zK BK340.out) hb); have n7_ := Aside0.mk (below_step (by exact zB3 HB.out GE318.out GE322.out GE340.out) hb); clear HO_319002; clear HO339; clear HO350; clear HO353; clear BK318; clear BK322; clear BK340; clear HB; have HO_319002 := n0_; have HO339 := n1_; have HO350 := n2_; have HO353 := n3_; have BK318 := n4_; have BK322 := n5_; have BK340 := n6_; have HB := n7_; clear n0_ n1_ n2_ n3_ n4_ n5_ n6_ n7_; (try clear hb); (try clear hb2); (try clear hk); (try clear hi)))
                  go_ret
                  exact ⟨by first | rfl | (simp [errW_none, errW_some] <;> rfl) | (simp only [← hji29, ← hji33]; first | rfl | (simp [errW_none, errW_some] <;> rfl)) | (simp [*, errW_none, errW_some] <;> rfl), by exact zB3 HB.out GE318.out GE322.out GE340.out⟩
                 ·replace c41 := Bool.eq_false_iff.mpr c41
                  subst c41
                  have H1 : (none) = some r := by rw [if_neg (show ¬ (false = true) by decide)] at H; exact H
                  clear H
                  have H := H1
                  clear H1
                  exact absurd H (by simp)
                ·rw [if_neg c39] at H
                 exact absurd H (by simp)
               ·rw [if_neg c38] at H
                exact absurd H (by simp)
              ·rw [if_neg c37] at H
               exact absurd H (by simp)
             ·rw [if_neg c36] at H
              exact absurd H (by simp)
            ·rw [if_neg c35] at H
             exact absurd H (by simp)
           ·rw [if_neg c34] at H
            exact absurd H (by simp)
          ·rw [if_neg c32] at H
           exact absurd H (by simp)
         ·rw [if_neg c31] at H
          exact absurd H (by simp)
        ·rw [if_neg c30] at H
         exact absurd H (by simp)

/-- THE ONE PURE STATEMENT of laws_FnIndexLess: yours. -/
def laws_FnIndexLess.Pure : Prop := ∀ (l0 : List Int) (l1 : List Int), l0.length ≤ maxLen → l0.length * 1 ≤ 140737488351232 → (∀ x ∈ l0, (Lit.int .u8 x).wf = true) → l1.length ≤ maxLen → l1.length * 1 ≤ 140737488351232 → (∀ x ∈ l1, (Lit.int .u8 x).wf = true) → ∃ k, laws_FnIndexLess.f k l0 l1 = some true
theorem laws_FnIndexLess.walk (P : laws_FnIndexLess.Pure) (a0 : Option Addr) (len0 cap0 : Nat) (z0 : List Int) (a1 : Option Addr) (len1 cap1 : Nat) (z1 : List Int) (w : World) (w0 : (a0 = none ∧ len0 = 0 ∧ cap0 = 0 ∧ z0 = []) ∨ ∃ x, a0 = some x ∧ len0 ≤ cap0 ∧ cap0 ≤ maxLen ∧ z0.length = cap0 ∧ (∀ i, i < z0.length → w.cell? (x.add i) = some (.int .u8 (z0.getD i 0))) ∧ ∀ n ∈ z0, (Lit.int .u8 n).wf = true) (y0 : len0 * 1 ≤ 140737488351232) (w1 : (a1 = none ∧ len1 = 0 ∧ cap1 = 0 ∧ z1 = []) ∨ ∃ x, a1 = some x ∧ len1 ≤ cap1 ∧ cap1 ≤ maxLen ∧ z1.length = cap1 ∧ (∀ i, i < z1.length → w.cell? (x.add i) = some (.int .u8 (z1.getD i 0))) ∧ ∀ n ∈ z1, (Lit.int .u8 n).wf = true) (y1 : len1 * 1 ≤ 140737488351232) :
  Calls Try.prog 14 #[.slice a0 len0 cap0, .slice a1 len1 cap1] w fun e w' => e = .returned (.bool true) ∧ Below w.heap.size w w' := by
 obtain ⟨l0, rfl, hr0, hm0, hw0, hc0⟩ := ReadsInt.ofRowC w0
 obtain ⟨l1, rfl, hr1, hm1, hw1, hc1⟩ := ReadsInt.ofRowC w1
 obtain ⟨k, h⟩ := P l0 l1 hm0 y0 hw0 hm1 y1 hw1
 refine (laws_FnIndexLess.calls k _ _ l0 _ _ l1 true w (Kd.C_of_reads (d := (0 : Int)) (h1 := fun _ => rfl) hr0) hc0 (Kd.C_of_reads (d := (0 : Int)) (h1 := fun _ => rfl) hr1) hc1 h).mono ?_
 rintro e w' ⟨rfl, hd⟩
 exact ⟨rfl, hd⟩

end Go.Proofs.Ytkdmgbolbjedfaa.PFnIndexLess
