-- printed for this claim by a program out of the translation, its tactics shortened by another
import Derived.Test.YtkdmgbolbjedfaaPFnSumBytex2
namespace Go.Proofs.Ytkdmgbolbjedfaa.PFnSumByte
open Go.RowKit Go.Proofs.YtkdmgbolbjedfaaW.PrintWords Go.Proofs.YtkdmgbolbjedfaaW.PrintLast Go.Proofs.YtkdmgbolbjedfaaW.PrintMore
attribute [local go_sem] max2_int min2_int max_two min_two max_three min_three max_four min_four   -- for this text's walks alone
set_option linter.unusedVariables false
set_option linter.unusedSimpArgs false

/-! ### spec_PkgText: function 61 -/
mutual
def spec_PkgText.l0 : Nat → ByteArray → Int → Int → Int → List (S82) → List (S30) → Option (ByteArray)
 | 0, _, _, _, _, _, _ => none
 | k + 1, x3, x4, x208000, x208001, x208002, x208003 => if x4 < (x208002.length : Int) then (if x3.size + 1 ≤ 9223372036854775807 then (if 0 ≤ x4 then ((spec_l6Dec.f k ((rd_T82 x208002 x4).f0)).bind fun t211 => (if (x3 ++ (⟨#[32]⟩ : ByteArray)).size + t211.size ≤ 9223372036854775807 then (if ((x3 ++ (⟨#[32]⟩ : ByteArray)) ++ t211).size + 1 ≤ 9223372036854775807 then ((spec_l6Dec.f k ((rd_T82 x208002 x4).f1)).bind fun t213 => (if (((x3 ++ (⟨#[32]⟩ : ByteArray)) ++ t211) ++ (⟨#[58]⟩ : ByteArray)).size + t213.size ≤ 9223372036854775807 then (spec_PkgText.l0 k ((((x3 ++ (⟨#[32]⟩ : ByteArray)) ++ t211) ++ (⟨#[58]⟩ : ByteArray)) ++ t213) (wrap64 (x4 + 1)) x208000 x208001 x208002 x208003) else (none))) else (none)) else (none))) else (none)) else (none)) else (spec_PkgText.l1 k x3 0 x208000 x208001 x208002 x208003)
def spec_PkgText.l1 : Nat → ByteArray → Int → Int → Int → List (S82) → List (S30) → Option (ByteArray)
 | 0, _, _, _, _, _, _ => none
 | k + 1, x3, x5, x208000, x208001, x208002, x208003 => if x5 < (x208003.length : Int) then (if x3.size + 1 ≤ 9223372036854775807 then (if 0 ≤ x5 then ((spec_l1Name.f k ((rd_T30 x208003 x5).f0) ((rd_T30 x208003 x5).f1)).bind fun t216 => (if (x3 ++ (⟨#[32]⟩ : ByteArray)).size + t216.size ≤ 9223372036854775807 then (spec_PkgText.l1 k ((x3 ++ (⟨#[32]⟩ : ByteArray)) ++ t216) (wrap64 (x5 + 1)) x208000 x208001 x208002 x208003) else (none))) else (none)) else (none)) else (some x3)
end
def spec_PkgText.f (k : Nat) (a0_0 : Int) (a0_1 : Int) (l0_2 : List (S82)) (l0_3 : List (S30)) : Option (ByteArray) := (spec_PkgOk.f k a0_0 a0_1 l0_2 l0_3).bind fun t208 => (if t208 = true then ((spec_l1Name.f k a0_0 a0_1).bind fun t209 => (spec_PkgText.l0 k t209 0 a0_0 a0_1 l0_2 l0_3)) else (some (⟨#[]⟩ : ByteArray)))
theorem spec_PkgText.mono_l : ∀ k, (∀ y0 y1 y2 y3 y4 y5, LeO (spec_PkgText.l0 k y0 y1 y2 y3 y4 y5) (spec_PkgText.l0 (k + 1) y0 y1 y2 y3 y4 y5)) ∧ (∀ y0 y1 y2 y3 y4 y5, LeO (spec_PkgText.l1 k y0 y1 y2 y3 y4 y5) (spec_PkgText.l1 (k + 1) y0 y1 y2 y3 y4 y5))
 | 0 => ⟨fun _ _ _ _ _ _ r h => by simp [spec_PkgText.l0] at h, fun _ _ _ _ _ _ r h => by simp [spec_PkgText.l1] at h⟩
 | k + 1 => by
  obtain ⟨ih0, ih1⟩ := spec_PkgText.mono_l k
  refine ⟨?_, ?_⟩
  ·intro y0 y1 y2 y3 y4 y5
   unfold spec_PkgText.l0
   repeat' first
   | (with_reducible exact ih0 _ _ _ _ _ _)
   | (with_reducible exact ih1 _ _ _ _ _ _)
   | (with_reducible exact spec_PkgOk.mono _ _ _ _ _)
   | (with_reducible exact spec_l1Name.mono _ _ _)
   | (with_reducible exact spec_l6Dec.mono _ _)
   | (with_reducible exact LeO.refl _)
   | (with_reducible exact LeO.none _)
   | (with_reducible refine LeO.ite ?_ ?_)
   | (with_reducible refine LeO.bind ?_ (fun _ => ?_))
   | exact ih0 _ _ _ _ _ _
   | exact ih1 _ _ _ _ _ _
   | exact spec_PkgOk.mono _ _ _ _ _
   | exact spec_l1Name.mono _ _ _
   | exact spec_l6Dec.mono _ _
   | exact LeO.none _
   | refine LeO.ite ?_ ?_
   | refine LeO.bind ?_ (fun _ => ?_)
  ·intro y0 y1 y2 y3 y4 y5
   unfold spec_PkgText.l1
   repeat' first
   | (with_reducible exact ih0 _ _ _ _ _ _)
   | (with_reducible exact ih1 _ _ _ _ _ _)
   | (with_reducible exact spec_PkgOk.mono _ _ _ _ _)
   | (with_reducible exact spec_l1Name.mono _ _ _)
   | (with_reducible exact spec_l6Dec.mono _ _)
   | (with_reducible exact LeO.refl _)
   | (with_reducible exact LeO.none _)
   | (with_reducible refine LeO.ite ?_ ?_)
   | (with_reducible refine LeO.bind ?_ (fun _ => ?_))
   | exact ih0 _ _ _ _ _ _
   | exact ih1 _ _ _ _ _ _
   | exact spec_PkgOk.mono _ _ _ _ _
   | exact spec_l1Name.mono _ _ _
   | exact spec_l6Dec.mono _ _
   | exact LeO.none _
   | refine LeO.ite ?_ ?_
   | refine LeO.bind ?_ (fun _ => ?_)
theorem spec_PkgText.mono : ∀ a0 a1 a2 a3 k, LeO (spec_PkgText.f k a0 a1 a2 a3) (spec_PkgText.f (k + 1) a0 a1 a2 a3) := by
 intro a0 a1 a2 a3 k
 obtain ⟨ih0, ih1⟩ := spec_PkgText.mono_l k
 unfold spec_PkgText.f
 repeat' first
   | (with_reducible exact ih0 _ _ _ _ _ _)
   | (with_reducible exact ih1 _ _ _ _ _ _)
   | (with_reducible exact spec_PkgOk.mono _ _ _ _ _)
   | (with_reducible exact spec_l1Name.mono _ _ _)
   | (with_reducible exact spec_l6Dec.mono _ _)
   | (with_reducible exact LeO.refl _)
   | (with_reducible exact LeO.none _)
   | (with_reducible refine LeO.ite ?_ ?_)
   | (with_reducible refine LeO.bind ?_ (fun _ => ?_))
   | exact ih0 _ _ _ _ _ _
   | exact ih1 _ _ _ _ _ _
   | exact spec_PkgOk.mono _ _ _ _ _
   | exact spec_l1Name.mono _ _ _
   | exact spec_l6Dec.mono _ _
   | exact LeO.none _
   | refine LeO.ite ?_ ?_
   | refine LeO.bind ?_ (fun _ => ?_)
def spec_PkgText.T7 : Bool × List (List Nat × List Nat) := (true, [([], []), ([0], [0]), ([], []), ([2], [2]), ([], []), ([3, 4], [3, 4]), ([5], [5]), ([6], [6]), ([7], [7]), ([1, 8], [1, 8]), ([9], [9]), ([], []), ([11], [11]), ([], []), ([12, 13], [12, 13]), ([14], [14]), ([15], [15]), ([16, 8], [16]), ([10, 17], [10, 17]), ([18, 17, 0, 1, 2, 3, 4, 5, 6, 7, 8, 9, 10, 11, 12, 13, 14, 15, 16, 17, 18], [0, 18])])
def spec_PkgText.B7 : List Nat := [0, 1, 0, 4, 0, 28, 60, 124, 252, 511, 1023, 0, 2048, 0, 14336, 30720, 63488, 129532, 262143, 524287]
theorem spec_PkgText.tab7 : rtab .any (opsOf Try.f61 7) = spec_PkgText.T7 := by kernel_rfl
theorem spec_PkgText.bits7 : waitsOk spec_PkgText.T7.2 spec_PkgText.B7 = true := by kernel_rfl
def spec_PkgText.T11 : Bool × List (List Nat × List Nat) := (true, [([], []), ([0], [0]), ([], []), ([2], [2]), ([], []), ([3, 4], [3, 4]), ([5], [5]), ([6], [6]), ([], []), ([8], [8]), ([], []), ([9, 10], [9, 10]), ([11], [11]), ([12], [12]), ([7, 13], [7, 13]), ([1, 14], [1, 14]), ([15, 14, 0, 1, 2, 3, 4, 5, 6, 7, 8, 9, 10, 11, 12, 13, 14, 15], [0, 15])])
def spec_PkgText.B11 : List Nat := [0, 1, 0, 4, 0, 28, 60, 124, 0, 256, 0, 1792, 3840, 7936, 16380, 32767, 65535]
theorem spec_PkgText.tab11 : rtab .any (opsOf Try.f61 11) = spec_PkgText.T11 := by kernel_rfl
theorem spec_PkgText.bits11 : waitsOk spec_PkgText.T11.2 spec_PkgText.B11 = true := by kernel_rfl
set_option maxHeartbeats 8000000 in
set_option maxRecDepth 100000 in
theorem spec_PkgText.calls (k : Nat) (a0_0 : Int) (a0_1 : Int) (A0_2 : Option Addr) (c0_2 : Nat) (l0_2 : List (S82)) (A0_3 : Option Addr) (c0_3 : Nat) (l0_3 : List (S30)) (r : ByteArray) (w : World) (hr0_2 : Kd.C k82 w A0_2 l0_2.length l0_2) (hc0_2 : l0_2.length ≤ c0_2) (hr0_3 : Kd.C k30 w A0_3 l0_3.length l0_3) (hc0_3 : l0_3.length ≤ c0_3) (h : spec_PkgText.f k a0_0 a0_1 l0_2 l0_3 = some r) :
  Calls Try.prog 61 #[.agg #[.int .i64 a0_0, .int .i64 a0_1, .slice A0_2 l0_2.length c0_2, .slice A0_3 l0_3.length c0_3]] w fun e w' => e = .returned (.string r) ∧ Below w.heap.size w w' := by
 have hu26 := Try.underlying26
 have HR0_2 := Aside0.mk hr0_2
 have HC0_2 := Aside0.mk hc0_2
 clear hr0_2 hc0_2
 have HR0_3 := Aside0.mk hr0_3
 have HC0_3 := Aside0.mk hc0_3
 clear hr0_3 hc0_3
 have HB := Aside0.mk (Below.refl w.heap.size w)
 have H : ((spec_PkgOk.f k a0_0 a0_1 l0_2 l0_3).bind fun t208 => (if t208 = true then ((spec_l1Name.f k a0_0 a0_1).bind fun t209 => (spec_PkgText.l0 k t209 0 a0_0 a0_1 l0_2 l0_3)) else (some (⟨#[]⟩ : ByteArray)))) = some r := h
 clear h
 replace H := Option.bind_eq_some_iff.mp H
 obtain ⟨t208, A20, H⟩ := H
 replace H : (if t208 = true then ((spec_l1Name.f k a0_0 a0_1).bind fun t209 => (spec_PkgText.l0 k t209 0 a0_0 a0_1 l0_2 l0_3)) else (some (⟨#[]⟩ : ByteArray))) = some r := H
 have A2 := Aside0.mk A20
 clear A20
 by_cases c3 : t208 = true
 ·subst c3
  have H1 : ((spec_l1Name.f k a0_0 a0_1).bind fun t209 => (spec_PkgText.l0 k t209 0 a0_0 a0_1 l0_2 l0_3)) = some r := by rw [if_pos rfl] at H; exact H
  clear H
  have H := H1
  clear H1
  replace H := Option.bind_eq_some_iff.mp H
  obtain ⟨t209, A40, H⟩ := H
  replace H : (spec_PkgText.l0 k t209 0 a0_0 a0_1 l0_2 l0_3) = some r := H
  have A4 := Aside0.mk A40
  clear A40
  have H' := Aside0.mk H
  clear H
  go_enter Try.func61, Try.ntmps61
  go_wp2_with (first | ((with_reducible refine gate_dst (N := 1) rfl ?_); refine box_event ?hg (N := 1) ?hd (cs := #[.int .i64 a0_0, .int .i64 a0_1, .slice A0_2 l0_2.length c0_2, .slice A0_3 l0_3.length c0_3]) (t := 26) ?hr ?_; (case hd => rfl); (case hg => rfl); (case hr => first | (go_simp; done) | (go_simp; rfl)); intro gb207 hg w5 hbox hb; have n0_ := Aside0.mk (below_step (by exact zB HB.out) hb); have n1_ := Aside0.mk (hbox); have n2_ := Aside0.mk ((by rw [hg]; exact (below_size (by exact zB HB.out)) : w.heap.size ≤ gb207)); have n3_ := Aside0.mk ((by rw [hg]; exact (below_size (by exact zB HB.out)) : w.heap.size ≤ gb207)); clear HB; have HB := n0_; have BK207 := n1_; have GW207 := n2_; have GE207 := n3_; clear n0_ n1_ n2_ n3_; clear hb hbox hg; obtain ⟨hcz6_0, hcz6_1, hcz6_2, hcz6_3, hfz6_0, hfz6_1, hfz6_2, hfz6_3⟩ := zc4f BK207.out) | ((with_reducible refine gate_callee (f := 17) rfl ?_); refine goesL_ (some 7) rfl rfl Try.func17 (by kernel_rfl) rfl #[.agg #[.int .i64 a0_0, .int .i64 a0_1, .slice A0_2 l0_2.length c0_2, .slice A0_3 l0_3.length c0_3]] rfl (by (try simp only [zm1, zm2, zm3]); first | done | rfl | (simp only [List.length_drop, List.length_take]; rfl)) ?_; (with_reducible refine (spec_PkgOk.calls k a0_0 a0_1 _ _ l0_2 _ _ l0_3 true _ ?side1 ?side2 ?side3 ?side4 A2.out).mono ?_); (case side1 => exact zC (Kd.C_below HR0_2.out HB.out)); (case side2 => exact HC0_2.out); (case side3 => exact zC (Kd.C_below HR0_3.out HB.out)); (case side4 => exact HC0_3.out); rintro e w7 ⟨rfl, hb⟩; refine ⟨_, rfl, ?_⟩; have n0_ := Aside0.mk (blk_below (g := gb207) (o := .cells #[.int .i64 a0_0, .int .i64 a0_1, .slice A0_2 l0_2.length c0_2, .slice A0_3 l0_3.length c0_3] 26 (0, 0)) (by exact zK BK207.out) hb); have n1_ := Aside0.mk (below_step (by exact zB1 HB.out GE207.out) hb); clear BK207; clear HB; have BK207 := n0_; have HB := n1_; clear n0_ n1_; (try clear hb); (try clear hb2); (try clear hk); (try clear hi); obtain ⟨hcz8_0, hcz8_1, hcz8_2, hcz8_3, hfz8_0, hfz8_1, hfz8_2, hfz8_3⟩ := zc4f BK207.out) | ((with_reducible refine gate_callee (f := 74) rfl ?_); refine goesL_ (some 13) rfl rfl Try.func74 (by kernel_rfl) rfl #[.int .i64 a0_0, .int .i64 a0_1] rfl (by (try simp only [zm1, zm2, zm3]); first | done | rfl | (simp only [List.length_drop, List.length_take]; rfl)) ?_; (with_reducible refine (spec_l1Name.calls k a0_0 a0_1 t209 _ A4.out).mono ?_); rintro e w9 ⟨rfl, hb⟩; refine ⟨_, rfl, ?_⟩; have n0_ := Aside0.mk (blk_below (g := gb207) (o := .cells #[.int .i64 a0_0, .int .i64 a0_1, .slice A0_2 l0_2.length c0_2, .slice A0_3 l0_3.length c0_3] 26 (0, 0)) (by exact zK BK207.out) hb); have n1_ := Aside0.mk (below_step (by exact zB1 HB.out GE207.out) hb); clear BK207; clear HB; have BK207 := n0_; have HB := n1_; clear n0_ n1_; (try clear hb); (try clear hb2); (try clear hk); (try clear hi)))
  go_loopg [3, 4] k (fun kq v3 v4 w' => ∃ (x3_1 : ByteArray) (x4_1 : Int), v3 = .string x3_1 ∧ v4 = .int .i64 x4_1 ∧ Aside0 (spec_PkgText.l0 kq x3_1 x4_1 a0_0 a0_1 l0_2 l0_3 = some r) ∧ Aside0 (kq ≤ k) ∧ Aside0 (w'.heap[gb207]? = some (.cells #[.int .i64 a0_0, .int .i64 a0_1, (.slice A0_2 l0_2.length c0_2), (.slice A0_3 l0_3.length c0_3)] 26 (0, 0))) ∧ Aside0 (Below w.heap.size w w'))
  case atStart => exact ⟨(t209), (0), (by first | rfl | (simp; done) | (simp [*]; done)), (by first | rfl | (simp; done) | (simp [*]; done)), H', ⟨Nat.le_refl _⟩, ⟨by exact zK BK207.out⟩, ⟨by exact zB1 HB.out GE207.out⟩⟩
  case round =>
   clear H'
   try clear c1
   try clear p2
   try clear c3
   try clear c6
   try clear c7
   try clear hcz6_0
   try clear hcz6_1
   try clear hcz6_2
   try clear hcz6_3
   try clear hcz8_0
   try clear hcz8_1
   try clear hcz8_2
   try clear hcz8_3
   try clear hfz6_0
   try clear hfz6_1
   try clear hfz6_2
   try clear hfz6_3
   try clear hfz8_0
   try clear hfz8_1
   try clear hfz8_2
   try clear hfz8_3
   obtain ⟨x3_1, x4_1, rfl, rfl, HA, HK1, BK207, HB⟩ := hrel
   cases gk with
   | zero => exact absurd HA.out (by simp [spec_PkgText.l0])
   | succ k1 =>
    have H := HA.out
    clear HA
    simp only [spec_PkgText.l0] at H
    by_cases c10 : x4_1 < (l0_2.length : Int)
    ·rw [if_pos c10] at H
     have c10b0 : decide (x4_1 < (l0_2.length : Int)) = true := decide_eq_true c10
     clear c10
     by_cases c11 : x3_1.size + 1 ≤ 9223372036854775807
     ·rw [if_pos c11] at H
      have c11b0 := eq_true c11
      have c11b1 : decide (x3_1.size + 1 ≤ 9223372036854775807) = true := decide_eq_true c11
      try have c11b2 : (9223372036854775807 < x3_1.size + 1) = False := eq_false (Nat.not_lt.2 c11)
      by_cases c12 : 0 ≤ x4_1
      ·rw [if_pos c12] at H
       have c12b0 : decide (0 ≤ x4_1) = true := decide_eq_true c12
       clear c12
       replace H := Option.bind_eq_some_iff.mp H
       obtain ⟨t211, A130, H⟩ := H
       replace H : (if (x3_1 ++ (⟨#[32]⟩ : ByteArray)).size + t211.size ≤ 9223372036854775807 then (if ((x3_1 ++ (⟨#[32]⟩ : ByteArray)) ++ t211).size + 1 ≤ 9223372036854775807 then ((spec_l6Dec.f k1 ((rd_T82 l0_2 x4_1).f1)).bind fun t213 => (if (((x3_1 ++ (⟨#[32]⟩ : ByteArray)) ++ t211) ++ (⟨#[58]⟩ : ByteArray)).size + t213.size ≤ 9223372036854775807 then (spec_PkgText.l0 k1 ((((x3_1 ++ (⟨#[32]⟩ : ByteArray)) ++ t211) ++ (⟨#[58]⟩ : ByteArray)) ++ t213) (wrap64 (x4_1 + 1)) a0_0 a0_1 l0_2 l0_3) else (none))) else (none)) else (none)) = some r := H
       have A13 := Aside0.mk A130
       clear A130
       by_cases c14 : (x3_1 ++ (⟨#[32]⟩ : ByteArray)).size + t211.size ≤ 9223372036854775807
       ·rw [if_pos c14] at H
        have c14b0 := eq_true c14
        have c14b1 : decide ((x3_1 ++ (⟨#[32]⟩ : ByteArray)).size + t211.size ≤ 9223372036854775807) = true := decide_eq_true c14
        try have c14b2 : (9223372036854775807 < (x3_1 ++ (⟨#[32]⟩ : ByteArray)).size + t211.size) = False := eq_false (Nat.not_lt.2 c14)
        have c14b9 : (9223372036854775807 < x3_1.size + 1 + t211.size) = False := eq_false (by have h_ := c14; simp only [ByteArray.size_append, show (⟨#[32]⟩ : ByteArray).size = 1 from rfl, show (⟨#[58]⟩ : ByteArray).size = 1 from rfl] at h_; omega)
        by_cases c15 : ((x3_1 ++ (⟨#[32]⟩ : ByteArray)) ++ t211).size + 1 ≤ 9223372036854775807
        ·rw [if_pos c15] at H
         have c15b0 := eq_true c15
         have c15b1 : decide (((x3_1 ++ (⟨#[32]⟩ : ByteArray)) ++ t211).size + 1 ≤ 9223372036854775807) = true := decide_eq_true c15
         try have c15b2 : (9223372036854775807 < ((x3_1 ++ (⟨#[32]⟩ : ByteArray)) ++ t211).size + 1) = False := eq_false (Nat.not_lt.2 c15)
         have c15b9 : (9223372036854775807 < x3_1.size + 1 + t211.size + 1) = False := eq_false (by have h_ := c15; simp only [ByteArray.size_append, show (⟨#[32]⟩ : ByteArray).size = 1 from rfl, show (⟨#[58]⟩ : ByteArray).size = 1 from rfl] at h_; omega)
         replace H := Option.bind_eq_some_iff.mp H
         obtain ⟨t213, A160, H⟩ := H
         replace H : (if (((x3_1 ++ (⟨#[32]⟩ : ByteArray)) ++ t211) ++ (⟨#[58]⟩ : ByteArray)).size + t213.size ≤ 9223372036854775807 then (spec_PkgText.l0 k1 ((((x3_1 ++ (⟨#[32]⟩ : ByteArray)) ++ t211) ++ (⟨#[58]⟩ : ByteArray)) ++ t213) (wrap64 (x4_1 + 1)) a0_0 a0_1 l0_2 l0_3) else (none)) = some r := H
         have A16 := Aside0.mk A160
         clear A160
         by_cases c17 : (((x3_1 ++ (⟨#[32]⟩ : ByteArray)) ++ t211) ++ (⟨#[58]⟩ : ByteArray)).size + t213.size ≤ 9223372036854775807
         ·rw [if_pos c17] at H
          have c17b0 := eq_true c17
          have c17b1 : decide ((((x3_1 ++ (⟨#[32]⟩ : ByteArray)) ++ t211) ++ (⟨#[58]⟩ : ByteArray)).size + t213.size ≤ 9223372036854775807) = true := decide_eq_true c17
          try have c17b2 : (9223372036854775807 < (((x3_1 ++ (⟨#[32]⟩ : ByteArray)) ++ t211) ++ (⟨#[58]⟩ : ByteArray)).size + t213.size) = False := eq_false (Nat.not_lt.2 c17)
          have c17b9 : (9223372036854775807 < x3_1.size + 1 + t211.size + 1 + t213.size) = False := eq_false (by have h_ := c17; simp only [ByteArray.size_append, show (⟨#[32]⟩ : ByteArray).size = 1 from rfl, show (⟨#[58]⟩ : ByteArray).size = 1 from rfl] at h_; omega)
          have H' := Aside0.mk H
          clear H
          obtain ⟨hcz18_0, hcz18_1, hcz18_2, hcz18_3, hfz18_0, hfz18_1, hfz18_2, hfz18_3⟩ := zc4f BK207.out
          try go_wp2
          have n0_ := Aside0.mk (blk_drew BK207.out)
          have n1_ := Aside0.mk (below_drew1 HB.out)
          clear BK207
          clear HB
          have BK207 := n0_
          have HB := n1_
          clear n0_ n1_
          have p210 : 0 ≤ (x4_1 : Int) := of_decide_eq_true (by first | (with_reducible assumption) | assumption)
          have q210 : x4_1 < (l0_2.length : Int) := of_decide_eq_true (by first | (with_reducible assumption) | assumption)
          obtain ⟨ad210, e210, hx210_0, hx210_1⟩ := at_T82 HR0_2.out x4_1 p210 q210
          have hw210_1 := hx210_1
          have hw210_0 := hx210_0
          cases e210
          replace hx210_0 := (HB.out.cell (World.block_lt_of_cell? w _ hx210_0)).trans hx210_0
          replace hx210_1 := (HB.out.cell (World.block_lt_of_cell? w _ hx210_1)).trans hx210_1
          replace p210 := eq_true p210
          replace q210 := eq_true q210
          have p212 : 0 ≤ (x4_1 : Int) := of_decide_eq_true (by first | (with_reducible assumption) | assumption)
          have q212 : x4_1 < (l0_2.length : Int) := of_decide_eq_true (by first | (with_reducible assumption) | assumption)
          obtain ⟨ad212, e212, hx212_0, hx212_1⟩ := at_T82 HR0_2.out x4_1 p212 q212
          have hw212_1 := hx212_1
          have hw212_0 := hx212_0
          obtain rfl : ad210 = ad212 := (by injection e212)
          replace hx212_0 := (HB.out.cell (World.block_lt_of_cell? w _ hx212_0)).trans hx212_0
          replace hx212_1 := (HB.out.cell (World.block_lt_of_cell? w _ hx212_1)).trans hx212_1
          replace p212 := eq_true p212
          replace q212 := eq_true q212
          refine start_ (n := 20) (S := fun w' => w'.cell? ⟨gb207, 0, none⟩ = some (.int .i64 a0_0) ∧ w'.cell? ⟨gb207, 1, none⟩ = some (.int .i64 a0_1) ∧ w'.cell? ⟨gb207, 2, none⟩ = some (.slice (some ad210) l0_2.length c0_2) ∧ w'.cell? ⟨gb207, 3, none⟩ = some (.slice A0_3 l0_3.length c0_3) ∧ w'.cell? (ad210.add ((x4_1).toNat * 2)) = some (.int .i64 ((rd_T82 l0_2 x4_1).f0)) ∧ w'.cell? ⟨(ad210.add ((x4_1).toNat * 2)).block, (ad210.add ((x4_1).toNat * 2)).off + 1, none⟩ = some (.int .i64 ((rd_T82 l0_2 x4_1).f1)) ∧ w'.cell? (ad210.add ((x4_1).toNat * 2)) = some (.int .i64 ((rd_T82 l0_2 x4_1).f0)) ∧ w'.cell? ⟨(ad210.add ((x4_1).toNat * 2)).block, (ad210.add ((x4_1).toNat * 2)).off + 1, none⟩ = some (.int .i64 ((rd_T82 l0_2 x4_1).f1))) (ds := []) #[false, false, false, false, false, false, false, false, false, false, false, false, false, false, false, false, false, false, false, false] (by kernel_rfl) rfl rfl ⟨(blk_cell BK207.out 0).trans rfl, (blk_cell BK207.out 1).trans rfl, (blk_cell BK207.out 2).trans rfl, (blk_cell BK207.out 3).trans rfl, ((HB.out.cell (World.block_lt_of_cell? w _ hw210_0)).trans hw210_0), ((HB.out.cell (World.block_lt_of_cell? w _ hw210_1)).trans hw210_1), ((HB.out.cell (World.block_lt_of_cell? w _ hw212_0)).trans hw212_0), ((HB.out.cell (World.block_lt_of_cell? w _ hw212_1)).trans hw212_1)⟩ (fun hHeld => ?_); refine with_tabW spec_PkgText.tab7 spec_PkgText.bits7 (fun HT_ HW_ => ?_)
          generalize wr.drew = w19 at BK207 HB hx210_0 hx210_1 hx212_0 hx212_1 hHeld ⊢
          refine pure_ (i := 0) (N := some 21) (v := ?_) (a' := ?_) #[true, false, false, false, false, false, false, false, false, false, false, false, false, false, false, false, false, false, false, false] rfl rfl (any_of HT_.out (by kernel_rfl)) (fun _ _ _ h => h) (Or.inl ⟨by rfl, ?_⟩) ?_ ?_
          rotate_left
          ·intro w'
           go_simp
           with_reducible rfl
          rotate_left
          ·simp only [zp0, zp1, zp2, zp3, zp4, i64_w, i32_w]
           rfl
          refine pure_ (i := 1) (N := some 22) (v := ?_) (a' := ?_) #[true, true, false, false, false, false, false, false, false, false, false, false, false, false, false, false, false, false, false, false] rfl rfl (any_of HT_.out (by kernel_rfl)) (fun _ _ _ h => h) (Or.inl ⟨by rfl, ?_⟩) ?_ ?_
          rotate_left
          ·intro w'
           go_simp
           with_reducible rfl
          rotate_left
          ·simp only [zp0, zp1, zp2, zp3, zp4, i64_w, i32_w]
           rfl
          refine pure_ (i := 2) (N := some 23) (v := ?_) (a' := ?_) #[true, true, true, false, false, false, false, false, false, false, false, false, false, false, false, false, false, false, false, false] rfl rfl (any_of HT_.out (by kernel_rfl)) (fun _ _ _ h => h) (Or.inl ⟨by rfl, ?_⟩) ?_ ?_
          rotate_left
          ·intro w'
           go_simp
           with_reducible rfl
          rotate_left
          ·simp only [zp0, zp1, zp2, zp3, zp4, i64_w, i32_w]
           rfl
          refine pure_ (i := 4) (N := some 25) (v := ?_) (a' := ?_) #[true, true, true, false, true, false, false, false, false, false, false, false, false, false, false, false, false, false, false, false] rfl rfl (any_of HT_.out (by kernel_rfl)) (fun _ _ _ h => h) (Or.inl ⟨by rfl, ?_⟩) ?_ ?_
          rotate_left
          ·intro w'
           go_simp
           with_reducible rfl
          rotate_left
          ·simp only [zp0, zp1, zp2, zp3, zp4, i64_w, i32_w]
           rfl
          refine pure_ (i := 11) (N := some 32) (v := ?_) (a' := ?_) #[true, true, true, false, true, false, false, false, false, false, false, true, false, false, false, false, false, false, false, false] rfl rfl (any_of HT_.out (by kernel_rfl)) (fun _ _ _ h => h) (Or.inl ⟨by rfl, ?_⟩) ?_ ?_
          rotate_left
          ·intro w'
           go_simp
           with_reducible rfl
          rotate_left
          ·simp only [zp0, zp1, zp2, zp3, zp4, i64_w, i32_w]
           rfl
          refine pure_ (i := 13) (N := some 34) (v := ?_) (a' := ?_) #[true, true, true, false, true, false, false, false, false, false, false, true, false, true, false, false, false, false, false, false] rfl rfl (any_of HT_.out (by kernel_rfl)) (fun _ _ _ h => h) (Or.inl ⟨by rfl, ?_⟩) ?_ ?_
          rotate_left
          ·intro w'
           go_simp
           with_reducible rfl
          rotate_left
          ·simp only [zp0, zp1, zp2, zp3, zp4, i64_w, i32_w]
           rfl
          refine take_ (i := 3) (N := some 24) (v := ?_) (a' := ?_) #[true, true, true, true, true, false, false, false, false, false, false, true, false, true, false, false, false, false, false, false] rfl rfl (take_ofW HT_.out HW_.out (by kernel_rfl)) (fun _ _ _ h => h) (Or.inl ⟨by rfl, ?_⟩) hHeld ?_ ?_
          rotate_left
          ·rintro w' ⟨s0, s1, s2, s3, s4, s5, s6, s7⟩
           go_simp
           with_reducible rfl
          rotate_left
          ·simp only [zp0, zp1, zp2, zp3, zp4, i64_w, i32_w]
           rfl
          refine pure_ (i := 5) (N := some 26) (v := ?_) (a' := ?_) #[true, true, true, true, true, true, false, false, false, false, false, true, false, true, false, false, false, false, false, false] rfl rfl (any_of HT_.out (by kernel_rfl)) (fun _ _ _ h => h) (Or.inl ⟨by rfl, ?_⟩) ?_ ?_
          rotate_left
          ·intro w'
           go_simp
           with_reducible rfl
          rotate_left
          ·simp only [zp0, zp1, zp2, zp3, zp4, i64_w, i32_w]
           rfl
          refine pure_ (i := 6) (N := some 27) (v := ?_) (a' := ?_) #[true, true, true, true, true, true, true, false, false, false, false, true, false, true, false, false, false, false, false, false] rfl rfl (any_of HT_.out (by kernel_rfl)) (fun _ _ _ h => h) (Or.inl ⟨by rfl, ?_⟩) ?_ ?_
          rotate_left
          ·intro w'
           go_simp
           with_reducible rfl
          rotate_left
          ·simp only [zp0, zp1, zp2, zp3, zp4, i64_w, i32_w]
           rfl
          refine take_ (i := 7) (N := some 28) (v := ?_) (a' := ?_) #[true, true, true, true, true, true, true, true, false, false, false, true, false, true, false, false, false, false, false, false] rfl rfl (take_ofW HT_.out HW_.out (by kernel_rfl)) (fun _ _ _ h => h) (Or.inl ⟨by rfl, ?_⟩) hHeld ?_ ?_
          rotate_left
          ·rintro w' ⟨s0, s1, s2, s3, s4, s5, s6, s7⟩
           go_simp
           with_reducible rfl
          rotate_left
          ·simp only [zp0, zp1, zp2, zp3, zp4, i64_w, i32_w]
           rfl
          refine take_ (i := 12) (N := some 33) (v := ?_) (a' := ?_) #[true, true, true, true, true, true, true, true, false, false, false, true, true, true, false, false, false, false, false, false] rfl rfl (take_ofW HT_.out HW_.out (by kernel_rfl)) (fun _ _ _ h => h) (Or.inl ⟨by rfl, ?_⟩) hHeld ?_ ?_
          rotate_left
          ·rintro w' ⟨s0, s1, s2, s3, s4, s5, s6, s7⟩
           go_simp
           with_reducible rfl
          rotate_left
          ·simp only [zp0, zp1, zp2, zp3, zp4, i64_w, i32_w]
           rfl
          refine pure_ (i := 14) (N := some 35) (v := ?_) (a' := ?_) #[true, true, true, true, true, true, true, true, false, false, false, true, true, true, true, false, false, false, false, false] rfl rfl (any_of HT_.out (by kernel_rfl)) (fun _ _ _ h => h) (Or.inl ⟨by rfl, ?_⟩) ?_ ?_
          rotate_left
          ·intro w'
           go_simp
           with_reducible rfl
          rotate_left
          ·simp only [zp0, zp1, zp2, zp3, zp4, i64_w, i32_w]
           rfl
          refine pure_ (i := 15) (N := some 36) (v := ?_) (a' := ?_) #[true, true, true, true, true, true, true, true, false, false, false, true, true, true, true, true, false, false, false, false] rfl rfl (any_of HT_.out (by kernel_rfl)) (fun _ _ _ h => h) (Or.inl ⟨by rfl, ?_⟩) ?_ ?_
          rotate_left
          ·intro w'
           go_simp
           with_reducible rfl
          rotate_left
          ·simp only [zp0, zp1, zp2, zp3, zp4, i64_w, i32_w]
           rfl
          refine take_ (i := 16) (N := some 37) (v := ?_) (a' := ?_) #[true, true, true, true, true, true, true, true, false, false, false, true, true, true, true, true, true, false, false, false] rfl rfl (take_ofW HT_.out HW_.out (by kernel_rfl)) (fun _ _ _ h => h) (Or.inl ⟨by rfl, ?_⟩) hHeld ?_ ?_
          rotate_left
          ·rintro w' ⟨s0, s1, s2, s3, s4, s5, s6, s7⟩
           go_simp
           with_reducible rfl
          rotate_left
          ·simp only [zp0, zp1, zp2, zp3, zp4, i64_w, i32_w]
           rfl
          refine one_ (i := 8) (N := some 29) #[true, true, true, true, true, true, true, true, true, false, false, true, true, true, true, true, true, false, false, false] rfl rfl (one_of HT_.out (by kernel_rfl)) (by decide) (fun K hK => ?_)
          refine goes_ Try.func75 (by kernel_rfl) rfl #[.int .i64 ((rd_T82 l0_2 x4_1).f0)] (by rfl) rfl rfl (by (try simp only [zm1, zm2, zm3]); first | done | rfl | (simp only [List.length_drop, List.length_take]; rfl)) ?_
          with_reducible refine (spec_l6Dec.calls k1 ((rd_T82 l0_2 x4_1).f0) t211 _ A13.out).mono ?_
          rintro e w20 ⟨rfl, hb⟩
          refine ⟨_, rfl, ?_⟩
          have n0_ := Aside0.mk (blk_below (g := gb207) (o := .cells #[.int .i64 a0_0, .int .i64 a0_1, .slice (some ad210) l0_2.length c0_2, .slice A0_3 l0_3.length c0_3] 26 (0, 0)) (by exact zK BK207.out) hb)
          have n1_ := Aside0.mk (below_step (by exact zB1 HB.out GE207.out) hb)
          clear BK207
          clear HB
          have BK207 := n0_
          have HB := n1_
          clear n0_ n1_
          (try clear hb)
          (try clear hb2)
          (try clear hk)
          (try clear hi)
          refine hK.out _ _ ⟨(blk_cell BK207.out 0).trans rfl, (blk_cell BK207.out 1).trans rfl, (blk_cell BK207.out 2).trans rfl, (blk_cell BK207.out 3).trans rfl, ((HB.out.cell (World.block_lt_of_cell? w _ hw210_0)).trans hw210_0), ((HB.out.cell (World.block_lt_of_cell? w _ hw210_1)).trans hw210_1), ((HB.out.cell (World.block_lt_of_cell? w _ hw212_0)).trans hw212_0), ((HB.out.cell (World.block_lt_of_cell? w _ hw212_1)).trans hw212_1)⟩ (fun hHeld => ?_)
          clear hK K
          refine norm_ (a' := ?_) ?_ ?_
          rotate_left
          ·show Act.put _ (some 29) _ = _
           simp only [zp0, zp1, zp2, zp3, zp4, i64_w, i32_w]
           rfl
          refine pure_ (i := 9) (N := some 30) (v := ?_) (a' := ?_) #[true, true, true, true, true, true, true, true, true, true, false, true, true, true, true, true, true, false, false, false] rfl rfl (any_of HT_.out (by kernel_rfl)) (fun _ _ _ h => h) (Or.inl ⟨by rfl, ?_⟩) ?_ ?_
          rotate_left
          ·intro w'
           go_simp
           with_reducible rfl
          rotate_left
          ·simp only [zp0, zp1, zp2, zp3, zp4, i64_w, i32_w]
           rfl
          refine pure_ (i := 10) (N := some 31) (v := ?_) (a' := ?_) #[true, true, true, true, true, true, true, true, true, true, true, true, true, true, true, true, true, false, false, false] rfl rfl (any_of HT_.out (by kernel_rfl)) (fun _ _ _ h => h) (Or.inl ⟨by rfl, ?_⟩) ?_ ?_
          rotate_left
          ·intro w'
           go_simp
           with_reducible rfl
          rotate_left
          ·simp only [zp0, zp1, zp2, zp3, zp4, i64_w, i32_w]
           rfl
          refine one_ (i := 17) (N := some 38) #[true, true, true, true, true, true, true, true, true, true, true, true, true, true, true, true, true, true, false, false] rfl rfl (one_of HT_.out (by kernel_rfl)) (by decide) (fun K hK => ?_)
          refine goes_ Try.func75 (by kernel_rfl) rfl #[.int .i64 ((rd_T82 l0_2 x4_1).f1)] (by rfl) rfl rfl (by (try simp only [zm1, zm2, zm3]); first | done | rfl | (simp only [List.length_drop, List.length_take]; rfl)) ?_
          with_reducible refine (spec_l6Dec.calls k1 ((rd_T82 l0_2 x4_1).f1) t213 _ A16.out).mono ?_
          rintro e w21 ⟨rfl, hb⟩
          refine ⟨_, rfl, ?_⟩
          have n0_ := Aside0.mk (blk_below (g := gb207) (o := .cells #[.int .i64 a0_0, .int .i64 a0_1, .slice (some ad210) l0_2.length c0_2, .slice A0_3 l0_3.length c0_3] 26 (0, 0)) (by exact zK BK207.out) hb)
          have n1_ := Aside0.mk (below_step (by exact zB1 HB.out GE207.out) hb)
          clear BK207
          clear HB
          have BK207 := n0_
          have HB := n1_
          clear n0_ n1_
          (try clear hb)
          (try clear hb2)
          (try clear hk)
          (try clear hi)
          refine hK.out _ _ ⟨(blk_cell BK207.out 0).trans rfl, (blk_cell BK207.out 1).trans rfl, (blk_cell BK207.out 2).trans rfl, (blk_cell BK207.out 3).trans rfl, ((HB.out.cell (World.block_lt_of_cell? w _ hw210_0)).trans hw210_0), ((HB.out.cell (World.block_lt_of_cell? w _ hw210_1)).trans hw210_1), ((HB.out.cell (World.block_lt_of_cell? w _ hw212_0)).trans hw212_0), ((HB.out.cell (World.block_lt_of_cell? w _ hw212_1)).trans hw212_1)⟩ (fun hHeld => ?_)
          clear hK K
          refine norm_ (a' := ?_) ?_ ?_
          rotate_left
          ·show Act.put _ (some 38) _ = _
           simp only [zp0, zp1, zp2, zp3, zp4, i64_w, i32_w]
           rfl
          refine pure_ (i := 18) (N := some 39) (v := ?_) (a' := ?_) #[true, true, true, true, true, true, true, true, true, true, true, true, true, true, true, true, true, true, true, false] rfl rfl (any_of HT_.out (by kernel_rfl)) (fun _ _ _ h => h) (Or.inl ⟨by rfl, ?_⟩) ?_ ?_
          rotate_left
          ·intro w'
           go_simp
           with_reducible rfl
          rotate_left
          ·simp only [zp0, zp1, zp2, zp3, zp4, i64_w, i32_w]
           rfl
          refine pure_ (i := 19) (N := some 3) (v := ?_) (a' := ?_) #[true, true, true, true, true, true, true, true, true, true, true, true, true, true, true, true, true, true, true, true] rfl rfl (any_of HT_.out (by kernel_rfl)) (fun _ _ _ h => h) (Or.inl ⟨by rfl, ?_⟩) ?_ ?_
          rotate_left
          ·intro w'
           go_simp
           with_reducible rfl
          rotate_left
          ·simp only [zp0, zp1, zp2, zp3, zp4, i64_w, i32_w]
           rfl
          refine done_ (done_of HT_.out (by kernel_rfl)) ?_
          try go_wp2
          go_roundg k1
          case measure => have := HK1.out; omega
          case rel => exact ⟨((((x3_1 ++ (⟨#[32]⟩ : ByteArray)) ++ t211) ++ (⟨#[58]⟩ : ByteArray)) ++ t213), (wrap64 (x4_1 + 1)), (by first | rfl | (simp; done) | (simp [*]; done)), (by first | rfl | (simp; done) | (simp [*]; done)), H', ⟨by have := HK1.out; omega⟩, ⟨by exact zK BK207.out⟩, ⟨by exact zB1 HB.out GE207.out⟩⟩
         ·rw [if_neg c17] at H
          exact absurd H (by simp)
        ·rw [if_neg c15] at H
         exact absurd H (by simp)
       ·rw [if_neg c14] at H
        exact absurd H (by simp)
      ·rw [if_neg c12] at H
       exact absurd H (by simp)
     ·rw [if_neg c11] at H
      exact absurd H (by simp)
    ·rw [if_neg c10] at H
     have c10b0 : decide (x4_1 < (l0_2.length : Int)) = false := decide_eq_false c10
     clear c10
     have H' := Aside0.mk H
     clear H
     obtain ⟨hcz22_0, hcz22_1, hcz22_2, hcz22_3, hfz22_0, hfz22_1, hfz22_2, hfz22_3⟩ := zc4f BK207.out
     go_wp2
     go_loopg [3, 5] k1 (fun kq v3 v5 w' => ∃ (x3_2 : ByteArray) (x5_2 : Int), v3 = .string x3_2 ∧ v5 = .int .i64 x5_2 ∧ Aside0 (spec_PkgText.l1 kq x3_2 x5_2 a0_0 a0_1 l0_2 l0_3 = some r) ∧ Aside0 (kq ≤ k1) ∧ Aside0 (w'.heap[gb207]? = some (.cells #[.int .i64 a0_0, .int .i64 a0_1, (.slice A0_2 l0_2.length c0_2), (.slice A0_3 l0_3.length c0_3)] 26 (0, 0))) ∧ Aside0 (Below w.heap.size w w'))
     case atStart => exact ⟨(x3_1), (0), (by first | rfl | (simp; done) | (simp [*]; done)), (by first | rfl | (simp; done) | (simp [*]; done)), H', ⟨Nat.le_refl _⟩, ⟨by exact zK BK207.out⟩, ⟨by exact zB1 HB.out GE207.out⟩⟩
     case round =>
      clear H'
      try clear c1
      try clear p2
      try clear q2
      try clear hx2
      try clear c3
      try clear c6
      try clear p6
      try clear c7
      try clear c10
      try clear c10b0
      try clear c11
      try clear c11b0
      try clear c11b1
      try clear c11b2
      try clear c12
      try clear c12b0
      try clear c14
      try clear c14b0
      try clear c14b1
      try clear c14b2
      try clear c15
      try clear c15b0
      try clear c15b1
      try clear c15b2
      try clear c17
      try clear c17b0
      try clear c17b1
      try clear c17b2
      try clear p21
      try clear q21
      try clear hx21
      try clear hcz18_0
      try clear hcz18_1
      try clear hcz18_2
      try clear hcz18_3
      try clear hcz22_0
      try clear hcz22_1
      try clear hcz22_2
      try clear hcz22_3
      try clear hcz6_0
      try clear hcz6_1
      try clear hcz6_2
      try clear hcz6_3
      try clear hcz8_0
      try clear hcz8_1
      try clear hcz8_2
      try clear hcz8_3
      try clear hfz18_0
      try clear hfz18_1
      try clear hfz18_2
      try clear hfz18_3
      try clear hfz22_0
      try clear hfz22_1
      try clear hfz22_2
      try clear hfz22_3
      try clear hfz6_0
      try clear hfz6_1
      try clear hfz6_2
      try clear hfz6_3
      try clear hfz8_0
      try clear hfz8_1
      try clear hfz8_2
      try clear hfz8_3
      try clear hx210_0
      try clear hx210_1
      try clear hx212_0
      try clear hx212_1
      try clear p2
      try clear p210
      try clear p212
      try clear q210
      try clear q212
      obtain ⟨x3_2, x5_2, rfl, rfl, HA, HK2, BK207, HB⟩ := hrel
      cases gk with
      | zero => exact absurd HA.out (by simp [spec_PkgText.l1])
      | succ k2 =>
       have H := HA.out
       clear HA
       simp only [spec_PkgText.l1] at H
       by_cases c23 : x5_2 < (l0_3.length : Int)
       ·rw [if_pos c23] at H
        have c23b0 : decide (x5_2 < (l0_3.length : Int)) = true := decide_eq_true c23
        clear c23
        by_cases c24 : x3_2.size + 1 ≤ 9223372036854775807
        ·rw [if_pos c24] at H
         have c24b0 := eq_true c24
         have c24b1 : decide (x3_2.size + 1 ≤ 9223372036854775807) = true := decide_eq_true c24
         try have c24b2 : (9223372036854775807 < x3_2.size + 1) = False := eq_false (Nat.not_lt.2 c24)
         by_cases c25 : 0 ≤ x5_2
         ·rw [if_pos c25] at H
          have c25b0 : decide (0 ≤ x5_2) = true := decide_eq_true c25
          clear c25
          replace H := Option.bind_eq_some_iff.mp H
          obtain ⟨t216, A260, H⟩ := H
          replace H : (if (x3_2 ++ (⟨#[32]⟩ : ByteArray)).size + t216.size ≤ 9223372036854775807 then (spec_PkgText.l1 k2 ((x3_2 ++ (⟨#[32]⟩ : ByteArray)) ++ t216) (wrap64 (x5_2 + 1)) a0_0 a0_1 l0_2 l0_3) else (none)) = some r := H
          have A26 := Aside0.mk A260
          clear A260
          by_cases c27 : (x3_2 ++ (⟨#[32]⟩ : ByteArray)).size + t216.size ≤ 9223372036854775807
          ·rw [if_pos c27] at H
           have c27b0 := eq_true c27
           have c27b1 : decide ((x3_2 ++ (⟨#[32]⟩ : ByteArray)).size + t216.size ≤ 9223372036854775807) = true := decide_eq_true c27
           try have c27b2 : (9223372036854775807 < (x3_2 ++ (⟨#[32]⟩ : ByteArray)).size + t216.size) = False := eq_false (Nat.not_lt.2 c27)
           have c27b9 : (9223372036854775807 < x3_2.size + 1 + t216.size) = False := eq_false (by have h_ := c27; simp only [ByteArray.size_append, show (⟨#[32]⟩ : ByteArray).size = 1 from rfl, show (⟨#[58]⟩ : ByteArray).size = 1 from rfl] at h_; omega)
           have H' := Aside0.mk H
           clear H
           obtain ⟨hcz28_0, hcz28_1, hcz28_2, hcz28_3, hfz28_0, hfz28_1, hfz28_2, hfz28_3⟩ := zc4f BK207.out
           try go_wp2
           have n0_ := Aside0.mk (blk_drew BK207.out)
           have n1_ := Aside0.mk (below_drew1 HB.out)
           clear BK207
           clear HB
           have BK207 := n0_
           have HB := n1_
           clear n0_ n1_
           have p214 : 0 ≤ (x5_2 : Int) := of_decide_eq_true (by first | (with_reducible assumption) | assumption)
           have q214 : x5_2 < (l0_3.length : Int) := of_decide_eq_true (by first | (with_reducible assumption) | assumption)
           obtain ⟨ad214, e214, hx214_0, hx214_1⟩ := at_T30 HR0_3.out x5_2 p214 q214
           have hw214_1 := hx214_1
           have hw214_0 := hx214_0
           cases e214
           replace hx214_0 := (HB.out.cell (World.block_lt_of_cell? w _ hx214_0)).trans hx214_0
           replace hx214_1 := (HB.out.cell (World.block_lt_of_cell? w _ hx214_1)).trans hx214_1
           replace p214 := eq_true p214
           replace q214 := eq_true q214
           have p215 : 0 ≤ (x5_2 : Int) := of_decide_eq_true (by first | (with_reducible assumption) | assumption)
           have q215 : x5_2 < (l0_3.length : Int) := of_decide_eq_true (by first | (with_reducible assumption) | assumption)
           obtain ⟨ad215, e215, hx215_0, hx215_1⟩ := at_T30 HR0_3.out x5_2 p215 q215
           have hw215_1 := hx215_1
           have hw215_0 := hx215_0
           obtain rfl : ad214 = ad215 := (by injection e215)
           replace hx215_0 := (HB.out.cell (World.block_lt_of_cell? w _ hx215_0)).trans hx215_0
           replace hx215_1 := (HB.out.cell (World.block_lt_of_cell? w _ hx215_1)).trans hx215_1
           replace p215 := eq_true p215
           replace q215 := eq_true q215
           refine start_ (n := 17) (S := fun w' => w'.cell? ⟨gb207, 0, none⟩ = some (.int .i64 a0_0) ∧ w'.cell? ⟨gb207, 1, none⟩ = some (.int .i64 a0_1) ∧ w'.cell? ⟨gb207, 2, none⟩ = some (.slice A0_2 l0_2.length c0_2) ∧ w'.cell? ⟨gb207, 3, none⟩ = some (.slice (some ad214) l0_3.length c0_3) ∧ w'.cell? (ad214.add ((x5_2).toNat * 2)) = some (.int .i64 ((rd_T30 l0_3 x5_2).f0)) ∧ w'.cell? ⟨(ad214.add ((x5_2).toNat * 2)).block, (ad214.add ((x5_2).toNat * 2)).off + 1, none⟩ = some (.int .i64 ((rd_T30 l0_3 x5_2).f1)) ∧ w'.cell? (ad214.add ((x5_2).toNat * 2)) = some (.int .i64 ((rd_T30 l0_3 x5_2).f0)) ∧ w'.cell? ⟨(ad214.add ((x5_2).toNat * 2)).block, (ad214.add ((x5_2).toNat * 2)).off + 1, none⟩ = some (.int .i64 ((rd_T30 l0_3 x5_2).f1))) (ds := []) #[false, false, false, false, false, false, false, false, false, false, false, false, false, false, false, false, false] (by kernel_rfl) rfl rfl ⟨(blk_cell BK207.out 0).trans rfl, (blk_cell BK207.out 1).trans rfl, (blk_cell BK207.out 2).trans rfl, (blk_cell BK207.out 3).trans rfl, ((HB.out.cell (World.block_lt_of_cell? w _ hw214_0)).trans hw214_0), ((HB.out.cell (World.block_lt_of_cell? w _ hw214_1)).trans hw214_1), ((HB.out.cell (World.block_lt_of_cell? w _ hw215_0)).trans hw215_0), ((HB.out.cell (World.block_lt_of_cell? w _ hw215_1)).trans hw215_1)⟩ (fun hHeld => ?_); refine with_tabW spec_PkgText.tab11 spec_PkgText.bits11 (fun HT_ HW_ => ?_)
           generalize wr.drew = w29 at BK207 HB hx214_0 hx214_1 hx215_0 hx215_1 hHeld ⊢
           refine pure_ (i := 0) (N := some 47) (v := ?_) (a' := ?_) #[true, false, false, false, false, false, false, false, false, false, false, false, false, false, false, false, false] rfl rfl (any_of HT_.out (by kernel_rfl)) (fun _ _ _ h => h) (Or.inl ⟨by rfl, ?_⟩) ?_ ?_
           rotate_left
           ·intro w'
            go_simp
            with_reducible rfl
           rotate_left
           ·simp only [zp0, zp1, zp2, zp3, zp4, i64_w, i32_w]
            rfl
           refine pure_ (i := 1) (N := some 48) (v := ?_) (a' := ?_) #[true, true, false, false, false, false, false, false, false, false, false, false, false, false, false, false, false] rfl rfl (any_of HT_.out (by kernel_rfl)) (fun _ _ _ h => h) (Or.inl ⟨by rfl, ?_⟩) ?_ ?_
           rotate_left
           ·intro w'
            go_simp
            with_reducible rfl
           rotate_left
           ·simp only [zp0, zp1, zp2, zp3, zp4, i64_w, i32_w]
            rfl
           refine pure_ (i := 2) (N := some 49) (v := ?_) (a' := ?_) #[true, true, true, false, false, false, false, false, false, false, false, false, false, false, false, false, false] rfl rfl (any_of HT_.out (by kernel_rfl)) (fun _ _ _ h => h) (Or.inl ⟨by rfl, ?_⟩) ?_ ?_
           rotate_left
           ·intro w'
            go_simp
            with_reducible rfl
           rotate_left
           ·simp only [zp0, zp1, zp2, zp3, zp4, i64_w, i32_w]
            rfl
           refine pure_ (i := 4) (N := some 51) (v := ?_) (a' := ?_) #[true, true, true, false, true, false, false, false, false, false, false, false, false, false, false, false, false] rfl rfl (any_of HT_.out (by kernel_rfl)) (fun _ _ _ h => h) (Or.inl ⟨by rfl, ?_⟩) ?_ ?_
           rotate_left
           ·intro w'
            go_simp
            with_reducible rfl
           rotate_left
           ·simp only [zp0, zp1, zp2, zp3, zp4, i64_w, i32_w]
            rfl
           refine pure_ (i := 8) (N := some 55) (v := ?_) (a' := ?_) #[true, true, true, false, true, false, false, false, true, false, false, false, false, false, false, false, false] rfl rfl (any_of HT_.out (by kernel_rfl)) (fun _ _ _ h => h) (Or.inl ⟨by rfl, ?_⟩) ?_ ?_
           rotate_left
           ·intro w'
            go_simp
            with_reducible rfl
           rotate_left
           ·simp only [zp0, zp1, zp2, zp3, zp4, i64_w, i32_w]
            rfl
           refine pure_ (i := 10) (N := some 57) (v := ?_) (a' := ?_) #[true, true, true, false, true, false, false, false, true, false, true, false, false, false, false, false, false] rfl rfl (any_of HT_.out (by kernel_rfl)) (fun _ _ _ h => h) (Or.inl ⟨by rfl, ?_⟩) ?_ ?_
           rotate_left
           ·intro w'
            go_simp
            with_reducible rfl
           rotate_left
           ·simp only [zp0, zp1, zp2, zp3, zp4, i64_w, i32_w]
            rfl
           refine take_ (i := 3) (N := some 50) (v := ?_) (a' := ?_) #[true, true, true, true, true, false, false, false, true, false, true, false, false, false, false, false, false] rfl rfl (take_ofW HT_.out HW_.out (by kernel_rfl)) (fun _ _ _ h => h) (Or.inl ⟨by rfl, ?_⟩) hHeld ?_ ?_
           rotate_left
           ·rintro w' ⟨s0, s1, s2, s3, s4, s5, s6, s7⟩
            go_simp
            with_reducible rfl
           rotate_left
           ·simp only [zp0, zp1, zp2, zp3, zp4, i64_w, i32_w]
            rfl
           refine pure_ (i := 5) (N := some 52) (v := ?_) (a' := ?_) #[true, true, true, true, true, true, false, false, true, false, true, false, false, false, false, false, false] rfl rfl (any_of HT_.out (by kernel_rfl)) (fun _ _ _ h => h) (Or.inl ⟨by rfl, ?_⟩) ?_ ?_
           rotate_left
           ·intro w'
            go_simp
            with_reducible rfl
           rotate_left
           ·simp only [zp0, zp1, zp2, zp3, zp4, i64_w, i32_w]
            rfl
           refine pure_ (i := 6) (N := some 53) (v := ?_) (a' := ?_) #[true, true, true, true, true, true, true, false, true, false, true, false, false, false, false, false, false] rfl rfl (any_of HT_.out (by kernel_rfl)) (fun _ _ _ h => h) (Or.inl ⟨by rfl, ?_⟩) ?_ ?_
           rotate_left
           ·intro w'
            go_simp
            with_reducible rfl
           rotate_left
           ·simp only [zp0, zp1, zp2, zp3, zp4, i64_w, i32_w]
            rfl
           refine take_ (i := 7) (N := some 54) (v := ?_) (a' := ?_) #[true, true, true, true, true, true, true, true, true, false, true, false, false, false, false, false, false] rfl rfl (take_ofW HT_.out HW_.out (by kernel_rfl)) (fun _ _ _ h => h) (Or.inl ⟨by rfl, ?_⟩) hHeld ?_ ?_
           rotate_left
           ·rintro w' ⟨s0, s1, s2, s3, s4, s5, s6, s7⟩
            go_simp
            with_reducible rfl
           rotate_left
           ·simp only [zp0, zp1, zp2, zp3, zp4, i64_w, i32_w]
            rfl
           refine take_ (i := 9) (N := some 56) (v := ?_) (a' := ?_) #[true, true, true, true, true, true, true, true, true, true, true, false, false, false, false, false, false] rfl rfl (take_ofW HT_.out HW_.out (by kernel_rfl)) (fun _ _ _ h => h) (Or.inl ⟨by rfl, ?_⟩) hHeld ?_ ?_
           rotate_left
           ·rintro w' ⟨s0, s1, s2, s3, s4, s5, s6, s7⟩
            go_simp
            with_reducible rfl
           rotate_left
           ·simp only [zp0, zp1, zp2, zp3, zp4, i64_w, i32_w]
            rfl
           refine pure_ (i := 11) (N := some 58) (v := ?_) (a' := ?_) #[true, true, true, true, true, true, true, true, true, true, true, true, false, false, false, false, false] rfl rfl (any_of HT_.out (by kernel_rfl)) (fun _ _ _ h => h) (Or.inl ⟨by rfl, ?_⟩) ?_ ?_
           rotate_left
           ·intro w'
            go_simp
            with_reducible rfl
           rotate_left
           ·simp only [zp0, zp1, zp2, zp3, zp4, i64_w, i32_w]
            rfl
           refine pure_ (i := 12) (N := some 59) (v := ?_) (a' := ?_) #[true, true, true, true, true, true, true, true, true, true, true, true, true, false, false, false, false] rfl rfl (any_of HT_.out (by kernel_rfl)) (fun _ _ _ h => h) (Or.inl ⟨by rfl, ?_⟩) ?_ ?_
           rotate_left
           ·intro w'
            go_simp
            with_reducible rfl
           rotate_left
           ·simp only [zp0, zp1, zp2, zp3, zp4, i64_w, i32_w]
            rfl
           refine take_ (i := 13) (N := some 60) (v := ?_) (a' := ?_) #[true, true, true, true, true, true, true, true, true, true, true, true, true, true, false, false, false] rfl rfl (take_ofW HT_.out HW_.out (by kernel_rfl)) (fun _ _ _ h => h) (Or.inl ⟨by rfl, ?_⟩) hHeld ?_ ?_
           rotate_left
           ·rintro w' ⟨s0, s1, s2, s3, s4, s5, s6, s7⟩
            go_simp
            with_reducible rfl
           rotate_left
           ·simp only [zp0, zp1, zp2, zp3, zp4, i64_w, i32_w]
            rfl
           refine one_ (i := 14) (N := some 61) #[true, true, true, true, true, true, true, true, true, true, true, true, true, true, true, false, false] rfl rfl (one_of HT_.out (by kernel_rfl)) (by decide) (fun K hK => ?_)
           refine goes_ Try.func74 (by kernel_rfl) rfl #[.int .i64 ((rd_T30 l0_3 x5_2).f0), .int .i64 ((rd_T30 l0_3 x5_2).f1)] (by rfl) rfl rfl (by (try simp only [zm1, zm2, zm3]); first | done | rfl | (simp only [List.length_drop, List.length_take]; rfl)) ?_
           with_reducible refine (spec_l1Name.calls k2 ((rd_T30 l0_3 x5_2).f0) ((rd_T30 l0_3 x5_2).f1) t216 _ A26.out).mono ?_
           rintro e w30 ⟨rfl, hb⟩
           refine ⟨_, rfl, ?_⟩
           have n0_ := Aside0.mk (blk_below (g := gb207) (o := .cells #[.int .i64 a0_0, .int .i64 a0_1, .slice A0_2 l0_2.length c0_2, .slice (some ad214) l0_3.length c0_3] 26 (0, 0)) (by exact zK BK207.out) hb)
           have n1_ := Aside0.mk (below_step (by exact zB1 HB.out GE207.out) hb)
           clear BK207
           clear HB
           have BK207 := n0_
           have HB := n1_
           clear n0_ n1_
           (try clear hb)
           (try clear hb2)
           (try clear hk)
           (try clear hi)
           refine hK.out _ _ ⟨(blk_cell BK207.out 0).trans rfl, (blk_cell BK207.out 1).trans rfl, (blk_cell BK207.out 2).trans rfl, (blk_cell BK207.out 3).trans rfl, ((HB.out.cell (World.block_lt_of_cell? w _ hw214_0)).trans hw214_0), ((HB.out.cell (World.block_lt_of_cell? w _ hw214_1)).trans hw214_1), ((HB.out.cell (World.block_lt_of_cell? w _ hw215_0)).trans hw215_0), ((HB.out.cell (World.block_lt_of_cell? w _ hw215_1)).trans hw215_1)⟩ (fun hHeld => ?_)
           clear hK K
           refine norm_ (a' := ?_) ?_ ?_
           rotate_left
           ·show Act.put _ (some 61) _ = _
            simp only [zp0, zp1, zp2, zp3, zp4, i64_w, i32_w]
            rfl
           refine pure_ (i := 15) (N := some 62) (v := ?_) (a' := ?_) #[true, true, true, true, true, true, true, true, true, true, true, true, true, true, true, true, false] rfl rfl (any_of HT_.out (by kernel_rfl)) (fun _ _ _ h => h) (Or.inl ⟨by rfl, ?_⟩) ?_ ?_
           rotate_left
           ·intro w'
            go_simp
            with_reducible rfl
           rotate_left
           ·simp only [zp0, zp1, zp2, zp3, zp4, i64_w, i32_w]
            rfl
           refine pure_ (i := 16) (N := some 3) (v := ?_) (a' := ?_) #[true, true, true, true, true, true, true, true, true, true, true, true, true, true, true, true, true] rfl rfl (any_of HT_.out (by kernel_rfl)) (fun _ _ _ h => h) (Or.inl ⟨by rfl, ?_⟩) ?_ ?_
           rotate_left
           ·intro w'
            go_simp
            with_reducible rfl
           rotate_left
           ·simp only [zp0, zp1, zp2, zp3, zp4, i64_w, i32_w]
            rfl
           refine done_ (done_of HT_.out (by kernel_rfl)) ?_
           try go_wp2
           go_roundg k2
           case measure => have := HK1.out; have := HK2.out; omega
           case rel => exact ⟨((x3_2 ++ (⟨#[32]⟩ : ByteArray)) ++ t216), (wrap64 (x5_2 + 1)), (by first | rfl | (simp; done) | (simp [*]; done)), (by first | rfl | (simp; done) | (simp [*]; done)), H', ⟨by have := HK1.out; have := HK2.out; omega⟩, ⟨by exact zK BK207.out⟩, ⟨by exact zB1 HB.out GE207.out⟩⟩
          ·rw [if_neg c27] at H
           exact absurd H (by simp)
         ·rw [if_neg c25] at H
          exact absurd H (by simp)
        ·rw [if_neg c24] at H
         exact absurd H (by simp)
       ·rw [if_neg c23] at H
        have c23b0 : decide (x5_2 < (l0_3.length : Int)) = false := decide_eq_false c23
        clear c23
        obtain rfl := Option.some.inj H
        obtain ⟨hcz31_0, hcz31_1, hcz31_2, hcz31_3, hfz31_0, hfz31_1, hfz31_2, hfz31_3⟩ := zc4f BK207.out
        go_wp2
        go_ret
        exact ⟨by first | rfl | (simp [errW_none, errW_some] <;> rfl) | (simp [*, errW_none, errW_some] <;> rfl), by exact zB1 HB.out GE207.out⟩
 ·replace c3 := Bool.eq_false_iff.mpr c3
  subst c3
  have H1 : (some (⟨#[]⟩ : ByteArray)) = some r := by rw [if_neg (show ¬ (false = true) by decide)] at H; exact H
  clear H
  have H := H1
  clear H1
  obtain rfl := Option.some.inj H
  go_enter Try.func61, Try.ntmps61
  go_wp2_with (first | ((with_reducible refine gate_dst (N := 1) rfl ?_); refine box_event ?hg (N := 1) ?hd (cs := #[.int .i64 a0_0, .int .i64 a0_1, .slice A0_2 l0_2.length c0_2, .slice A0_3 l0_3.length c0_3]) (t := 26) ?hr ?_; (case hd => rfl); (case hg => rfl); (case hr => first | (go_simp; done) | (go_simp; rfl)); intro gb207 hg w32 hbox hb; have n0_ := Aside0.mk (below_step (by exact zB HB.out) hb); have n1_ := Aside0.mk (hbox); have n2_ := Aside0.mk ((by rw [hg]; exact (below_size (by exact zB HB.out)) : w.heap.size ≤ gb207)); have n3_ := Aside0.mk ((by rw [hg]; exact (below_size (by exact zB HB.out)) : w.heap.size ≤ gb207)); clear HB; have HB := n0_; have BK207 := n1_; have GW207 := n2_; have GE207 := n3_; clear n0_ n1_ n2_ n3_; clear hb hbox hg; obtain ⟨hcz33_0, hcz33_1, hcz33_2, hcz33_3, hfz33_0, hfz33_1, hfz33_2, hfz33_3⟩ := zc4f BK207.out) | ((with_reducible refine gate_callee (f := 17) rfl ?_); refine goesL_ (some 7) rfl rfl Try.func17 (by kernel_rfl) rfl #[.agg #[.int .i64 a0_0, .int .i64 a0_1, .slice A0_2 l0_2.length c0_2, .slice A0_3 l0_3.length c0_3]] rfl (by (try simp only [zm1, zm2, zm3]); first | done | rfl | (simp only [List.length_drop, List.length_take]; rfl)) ?_; (with_reducible refine (spec_PkgOk.calls k a0_0 a0_1 _ _ l0_2 _ _ l0_3 false _ ?side1 ?side2 ?side3 ?side4 A2.out).mono ?_); (case side1 => exact zC (Kd.C_below HR0_2.out HB.out)); (case side2 => exact HC0_2.out); (case side3 => exact zC (Kd.C_below HR0_3.out HB.out)); (case side4 => exact HC0_3.out); rintro e w34 ⟨rfl, hb⟩; refine ⟨_, rfl, ?_⟩; have n0_ := Aside0.mk (blk_below (g := gb207) (o := .cells #[.int .i64 a0_0, .int .i64 a0_1, .slice A0_2 l0_2.length c0_2, .slice A0_3 l0_3.length c0_3] 26 (0, 0)) (by exact zK BK207.out) hb); have n1_ := Aside0.mk (below_step (by exact zB1 HB.out GE207.out) hb); clear BK207; clear HB; have BK207 := n0_; have HB := n1_; clear n0_ n1_; (try clear hb); (try clear hb2); (try clear hk); (try clear hi)))
  go_ret
  exact ⟨by first | rfl | (simp [errW_none, errW_some] <;> rfl) | (simp [*, errW_none, errW_some] <;> rfl), by exact zB1 HB.out GE207.out⟩

/-! ### spec_l6Many: function 62 -/
def spec_l6Many.l0 : Nat → ByteArray → Int → ByteArray → Option (ByteArray)
 | 0, _, _, _ => none
 | k + 1, x0, x1, x5 => if x1 > 0 then (if (Int.tmod x1 2) = 1 then (if x5.size + x0.size ≤ 9223372036854775807 then (if x0.size + x0.size ≤ 9223372036854775807 then (spec_l6Many.l0 k (x0 ++ x0) (wrap64 (Int.tdiv x1 2)) (x5 ++ x0)) else (none)) else (none)) else (if x0.size + x0.size ≤ 9223372036854775807 then (spec_l6Many.l0 k (x0 ++ x0) (wrap64 (Int.tdiv x1 2)) x5) else (none))) else (some x5)
def spec_l6Many.f (k : Nat) (a0 : ByteArray) (a1 : Int) : Option (ByteArray) := spec_l6Many.l0 k a0 a1 (⟨#[]⟩ : ByteArray)
theorem spec_l6Many.mono_l : ∀ k, (∀ y0 y1 y2, LeO (spec_l6Many.l0 k y0 y1 y2) (spec_l6Many.l0 (k + 1) y0 y1 y2))
 | 0 => fun _ _ _ r h => by simp [spec_l6Many.l0] at h
 | k + 1 => by
  have ih0 := spec_l6Many.mono_l k
  ·intro y0 y1 y2
   unfold spec_l6Many.l0
   repeat' first
   | (with_reducible exact ih0 _ _ _)
   | (with_reducible exact LeO.refl _)
   | (with_reducible exact LeO.none _)
   | (with_reducible refine LeO.ite ?_ ?_)
   | (with_reducible refine LeO.bind ?_ (fun _ => ?_))
   | exact ih0 _ _ _
   | exact LeO.none _
   | refine LeO.ite ?_ ?_
   | refine LeO.bind ?_ (fun _ => ?_)
theorem spec_l6Many.mono : ∀ a0 a1 k, LeO (spec_l6Many.f k a0 a1) (spec_l6Many.f (k + 1) a0 a1) := by
 intro a0 a1 k
 have ih0 := spec_l6Many.mono_l k
 unfold spec_l6Many.f
 repeat' first
   | (with_reducible exact ih0 _ _ _)
   | (with_reducible exact LeO.refl _)
   | (with_reducible exact LeO.none _)
   | (with_reducible refine LeO.ite ?_ ?_)
   | (with_reducible refine LeO.bind ?_ (fun _ => ?_))
   | exact ih0 _ _ _
   | exact LeO.none _
   | refine LeO.ite ?_ ?_
   | refine LeO.bind ?_ (fun _ => ?_)
set_option maxHeartbeats 8000000 in
set_option maxRecDepth 100000 in
theorem spec_l6Many.calls (k : Nat) (a0 : ByteArray) (a1 : Int) (r : ByteArray) (w : World) (h : spec_l6Many.f k a0 a1 = some r) :
  Calls Try.prog 62 #[.string a0, .int .i64 a1] w fun e w' => e = .returned (.string r) ∧ Drawn0 w w' := by
 have H : (spec_l6Many.l0 k a0 a1 (⟨#[]⟩ : ByteArray)) = some r := h
 clear h
 have H' := Aside0.mk H
 clear H
 go_enter Try.func62, Try.ntmps62
 go_wp2
 go_loopg [0, 1, 5] k (fun kq v0 v1 v5 w' => ∃ (x0_1 : ByteArray) (x1_1 : Int) (x5_1 : ByteArray), v0 = .string x0_1 ∧ v1 = .int .i64 x1_1 ∧ v5 = .string x5_1 ∧ Aside0 (spec_l6Many.l0 kq x0_1 x1_1 x5_1 = some r) ∧ Aside0 (kq ≤ k) ∧ Drawn0 w w')
 case atStart => exact ⟨(a0), (a1), ((⟨#[]⟩ : ByteArray)), (by first | rfl | (simp; done) | (simp [*]; done)), (by first | rfl | (simp; done) | (simp [*]; done)), (by first | rfl | (simp; done) | (simp [*]; done)), H', ⟨Nat.le_refl _⟩, by repeat (first | exact Drawn0.refl _ | apply Drawn0.step)⟩
 case round =>
  clear H'
  try clear p2
  obtain ⟨x0_1, x1_1, x5_1, rfl, rfl, rfl, HA, HK1, ⟨m1, rfl⟩⟩ := hrel
  cases gk with
  | zero => exact absurd HA.out (by simp [spec_l6Many.l0])
  | succ k1 =>
   have H := HA.out
   clear HA
   simp only [spec_l6Many.l0] at H
   by_cases c3 : x1_1 > 0
   ·rw [if_pos c3] at H
    have c3b0 : decide (0 < x1_1) = true := decide_eq_true c3
    clear c3
    by_cases c4 : (Int.tmod x1_1 2) = 1
    ·rw [if_pos c4] at H
     have c4b0 : ((Int.tmod x1_1 2) == 1) = true := beq_iff_eq.mpr c4
     have c4b1 : ((Int.tmod x1_1 2) != 1) = false := bne_eq_false_iff_eq.mpr c4
     clear c4
     by_cases c5 : x5_1.size + x0_1.size ≤ 9223372036854775807
     ·rw [if_pos c5] at H
      have c5b0 := eq_true c5
      have c5b1 : decide (x5_1.size + x0_1.size ≤ 9223372036854775807) = true := decide_eq_true c5
      try have c5b2 : (9223372036854775807 < x5_1.size + x0_1.size) = False := eq_false (Nat.not_lt.2 c5)
      by_cases c6 : x0_1.size + x0_1.size ≤ 9223372036854775807
      ·rw [if_pos c6] at H
       have c6b0 := eq_true c6
       have c6b1 : decide (x0_1.size + x0_1.size ≤ 9223372036854775807) = true := decide_eq_true c6
       try have c6b2 : (9223372036854775807 < x0_1.size + x0_1.size) = False := eq_false (Nat.not_lt.2 c6)
       have H' := Aside0.mk H
       clear H
       go_wp2
       go_roundg k1
       case measure => have := HK1.out; omega
       case rel => exact ⟨(x0_1 ++ x0_1), (wrap64 (Int.tdiv x1_1 2)), (x5_1 ++ x0_1), (by first | rfl | (simp; done) | (simp [*]; done)), (by first | rfl | (simp; done) | (simp [*]; done)), (by first | rfl | (simp; done) | (simp [*]; done)), H', ⟨by have := HK1.out; omega⟩, by repeat (first | exact Drawn0.refl _ | apply Drawn0.step)⟩
      ·rw [if_neg c6] at H
       exact absurd H (by simp)
     ·rw [if_neg c5] at H
      exact absurd H (by simp)
    ·rw [if_neg c4] at H
     have c4b0 : ((Int.tmod x1_1 2) == 1) = false := beq_eq_false_iff_ne.mpr c4
     have c4b1 : ((Int.tmod x1_1 2) != 1) = true := bne_iff_ne.mpr c4
     by_cases c7 : x0_1.size + x0_1.size ≤ 9223372036854775807
     ·rw [if_pos c7] at H
      have c7b0 := eq_true c7
      have c7b1 : decide (x0_1.size + x0_1.size ≤ 9223372036854775807) = true := decide_eq_true c7
      try have c7b2 : (9223372036854775807 < x0_1.size + x0_1.size) = False := eq_false (Nat.not_lt.2 c7)
      have H' := Aside0.mk H
      clear H
      go_wp2
      go_roundg k1
      case measure => have := HK1.out; omega
      case rel => exact ⟨(x0_1 ++ x0_1), (wrap64 (Int.tdiv x1_1 2)), (x5_1), (by first | rfl | (simp; done) | (simp [*]; done)), (by first | rfl | (simp; done) | (simp [*]; done)), (by first | rfl | (simp; done) | (simp [*]; done)), H', ⟨by have := HK1.out; omega⟩, by repeat (first | exact Drawn0.refl _ | apply Drawn0.step)⟩
     ·rw [if_neg c7] at H
      exact absurd H (by simp)
   ·rw [if_neg c3] at H
    have c3b0 : decide (0 < x1_1) = false := decide_eq_false c3
    clear c3
    obtain rfl := Option.some.inj H
    go_wp2
    go_ret
    exact ⟨by first | rfl | (simp; done) | (simp [*]; done), by repeat (first | exact Drawn0.refl _ | apply Drawn0.step)⟩

/-! ### spec_DrawSumOf: function 29 -/
def spec_DrawSumOf.f (k : Nat) (l0 : List Int) : Option (ByteArray) := (spec_l6Open.f l0).bind fun bt217 => ((spec_l71Any.f k bt217.1 bt217.2).bind fun bt220 => ((spec_PkgText.f k bt220.1 bt220.2.1 bt220.2.2.1 bt220.2.2.2.1).bind fun t229 => ((spec_l71Any.f k bt217.1 bt220.2.2.2.2).bind fun bt230 => ((spec_PkgText.f k bt230.1 bt230.2.1 bt230.2.2.1 bt230.2.2.2.1).bind fun t239 => ((spec_l6Rd_pick.f k bt217.1 bt230.2.2.2.2 40).bind fun bt240 => ((spec_l6Many.f k (⟨#[120]⟩ : ByteArray) bt240.1).bind fun t242 => ((spec_l6Rd_of.f k bt217.1 bt240.2 (([(⟨#[]⟩ : ByteArray), (⟨#[97]⟩ : ByteArray), t229, t239, t242] : List ByteArray))).bind fun bt246 => (some bt246.1))))))))
theorem spec_DrawSumOf.mono : ∀ a0 k, LeO (spec_DrawSumOf.f k a0) (spec_DrawSumOf.f (k + 1) a0) := by
 intro a0 k
 unfold spec_DrawSumOf.f
 repeat' first
   | (with_reducible exact spec_PkgText.mono _ _ _ _ _)
   | (with_reducible exact spec_l6Many.mono _ _ _)
   | (with_reducible exact spec_l6Rd_of.mono _ _ _ _)
   | (with_reducible exact spec_l6Rd_pick.mono _ _ _ _)
   | (with_reducible exact spec_l71Any.mono _ _ _)
   | (with_reducible exact LeO.refl _)
   | (with_reducible exact LeO.none _)
   | (with_reducible refine LeO.ite ?_ ?_)
   | (with_reducible refine LeO.bind ?_ (fun _ => ?_))
   | exact spec_PkgText.mono _ _ _ _ _
   | exact spec_l6Many.mono _ _ _
   | exact spec_l6Rd_of.mono _ _ _ _
   | exact spec_l6Rd_pick.mono _ _ _ _
   | exact spec_l71Any.mono _ _ _
   | exact LeO.none _
   | refine LeO.ite ?_ ?_
   | refine LeO.bind ?_ (fun _ => ?_)
set_option maxHeartbeats 8000000 in
set_option maxRecDepth 100000 in
theorem spec_DrawSumOf.calls (k : Nat) (A0 : Option Addr) (c0 : Nat) (l0 : List Int) (r : ByteArray) (w : World) (hr0 : Kd.C (Kd.int .u8) w A0 l0.length l0) (hc0 : l0.length ≤ c0) (h : spec_DrawSumOf.f k l0 = some r) :
  Calls Try.prog 29 #[.slice A0 l0.length c0] w fun e w' => e = .returned (.string r) ∧ Below w.heap.size w w' := by
 have HR0 := Aside0.mk hr0
 have HC0 := Aside0.mk hc0
 clear hr0 hc0
 have HB := Aside0.mk (Below.refl w.heap.size w)
 have H : ((spec_l6Open.f l0).bind fun bt217 => ((spec_l71Any.f k bt217.1 bt217.2).bind fun bt220 => ((spec_PkgText.f k bt220.1 bt220.2.1 bt220.2.2.1 bt220.2.2.2.1).bind fun t229 => ((spec_l71Any.f k bt217.1 bt220.2.2.2.2).bind fun bt230 => ((spec_PkgText.f k bt230.1 bt230.2.1 bt230.2.2.1 bt230.2.2.2.1).bind fun t239 => ((spec_l6Rd_pick.f k bt217.1 bt230.2.2.2.2 40).bind fun bt240 => ((spec_l6Many.f k (⟨#[120]⟩ : ByteArray) bt240.1).bind fun t242 => ((spec_l6Rd_of.f k bt217.1 bt240.2 (([(⟨#[]⟩ : ByteArray), (⟨#[97]⟩ : ByteArray), t229, t239, t242] : List ByteArray))).bind fun bt246 => (some bt246.1))))))))) = some r := h
 clear h
 replace H := Option.bind_eq_some_iff.mp H
 obtain ⟨⟨t217, t218⟩, A20, H⟩ := H
 replace H : ((spec_l71Any.f k t217 t218).bind fun bt220 => ((spec_PkgText.f k bt220.1 bt220.2.1 bt220.2.2.1 bt220.2.2.2.1).bind fun t229 => ((spec_l71Any.f k t217 bt220.2.2.2.2).bind fun bt230 => ((spec_PkgText.f k bt230.1 bt230.2.1 bt230.2.2.1 bt230.2.2.2.1).bind fun t239 => ((spec_l6Rd_pick.f k t217 bt230.2.2.2.2 40).bind fun bt240 => ((spec_l6Many.f k (⟨#[120]⟩ : ByteArray) bt240.1).bind fun t242 => ((spec_l6Rd_of.f k t217 bt240.2 (([(⟨#[]⟩ : ByteArray), (⟨#[97]⟩ : ByteArray), t229, t239, t242] : List ByteArray))).bind fun bt246 => (some bt246.1)))))))) = some r := H
 have A2 := Aside0.mk A20
 clear A20
 replace H := Option.bind_eq_some_iff.mp H
 obtain ⟨⟨t220, t221, t222, t225, t228⟩, A30, H⟩ := H
 replace H : ((spec_PkgText.f k t220 t221 t222 t225).bind fun t229 => ((spec_l71Any.f k t217 t228).bind fun bt230 => ((spec_PkgText.f k bt230.1 bt230.2.1 bt230.2.2.1 bt230.2.2.2.1).bind fun t239 => ((spec_l6Rd_pick.f k t217 bt230.2.2.2.2 40).bind fun bt240 => ((spec_l6Many.f k (⟨#[120]⟩ : ByteArray) bt240.1).bind fun t242 => ((spec_l6Rd_of.f k t217 bt240.2 (([(⟨#[]⟩ : ByteArray), (⟨#[97]⟩ : ByteArray), t229, t239, t242] : List ByteArray))).bind fun bt246 => (some bt246.1))))))) = some r := H
 have A3 := Aside0.mk A30
 clear A30
 replace H := Option.bind_eq_some_iff.mp H
 obtain ⟨t229, A40, H⟩ := H
 replace H : ((spec_l71Any.f k t217 t228).bind fun bt230 => ((spec_PkgText.f k bt230.1 bt230.2.1 bt230.2.2.1 bt230.2.2.2.1).bind fun t239 => ((spec_l6Rd_pick.f k t217 bt230.2.2.2.2 40).bind fun bt240 => ((spec_l6Many.f k (⟨#[120]⟩ : ByteArray) bt240.1).bind fun t242 => ((spec_l6Rd_of.f k t217 bt240.2 (([(⟨#[]⟩ : ByteArray), (⟨#[97]⟩ : ByteArray), t229, t239, t242] : List ByteArray))).bind fun bt246 => (some bt246.1)))))) = some r := H
 have A4 := Aside0.mk A40
 clear A40
 replace H := Option.bind_eq_some_iff.mp H
 obtain ⟨⟨t230, t231, t232, t235, t238⟩, A50, H⟩ := H
 replace H : ((spec_PkgText.f k t230 t231 t232 t235).bind fun t239 => ((spec_l6Rd_pick.f k t217 t238 40).bind fun bt240 => ((spec_l6Many.f k (⟨#[120]⟩ : ByteArray) bt240.1).bind fun t242 => ((spec_l6Rd_of.f k t217 bt240.2 (([(⟨#[]⟩ : ByteArray), (⟨#[97]⟩ : ByteArray), t229, t239, t242] : List ByteArray))).bind fun bt246 => (some bt246.1))))) = some r := H
 have A5 := Aside0.mk A50
 clear A50
 replace H := Option.bind_eq_some_iff.mp H
 obtain ⟨t239, A60, H⟩ := H
 replace H : ((spec_l6Rd_pick.f k t217 t238 40).bind fun bt240 => ((spec_l6Many.f k (⟨#[120]⟩ : ByteArray) bt240.1).bind fun t242 => ((spec_l6Rd_of.f k t217 bt240.2 (([(⟨#[]⟩ : ByteArray), (⟨#[97]⟩ : ByteArray), t229, t239, t242] : List ByteArray))).bind fun bt246 => (some bt246.1)))) = some r := H
 have A6 := Aside0.mk A60
 clear A60
 replace H := Option.bind_eq_some_iff.mp H
 obtain ⟨⟨t240, t241⟩, A70, H⟩ := H
 replace H : ((spec_l6Many.f k (⟨#[120]⟩ : ByteArray) t240).bind fun t242 => ((spec_l6Rd_of.f k t217 t241 (([(⟨#[]⟩ : ByteArray), (⟨#[97]⟩ : ByteArray), t229, t239, t242] : List ByteArray))).bind fun bt246 => (some bt246.1))) = some r := H
 have A7 := Aside0.mk A70
 clear A70
 replace H := Option.bind_eq_some_iff.mp H
 obtain ⟨t242, A80, H⟩ := H
 replace H : ((spec_l6Rd_of.f k t217 t241 (([(⟨#[]⟩ : ByteArray), (⟨#[97]⟩ : ByteArray), t229, t239, t242] : List ByteArray))).bind fun bt246 => (some bt246.1)) = some r := H
 have A8 := Aside0.mk A80
 clear A80
 obtain ⟨y243, hy243⟩ : ∃ y_ : List ByteArray, y_ = (([(⟨#[]⟩ : ByteArray), (⟨#[97]⟩ : ByteArray), t229, t239, t242] : List ByteArray)) := ⟨_, rfl⟩
 replace H : ((spec_l6Rd_of.f k t217 t241 y243).bind fun bt246 => (some bt246.1)) = some r := by first | (rw [hy243]; with_reducible exact H) | (have H2_ := (Option.bind_some _ _).symm.trans H; rw [hy243]; with_reducible exact H2_) | (have H2_ := (Option.bind_some _ _).symm.trans H; with_reducible exact H2_) | with_reducible exact H | (rw [hy243]; exact H) | exact H
 have Ny243 := Aside0.mk hy243
 clear hy243
 replace H := Option.bind_eq_some_iff.mp H
 obtain ⟨⟨t246, t247⟩, A90, H⟩ := H
 replace H : (some t246) = some r := H
 have A9 := Aside0.mk A90
 clear A90
 obtain rfl := Option.some.inj H
 go_enter Try.func29, Try.ntmps29
 go_wp2_with (first | ((with_reducible refine gate_callee (f := 44) rfl ?_); refine goesL_ (some 5) rfl rfl Try.func44 (by kernel_rfl) rfl #[.slice A0 l0.length c0] rfl (by (try simp only [zm1, zm2, zm3]); first | done | rfl | (simp only [List.length_drop, List.length_take]; rfl)) ?_; (with_reducible refine (spec_l6Open.calls _ _ l0 t217 t218 w _ ?side1 ?side2 ?side3 A2.out).mono ?_); (case side1 => exact zB HB.out); (case side2 => exact HR0.out); (case side3 => exact HC0.out); rintro e w10 ⟨g219, rfl, hi, hb, hb2⟩; refine ⟨_, rfl, ?_⟩; have n0_ := Aside0.mk (hb); have n1_ := Aside0.mk (hi); clear HB; have HB := n0_; have HI219 := n1_; clear n0_ n1_; (try clear hb); (try clear hb2); (try clear hk); (try clear hi)) | ((with_reducible refine gate_callee (f := 45) rfl ?_); refine goesL_ (some 8) rfl rfl Try.func45 (by kernel_rfl) rfl #[.pointer (some ⟨g219, 0, none⟩)] rfl (by (try simp only [zm1, zm2, zm3]); first | done | rfl | (simp only [List.length_drop, List.length_take]; rfl)) ?_; (with_reducible refine (spec_l71Any.calls k g219 t217 t218 t220 t221 t222 t225 t228 w _ ?side1 ?side2 A3.out).mono ?_); (case side1 => repeat (first | (with_reducible first | exact HI219.out | apply IsS105.alloc | apply IsS105.drewN | apply IsS105.drew | apply IsS105.set_1) | exact HI219.out)); (case side2 => exact zB1 HB.out (IsS105.ge HI219.out)); rintro e w11 ⟨v223, v226, rfl, ho0, ho1, hi, hb, hk⟩; refine ⟨_, rfl, ?_⟩; have n0_ := Aside0.mk (Kd.R_lower ho0 (below_size (by exact zB1 HB.out (IsS105.ge HI219.out)))); have n1_ := Aside0.mk (Kd.R_lower ho1 (below_size (by exact zB1 HB.out (IsS105.ge HI219.out)))); have n2_ := Aside0.mk (hb); have n3_ := Aside0.mk (hi); clear HB; clear HI219; have HO224 := n0_; have HO227 := n1_; have HB := n2_; have HI219 := n3_; clear n0_ n1_ n2_ n3_; (try clear hb); (try clear hb2); (try clear hk); (try clear hi); (try clear ho0); (try clear ho1); obtain ⟨Ao12, co12, eo12⟩ := Kd.R_slice HO224.out; subst eo12; obtain ⟨Ao13, co13, eo13⟩ := Kd.R_slice HO227.out; subst eo13) | ((with_reducible refine gate_callee (f := 61) rfl ?_); refine goesL_ (some 9) rfl rfl Try.func61 (by kernel_rfl) rfl #[.agg #[.int .i64 t220, .int .i64 t221, .slice Ao12 t222.length co12, .slice Ao13 t225.length co13]] rfl (by (try simp only [zm1, zm2, zm3]); first | done | rfl | (simp only [List.length_drop, List.length_take]; rfl)) ?_; (with_reducible refine (spec_PkgText.calls k t220 t221 _ _ t222 _ _ t225 t229 _ ?side1 ?side2 ?side3 ?side4 A4.out).mono ?_); (case side1 => exact zC (Kd.R_reads' HO224.out).2.2); (case side2 => exact (Kd.R_reads' HO224.out).2.1); (case side3 => exact zC (Kd.R_reads' HO227.out).2.2); (case side4 => exact (Kd.R_reads' HO227.out).2.1); rintro e w14 ⟨rfl, hb⟩; refine ⟨_, rfl, ?_⟩; have n0_ := Aside0.mk (Kd.R_below (by exact zR HO224.out) hb); have n1_ := Aside0.mk (Kd.R_below (by exact zR HO227.out) hb); have n2_ := Aside0.mk (IsS105.below (by repeat (first | (with_reducible first | exact HI219.out | apply IsS105.alloc | apply IsS105.drewN | apply IsS105.drew | apply IsS105.set_1) | exact HI219.out)) hb); have n3_ := Aside0.mk (below_step (by exact zB1 HB.out (IsS105.ge HI219.out)) hb); clear HO224; clear HO227; clear HI219; clear HB; have HO224 := n0_; have HO227 := n1_; have HI219 := n2_; have HB := n3_; clear n0_ n1_ n2_ n3_; (try clear hb); (try clear hb2); (try clear hk); (try clear hi)) | ((with_reducible refine gate_callee (f := 45) rfl ?_); refine goesL_ (some 11) rfl rfl Try.func45 (by kernel_rfl) rfl #[.pointer (some ⟨g219, 0, none⟩)] rfl (by (try simp only [zm1, zm2, zm3]); first | done | rfl | (simp only [List.length_drop, List.length_take]; rfl)) ?_; (with_reducible refine (spec_l71Any.calls k g219 t217 t228 t230 t231 t232 t235 t238 w _ ?side1 ?side2 A5.out).mono ?_); (case side1 => repeat (first | (with_reducible first | exact HI219.out | apply IsS105.alloc | apply IsS105.drewN | apply IsS105.drew | apply IsS105.set_1) | exact HI219.out)); (case side2 => exact zB1 HB.out (IsS105.ge HI219.out)); rintro e w15 ⟨v233, v236, rfl, ho0, ho1, hi, hb, hk⟩; refine ⟨_, rfl, ?_⟩; have n0_ := Aside0.mk (Kd.R_mono (Kd.R_told (Kd.R_oldK (IsS105.apart (show IsS105 w _ g219 t217 t228 from by repeat (first | (with_reducible first | exact HI219.out | apply IsS105.alloc | apply IsS105.drewN | apply IsS105.drew | apply IsS105.set_1) | exact HI219.out)) (by exact zR HO224.out) (by decide)) hk) (Kd.R_base ho0)) (fun _ h_ => h_.1)); have n1_ := Aside0.mk (Kd.R_mono (Kd.R_told (Kd.R_oldK (IsS105.apart (show IsS105 w _ g219 t217 t228 from by repeat (first | (with_reducible first | exact HI219.out | apply IsS105.alloc | apply IsS105.drewN | apply IsS105.drew | apply IsS105.set_1) | exact HI219.out)) (by exact zR HO227.out) (by decide)) hk) (Kd.R_base ho1)) (fun _ h_ => h_.1)); have n2_ := Aside0.mk (Kd.R_lower (Kd.R_new' ho0 (Kd.R_lt (by exact zR HO224.out))) (below_size (by exact zB1 HB.out (IsS105.ge HI219.out)))); have n3_ := Aside0.mk (Kd.R_lower (Kd.R_new' ho1 (Kd.R_lt (by exact zR HO227.out))) (below_size (by exact zB1 HB.out (IsS105.ge HI219.out)))); have n4_ := Aside0.mk (hb); have n5_ := Aside0.mk (hi); clear HO224; clear HO227; clear HB; clear HI219; have HO224 := n0_; have HO227 := n1_; have HO234 := n2_; have HO237 := n3_; have HB := n4_; have HI219 := n5_; clear n0_ n1_ n2_ n3_ n4_ n5_; (try clear hb); (try clear hb2); (try clear hk); (try clear hi); (try clear ho0); (try clear ho1); obtain ⟨Ao16, co16, eo16⟩ := Kd.R_slice HO234.out; subst eo16; obtain ⟨Ao17, co17, eo17⟩ := Kd.R_slice HO237.out; subst eo17) | ((with_reducible refine gate_callee (f := 61) rfl ?_); refine goesL_ (some 12) rfl rfl Try.func61 (by kernel_rfl) rfl #[.agg #[.int .i64 t230, .int .i64 t231, .slice Ao16 t232.length co16, .slice Ao17 t235.length co17]] rfl (by (try simp only [zm1, zm2, zm3]); first | done | rfl | (simp only [List.length_drop, List.length_take]; rfl)) ?_; (with_reducible refine (spec_PkgText.calls k t230 t231 _ _ t232 _ _ t235 t239 _ ?side1 ?side2 ?side3 ?side4 A6.out).mono ?_); (case side1 => exact zC (Kd.R_reads' HO234.out).2.2); (case side2 => exact (Kd.R_reads' HO234.out).2.1); (case side3 => exact zC (Kd.R_reads' HO237.out).2.2); (case side4 => exact (Kd.R_reads' HO237.out).2.1); rintro e w18 ⟨rfl, hb⟩; refine ⟨_, rfl, ?_⟩; have n0_ := Aside0.mk (Kd.R_below (by exact zR HO224.out) hb); have n1_ := Aside0.mk (Kd.R_below (by exact zR HO227.out) hb); have n2_ := Aside0.mk (Kd.R_below (by exact zR HO234.out) hb); have n3_ := Aside0.mk (Kd.R_below (by exact zR HO237.out) hb); have n4_ := Aside0.mk (IsS105.below (by repeat (first | (with_reducible first | exact HI219.out | apply IsS105.alloc | apply IsS105.drewN | apply IsS105.drew | apply IsS105.set_1) | exact HI219.out)) hb); have n5_ := Aside0.mk (below_step (by exact zB1 HB.out (IsS105.ge HI219.out)) hb); clear HO224; clear HO227; clear HO234; clear HO237; clear HI219; clear HB; have HO224 := n0_; have HO227 := n1_; have HO234 := n2_; have HO237 := n3_; have HI219 := n4_; have HB := n5_; clear n0_ n1_ n2_ n3_ n4_ n5_; (try clear hb); (try clear hb2); (try clear hk); (try clear hi)) | ((with_reducible refine gate_callee (f := 46) rfl ?_); refine goesL_ (some 14) rfl rfl Try.func46 (by kernel_rfl) rfl #[.pointer (some ⟨g219, 0, none⟩), .int .i64 40] rfl (by (try simp only [zm1, zm2, zm3]); first | done | rfl | (simp only [List.length_drop, List.length_take]; rfl)) ?_; (with_reducible refine (spec_l6Rd_pick.calls k g219 t217 t238 40 t240 t241 w _ ?side1 ?side2 A7.out).mono ?_); (case side1 => repeat (first | (with_reducible first | exact HI219.out | apply IsS105.alloc | apply IsS105.drewN | apply IsS105.drew | apply IsS105.set_1) | exact HI219.out)); (case side2 => exact zB1 HB.out (IsS105.ge HI219.out)); rintro e w19 ⟨rfl, hi, hb, hk⟩; refine ⟨_, rfl, ?_⟩; have n0_ := Aside0.mk (Kd.R_mono (Kd.R_keep (IsS105.apart (show IsS105 w _ g219 t217 t238 from by repeat (first | (with_reducible first | exact HI219.out | apply IsS105.alloc | apply IsS105.drewN | apply IsS105.drew | apply IsS105.set_1) | exact HI219.out)) (by exact zR HO224.out) (by decide)) hk (fun _ h => h.2)) (fun _ h => h.1)); have n1_ := Aside0.mk (Kd.R_mono (Kd.R_keep (IsS105.apart (show IsS105 w _ g219 t217 t238 from by repeat (first | (with_reducible first | exact HI219.out | apply IsS105.alloc | apply IsS105.drewN | apply IsS105.drew | apply IsS105.set_1) | exact HI219.out)) (by exact zR HO227.out) (by decide)) hk (fun _ h => h.2)) (fun _ h => h.1)); have n2_ := Aside0.mk (Kd.R_mono (Kd.R_keep (IsS105.apart (show IsS105 w _ g219 t217 t238 from by repeat (first | (with_reducible first | exact HI219.out | apply IsS105.alloc | apply IsS105.drewN | apply IsS105.drew | apply IsS105.set_1) | exact HI219.out)) (by exact zR HO234.out) (by decide)) hk (fun _ h => h.2)) (fun _ h => h.1)); have n3_ := Aside0.mk (Kd.R_mono (Kd.R_keep (IsS105.apart (show IsS105 w _ g219 t217 t238 from by repeat (first | (with_reducible first | exact HI219.out | apply IsS105.alloc | apply IsS105.drewN | apply IsS105.drew | apply IsS105.set_1) | exact HI219.out)) (by exact zR HO237.out) (by decide)) hk (fun _ h => h.2)) (fun _ h => h.1)); have n4_ := Aside0.mk (hb); have n5_ := Aside0.mk (hi); clear HO224; clear HO227; clear HO234; clear HO237; clear HB; clear HI219; have HO224 := n0_; have HO227 := n1_; have HO234 := n2_; have HO237 := n3_; have HB := n4_; have HI219 := n5_; clear n0_ n1_ n2_ n3_ n4_ n5_; (try clear hb); (try clear hb2); (try clear hk); (try clear hi)) | ((with_reducible refine gate_callee (f := 62) rfl ?_); refine goesL_ (some 15) rfl rfl Try.func62 (by kernel_rfl) rfl #[.string (⟨#[120]⟩ : ByteArray), .int .i64 t240] rfl (by (try simp only [zm1, zm2, zm3]); first | done | rfl | (simp only [List.length_drop, List.length_take]; rfl)) ?_; (with_reducible refine (spec_l6Many.calls k (⟨#[120]⟩ : ByteArray) t240 t242 _ A8.out).mono ?_); rintro e w' ⟨rfl, ⟨nd, rfl⟩⟩; refine ⟨_, rfl, ?_⟩) | ((with_reducible refine gate_dst (N := 16) rfl ?_); refine Kd.R_lit Kd.string _ 9 ?hg (N := 16) ?hd (xs := ([(⟨#[]⟩ : ByteArray), (⟨#[97]⟩ : ByteArray), t229, t239, t242] : List ByteArray)) (inner := [.string (⟨#[]⟩ : ByteArray), .string (⟨#[97]⟩ : ByteArray), .string t229, .string t239, .string t242]) (ok := fun _ => True) (okp := fun _ => True) ?hr ?hp (fun _ hk => hk) trivial (Below.refl _ _) (Nat.le_refl _) (by simp) ?_; (case hd => rfl); (case hg => rfl); (case hr => first | (go_simp; done) | (go_simp; rfl)); (case hp => exact (Reps.one (show Kd.M Kd.string _ _ _ (⟨#[]⟩ : ByteArray) [.string (⟨#[]⟩ : ByteArray)] from rfl) (Reps.one (show Kd.M Kd.string _ _ _ (⟨#[97]⟩ : ByteArray) [.string (⟨#[97]⟩ : ByteArray)] from rfl) (Reps.one (show Kd.M Kd.string _ _ _ t229 [.string t229] from rfl) (Reps.one (show Kd.M Kd.string _ _ _ t239 [.string t239] from rfl) (Reps.one (show Kd.M Kd.string _ _ _ t242 [.string t242] from rfl) (Reps.none _ _))))))); intro v244 w20 ho21 hb hg_ hnew_; clear hg_ hnew_; (first | rw [← Ny243.out] at ho21 | (simp only [Int.reduceToNat] at ho21; rw [← Ny243.out] at ho21)); have n0_ := Aside0.mk (Kd.R_below (by exact zR HO224.out) hb); have n1_ := Aside0.mk (Kd.R_below (by exact zR HO227.out) hb); have n2_ := Aside0.mk (Kd.R_below (by exact zR HO234.out) hb); have n3_ := Aside0.mk (Kd.R_below (by exact zR HO237.out) hb); have n4_ := Aside0.mk (Kd.R_lower ho21 (below_size (by exact zB1 HB.out (IsS105.ge HI219.out)))); have n5_ := Aside0.mk (IsS105.below (by repeat (first | (with_reducible first | exact HI219.out | apply IsS105.alloc | apply IsS105.drewN | apply IsS105.drew | apply IsS105.set_1) | exact HI219.out)) hb); have n6_ := Aside0.mk (below_step (by exact zB1 HB.out (IsS105.ge HI219.out)) hb); clear HO224; clear HO227; clear HO234; clear HO237; clear HI219; clear HB; have HO224 := n0_; have HO227 := n1_; have HO234 := n2_; have HO237 := n3_; have HO245 := n4_; have HI219 := n5_; have HB := n6_; clear n0_ n1_ n2_ n3_ n4_ n5_ n6_; clear hb ho21; obtain ⟨Ao22, co22, eo22⟩ := Kd.R_slice HO245.out; subst eo22) | ((with_reducible refine gate_callee (f := 60) rfl ?_); refine goesL_ (some 17) rfl rfl Try.func60 (by kernel_rfl) rfl #[.pointer (some ⟨g219, 0, none⟩), .slice Ao22 y243.length co22] rfl (by (try simp only [zm1, zm2, zm3]); first | done | rfl | (simp only [List.length_drop, List.length_take]; rfl)) ?_; (with_reducible refine (spec_l6Rd_of.calls k g219 t217 t241 _ _ y243 t246 t247 w _ ?side1 ?side2 ?side3 ?side4 ?side5 A9.out).mono ?_); (case side1 => repeat (first | (with_reducible first | exact HI219.out | apply IsS105.alloc | apply IsS105.drewN | apply IsS105.drew | apply IsS105.set_1) | exact HI219.out)); (case side2 => exact zB1 HB.out (IsS105.ge HI219.out)); (case side3 => exact zC (Kd.R_reads' HO245.out).2.2); (case side4 => exact (Kd.R_reads' HO245.out).2.1); (case side5 => exact far_slice (IsS105.own_ne HI219.out HO245.out (by decide))); rintro e w23 ⟨rfl, hi, hb, hk⟩; refine ⟨_, rfl, ?_⟩; have n0_ := Aside0.mk (Kd.R_mono (Kd.R_keep (IsS105.apart (show IsS105 w _ g219 t217 t241 from by repeat (first | (with_reducible first | exact HI219.out | apply IsS105.alloc | apply IsS105.drewN | apply IsS105.drew | apply IsS105.set_1) | exact HI219.out)) (by exact zR HO224.out) (by decide)) hk (fun _ h => h.2)) (fun _ h => h.1)); have n1_ := Aside0.mk (Kd.R_mono (Kd.R_keep (IsS105.apart (show IsS105 w _ g219 t217 t241 from by repeat (first | (with_reducible first | exact HI219.out | apply IsS105.alloc | apply IsS105.drewN | apply IsS105.drew | apply IsS105.set_1) | exact HI219.out)) (by exact zR HO227.out) (by decide)) hk (fun _ h => h.2)) (fun _ h => h.1)); have n2_ := Aside0.mk (Kd.R_mono (Kd.R_keep (IsS105.apart (show IsS105 w _ g219 t217 t241 from by repeat (first | (with_reducible first | exact HI219.out | apply IsS105.alloc | apply IsS105.drewN | apply IsS105.drew | apply IsS105.set_1) | exact HI219.out)) (by exact zR HO234.out) (by decide)) hk (fun _ h => h.2)) (fun _ h => h.1)); have n3_ := Aside0.mk (Kd.R_mono (Kd.R_keep (IsS105.apart (show IsS105 w _ g219 t217 t241 from by repeat (first | (with_reducible first | exact HI219.out | apply IsS105.alloc | apply IsS105.drewN | apply IsS105.drew | apply IsS105.set_1) | exact HI219.out)) (by exact zR HO237.out) (by decide)) hk (fun _ h => h.2)) (fun _ h => h.1)); have n4_ := Aside0.mk (Kd.R_mono (Kd.R_keep (IsS105.apart (show IsS105 w _ g219 t217 t241 from by repeat (first | (with_reducible first | exact HI219.out | apply IsS105.alloc | apply IsS105.drewN | apply IsS105.drew | apply IsS105.set_1) | exact HI219.out)) (by exact zR HO245.out) (by decide)) hk (fun _ h => h.2)) (fun _ h => h.1)); have n5_ := Aside0.mk (hb); have n6_ := Aside0.mk (hi); clear HO224; clear HO227; clear HO234; clear HO237; clear HO245; clear HB; clear HI219; have HO224 := n0_; have HO227 := n1_; have HO234 := n2_; have HO237 := n3_; have HO245 := n4_; have HB := n5_; have HI219 := n6_; clear n0_ n1_ n2_ n3_ n4_ n5_ n6_; (try clear hb); (try clear hb2); (try clear hk); (try clear hi)))
 go_ret
 exact ⟨by first | rfl | (simp [errW_none, errW_some] <;> rfl) | (simp [*, errW_none, errW_some] <;> rfl), by exact zB1 HB.out (IsS105.ge HI219.out)⟩

/-! ### impl_SumOf: function 30 -/
def impl_SumOf.l0 : Nat → ByteArray → Int → Int → Option (Int)
 | 0, _, _, _ => none
 | k + 1, x0, x3, x4 => if x4 < (x0.size : Int) then (if 0 ≤ x4 then (impl_SumOf.l0 k x0 (Int.tmod (wrap64 ((wrap64 ((wrap64 (31 * x3)) + (wrap64 (bt x0 x4)))) + 1)) 9973) (wrap64 (x4 + 1))) else (none)) else (some x3)
def impl_SumOf.f (k : Nat) (a0 : ByteArray) : Option (Int) := impl_SumOf.l0 k a0 7 0
theorem impl_SumOf.mono_l : ∀ k, (∀ y0 y1 y2, LeO (impl_SumOf.l0 k y0 y1 y2) (impl_SumOf.l0 (k + 1) y0 y1 y2))
 | 0 => fun _ _ _ r h => by simp [impl_SumOf.l0] at h
 | k + 1 => by
  have ih0 := impl_SumOf.mono_l k
  ·intro y0 y1 y2
   unfold impl_SumOf.l0
   repeat' first
   | (with_reducible exact ih0 _ _ _)
   | (with_reducible exact LeO.refl _)
   | (with_reducible exact LeO.none _)
   | (with_reducible refine LeO.ite ?_ ?_)
theorem impl_SumOf.mono : ∀ a0 k, LeO (impl_SumOf.f k a0) (impl_SumOf.f (k + 1) a0) := by
 intro a0 k
 unfold impl_SumOf.f
 exact impl_SumOf.mono_l k _ _ _
theorem sum_world (w : World) (e : TypeId) (s : ByteArray) : Below w.heap.size w (Lib.bytesWorld w e s) :=
 ⟨rfl, rfl, rfl, by rw [Lib.bytesWorld_size]; omega, fun i hi => Lib.bytesWorld_at_old w e s i hi⟩
theorem sum_cell (w : World) (e : TypeId) (s : ByteArray) (j : Nat) (hj : j < s.size) : (Lib.bytesWorld w e s).cell? ⟨w.heap.size, j, none⟩ = some (.int .u8 (bt s (j : Int))) := by
 rw [Lib.bytesWorld_cell w e s j hj]
 have e1 : s.data.toList.getD j 0 = s[j] := by
  simp only [List.getD, Array.getElem?_toList]
  have : j < s.data.size := hj
  rw [Array.getElem?_eq_getElem this]; rfl
 rw [e1, bt, dif_pos (by simpa using hj)]; rfl
set_option maxHeartbeats 8000000 in
set_option maxRecDepth 100000 in
theorem impl_SumOf.calls (k : Nat) (a0 : ByteArray) (r : Int) (w : World) (h : impl_SumOf.f k a0 = some r) :
  Calls Try.prog 30 #[.string a0] w fun e w' => e = .returned (.int .i64 r) ∧ Below w.heap.size w w' := by
 have H : (impl_SumOf.l0 k a0 7 0) = some r := h
 clear h
 have H' := Aside0.mk H
 clear H
 obtain ⟨W, hW⟩ : ∃ W, W = Lib.bytesWorld w 5 a0 := ⟨_, rfl⟩
 have hrun := Lib.run_convert_string_bytes (P := Try.prog) w 9 22 5 a0 Try.underlying9 Try.underlying22 Try.underlying5
 have HB := Aside0.mk (sum_world w 5 a0)
 have HC := Aside0.mk (fun (x : Int) (h0 : 0 ≤ x) (h1 : x < (a0.size : Int)) => (show (Lib.bytesWorld w 5 a0).cell? ⟨w.heap.size, x.toNat, none⟩ = some (.int .u8 (bt a0 x)) by
  rw [sum_cell w 5 a0 x.toNat (by omega), Int.toNat_of_nonneg h0]))
 rw [← hW] at hrun HB HC
 clear hW
 go_enter Try.func30, Try.ntmps30
 go_wp2
 go_loopg [3, 9] k (fun kq v3 v9 w' => ∃ (x3_1 : Int) (x4_1 : Int), v3 = .int .i64 x3_1 ∧ v9 = .int .i64 x4_1 ∧ Aside0 (impl_SumOf.l0 kq a0 x3_1 x4_1 = some r) ∧ Aside0 (kq ≤ k) ∧ Drawn0 W w')
 case atStart => exact ⟨(7), (0), (by first | rfl | (simp; done) | (simp [*]; done)), (by first | rfl | (simp; done) | (simp [*]; done)), H', ⟨Nat.le_refl _⟩, by repeat (first | exact Drawn0.refl _ | apply Drawn0.step)⟩
 case round =>
  clear H'
  obtain ⟨x3_1, x4_1, rfl, rfl, HA, HK1, ⟨m1, rfl⟩⟩ := hrel
  cases gk with
  | zero => exact absurd HA.out (by simp [impl_SumOf.l0])
  | succ k1 =>
   have H := HA.out
   clear HA
   simp only [impl_SumOf.l0] at H
   by_cases c2 : x4_1 < (a0.size : Int)
   ·rw [if_pos c2] at H
    by_cases c3 : 0 ≤ x4_1
    ·rw [if_pos c3] at H
     have H' := Aside0.mk H
     clear H
     have hx4 := HC.out x4_1 c3 c2
     have c2b0 : decide (x4_1 < (a0.size : Int)) = true := decide_eq_true c2
     have c3b0 : decide (0 ≤ x4_1) = true := decide_eq_true c3
     have q4 : x4_1 < (a0.size : Int) := c2
     replace c3 := eq_true c3
     replace q4 := eq_true q4
     clear c2
     go_wp2
     go_roundg k1
     case measure => have := HK1.out; omega
     case rel => exact ⟨(Int.tmod (wrap64 ((wrap64 ((wrap64 (31 * x3_1)) + (wrap64 (bt a0 x4_1)))) + 1)) 9973), (wrap64 (x4_1 + 1)), (by first | rfl | (simp; done) | (simp [*]; done)), (by first | rfl | (simp; done) | (simp [*]; done)), H', ⟨by have := HK1.out; omega⟩, by repeat (first | exact Drawn0.refl _ | apply Drawn0.step)⟩
    ·rw [if_neg c3] at H
     exact absurd H (by simp)
   ·rw [if_neg c2] at H
    have c2b0 : decide (x4_1 < (a0.size : Int)) = false := decide_eq_false c2
    clear c2
    obtain rfl := Option.some.inj H
    go_wp2
    go_ret
    exact ⟨by first | rfl | (simp; done) | (simp [*]; done), pw_below_drewN HB.out _⟩

/-! ### spec_SumOf: function 31 -/
def spec_SumOf.l0 : Nat → ByteArray → Int → Int → Option (Int)
 | 0, _, _, _ => none
 | k + 1, x0, x3, x4 => if x4 < (x0.size : Int) then (if 0 ≤ x4 then (spec_SumOf.l0 k x0 (Int.tmod (wrap64 ((wrap64 ((wrap64 (31 * x3)) + (wrap64 (bt x0 x4)))) + 1)) 9973) (wrap64 (x4 + 1))) else (none)) else (some x3)
def spec_SumOf.f (k : Nat) (a0 : ByteArray) : Option (Int) := spec_SumOf.l0 k a0 7 0
theorem spec_SumOf.mono_l : ∀ k, (∀ y0 y1 y2, LeO (spec_SumOf.l0 k y0 y1 y2) (spec_SumOf.l0 (k + 1) y0 y1 y2))
 | 0 => fun _ _ _ r h => by simp [spec_SumOf.l0] at h
 | k + 1 => by
  have ih0 := spec_SumOf.mono_l k
  ·intro y0 y1 y2
   unfold spec_SumOf.l0
   repeat' first
   | (with_reducible exact ih0 _ _ _)
   | (with_reducible exact LeO.refl _)
   | (with_reducible exact LeO.none _)
   | (with_reducible refine LeO.ite ?_ ?_)
   | (with_reducible refine LeO.bind ?_ (fun _ => ?_))
   | exact ih0 _ _ _
   | exact LeO.none _
   | refine LeO.ite ?_ ?_
   | refine LeO.bind ?_ (fun _ => ?_)
theorem spec_SumOf.mono : ∀ a0 k, LeO (spec_SumOf.f k a0) (spec_SumOf.f (k + 1) a0) := by
 intro a0 k
 have ih0 := spec_SumOf.mono_l k
 unfold spec_SumOf.f
 repeat' first
   | (with_reducible exact ih0 _ _ _)
   | (with_reducible exact LeO.refl _)
   | (with_reducible exact LeO.none _)
   | (with_reducible refine LeO.ite ?_ ?_)
   | (with_reducible refine LeO.bind ?_ (fun _ => ?_))
   | exact ih0 _ _ _
   | exact LeO.none _
   | refine LeO.ite ?_ ?_
   | refine LeO.bind ?_ (fun _ => ?_)
set_option maxHeartbeats 8000000 in
set_option maxRecDepth 100000 in
theorem spec_SumOf.calls (k : Nat) (a0 : ByteArray) (r : Int) (w : World) (h : spec_SumOf.f k a0 = some r) :
  Calls Try.prog 31 #[.string a0] w fun e w' => e = .returned (.int .i64 r) ∧ Drawn0 w w' := by
 have H : (spec_SumOf.l0 k a0 7 0) = some r := h
 clear h
 have H' := Aside0.mk H
 clear H
 go_enter Try.func31, Try.ntmps31
 go_wp2
 go_loopg [3, 4] k (fun kq v3 v4 w' => ∃ (x3_1 : Int) (x4_1 : Int), v3 = .int .i64 x3_1 ∧ v4 = .int .i64 x4_1 ∧ Aside0 (spec_SumOf.l0 kq a0 x3_1 x4_1 = some r) ∧ Aside0 (kq ≤ k) ∧ Drawn0 w w')
 case atStart => exact ⟨(7), (0), (by first | rfl | (simp; done) | (simp [*]; done)), (by first | rfl | (simp; done) | (simp [*]; done)), H', ⟨Nat.le_refl _⟩, by repeat (first | exact Drawn0.refl _ | apply Drawn0.step)⟩
 case round =>
  clear H'
  obtain ⟨x3_1, x4_1, rfl, rfl, HA, HK1, ⟨m1, rfl⟩⟩ := hrel
  cases gk with
  | zero => exact absurd HA.out (by simp [spec_SumOf.l0])
  | succ k1 =>
   have H := HA.out
   clear HA
   simp only [spec_SumOf.l0] at H
   by_cases c2 : x4_1 < (a0.size : Int)
   ·rw [if_pos c2] at H
    have c2b0 : decide (x4_1 < (a0.size : Int)) = true := decide_eq_true c2
    clear c2
    by_cases c3 : 0 ≤ x4_1
    ·rw [if_pos c3] at H
     have c3b0 : decide (0 ≤ x4_1) = true := decide_eq_true c3
     clear c3
     have H' := Aside0.mk H
     clear H
     have p4 : 0 ≤ (x4_1 : Int) := of_decide_eq_true (by first | (with_reducible assumption) | assumption)
     have q4 : x4_1 < (a0.size : Int) := of_decide_eq_true (by first | (with_reducible assumption) | assumption)
     have hx4 := bt_at a0 x4_1
     replace p4 := eq_true p4
     replace q4 := eq_true q4
     go_wp2
     go_roundg k1
     case measure => have := HK1.out; omega
     case rel => exact ⟨(Int.tmod (wrap64 ((wrap64 ((wrap64 (31 * x3_1)) + (wrap64 (bt a0 x4_1)))) + 1)) 9973), (wrap64 (x4_1 + 1)), (by first | rfl | (simp; done) | (simp [*]; done)), (by first | rfl | (simp; done) | (simp [*]; done)), H', ⟨by have := HK1.out; omega⟩, by repeat (first | exact Drawn0.refl _ | apply Drawn0.step)⟩
    ·rw [if_neg c3] at H
     exact absurd H (by simp)
   ·rw [if_neg c2] at H
    have c2b0 : decide (x4_1 < (a0.size : Int)) = false := decide_eq_false c2
    clear c2
    obtain rfl := Option.some.inj H
    go_wp2
    go_ret
    exact ⟨by first | rfl | (simp; done) | (simp [*]; done), by repeat (first | exact Drawn0.refl _ | apply Drawn0.step)⟩

/-! ### laws_FnSumByte: function 7 -/
mutual
def laws_FnSumByte.j0 : Nat → List Int → List Int → Bool → Option (Bool)
 | 0, _, _, _ => none
 | k + 1, x0, x1, x16 => if x16 = true then (some true) else ((spec_DrawSumOf.f k x0).bind fun t248 => ((impl_SumOf.f k t248).bind fun t249 => ((spec_SumOf.f k t248).bind fun t250 => (if t249 = t250 then (laws_FnSumByte.j1 k x1 t248 t249 (t248.toList == ([] : List UInt8))) else (laws_FnSumByte.j1 k x1 t248 t249 true)))))
def laws_FnSumByte.j1 : Nat → List Int → ByteArray → Int → Bool → Option (Bool)
 | 0, _, _, _, _ => none
 | k + 1, x1, x5, x6, x28 => if x28 = true then ((spec_SumOf.f k x5).bind fun t251 => (some (x6 == t251))) else (if (x5.size : Int) = 0 then (none) else (if (x1.length : Int) > 0 then (if 0 < (x1.length : Int) then (if (rd x1 0) > 0 then (if 0 ≤ ((x1.length : Int) % (x5.size : Int)) then (if ((x1.length : Int) % (x5.size : Int)) ≤ (x5.size : Int) then (if ((x1.length : Int) % (x5.size : Int)) < (x5.size : Int) then ((some (([(wrap64 ((wrap64 (bt x5 ((x1.length : Int) % (x5.size : Int)))) + (wrap64 (rd x1 0)))) % 256] : List Int) : List Int)).bind fun y254 => (if (x5.extract 0 (((x1.length : Int) % (x5.size : Int)) : Int).toNat).size + (strOfNums y254).size ≤ 9223372036854775807 then (if 0 ≤ (wrap64 (((x1.length : Int) % (x5.size : Int)) + 1)) then (if (wrap64 (((x1.length : Int) % (x5.size : Int)) + 1)) ≤ (x5.size : Int) then (if ((x5.extract 0 (((x1.length : Int) % (x5.size : Int)) : Int).toNat) ++ (strOfNums y254)).size + (x5.extract ((wrap64 (((x1.length : Int) % (x5.size : Int)) + 1)) : Int).toNat x5.size).size ≤ 9223372036854775807 then ((impl_SumOf.f k (((x5.extract 0 (((x1.length : Int) % (x5.size : Int)) : Int).toNat) ++ (strOfNums y254)) ++ (x5.extract ((wrap64 (((x1.length : Int) % (x5.size : Int)) + 1)) : Int).toNat x5.size))).bind fun t257 => (some (t257 != x6))) else (none)) else (none)) else (none)) else (none))) else (none)) else (none)) else (none)) else (if 0 ≤ ((x1.length : Int) % (x5.size : Int)) then (if ((x1.length : Int) % (x5.size : Int)) ≤ (x5.size : Int) then (if ((x1.length : Int) % (x5.size : Int)) < (x5.size : Int) then ((some (([(wrap64 ((wrap64 (bt x5 ((x1.length : Int) % (x5.size : Int)))) + 1)) % 256] : List Int) : List Int)).bind fun y258 => (if (x5.extract 0 (((x1.length : Int) % (x5.size : Int)) : Int).toNat).size + (strOfNums y258).size ≤ 9223372036854775807 then (if 0 ≤ (wrap64 (((x1.length : Int) % (x5.size : Int)) + 1)) then (if (wrap64 (((x1.length : Int) % (x5.size : Int)) + 1)) ≤ (x5.size : Int) then (if ((x5.extract 0 (((x1.length : Int) % (x5.size : Int)) : Int).toNat) ++ (strOfNums y258)).size + (x5.extract ((wrap64 (((x1.length : Int) % (x5.size : Int)) + 1)) : Int).toNat x5.size).size ≤ 9223372036854775807 then ((impl_SumOf.f k (((x5.extract 0 (((x1.length : Int) % (x5.size : Int)) : Int).toNat) ++ (strOfNums y258)) ++ (x5.extract ((wrap64 (((x1.length : Int) % (x5.size : Int)) + 1)) : Int).toNat x5.size))).bind fun t261 => (some (t261 != x6))) else (none)) else (none)) else (none)) else (none))) else (none)) else (none)) else (none))) else (none)) else (if 0 ≤ ((x1.length : Int) % (x5.size : Int)) then (if ((x1.length : Int) % (x5.size : Int)) ≤ (x5.size : Int) then (if ((x1.length : Int) % (x5.size : Int)) < (x5.size : Int) then ((some (([(wrap64 ((wrap64 (bt x5 ((x1.length : Int) % (x5.size : Int)))) + 1)) % 256] : List Int) : List Int)).bind fun y262 => (if (x5.extract 0 (((x1.length : Int) % (x5.size : Int)) : Int).toNat).size + (strOfNums y262).size ≤ 9223372036854775807 then (if 0 ≤ (wrap64 (((x1.length : Int) % (x5.size : Int)) + 1)) then (if (wrap64 (((x1.length : Int) % (x5.size : Int)) + 1)) ≤ (x5.size : Int) then (if ((x5.extract 0 (((x1.length : Int) % (x5.size : Int)) : Int).toNat) ++ (strOfNums y262)).size + (x5.extract ((wrap64 (((x1.length : Int) % (x5.size : Int)) + 1)) : Int).toNat x5.size).size ≤ 9223372036854775807 then ((impl_SumOf.f k (((x5.extract 0 (((x1.length : Int) % (x5.size : Int)) : Int).toNat) ++ (strOfNums y262)) ++ (x5.extract ((wrap64 (((x1.length : Int) % (x5.size : Int)) + 1)) : Int).toNat x5.size))).bind fun t265 => (some (t265 != x6))) else (none)) else (none)) else (none)) else (none))) else (none)) else (none)) else (none))))
end
def laws_FnSumByte.f (k : Nat) (l0 : List Int) (l1 : List Int) : Option (Bool) := if (l0.length : Int) > 1048576 then (laws_FnSumByte.j0 k l0 l1 true) else (laws_FnSumByte.j0 k l0 l1 (decide ((l1.length : Int) > 1048576)))
theorem laws_FnSumByte.mono_l : ∀ k, (∀ y0 y1 y2, LeO (laws_FnSumByte.j0 k y0 y1 y2) (laws_FnSumByte.j0 (k + 1) y0 y1 y2)) ∧ (∀ y0 y1 y2 y3, LeO (laws_FnSumByte.j1 k y0 y1 y2 y3) (laws_FnSumByte.j1 (k + 1) y0 y1 y2 y3))
 | 0 => ⟨fun _ _ _ r h => by simp [laws_FnSumByte.j0] at h, fun _ _ _ _ r h => by simp [laws_FnSumByte.j1] at h⟩
 | k + 1 => by
  obtain ⟨ih0, ih1⟩ := laws_FnSumByte.mono_l k
  refine ⟨?_, ?_⟩
  ·intro y0 y1 y2
   unfold laws_FnSumByte.j0
   repeat' first
   | (with_reducible exact ih0 _ _ _)
   | (with_reducible exact ih1 _ _ _ _)
   | (with_reducible exact impl_SumOf.mono _ _)
   | (with_reducible exact spec_DrawSumOf.mono _ _)
   | (with_reducible exact spec_SumOf.mono _ _)
   | (with_reducible exact LeO.refl _)
   | (with_reducible exact LeO.none _)
   | (with_reducible refine LeO.ite ?_ ?_)
   | (with_reducible refine LeO.bind ?_ (fun _ => ?_))
   | exact ih0 _ _ _
   | exact ih1 _ _ _ _
   | exact impl_SumOf.mono _ _
   | exact spec_DrawSumOf.mono _ _
   | exact spec_SumOf.mono _ _
   | exact LeO.none _
   | refine LeO.ite ?_ ?_
   | refine LeO.bind ?_ (fun _ => ?_)
  ·intro y0 y1 y2 y3
   unfold laws_FnSumByte.j1
   repeat' first
   | (with_reducible exact ih0 _ _ _)
   | (with_reducible exact ih1 _ _ _ _)
   | (with_reducible exact impl_SumOf.mono _ _)
   | (with_reducible exact spec_DrawSumOf.mono _ _)
   | (with_reducible exact spec_SumOf.mono _ _)
   | (with_reducible exact LeO.refl _)
   | (with_reducible exact LeO.none _)
   | (with_reducible refine LeO.ite ?_ ?_)
   | (with_reducible refine LeO.bind ?_ (fun _ => ?_))
   | exact ih0 _ _ _
   | exact ih1 _ _ _ _
   | exact impl_SumOf.mono _ _
   | exact spec_DrawSumOf.mono _ _
   | exact spec_SumOf.mono _ _
   | exact LeO.none _
   | refine LeO.ite ?_ ?_
   | refine LeO.bind ?_ (fun _ => ?_)
theorem laws_FnSumByte.mono : ∀ a0 a1 k, LeO (laws_FnSumByte.f k a0 a1) (laws_FnSumByte.f (k + 1) a0 a1) := by
 intro a0 a1 k
 obtain ⟨ih0, ih1⟩ := laws_FnSumByte.mono_l k
 unfold laws_FnSumByte.f
 repeat' first
   | (with_reducible exact ih0 _ _ _)
   | (with_reducible exact ih1 _ _ _ _)
   | (with_reducible exact impl_SumOf.mono _ _)
   | (with_reducible exact spec_DrawSumOf.mono _ _)
   | (with_reducible exact spec_SumOf.mono _ _)
   | (with_reducible exact LeO.refl _)
   | (with_reducible exact LeO.none _)
   | (with_reducible refine LeO.ite ?_ ?_)
   | (with_reducible refine LeO.bind ?_ (fun _ => ?_))
   | exact ih0 _ _ _
   | exact ih1 _ _ _ _
   | exact impl_SumOf.mono _ _
   | exact spec_DrawSumOf.mono _ _
   | exact spec_SumOf.mono _ _
   | exact LeO.none _
   | refine LeO.ite ?_ ?_
   | refine LeO.bind ?_ (fun _ => ?_)
def laws_FnSumByte.T11 : Bool × List (List Nat × List Nat) := (true, [([], []), ([], []), ([0, 1], [0, 1]), ([], []), ([], []), ([3, 4], [3, 4]), ([5], [5]), ([], []), ([6, 7], [6, 7]), ([8], [8]), ([9], [9]), ([10], [10]), ([2, 11], [2, 11]), ([], []), ([], []), ([14], [14]), ([13, 15], [13, 15]), ([12, 16], [12, 16]), ([17], [17]), ([], []), ([18, 19], [18, 19]), ([20, 18, 0, 1, 2, 3, 4, 5, 6, 7, 8, 9, 10, 11, 12, 13, 14, 15, 16, 17, 18, 19, 20], [20])])
def laws_FnSumByte.B11 : List Nat := [0, 0, 3, 0, 0, 24, 56, 0, 248, 504, 1016, 2040, 4095, 0, 0, 16384, 57344, 131071, 262143, 0, 1048575, 2097151]
theorem laws_FnSumByte.tab11 : rtab .any (opsOf Try.f7 11) = laws_FnSumByte.T11 := by kernel_rfl
theorem laws_FnSumByte.bits11 : waitsOk laws_FnSumByte.T11.2 laws_FnSumByte.B11 = true := by kernel_rfl
set_option maxHeartbeats 8000000 in
set_option maxRecDepth 100000 in
theorem laws_FnSumByte.calls (k : Nat) (A0 : Option Addr) (c0 : Nat) (l0 : List Int) (A1 : Option Addr) (c1 : Nat) (l1 : List Int) (r : Bool) (w : World) (hr0 : Kd.C (Kd.int .u8) w A0 l0.length l0) (hc0 : l0.length ≤ c0) (hr1 : Kd.C (Kd.int .u8) w A1 l1.length l1) (hc1 : l1.length ≤ c1) (h : laws_FnSumByte.f k l0 l1 = some r) :
  Calls Try.prog 7 #[.slice A0 l0.length c0, .slice A1 l1.length c1] w fun e w' => e = .returned (.bool r) ∧ Below w.heap.size w w' := by
 have HR0 := Aside0.mk hr0
 have HC0 := Aside0.mk hc0
 clear hr0 hc0
 have HR1 := Aside0.mk hr1
 have HC1 := Aside0.mk hc1
 clear hr1 hc1
 have HB := Aside0.mk (Below.refl w.heap.size w)
 have H : (if (l0.length : Int) > 1048576 then (laws_FnSumByte.j0 k l0 l1 true) else (laws_FnSumByte.j0 k l0 l1 (decide ((l1.length : Int) > 1048576)))) = some r := h
 clear h
 have HC3 := Aside0.mk H
 clear H
 go_enter Try.func7, Try.ntmps7
 go_upto_region 1 with (fail)
 go_cut [16] (fun v16 wc => ∃ (kq : Nat) (x16_2 : Bool), v16 = .bool x16_2 ∧ Aside0 (laws_FnSumByte.j0 kq l0 l1 x16_2 = some r) ∧ Aside0 (kq ≤ k) ∧ Aside0 (Below w.heap.size w wc))
 case first =>
  have H := HC3.out
  clear HC3
  by_cases c4 : (l0.length : Int) > 1048576
  ·rw [if_pos c4] at H
   have c4b0 : decide (1048576 < (l0.length : Int)) = true := decide_eq_true c4
   have c4b1 : decide (1048576 < l0.length) = true := decide_eq_true (by omega)
   clear c4
   (first | rw [c4b0] | (simp only [i64_w, i32_w]; rw [c4b0]) | skip)
   have H' := Aside0.mk H
   clear H
   go_wp2
   go_meet
   case rel => exact ⟨_, (true), (by first | rfl | (simp; done) | (simp [*]; done)), H', ⟨by first | omega | exact Nat.le_refl _⟩, ⟨by exact zB HB.out⟩⟩
  ·rw [if_neg c4] at H
   have c4b0 : decide (1048576 < (l0.length : Int)) = false := decide_eq_false c4
   have c4b1 : decide (1048576 < l0.length) = false := decide_eq_false (by omega)
   clear c4
   (first | rw [c4b0] | (simp only [i64_w, i32_w]; rw [c4b0]) | skip)
   have H' := Aside0.mk H
   clear H
   go_wp2
   go_meet
   case rel => exact ⟨_, (decide ((l1.length : Int) > 1048576)), (by first | rfl | (simp; done) | (simp [*]; done)), H', ⟨by first | omega | exact Nat.le_refl _⟩, ⟨by exact zB HB.out⟩⟩
 case rest =>
  clear HC3
  try clear c1
  try clear p2
  try clear c4
  try clear c4b0
  try clear c4b1
  obtain ⟨kq, x16_2, rfl, HA, HJ2, HB⟩ := hcut
  cases kq with
  | zero => exact absurd HA.out (by simp [laws_FnSumByte.j0])
  | succ kj2 =>
   have H := HA.out
   clear HA
   simp only [laws_FnSumByte.j0] at H
   by_cases c5 : x16_2 = true
   ·subst c5
    have H1 : (some true) = some r := by rw [if_pos rfl] at H; exact H
    clear H
    have H := H1
    clear H1
    obtain rfl := Option.some.inj H
    go_wp2
    go_ret
    exact ⟨by first | rfl | (simp [errW_none, errW_some] <;> rfl) | (simp [*, errW_none, errW_some] <;> rfl), by exact zB HB.out⟩
   ·replace c5 := Bool.eq_false_iff.mpr c5
    subst c5
    have H1 : ((spec_DrawSumOf.f kj2 l0).bind fun t248 => ((impl_SumOf.f kj2 t248).bind fun t249 => ((spec_SumOf.f kj2 t248).bind fun t250 => (if t249 = t250 then (laws_FnSumByte.j1 kj2 l1 t248 t249 (t248.toList == ([] : List UInt8))) else (laws_FnSumByte.j1 kj2 l1 t248 t249 true))))) = some r := by rw [if_neg (show ¬ (false = true) by decide)] at H; exact H
    clear H
    have H := H1
    clear H1
    replace H := Option.bind_eq_some_iff.mp H
    obtain ⟨t248, A60, H⟩ := H
    replace H : ((impl_SumOf.f kj2 t248).bind fun t249 => ((spec_SumOf.f kj2 t248).bind fun t250 => (if t249 = t250 then (laws_FnSumByte.j1 kj2 l1 t248 t249 (t248.toList == ([] : List UInt8))) else (laws_FnSumByte.j1 kj2 l1 t248 t249 true)))) = some r := H
    have A6 := Aside0.mk A60
    clear A60
    replace H := Option.bind_eq_some_iff.mp H
    obtain ⟨t249, A70, H⟩ := H
    replace H : ((spec_SumOf.f kj2 t248).bind fun t250 => (if t249 = t250 then (laws_FnSumByte.j1 kj2 l1 t248 t249 (t248.toList == ([] : List UInt8))) else (laws_FnSumByte.j1 kj2 l1 t248 t249 true))) = some r := H
    have A7 := Aside0.mk A70
    clear A70
    have HC8 := Aside0.mk H
    clear H
    go_upto_region 5 with (first | ((with_reducible refine gate_callee (f := 29) rfl ?_); refine goesL_ (some 18) rfl rfl Try.func29 (by kernel_rfl) rfl #[.slice A0 l0.length c0] rfl (by (try simp only [zm1, zm2, zm3]); first | done | rfl | (simp only [List.length_drop, List.length_take]; rfl)) ?_; (with_reducible refine (spec_DrawSumOf.calls kj2 _ _ l0 t248 _ ?side1 ?side2 A6.out).mono ?_); (case side1 => exact zC (Kd.C_below HR0.out HB.out)); (case side2 => exact HC0.out); rintro e w9 ⟨rfl, hb⟩; refine ⟨_, rfl, ?_⟩; have n0_ := Aside0.mk (below_step (by exact zB HB.out) hb); clear HB; have HB := n0_; clear n0_; (try clear hb); (try clear hb2); (try clear hk); (try clear hi)) | ((with_reducible refine gate_callee (f := 30) rfl ?_); refine goesL_ (some 20) rfl rfl Try.func30 (by kernel_rfl) rfl #[.string t248] rfl (by (try simp only [zm1, zm2, zm3]); first | done | rfl | (simp only [List.length_drop, List.length_take]; rfl)) ?_; (with_reducible refine (impl_SumOf.calls kj2 t248 t249 _ A7.out).mono ?_); rintro e w10 ⟨rfl, hb⟩; refine ⟨_, rfl, ?_⟩; have n0_ := Aside0.mk (below_step (by exact zB HB.out) hb); clear HB; have HB := n0_; clear n0_; (try clear hb); (try clear hb2); (try clear hk); (try clear hi)))
    (try simp only [zp0, zp1, zp2, zp3, zp4])
    go_cut [28] (fun v28 wc => ∃ (kq : Nat) (x28_7 : Bool), v28 = .bool x28_7 ∧ Aside0 (laws_FnSumByte.j1 kq l1 t248 t249 x28_7 = some r) ∧ Aside0 (kq ≤ kj2) ∧ Aside0 (Below w.heap.size w wc))
    case first =>
     have H := HC8.out
     clear HC8
     replace H := Option.bind_eq_some_iff.mp H
     obtain ⟨t250, A110, H⟩ := H
     replace H : (if t249 = t250 then (laws_FnSumByte.j1 kj2 l1 t248 t249 (t248.toList == ([] : List UInt8))) else (laws_FnSumByte.j1 kj2 l1 t248 t249 true)) = some r := H
     have A11 := Aside0.mk A110
     clear A110
     by_cases c12 : t249 = t250
     ·rw [if_pos c12] at H
      have c12b0 : (t249 == t250) = true := beq_iff_eq.mpr c12
      have c12b1 : (t249 != t250) = false := bne_eq_false_iff_eq.mpr c12
      clear c12
      (first | rw [c12b0] | (simp only [i64_w, i32_w]; rw [c12b0]) | skip)
      have H' := Aside0.mk H
      clear H
      go_wp2_with (first | ((with_reducible refine gate_callee (f := 31) rfl ?_); refine goesL_ (some 23) rfl rfl Try.func31 (by kernel_rfl) rfl #[.string t248] rfl (by (try simp only [zm1, zm2, zm3]); first | done | rfl | (simp only [List.length_drop, List.length_take]; rfl)) ?_; (with_reducible refine (spec_SumOf.calls kj2 t248 t250 _ A11.out).mono ?_); rintro e w' ⟨rfl, ⟨nd, rfl⟩⟩; refine ⟨_, rfl, ?_⟩))
      go_meet
      case rel => exact ⟨_, ((t248.toList == ([] : List UInt8))), (by first | rfl | (simp; done) | (simp [*]; done)), H', ⟨by have := HJ2.out; first | omega | exact Nat.le_refl _⟩, ⟨by exact zB HB.out⟩⟩
     ·rw [if_neg c12] at H
      have c12b0 : (t249 == t250) = false := beq_eq_false_iff_ne.mpr c12
      have c12b1 : (t249 != t250) = true := bne_iff_ne.mpr c12
      (first | rw [c12b0] | (simp only [i64_w, i32_w]; rw [c12b0]) | skip)
      have H' := Aside0.mk H
      clear H
      go_wp2_with (first | ((with_reducible refine gate_callee (f := 31) rfl ?_); refine goesL_ (some 23) rfl rfl Try.func31 (by kernel_rfl) rfl #[.string t248] rfl (by (try simp only [zm1, zm2, zm3]); first | done | rfl | (simp only [List.length_drop, List.length_take]; rfl)) ?_; (with_reducible refine (spec_SumOf.calls kj2 t248 t250 _ A11.out).mono ?_); rintro e w' ⟨rfl, ⟨nd, rfl⟩⟩; refine ⟨_, rfl, ?_⟩))
      go_meet
      case rel => exact ⟨_, (true), (by first | rfl | (simp; done) | (simp [*]; done)), H', ⟨by have := HJ2.out; first | omega | exact Nat.le_refl _⟩, ⟨by exact zB HB.out⟩⟩
    case rest =>
     clear HC8
     try clear c1
     try clear c2
     try clear p2
     try clear c3
     try clear c4
     try clear c4b0
     try clear c4b1
     try clear c5
     try clear c7
     try clear c12
     try clear c12b0
     try clear c12b1
     try clear p2
     obtain ⟨kq, x28_7, rfl, HA, HJ7, HB⟩ := hcut
     cases kq with
     | zero => exact absurd HA.out (by simp [laws_FnSumByte.j1])
     | succ kj7 =>
      have H := HA.out
      clear HA
      simp only [laws_FnSumByte.j1] at H
      by_cases c13 : x28_7 = true
      ·subst c13
       have H1 : ((spec_SumOf.f kj7 t248).bind fun t251 => (some (t249 == t251))) = some r := by rw [if_pos rfl] at H; exact H
       clear H
       have H := H1
       clear H1
       replace H := Option.bind_eq_some_iff.mp H
       obtain ⟨t251, A140, H⟩ := H
       replace H : (some (t249 == t251)) = some r := H
       have A14 := Aside0.mk A140
       clear A140
       obtain rfl := Option.some.inj H
       go_wp2_with (first | ((with_reducible refine gate_callee (f := 31) rfl ?_); refine goesL_ (some 31) rfl rfl Try.func31 (by kernel_rfl) rfl #[.string t248] rfl (by (try simp only [zm1, zm2, zm3]); first | done | rfl | (simp only [List.length_drop, List.length_take]; rfl)) ?_; (with_reducible refine (spec_SumOf.calls kj7 t248 t251 _ A14.out).mono ?_); rintro e w' ⟨rfl, ⟨nd, rfl⟩⟩; refine ⟨_, rfl, ?_⟩))
       go_ret
       exact ⟨by first | rfl | (simp [errW_none, errW_some] <;> rfl) | (simp [*, errW_none, errW_some] <;> rfl), by exact zB HB.out⟩
      ·replace c13 := Bool.eq_false_iff.mpr c13
       subst c13
       have H1 : (if (t248.size : Int) = 0 then (none) else (if (l1.length : Int) > 0 then (if 0 < (l1.length : Int) then (if (rd l1 0) > 0 then (if 0 ≤ ((l1.length : Int) % (t248.size : Int)) then (if ((l1.length : Int) % (t248.size : Int)) ≤ (t248.size : Int) then (if ((l1.length : Int) % (t248.size : Int)) < (t248.size : Int) then ((some (([(wrap64 ((wrap64 (bt t248 ((l1.length : Int) % (t248.size : Int)))) + (wrap64 (rd l1 0)))) % 256] : List Int) : List Int)).bind fun y254 => (if (t248.extract 0 (((l1.length : Int) % (t248.size : Int)) : Int).toNat).size + (strOfNums y254).size ≤ 9223372036854775807 then (if 0 ≤ (wrap64 (((l1.length : Int) % (t248.size : Int)) + 1)) then (if (wrap64 (((l1.length : Int) % (t248.size : Int)) + 1)) ≤ (t248.size : Int) then (if ((t248.extract 0 (((l1.length : Int) % (t248.size : Int)) : Int).toNat) ++ (strOfNums y254)).size + (t248.extract ((wrap64 (((l1.length : Int) % (t248.size : Int)) + 1)) : Int).toNat t248.size).size ≤ 9223372036854775807 then ((impl_SumOf.f kj7 (((t248.extract 0 (((l1.length : Int) % (t248.size : Int)) : Int).toNat) ++ (strOfNums y254)) ++ (t248.extract ((wrap64 (((l1.length : Int) % (t248.size : Int)) + 1)) : Int).toNat t248.size))).bind fun t257 => (some (t257 != t249))) else (none)) else (none)) else (none)) else (none))) else (none)) else (none)) else (none)) else (if 0 ≤ ((l1.length : Int) % (t248.size : Int)) then (if ((l1.length : Int) % (t248.size : Int)) ≤ (t248.size : Int) then (if ((l1.length : Int) % (t248.size : Int)) < (t248.size : Int) then ((some (([(wrap64 ((wrap64 (bt t248 ((l1.length : Int) % (t248.size : Int)))) + 1)) % 256] : List Int) : List Int)).bind fun y258 => (if (t248.extract 0 (((l1.length : Int) % (t248.size : Int)) : Int).toNat).size + (strOfNums y258).size ≤ 9223372036854775807 then (if 0 ≤ (wrap64 (((l1.length : Int) % (t248.size : Int)) + 1)) then (if (wrap64 (((l1.length : Int) % (t248.size : Int)) + 1)) ≤ (t248.size : Int) then (if ((t248.extract 0 (((l1.length : Int) % (t248.size : Int)) : Int).toNat) ++ (strOfNums y258)).size + (t248.extract ((wrap64 (((l1.length : Int) % (t248.size : Int)) + 1)) : Int).toNat t248.size).size ≤ 9223372036854775807 then ((impl_SumOf.f kj7 (((t248.extract 0 (((l1.length : Int) % (t248.size : Int)) : Int).toNat) ++ (strOfNums y258)) ++ (t248.extract ((wrap64 (((l1.length : Int) % (t248.size : Int)) + 1)) : Int).toNat t248.size))).bind fun t261 => (some (t261 != t249))) else (none)) else (none)) else (none)) else (none))) else (none)) else (none)) else (none))) else (none)) else (if 0 ≤ ((l1.length : Int) % (t248.size : Int)) then (if ((l1.length : Int) % (t248.size : Int)) ≤ (t248.size : Int) then (if ((l1.length : Int) % (t248.size : Int)) < (t248.size : Int) then ((some (([(wrap64 ((wrap64 (bt t248 ((l1.length : Int) % (t248.size : Int)))) + 1)) % 256] : List Int) : List Int)).bind fun y262 => (if (t248.extract 0 (((l1.length : Int) % (t248.size : Int)) : Int).toNat).size + (strOfNums y262).size ≤ 9223372036854775807 then (if 0 ≤ (wrap64 (((l1.length : Int) % (t248.size : Int)) + 1)) then (if (wrap64 (((l1.length : Int) % (t248.size : Int)) + 1)) ≤ (t248.size : Int) then (if ((t248.extract 0 (((l1.length : Int) % (t248.size : Int)) : Int).toNat) ++ (strOfNums y262)).size + (t248.extract ((wrap64 (((l1.length : Int) % (t248.size : Int)) + 1)) : Int).toNat t248.size).size ≤ 9223372036854775807 then ((impl_SumOf.f kj7 (((t248.extract 0 (((l1.length : Int) % (t248.size : Int)) : Int).toNat) ++ (strOfNums y262)) ++ (t248.extract ((wrap64 (((l1.length : Int) % (t248.size : Int)) + 1)) : Int).toNat t248.size))).bind fun t265 => (some (t265 != t249))) else (none)) else (none)) else (none)) else (none))) else (none)) else (none)) else (none)))) = some r := by rw [if_neg (show ¬ (false = true) by decide)] at H; exact H
       clear H
       have H := H1
       clear H1
       by_cases c15 : (t248.size : Int) = 0
       ·rw [if_pos c15] at H
        exact absurd H (by simp)
       ·rw [if_neg c15] at H
        have c15b0 : ((t248.size : Int) == 0) = false := beq_eq_false_iff_ne.mpr c15
        have c15b1 : ((t248.size : Int) != 0) = true := bne_iff_ne.mpr c15
        by_cases c16 : (l1.length : Int) > 0
        ·rw [if_pos c16] at H
         have c16b0 : decide (0 < (l1.length : Int)) = true := decide_eq_true c16
         have c16b1 : decide (0 < l1.length) = true := decide_eq_true (by omega)
         clear c16
         by_cases c17 : 0 < (l1.length : Int)
         ·rw [if_pos c17] at H
          have c17b0 : decide (0 < (l1.length : Int)) = true := decide_eq_true c17
          have c17b1 : decide (0 < l1.length) = true := decide_eq_true (by omega)
          clear c17
          by_cases c18 : (rd l1 0) > 0
          ·rw [if_pos c18] at H
           have c18b0 : decide (0 < (rd l1 0)) = true := decide_eq_true c18
           clear c18
           obtain ⟨ji19, hji19⟩ : ∃ j_ : Int, ((l1.length : Int) % (t248.size : Int)) = j_ := ⟨_, rfl⟩
           replace H : (if 0 ≤ (ji19) then (if (ji19) ≤ (t248.size : Int) then (if (ji19) < (t248.size : Int) then ((some (([(wrap64 ((wrap64 (bt t248 (ji19))) + (wrap64 (rd l1 0)))) % 256] : List Int) : List Int)).bind fun y254 => (if (t248.extract 0 ((ji19) : Int).toNat).size + (strOfNums y254).size ≤ 9223372036854775807 then (if 0 ≤ (wrap64 ((ji19) + 1)) then (if (wrap64 ((ji19) + 1)) ≤ (t248.size : Int) then (if ((t248.extract 0 ((ji19) : Int).toNat) ++ (strOfNums y254)).size + (t248.extract ((wrap64 ((ji19) + 1)) : Int).toNat t248.size).size ≤ 9223372036854775807 then ((impl_SumOf.f kj7 (((t248.extract 0 ((ji19) : Int).toNat) ++ (strOfNums y254)) ++ (t248.extract ((wrap64 ((ji19) + 1)) : Int).toNat t248.size))).bind fun t257 => (some (t257 != t249))) else (none)) else (none)) else (none)) else (none))) else (none)) else (none)) else (none)) = some r := by first | (rw [hji19] at H; exact H) | (simp only [hji19] at H ⊢; exact H)
           by_cases c20 : 0 ≤ (ji19)
           ·rw [if_pos c20] at H
            have c20b0 := eq_true c20
            have c20b1 : decide (0 ≤ (ji19)) = true := decide_eq_true c20
            clear c20
            by_cases c21 : (ji19) ≤ (t248.size : Int)
            ·rw [if_pos c21] at H
             have c21b0 := eq_true c21
             have c21b1 : decide ((ji19) ≤ (t248.size : Int)) = true := decide_eq_true c21
             clear c21
             by_cases c22 : (ji19) < (t248.size : Int)
             ·rw [if_pos c22] at H
              have c22b0 : decide ((ji19) < (t248.size : Int)) = true := decide_eq_true c22
              clear c22
              obtain ⟨y254, hy254⟩ : ∃ y_ : List Int, y_ = (([(wrap64 ((wrap64 (bt t248 (ji19))) + (wrap64 (rd l1 0)))) % 256] : List Int)) := ⟨_, rfl⟩
              replace H : (if (t248.extract 0 ((ji19) : Int).toNat).size + (strOfNums y254).size ≤ 9223372036854775807 then (if 0 ≤ (wrap64 ((ji19) + 1)) then (if (wrap64 ((ji19) + 1)) ≤ (t248.size : Int) then (if ((t248.extract 0 ((ji19) : Int).toNat) ++ (strOfNums y254)).size + (t248.extract ((wrap64 ((ji19) + 1)) : Int).toNat t248.size).size ≤ 9223372036854775807 then ((impl_SumOf.f kj7 (((t248.extract 0 ((ji19) : Int).toNat) ++ (strOfNums y254)) ++ (t248.extract ((wrap64 ((ji19) + 1)) : Int).toNat t248.size))).bind fun t257 => (some (t257 != t249))) else (none)) else (none)) else (none)) else (none)) = some r := by first | (rw [hy254]; with_reducible exact H) | (have H2_ := (Option.bind_some _ _).symm.trans H; rw [hy254]; with_reducible exact H2_) | (have H2_ := (Option.bind_some _ _).symm.trans H; with_reducible exact H2_) | with_reducible exact H | (rw [hy254]; exact H) | exact H
              have Ny254 := Aside0.mk hy254
              clear hy254
              by_cases c24 : (t248.extract 0 ((ji19) : Int).toNat).size + (strOfNums y254).size ≤ 9223372036854775807
              ·rw [if_pos c24] at H
               have c24b0 := eq_true c24
               have c24b1 : decide ((t248.extract 0 ((ji19) : Int).toNat).size + (strOfNums y254).size ≤ 9223372036854775807) = true := decide_eq_true c24
               try have c24b2 : (9223372036854775807 < (t248.extract 0 ((ji19) : Int).toNat).size + (strOfNums y254).size) = False := eq_false (Nat.not_lt.2 c24)
               have c24b8 : (9223372036854775807 < ji19.toNat + (strOfNums y254).size) = False := eq_false (by have h_ := c24; simp only [ByteArray.size_append, ByteArray.size_extract, Nat.sub_zero, Nat.min_self] at h_; have f0_ := of_decide_eq_true ‹decide (ji19 ≤ (t248.size : Int)) = true›; omega)
               obtain ⟨ji25, hji25⟩ : ∃ j_ : Int, (wrap64 ((ji19) + 1)) = j_ := ⟨_, rfl⟩
               replace H : (if 0 ≤ (ji25) then (if (ji25) ≤ (t248.size : Int) then (if ((t248.extract 0 ((ji19) : Int).toNat) ++ (strOfNums y254)).size + (t248.extract ((ji25) : Int).toNat t248.size).size ≤ 9223372036854775807 then ((impl_SumOf.f kj7 (((t248.extract 0 ((ji19) : Int).toNat) ++ (strOfNums y254)) ++ (t248.extract ((ji25) : Int).toNat t248.size))).bind fun t257 => (some (t257 != t249))) else (none)) else (none)) else (none)) = some r := by first | (rw [hji25] at H; exact H) | (simp only [hji25] at H ⊢; exact H)
               have hji25w : (IntKind.i64.wrap ((ji19) + 1)) = ji25 := (i64_w _).trans hji25
               by_cases c26 : 0 ≤ (ji25)
               ·rw [if_pos c26] at H
                have c26b0 := eq_true c26
                have c26b1 : decide (0 ≤ (ji25)) = true := decide_eq_true c26
                clear c26
                by_cases c27 : (ji25) ≤ (t248.size : Int)
                ·rw [if_pos c27] at H
                 have c27b0 := eq_true c27
                 have c27b1 : decide ((ji25) ≤ (t248.size : Int)) = true := decide_eq_true c27
                 clear c27
                 by_cases c28 : ((t248.extract 0 ((ji19) : Int).toNat) ++ (strOfNums y254)).size + (t248.extract ((ji25) : Int).toNat t248.size).size ≤ 9223372036854775807
                 ·rw [if_pos c28] at H
                  have c28b0 := eq_true c28
                  have c28b1 : decide (((t248.extract 0 ((ji19) : Int).toNat) ++ (strOfNums y254)).size + (t248.extract ((ji25) : Int).toNat t248.size).size ≤ 9223372036854775807) = true := decide_eq_true c28
                  try have c28b2 : (9223372036854775807 < ((t248.extract 0 ((ji19) : Int).toNat) ++ (strOfNums y254)).size + (t248.extract ((ji25) : Int).toNat t248.size).size) = False := eq_false (Nat.not_lt.2 c28)
                  have c28b8 : (9223372036854775807 < ji19.toNat + (strOfNums y254).size + (t248.size - ji25.toNat)) = False := eq_false (by have h_ := c28; simp only [ByteArray.size_append, ByteArray.size_extract, Nat.sub_zero, Nat.min_self] at h_; have f0_ := of_decide_eq_true ‹decide (ji19 ≤ (t248.size : Int)) = true›; omega)
                  replace H := Option.bind_eq_some_iff.mp H
                  obtain ⟨t257, A290, H⟩ := H
                  replace H : (some (t257 != t249)) = some r := H
                  have A29 := Aside0.mk A290
                  clear A290
                  obtain rfl := Option.some.inj H
                  have p252 : 0 ≤ (0 : Int) := (by omega)
                  have q252 : 0 < (l1.length : Int) := of_decide_eq_true (by first | (with_reducible assumption) | assumption)
                  obtain ⟨ad252, e252, hx252_0⟩ := Kd.at_int HR1.out 0 p252 q252
                  cases e252
                  have qi252 : (0 < l1.length) = True := eq_true (by omega)
                  (try rw [show ((0 : Int)).toNat = 0 from rfl] at hx252_0)
                  (try rw [Addr.add_zero'] at hx252_0)
                  replace hx252_0 := (HB.out.cell (World.block_lt_of_cell? w _ hx252_0)).trans hx252_0
                  replace p252 := eq_true p252
                  replace q252 := eq_true q252
                  have p253 : 0 ≤ (0 : Int) := (by omega)
                  have q253 : 0 < (l1.length : Int) := of_decide_eq_true (by first | (with_reducible assumption) | assumption)
                  obtain ⟨ad253, e253, hx253_0⟩ := Kd.at_int HR1.out 0 p253 q253
                  obtain rfl : ad252 = ad253 := (by injection e253)
                  have qi253 : (0 < l1.length) = True := eq_true (by omega)
                  (try rw [show ((0 : Int)).toNat = 0 from rfl] at hx253_0)
                  (try rw [Addr.add_zero'] at hx253_0)
                  replace hx253_0 := (HB.out.cell (World.block_lt_of_cell? w _ hx253_0)).trans hx253_0
                  replace p253 := eq_true p253
                  replace q253 := eq_true q253
                  try go_wp2
                  have n0_ := Aside0.mk (below_drew1 HB.out)
                  clear HB
                  have HB := n0_
                  clear n0_
                  have p23 : 0 ≤ ((ji19) : Int) := of_decide_eq_true (by first | (with_reducible assumption) | assumption)
                  have q23 : (ji19) < (t248.size : Int) := of_decide_eq_true (by first | (with_reducible assumption) | assumption)
                  have hx23 := bt_at t248 (ji19)
                  replace p23 := eq_true p23
                  replace q23 := eq_true q23
                  refine start_ (n := 22) (S := fun w' => True) (ds := []) #[false, false, false, false, false, false, false, false, false, false, false, false, false, false, false, false, false, false, false, false, false, false] (by kernel_rfl) rfl rfl trivial (fun hHeld => ?_); refine with_tabW laws_FnSumByte.tab11 laws_FnSumByte.bits11 (fun HT_ HW_ => ?_)
                  generalize wc.drew = w30 at HB hHeld ⊢
                  refine pure_ (i := 0) (N := some 51) (v := ?_) (a' := ?_) #[true, false, false, false, false, false, false, false, false, false, false, false, false, false, false, false, false, false, false, false, false, false] rfl rfl (any_of HT_.out (by kernel_rfl)) (fun _ _ _ h => h) (Or.inl ⟨by rfl, ?_⟩) ?_ ?_
                  rotate_left
                  ·intro w'
                   go_simp
                   with_reducible rfl
                  rotate_left
                  ·simp only [zp0, zp1, zp2, zp3, zp4, i64_w, i32_w]
                   rfl
                  refine pure_ (i := 1) (N := some 52) (v := ?_) (a' := ?_) #[true, true, false, false, false, false, false, false, false, false, false, false, false, false, false, false, false, false, false, false, false, false] rfl rfl (any_of HT_.out (by kernel_rfl)) (fun _ _ _ h => h) (Or.inl ⟨by rfl, ?_⟩) ?_ ?_
                  rotate_left
                  ·intro w'
                   go_simp
                   with_reducible rfl
                  rotate_left
                  ·simp only [zp0, zp1, zp2, zp3, zp4, i64_w, i32_w]
                   rfl
                  refine pure_ (i := 2) (N := some 53) (v := ?_) (a' := ?_) #[true, true, true, false, false, false, false, false, false, false, false, false, false, false, false, false, false, false, false, false, false, false] rfl rfl (any_of HT_.out (by kernel_rfl)) (fun _ _ _ h => h) (Or.inl ⟨by rfl, ?_⟩) ?_ ?_
                  rotate_left
                  ·intro w'
                   go_simp
                   with_reducible rfl
                  rotate_left
                  ·simp only [zp0, zp1, zp2, zp3, zp4, i64_w, i32_w]
                   rfl
                  refine pure_ (i := 3) (N := some 54) (v := ?_) (a' := ?_) #[true, true, true, true, false, false, false, false, false, false, false, false, false, false, false, false, false, false, false, false, false, false] rfl rfl (any_of HT_.out (by kernel_rfl)) (fun _ _ _ h => h) (Or.inl ⟨by rfl, ?_⟩) ?_ ?_
                  rotate_left
                  ·intro w'
                   go_simp
                   with_reducible rfl
                  rotate_left
                  ·simp only [zp0, zp1, zp2, zp3, zp4, i64_w, i32_w]
                   rfl
                  refine pure_ (i := 4) (N := some 55) (v := ?_) (a' := ?_) #[true, true, true, true, true, false, false, false, false, false, false, false, false, false, false, false, false, false, false, false, false, false] rfl rfl (any_of HT_.out (by kernel_rfl)) (fun _ _ _ h => h) (Or.inl ⟨by rfl, ?_⟩) ?_ ?_
                  rotate_left
                  ·intro w'
                   go_simp
                   with_reducible rfl
                  rotate_left
                  ·simp only [zp0, zp1, zp2, zp3, zp4, i64_w, i32_w]
                   rfl
                  refine pure_ (i := 7) (N := some 58) (v := ?_) (a' := ?_) #[true, true, true, true, true, false, false, true, false, false, false, false, false, false, false, false, false, false, false, false, false, false] rfl rfl (any_of HT_.out (by kernel_rfl)) (fun _ _ _ h => h) (Or.inl ⟨by rfl, ?_⟩) ?_ ?_
                  rotate_left
                  ·intro w'
                   go_simp
                   with_reducible rfl
                  rotate_left
                  ·simp only [zp0, zp1, zp2, zp3, zp4, i64_w, i32_w]
                   rfl
                  refine pure_ (i := 13) (N := some 64) (v := ?_) (a' := ?_) #[true, true, true, true, true, false, false, true, false, false, false, false, false, true, false, false, false, false, false, false, false, false] rfl rfl (any_of HT_.out (by kernel_rfl)) (fun _ _ _ h => h) (Or.inl ⟨by rfl, ?_⟩) ?_ ?_
                  rotate_left
                  ·intro w'
                   go_simp
                   with_reducible rfl
                  rotate_left
                  ·simp only [zp0, zp1, zp2, zp3, zp4, i64_w, i32_w]
                   rfl
                  refine pure_ (i := 14) (N := some 65) (v := ?_) (a' := ?_) #[true, true, true, true, true, false, false, true, false, false, false, false, false, true, true, false, false, false, false, false, false, false] rfl rfl (any_of HT_.out (by kernel_rfl)) (fun _ _ _ h => h) (Or.inl ⟨by rfl, ?_⟩) ?_ ?_
                  rotate_left
                  ·intro w'
                   go_simp
                   with_reducible rfl
                  rotate_left
                  ·simp only [zp0, zp1, zp2, zp3, zp4, i64_w, i32_w]
                   rfl
                  refine pure_ (i := 15) (N := some 66) (v := ?_) (a' := ?_) #[true, true, true, true, true, false, false, true, false, false, false, false, false, true, true, true, false, false, false, false, false, false] rfl rfl (any_of HT_.out (by kernel_rfl)) (fun _ _ _ h => h) (Or.inl ⟨by rfl, ?_⟩) ?_ ?_
                  rotate_left
                  ·intro w'
                   go_simp
                   with_reducible rfl
                  rotate_left
                  ·simp only [zp0, zp1, zp2, zp3, zp4, i64_w, i32_w]
                   rfl
                  refine pure_ (i := 16) (N := some 67) (v := ?_) (a' := ?_) #[true, true, true, true, true, false, false, true, false, false, false, false, false, true, true, true, true, false, false, false, false, false] rfl rfl (any_of HT_.out (by kernel_rfl)) (fun _ _ _ h => h) (Or.inl ⟨by rfl, ?_⟩) ?_ ?_
                  rotate_left
                  ·intro w'
                   go_simp
                   with_reducible rfl
                  rotate_left
                  ·simp only [zp0, zp1, zp2, zp3, zp4, i64_w, i32_w]
                   rfl
                  refine pure_ (i := 19) (N := some 70) (v := ?_) (a' := ?_) #[true, true, true, true, true, false, false, true, false, false, false, false, false, true, true, true, true, false, false, true, false, false] rfl rfl (any_of HT_.out (by kernel_rfl)) (fun _ _ _ h => h) (Or.inl ⟨by rfl, ?_⟩) ?_ ?_
                  rotate_left
                  ·intro w'
                   go_simp
                   with_reducible rfl
                  rotate_left
                  ·simp only [zp0, zp1, zp2, zp3, zp4, i64_w, i32_w]
                   rfl
                  refine take_ (i := 5) (N := some 56) (v := ?_) (a' := ?_) #[true, true, true, true, true, true, false, true, false, false, false, false, false, true, true, true, true, false, false, true, false, false] rfl rfl (take_ofW HT_.out HW_.out (by kernel_rfl)) (fun _ _ _ h => h) (Or.inl ⟨by rfl, ?_⟩) hHeld ?_ ?_
                  rotate_left
                  ·intro w' _
                   go_simp
                   with_reducible rfl
                  rotate_left
                  ·simp only [zp0, zp1, zp2, zp3, zp4, i64_w, i32_w]
                   rfl
                  refine pure_ (i := 6) (N := some 57) (v := ?_) (a' := ?_) #[true, true, true, true, true, true, true, true, false, false, false, false, false, true, true, true, true, false, false, true, false, false] rfl rfl (any_of HT_.out (by kernel_rfl)) (fun _ _ _ h => h) (Or.inl ⟨by rfl, ?_⟩) ?_ ?_
                  rotate_left
                  ·intro w'
                   go_simp
                   with_reducible rfl
                  rotate_left
                  ·simp only [zp0, zp1, zp2, zp3, zp4, i64_w, i32_w]
                   rfl
                  refine pure_ (i := 8) (N := some 59) (v := ?_) (a' := ?_) #[true, true, true, true, true, true, true, true, true, false, false, false, false, true, true, true, true, false, false, true, false, false] rfl rfl (any_of HT_.out (by kernel_rfl)) (fun _ _ _ h => h) (Or.inl ⟨by rfl, ?_⟩) ?_ ?_
                  rotate_left
                  ·intro w'
                   go_simp
                   with_reducible rfl
                  rotate_left
                  ·simp only [zp0, zp1, zp2, zp3, zp4, i64_w, i32_w]
                   rfl
                  refine pure_ (i := 9) (N := some 60) (v := ?_) (a' := ?_) #[true, true, true, true, true, true, true, true, true, true, false, false, false, true, true, true, true, false, false, true, false, false] rfl rfl (any_of HT_.out (by kernel_rfl)) (fun _ _ _ h => h) (Or.inl ⟨by rfl, ?_⟩) ?_ ?_
                  rotate_left
                  ·intro w'
                   go_simp
                   with_reducible rfl
                  rotate_left
                  ·simp only [zp0, zp1, zp2, zp3, zp4, i64_w, i32_w]
                   rfl
                  refine one_ (i := 10) (N := some 61) #[true, true, true, true, true, true, true, true, true, true, true, false, false, true, true, true, true, false, false, true, false, false] rfl rfl (one_of HT_.out (by kernel_rfl)) (by decide) (fun K hK => ?_)
                  refine Kd.R_lit_step (Kd.int .u8) _ 5 ?hg (N := 61) ?hd (xs := ([(wrap64 ((wrap64 (bt t248 (ji19))) + (wrap64 (rd l1 0)))) % 256] : List Int)) (inner := [.int .u8 ((wrap64 ((wrap64 (bt t248 (ji19))) + (wrap64 (rd l1 0)))) % 256)]) (ok := fun _ => True) (okp := fun _ => True) ?hr ?hp (fun _ hk => hk) trivial (Below.refl _ _) (Nat.le_refl _) (by simp) ?_; (case hd => rfl); (case hg => rfl); (case hr => first | (go_simp; done) | (go_simp; rfl)); (case hp => exact (Reps.one (show Kd.M (Kd.int .u8) _ _ _ ((wrap64 ((wrap64 (bt t248 (ji19))) + (wrap64 (rd l1 0)))) % 256) [.int .u8 ((wrap64 ((wrap64 (bt t248 (ji19))) + (wrap64 (rd l1 0)))) % 256)] from rfl) (Reps.none _ _)))
                  intro v255 w31 ho32 hb hg_ hnew_
                  clear hg_ hnew_
                  (first | rw [← Ny254.out] at ho32 | (simp only [Int.reduceToNat] at ho32; rw [← Ny254.out] at ho32))
                  have n0_ := Aside0.mk (Kd.R_lower ho32 (below_size (by exact zB HB.out)))
                  have n1_ := Aside0.mk (below_step (by exact zB HB.out) hb)
                  clear HB
                  have HO256 := n0_
                  have HB := n1_
                  clear n0_ n1_
                  clear hb ho32
                  refine hK.out _ _ trivial (fun hHeld => ?_)
                  clear hK K
                  refine norm_ (a' := ?_) ?_ ?_
                  rotate_left
                  ·show Act.put _ (some 61) _ = _
                   simp only [zp0, zp1, zp2, zp3, zp4, i64_w, i32_w]
                   rfl
                  refine one_ (i := 11) (N := some 62) #[true, true, true, true, true, true, true, true, true, true, true, true, false, true, true, true, true, false, false, true, false, false] rfl rfl (one_of HT_.out (by kernel_rfl)) (by decide) (fun K hK => ?_)
                  have hcv33 := own_string (P := Try.prog) Try.underlying22 Try.underlying5 Try.underlying9 (Kd.own_of_R HO256.out)
                  refine value_ (w1 := ?_) (v := ?_) (by rfl) rfl ?_ ?_
                  rotate_left 2
                  ·go_simp
                   constructor
                   ·rfl
                   ·rfl
                  clear hcv33
                  refine hK.out _ _ trivial (fun hHeld => ?_)
                  clear hK K
                  refine norm_ (a' := ?_) ?_ ?_
                  rotate_left
                  ·show Act.put _ (some 62) _ = _
                   simp only [zp0, zp1, zp2, zp3, zp4, i64_w, i32_w]
                   rfl
                  refine pure_ (i := 12) (N := some 63) (v := ?_) (a' := ?_) #[true, true, true, true, true, true, true, true, true, true, true, true, true, true, true, true, true, false, false, true, false, false] rfl rfl (any_of HT_.out (by kernel_rfl)) (fun _ _ _ h => h) (Or.inl ⟨by rfl, ?_⟩) ?_ ?_
                  rotate_left
                  ·intro w'
                   go_simp
                   with_reducible rfl
                  rotate_left
                  ·simp only [zp0, zp1, zp2, zp3, zp4, i64_w, i32_w]
                   rfl
                  refine pure_ (i := 17) (N := some 68) (v := ?_) (a' := ?_) #[true, true, true, true, true, true, true, true, true, true, true, true, true, true, true, true, true, true, false, true, false, false] rfl rfl (any_of HT_.out (by kernel_rfl)) (fun _ _ _ h => h) (Or.inl ⟨by rfl, ?_⟩) ?_ ?_
                  rotate_left
                  ·intro w'
                   go_simp
                   with_reducible rfl
                  rotate_left
                  ·simp only [zp0, zp1, zp2, zp3, zp4, i64_w, i32_w]
                   rfl
                  refine one_ (i := 18) (N := some 69) #[true, true, true, true, true, true, true, true, true, true, true, true, true, true, true, true, true, true, true, true, false, false] rfl rfl (one_of HT_.out (by kernel_rfl)) (by decide) (fun K hK => ?_)
                  refine goes_ Try.func30 (by kernel_rfl) rfl #[.string (((t248.extract 0 ((ji19) : Int).toNat) ++ (strOfNums y254)) ++ (t248.extract ((ji25) : Int).toNat t248.size))] (by rfl) rfl rfl (by (try simp only [zm1, zm2, zm3]); first | done | (simp only [hji19, hji25]; rfl) | rfl | (simp only [List.length_drop, List.length_take]; rfl)) ?_
                  with_reducible refine (impl_SumOf.calls kj7 (((t248.extract 0 ((ji19) : Int).toNat) ++ (strOfNums y254)) ++ (t248.extract ((ji25) : Int).toNat t248.size)) t257 _ A29.out).mono ?_
                  rintro e w34 ⟨rfl, hb⟩
                  refine ⟨_, rfl, ?_⟩
                  have n0_ := Aside0.mk (Kd.R_below (by exact zR HO256.out) hb)
                  have n1_ := Aside0.mk (below_step (by exact zB HB.out) hb)
                  clear HO256
                  clear HB
                  have HO256 := n0_
                  have HB := n1_
                  clear n0_ n1_
                  (try clear hb)
                  (try clear hb2)
                  (try clear hk)
                  (try clear hi)
                  refine hK.out _ _ trivial (fun hHeld => ?_)
                  clear hK K
                  refine norm_ (a' := ?_) ?_ ?_
                  rotate_left
                  ·show Act.put _ (some 69) _ = _
                   simp only [zp0, zp1, zp2, zp3, zp4, i64_w, i32_w]
                   rfl
                  refine pure_ (i := 20) (N := some 71) (v := ?_) (a' := ?_) #[true, true, true, true, true, true, true, true, true, true, true, true, true, true, true, true, true, true, true, true, true, false] rfl rfl (any_of HT_.out (by kernel_rfl)) (fun _ _ _ h => h) (Or.inl ⟨by rfl, ?_⟩) ?_ ?_
                  rotate_left
                  ·intro w'
                   go_simp
                   with_reducible rfl
                  rotate_left
                  ·simp only [zp0, zp1, zp2, zp3, zp4, i64_w, i32_w]
                   rfl
                  refine pure_ (i := 21) (N := some 4) (v := ?_) (a' := ?_) #[true, true, true, true, true, true, true, true, true, true, true, true, true, true, true, true, true, true, true, true, true, true] rfl rfl (any_of HT_.out (by kernel_rfl)) (fun _ _ _ h => h) (Or.inl ⟨by rfl, ?_⟩) ?_ ?_
                  rotate_left
                  ·intro w'
                   go_simp
                   with_reducible rfl
                  rotate_left
                  ·simp only [zp0, zp1, zp2, zp3, zp4, i64_w, i32_w]
                   rfl
                  refine done_ (done_of HT_.out (by kernel_rfl)) ?_
                  try go_wp2
                  go_ret
                  exact ⟨by first | rfl | (simp [errW_none, errW_some] <;> rfl) | (simp only [← hji19, ← hji25]; first | rfl | (simp [errW_none, errW_some] <;> rfl)) | (simp [*, errW_none, errW_some] <;> rfl), by exact zB HB.out⟩
                 ·rw [if_neg c28] at H
                  exact absurd H (by simp)
                ·rw [if_neg c27] at H
                 exact absurd H (by simp)
               ·rw [if_neg c26] at H
                exact absurd H (by simp)
              ·rw [if_neg c24] at H
               exact absurd H (by simp)
             ·rw [if_neg c22] at H
              exact absurd H (by simp)
            ·rw [if_neg c21] at H
             exact absurd H (by simp)
           ·rw [if_neg c20] at H
            exact absurd H (by simp)
          ·rw [if_neg c18] at H
           have c18b0 : decide (0 < (rd l1 0)) = false := decide_eq_false c18
           clear c18
           obtain ⟨ji35, hji35⟩ : ∃ j_ : Int, ((l1.length : Int) % (t248.size : Int)) = j_ := ⟨_, rfl⟩
           replace H : (if 0 ≤ (ji35) then (if (ji35) ≤ (t248.size : Int) then (if (ji35) < (t248.size : Int) then ((some (([(wrap64 ((wrap64 (bt t248 (ji35))) + 1)) % 256] : List Int) : List Int)).bind fun y258 => (if (t248.extract 0 ((ji35) : Int).toNat).size + (strOfNums y258).size ≤ 9223372036854775807 then (if 0 ≤ (wrap64 ((ji35) + 1)) then (if (wrap64 ((ji35) + 1)) ≤ (t248.size : Int) then (if ((t248.extract 0 ((ji35) : Int).toNat) ++ (strOfNums y258)).size + (t248.extract ((wrap64 ((ji35) + 1)) : Int).toNat t248.size).size ≤ 9223372036854775807 then ((impl_SumOf.f kj7 (((t248.extract 0 ((ji35) : Int).toNat) ++ (strOfNums y258)) ++ (t248.extract ((wrap64 ((ji35) + 1)) : Int).toNat t248.size))).bind fun t261 => (some (t261 != t249))) else (none)) else (none)) else (none)) else (none))) else (none)) else (none)) else (none)) = some r := by first | (rw [hji35] at H; exact H) | (simp only [hji35] at H ⊢; exact H)
           by_cases c36 : 0 ≤ (ji35)
           ·rw [if_pos c36] at H
            have c36b0 := eq_true c36
            have c36b1 : decide (0 ≤ (ji35)) = true := decide_eq_true c36
            clear c36
            by_cases c37 : (ji35) ≤ (t248.size : Int)
            ·rw [if_pos c37] at H
             have c37b0 := eq_true c37
             have c37b1 : decide ((ji35) ≤ (t248.size : Int)) = true := decide_eq_true c37
             clear c37
             by_cases c38 : (ji35) < (t248.size : Int)
             ·rw [if_pos c38] at H
              have c38b0 : decide ((ji35) < (t248.size : Int)) = true := decide_eq_true c38
              clear c38
              obtain ⟨y258, hy258⟩ : ∃ y_ : List Int, y_ = (([(wrap64 ((wrap64 (bt t248 (ji35))) + 1)) % 256] : List Int)) := ⟨_, rfl⟩
              replace H : (if (t248.extract 0 ((ji35) : Int).toNat).size + (strOfNums y258).size ≤ 9223372036854775807 then (if 0 ≤ (wrap64 ((ji35) + 1)) then (if (wrap64 ((ji35) + 1)) ≤ (t248.size : Int) then (if ((t248.extract 0 ((ji35) : Int).toNat) ++ (strOfNums y258)).size + (t248.extract ((wrap64 ((ji35) + 1)) : Int).toNat t248.size).size ≤ 9223372036854775807 then ((impl_SumOf.f kj7 (((t248.extract 0 ((ji35) : Int).toNat) ++ (strOfNums y258)) ++ (t248.extract ((wrap64 ((ji35) + 1)) : Int).toNat t248.size))).bind fun t261 => (some (t261 != t249))) else (none)) else (none)) else (none)) else (none)) = some r := by first | (rw [hy258]; with_reducible exact H) | (have H2_ := (Option.bind_some _ _).symm.trans H; rw [hy258]; with_reducible exact H2_) | (have H2_ := (Option.bind_some _ _).symm.trans H; with_reducible exact H2_) | with_reducible exact H | (rw [hy258]; exact H) | exact H
              have Ny258 := Aside0.mk hy258
              clear hy258
              by_cases c40 : (t248.extract 0 ((ji35) : Int).toNat).size + (strOfNums y258).size ≤ 9223372036854775807
              ·rw [if_pos c40] at H
               have c40b0 := eq_true c40
               have c40b1 : decide ((t248.extract 0 ((ji35) : Int).toNat).size + (strOfNums y258).size ≤ 9223372036854775807) = true := decide_eq_true c40
               try have c40b2 : (9223372036854775807 < (t248.extract 0 ((ji35) : Int).toNat).size + (strOfNums y258).size) = False := eq_false (Nat.not_lt.2 c40)
               have c40b8 : (9223372036854775807 < ji35.toNat + (strOfNums y258).size) = False := eq_false (by have h_ := c40; simp only [ByteArray.size_append, ByteArray.size_extract, Nat.sub_zero, Nat.min_self] at h_; have f0_ := of_decide_eq_true ‹decide (ji35 ≤ (t248.size : Int)) = true›; omega)
               obtain ⟨ji41, hji41⟩ : ∃ j_ : Int, (wrap64 ((ji35) + 1)) = j_ := ⟨_, rfl⟩
               replace H : (if 0 ≤ (ji41) then (if (ji41) ≤ (t248.size : Int) then (if ((t248.extract 0 ((ji35) : Int).toNat) ++ (strOfNums y258)).size + (t248.extract ((ji41) : Int).toNat t248.size).size ≤ 9223372036854775807 then ((impl_SumOf.f kj7 (((t248.extract 0 ((ji35) : Int).toNat) ++ (strOfNums y258)) ++ (t248.extract ((ji41) : Int).toNat t248.size))).bind fun t261 => (some (t261 != t249))) else (none)) else (none)) else (none)) = some r := by first | (rw [hji41] at H; exact H) | (simp only [hji41] at H ⊢; exact H)
               have hji41w : (IntKind.i64.wrap ((ji35) + 1)) = ji41 := (i64_w _).trans hji41
               by_cases c42 : 0 ≤ (ji41)
               ·rw [if_pos c42] at H
                have c42b0 := eq_true c42
                have c42b1 : decide (0 ≤ (ji41)) = true := decide_eq_true c42
                clear c42
                by_cases c43 : (ji41) ≤ (t248.size : Int)
                ·rw [if_pos c43] at H
                 have c43b0 := eq_true c43
                 have c43b1 : decide ((ji41) ≤ (t248.size : Int)) = true := decide_eq_true c43
                 clear c43
                 by_cases c44 : ((t248.extract 0 ((ji35) : Int).toNat) ++ (strOfNums y258)).size + (t248.extract ((ji41) : Int).toNat t248.size).size ≤ 9223372036854775807
                 ·rw [if_pos c44] at H
                  have c44b0 := eq_true c44
                  have c44b1 : decide (((t248.extract 0 ((ji35) : Int).toNat) ++ (strOfNums y258)).size + (t248.extract ((ji41) : Int).toNat t248.size).size ≤ 9223372036854775807) = true := decide_eq_true c44
                  try have c44b2 : (9223372036854775807 < ((t248.extract 0 ((ji35) : Int).toNat) ++ (strOfNums y258)).size + (t248.extract ((ji41) : Int).toNat t248.size).size) = False := eq_false (Nat.not_lt.2 c44)
                  have c44b8 : (9223372036854775807 < ji35.toNat + (strOfNums y258).size + (t248.size - ji41.toNat)) = False := eq_false (by have h_ := c44; simp only [ByteArray.size_append, ByteArray.size_extract, Nat.sub_zero, Nat.min_self] at h_; have f0_ := of_decide_eq_true ‹decide (ji35 ≤ (t248.size : Int)) = true›; omega)
                  replace H := Option.bind_eq_some_iff.mp H
                  obtain ⟨t261, A450, H⟩ := H
                  replace H : (some (t261 != t249)) = some r := H
                  have A45 := Aside0.mk A450
                  clear A450
                  obtain rfl := Option.some.inj H
                  have p252 : 0 ≤ (0 : Int) := (by omega)
                  have q252 : 0 < (l1.length : Int) := of_decide_eq_true (by first | (with_reducible assumption) | assumption)
                  obtain ⟨ad252, e252, hx252_0⟩ := Kd.at_int HR1.out 0 p252 q252
                  cases e252
                  have qi252 : (0 < l1.length) = True := eq_true (by omega)
                  (try rw [show ((0 : Int)).toNat = 0 from rfl] at hx252_0)
                  (try rw [Addr.add_zero'] at hx252_0)
                  replace hx252_0 := (HB.out.cell (World.block_lt_of_cell? w _ hx252_0)).trans hx252_0
                  replace p252 := eq_true p252
                  replace q252 := eq_true q252
                  try go_wp2
                  have n0_ := Aside0.mk (below_drew1 HB.out)
                  clear HB
                  have HB := n0_
                  clear n0_
                  have p39 : 0 ≤ ((ji35) : Int) := of_decide_eq_true (by first | (with_reducible assumption) | assumption)
                  have q39 : (ji35) < (t248.size : Int) := of_decide_eq_true (by first | (with_reducible assumption) | assumption)
                  have hx39 := bt_at t248 (ji35)
                  replace p39 := eq_true p39
                  replace q39 := eq_true q39
                  refine start_ (n := 22) (S := fun w' => True) (ds := []) #[false, false, false, false, false, false, false, false, false, false, false, false, false, false, false, false, false, false, false, false, false, false] (by kernel_rfl) rfl rfl trivial (fun hHeld => ?_); refine with_tabW laws_FnSumByte.tab11 laws_FnSumByte.bits11 (fun HT_ HW_ => ?_)
                  generalize wc.drew = w46 at HB hHeld ⊢
                  refine pure_ (i := 0) (N := some 51) (v := ?_) (a' := ?_) #[true, false, false, false, false, false, false, false, false, false, false, false, false, false, false, false, false, false, false, false, false, false] rfl rfl (any_of HT_.out (by kernel_rfl)) (fun _ _ _ h => h) (Or.inl ⟨by rfl, ?_⟩) ?_ ?_
                  rotate_left
                  ·intro w'
                   go_simp
                   with_reducible rfl
                  rotate_left
                  ·simp only [zp0, zp1, zp2, zp3, zp4, i64_w, i32_w]
                   rfl
                  refine pure_ (i := 1) (N := some 52) (v := ?_) (a' := ?_) #[true, true, false, false, false, false, false, false, false, false, false, false, false, false, false, false, false, false, false, false, false, false] rfl rfl (any_of HT_.out (by kernel_rfl)) (fun _ _ _ h => h) (Or.inl ⟨by rfl, ?_⟩) ?_ ?_
                  rotate_left
                  ·intro w'
                   go_simp
                   with_reducible rfl
                  rotate_left
                  ·simp only [zp0, zp1, zp2, zp3, zp4, i64_w, i32_w]
                   rfl
                  refine pure_ (i := 2) (N := some 53) (v := ?_) (a' := ?_) #[true, true, true, false, false, false, false, false, false, false, false, false, false, false, false, false, false, false, false, false, false, false] rfl rfl (any_of HT_.out (by kernel_rfl)) (fun _ _ _ h => h) (Or.inl ⟨by rfl, ?_⟩) ?_ ?_
                  rotate_left
                  ·intro w'
                   go_simp
                   with_reducible rfl
                  rotate_left
                  ·simp only [zp0, zp1, zp2, zp3, zp4, i64_w, i32_w]
                   rfl
                  refine pure_ (i := 3) (N := some 54) (v := ?_) (a' := ?_) #[true, true, true, true, false, false, false, false, false, false, false, false, false, false, false, false, false, false, false, false, false, false] rfl rfl (any_of HT_.out (by kernel_rfl)) (fun _ _ _ h => h) (Or.inl ⟨by rfl, ?_⟩) ?_ ?_
                  rotate_left
                  ·intro w'
                   go_simp
                   with_reducible rfl
                  rotate_left
                  ·simp only [zp0, zp1, zp2, zp3, zp4, i64_w, i32_w]
                   rfl
                  refine pure_ (i := 4) (N := some 55) (v := ?_) (a' := ?_) #[true, true, true, true, true, false, false, false, false, false, false, false, false, false, false, false, false, false, false, false, false, false] rfl rfl (any_of HT_.out (by kernel_rfl)) (fun _ _ _ h => h) (Or.inl ⟨by rfl, ?_⟩) ?_ ?_
                  rotate_left
                  ·intro w'
                   go_simp
                   with_reducible rfl
                  rotate_left
                  ·simp only [zp0, zp1, zp2, zp3, zp4, i64_w, i32_w]
                   rfl
                  refine pure_ (i := 7) (N := some 58) (v := ?_) (a' := ?_) #[true, true, true, true, true, false, false, true, false, false, false, false, false, false, false, false, false, false, false, false, false, false] rfl rfl (any_of HT_.out (by kernel_rfl)) (fun _ _ _ h => h) (Or.inl ⟨by rfl, ?_⟩) ?_ ?_
                  rotate_left
                  ·intro w'
                   go_simp
                   with_reducible rfl
                  rotate_left
                  ·simp only [zp0, zp1, zp2, zp3, zp4, i64_w, i32_w]
                   rfl
                  refine pure_ (i := 13) (N := some 64) (v := ?_) (a' := ?_) #[true, true, true, true, true, false, false, true, false, false, false, false, false, true, false, false, false, false, false, false, false, false] rfl rfl (any_of HT_.out (by kernel_rfl)) (fun _ _ _ h => h) (Or.inl ⟨by rfl, ?_⟩) ?_ ?_
                  rotate_left
                  ·intro w'
                   go_simp
                   with_reducible rfl
                  rotate_left
                  ·simp only [zp0, zp1, zp2, zp3, zp4, i64_w, i32_w]
                   rfl
                  refine pure_ (i := 14) (N := some 65) (v := ?_) (a' := ?_) #[true, true, true, true, true, false, false, true, false, false, false, false, false, true, true, false, false, false, false, false, false, false] rfl rfl (any_of HT_.out (by kernel_rfl)) (fun _ _ _ h => h) (Or.inl ⟨by rfl, ?_⟩) ?_ ?_
                  rotate_left
                  ·intro w'
                   go_simp
                   with_reducible rfl
                  rotate_left
                  ·simp only [zp0, zp1, zp2, zp3, zp4, i64_w, i32_w]
                   rfl
                  refine pure_ (i := 15) (N := some 66) (v := ?_) (a' := ?_) #[true, true, true, true, true, false, false, true, false, false, false, false, false, true, true, true, false, false, false, false, false, false] rfl rfl (any_of HT_.out (by kernel_rfl)) (fun _ _ _ h => h) (Or.inl ⟨by rfl, ?_⟩) ?_ ?_
                  rotate_left
                  ·intro w'
                   go_simp
                   with_reducible rfl
                  rotate_left
                  ·simp only [zp0, zp1, zp2, zp3, zp4, i64_w, i32_w]
                   rfl
                  refine pure_ (i := 16) (N := some 67) (v := ?_) (a' := ?_) #[true, true, true, true, true, false, false, true, false, false, false, false, false, true, true, true, true, false, false, false, false, false] rfl rfl (any_of HT_.out (by kernel_rfl)) (fun _ _ _ h => h) (Or.inl ⟨by rfl, ?_⟩) ?_ ?_
                  rotate_left
                  ·intro w'
                   go_simp
                   with_reducible rfl
                  rotate_left
                  ·simp only [zp0, zp1, zp2, zp3, zp4, i64_w, i32_w]
                   rfl
                  refine pure_ (i := 19) (N := some 70) (v := ?_) (a' := ?_) #[true, true, true, true, true, false, false, true, false, false, false, false, false, true, true, true, true, false, false, true, false, false] rfl rfl (any_of HT_.out (by kernel_rfl)) (fun _ _ _ h => h) (Or.inl ⟨by rfl, ?_⟩) ?_ ?_
                  rotate_left
                  ·intro w'
                   go_simp
                   with_reducible rfl
                  rotate_left
                  ·simp only [zp0, zp1, zp2, zp3, zp4, i64_w, i32_w]
                   rfl
                  refine take_ (i := 5) (N := some 56) (v := ?_) (a' := ?_) #[true, true, true, true, true, true, false, true, false, false, false, false, false, true, true, true, true, false, false, true, false, false] rfl rfl (take_ofW HT_.out HW_.out (by kernel_rfl)) (fun _ _ _ h => h) (Or.inl ⟨by rfl, ?_⟩) hHeld ?_ ?_
                  rotate_left
                  ·intro w' _
                   go_simp
                   with_reducible rfl
                  rotate_left
                  ·simp only [zp0, zp1, zp2, zp3, zp4, i64_w, i32_w]
                   rfl
                  refine pure_ (i := 6) (N := some 57) (v := ?_) (a' := ?_) #[true, true, true, true, true, true, true, true, false, false, false, false, false, true, true, true, true, false, false, true, false, false] rfl rfl (any_of HT_.out (by kernel_rfl)) (fun _ _ _ h => h) (Or.inl ⟨by rfl, ?_⟩) ?_ ?_
                  rotate_left
                  ·intro w'
                   go_simp
                   with_reducible rfl
                  rotate_left
                  ·simp only [zp0, zp1, zp2, zp3, zp4, i64_w, i32_w]
                   rfl
                  refine pure_ (i := 8) (N := some 59) (v := ?_) (a' := ?_) #[true, true, true, true, true, true, true, true, true, false, false, false, false, true, true, true, true, false, false, true, false, false] rfl rfl (any_of HT_.out (by kernel_rfl)) (fun _ _ _ h => h) (Or.inl ⟨by rfl, ?_⟩) ?_ ?_
                  rotate_left
                  ·intro w'
                   go_simp
                   with_reducible rfl
                  rotate_left
                  ·simp only [zp0, zp1, zp2, zp3, zp4, i64_w, i32_w]
                   rfl
                  refine pure_ (i := 9) (N := some 60) (v := ?_) (a' := ?_) #[true, true, true, true, true, true, true, true, true, true, false, false, false, true, true, true, true, false, false, true, false, false] rfl rfl (any_of HT_.out (by kernel_rfl)) (fun _ _ _ h => h) (Or.inl ⟨by rfl, ?_⟩) ?_ ?_
                  rotate_left
                  ·intro w'
                   go_simp
                   with_reducible rfl
                  rotate_left
                  ·simp only [zp0, zp1, zp2, zp3, zp4, i64_w, i32_w]
                   rfl
                  refine one_ (i := 10) (N := some 61) #[true, true, true, true, true, true, true, true, true, true, true, false, false, true, true, true, true, false, false, true, false, false] rfl rfl (one_of HT_.out (by kernel_rfl)) (by decide) (fun K hK => ?_)
                  refine Kd.R_lit_step (Kd.int .u8) _ 5 ?hg (N := 61) ?hd (xs := ([(wrap64 ((wrap64 (bt t248 (ji35))) + 1)) % 256] : List Int)) (inner := [.int .u8 ((wrap64 ((wrap64 (bt t248 (ji35))) + 1)) % 256)]) (ok := fun _ => True) (okp := fun _ => True) ?hr ?hp (fun _ hk => hk) trivial (Below.refl _ _) (Nat.le_refl _) (by simp) ?_; (case hd => rfl); (case hg => rfl); (case hr => first | (go_simp; done) | (go_simp; rfl)); (case hp => exact (Reps.one (show Kd.M (Kd.int .u8) _ _ _ ((wrap64 ((wrap64 (bt t248 (ji35))) + 1)) % 256) [.int .u8 ((wrap64 ((wrap64 (bt t248 (ji35))) + 1)) % 256)] from rfl) (Reps.none _ _)))
                  intro v259 w47 ho48 hb hg_ hnew_
                  clear hg_ hnew_
                  (first | rw [← Ny258.out] at ho48 | (simp only [Int.reduceToNat] at ho48; rw [← Ny258.out] at ho48))
                  have n0_ := Aside0.mk (Kd.R_lower ho48 (below_size (by exact zB HB.out)))
                  have n1_ := Aside0.mk (below_step (by exact zB HB.out) hb)
                  clear HB
                  have HO260 := n0_
                  have HB := n1_
                  clear n0_ n1_
                  clear hb ho48
                  refine hK.out _ _ trivial (fun hHeld => ?_)
                  clear hK K
                  refine norm_ (a' := ?_) ?_ ?_
                  rotate_left
                  ·show Act.put _ (some 61) _ = _
                   simp only [zp0, zp1, zp2, zp3, zp4, i64_w, i32_w]
                   rfl
                  refine one_ (i := 11) (N := some 62) #[true, true, true, true, true, true, true, true, true, true, true, true, false, true, true, true, true, false, false, true, false, false] rfl rfl (one_of HT_.out (by kernel_rfl)) (by decide) (fun K hK => ?_)
                  have hcv49 := own_string (P := Try.prog) Try.underlying22 Try.underlying5 Try.underlying9 (Kd.own_of_R HO260.out)
                  refine value_ (w1 := ?_) (v := ?_) (by rfl) rfl ?_ ?_
                  rotate_left 2
                  ·go_simp
                   constructor
                   ·rfl
                   ·rfl
                  clear hcv49
                  refine hK.out _ _ trivial (fun hHeld => ?_)
                  clear hK K
                  refine norm_ (a' := ?_) ?_ ?_
                  rotate_left
                  ·show Act.put _ (some 62) _ = _
                   simp only [zp0, zp1, zp2, zp3, zp4, i64_w, i32_w]
                   rfl
                  refine pure_ (i := 12) (N := some 63) (v := ?_) (a' := ?_) #[true, true, true, true, true, true, true, true, true, true, true, true, true, true, true, true, true, false, false, true, false, false] rfl rfl (any_of HT_.out (by kernel_rfl)) (fun _ _ _ h => h) (Or.inl ⟨by rfl, ?_⟩) ?_ ?_
                  rotate_left
                  ·intro w'
                   go_simp
                   with_reducible rfl
                  rotate_left
                  ·simp only [zp0, zp1, zp2, zp3, zp4, i64_w, i32_w]
                   rfl
                  refine pure_ (i := 17) (N := some 68) (v := ?_) (a' := ?_) #[true, true, true, true, true, true, true, true, true, true, true, true, true, true, true, true, true, true, false, true, false, false] rfl rfl (any_of HT_.out (by kernel_rfl)) (fun _ _ _ h => h) (Or.inl ⟨by rfl, ?_⟩) ?_ ?_
                  rotate_left
                  ·intro w'
                   go_simp
                   with_reducible rfl
                  rotate_left
                  ·simp only [zp0, zp1, zp2, zp3, zp4, i64_w, i32_w]
                   rfl
                  refine one_ (i := 18) (N := some 69) #[true, true, true, true, true, true, true, true, true, true, true, true, true, true, true, true, true, true, true, true, false, false] rfl rfl (one_of HT_.out (by kernel_rfl)) (by decide) (fun K hK => ?_)
                  refine goes_ Try.func30 (by kernel_rfl) rfl #[.string (((t248.extract 0 ((ji35) : Int).toNat) ++ (strOfNums y258)) ++ (t248.extract ((ji41) : Int).toNat t248.size))] (by rfl) rfl rfl (by (try simp only [zm1, zm2, zm3]); first | done | (simp only [hji35, hji41]; rfl) | rfl | (simp only [List.length_drop, List.length_take]; rfl)) ?_
                  with_reducible refine (impl_SumOf.calls kj7 (((t248.extract 0 ((ji35) : Int).toNat) ++ (strOfNums y258)) ++ (t248.extract ((ji41) : Int).toNat t248.size)) t261 _ A45.out).mono ?_
                  rintro e w50 ⟨rfl, hb⟩
                  refine ⟨_, rfl, ?_⟩
                  have n0_ := Aside0.mk (Kd.R_below (by exact zR HO260.out) hb)
                  have n1_ := Aside0.mk (below_step (by exact zB HB.out) hb)
                  clear HO260
                  clear HB
                  have HO260 := n0_
                  have HB := n1_
                  clear n0_ n1_
                  (try clear hb)
                  (try clear hb2)
                  (try clear hk)
                  (try clear hi)
                  refine hK.out _ _ trivial (fun hHeld => ?_)
                  clear hK K
                  refine norm_ (a' := ?_) ?_ ?_
                  rotate_left
                  ·show Act.put _ (some 69) _ = _
                   simp only [zp0, zp1, zp2, zp3, zp4, i64_w, i32_w]
                   rfl
                  refine pure_ (i := 20) (N := some 71) (v := ?_) (a' := ?_) #[true, true, true, true, true, true, true, true, true, true, true, true, true, true, true, true, true, true, true, true, true, false] rfl rfl (any_of HT_.out (by kernel_rfl)) (fun _ _ _ h => h) (Or.inl ⟨by rfl, ?_⟩) ?_ ?_
                  rotate_left
                  ·intro w'
                   go_simp
                   with_reducible rfl
                  rotate_left
                  ·simp only [zp0, zp1, zp2, zp3, zp4, i64_w, i32_w]
                   rfl
                  refine pure_ (i := 21) (N := some 4) (v := ?_) (a' := ?_) #[true, true, true, true, true, true, true, true, true, true, true, true, true, true, true, true, true, true, true, true, true, true] rfl rfl (any_of HT_.out (by kernel_rfl)) (fun _ _ _ h => h) (Or.inl ⟨by rfl, ?_⟩) ?_ ?_
                  rotate_left
                  ·intro w'
                   go_simp
                   with_reducible rfl
                  rotate_left
                  ·simp only [zp0, zp1, zp2, zp3, zp4, i64_w, i32_w]
                   rfl
                  refine done_ (done_of HT_.out (by kernel_rfl)) ?_
                  try go_wp2
                  go_ret
                  exact ⟨by first | rfl | (simp [errW_none, errW_some] <;> rfl) | (simp only [← hji35, ← hji41]; first | rfl | (simp [errW_none, errW_some] <;> rfl)) | (simp [*, errW_none, errW_some] <;> rfl), by exact zB HB.out⟩
                 ·rw [if_neg c44] at H
                  exact absurd H (by simp)
                ·rw [if_neg c43] at H
                 exact absurd H (by simp)
               ·rw [if_neg c42] at H
                exact absurd H (by simp)
              ·rw [if_neg c40] at H
               exact absurd H (by simp)
             ·rw [if_neg c38] at H
              exact absurd H (by simp)
            ·rw [if_neg c37] at H
             exact absurd H (by simp)
           ·rw [if_neg c36] at H
            exact absurd H (by simp)
         ·rw [if_neg c17] at H
          exact absurd H (by simp)
        ·rw [if_neg c16] at H
         have c16b0 : decide (0 < (l1.length : Int)) = false := decide_eq_false c16
         have c16b1 : decide (0 < l1.length) = false := decide_eq_false (by omega)
         clear c16
         obtain ⟨ji51, hji51⟩ : ∃ j_ : Int, ((l1.length : Int) % (t248.size : Int)) = j_ := ⟨_, rfl⟩
         replace H : (if 0 ≤ (ji51) then (if (ji51) ≤ (t248.size : Int) then (if (ji51) < (t248.size : Int) then ((some (([(wrap64 ((wrap64 (bt t248 (ji51))) + 1)) % 256] : List Int) : List Int)).bind fun y262 => (if (t248.extract 0 ((ji51) : Int).toNat).size + (strOfNums y262).size ≤ 9223372036854775807 then (if 0 ≤ (wrap64 ((ji51) + 1)) then (if (wrap64 ((ji51) + 1)) ≤ (t248.size : Int) then (if ((t248.extract 0 ((ji51) : Int).toNat) ++ (strOfNums y262)).size + (t248.extract ((wrap64 ((ji51) + 1)) : Int).toNat t248.size).size ≤ 9223372036854775807 then ((impl_SumOf.f kj7 (((t248.extract 0 ((ji51) : Int).toNat) ++ (strOfNums y262)) ++ (t248.extract ((wrap64 ((ji51) + 1)) : Int).toNat t248.size))).bind fun t265 => (some (t265 != t249))) else (none)) else (none)) else (none)) else (none))) else (none)) else (none)) else (none)) = some r := by first | (rw [hji51] at H; exact H) | (simp only [hji51] at H ⊢; exact H)
         by_cases c52 : 0 ≤ (ji51)
         ·rw [if_pos c52] at H
          have c52b0 := eq_true c52
          have c52b1 : decide (0 ≤ (ji51)) = true := decide_eq_true c52
          clear c52
          by_cases c53 : (ji51) ≤ (t248.size : Int)
          ·rw [if_pos c53] at H
           have c53b0 := eq_true c53
           have c53b1 : decide ((ji51) ≤ (t248.size : Int)) = true := decide_eq_true c53
           clear c53
           by_cases c54 : (ji51) < (t248.size : Int)
           ·rw [if_pos c54] at H
            have c54b0 : decide ((ji51) < (t248.size : Int)) = true := decide_eq_true c54
            clear c54
            obtain ⟨y262, hy262⟩ : ∃ y_ : List Int, y_ = (([(wrap64 ((wrap64 (bt t248 (ji51))) + 1)) % 256] : List Int)) := ⟨_, rfl⟩
            replace H : (if (t248.extract 0 ((ji51) : Int).toNat).size + (strOfNums y262).size ≤ 9223372036854775807 then (if 0 ≤ (wrap64 ((ji51) + 1)) then (if (wrap64 ((ji51) + 1)) ≤ (t248.size : Int) then (if ((t248.extract 0 ((ji51) : Int).toNat) ++ (strOfNums y262)).size + (t248.extract ((wrap64 ((ji51) + 1)) : Int).toNat t248.size).size ≤ 9223372036854775807 then ((impl_SumOf.f kj7 (((t248.extract 0 ((ji51) : Int).toNat) ++ (strOfNums y262)) ++ (t248.extract ((wrap64 ((ji51) + 1)) : Int).toNat t248.size))).bind fun t265 => (some (t265 != t249))) else (none)) else (none)) else (none)) else (none)) = some r := by first | (rw [hy262]; with_reducible exact H) | (have H2_ := (Option.bind_some _ _).symm.trans H; rw [hy262]; with_reducible exact H2_) | (have H2_ := (Option.bind_some _ _).symm.trans H; with_reducible exact H2_) | with_reducible exact H | (rw [hy262]; exact H) | exact H
            have Ny262 := Aside0.mk hy262
            clear hy262
            by_cases c56 : (t248.extract 0 ((ji51) : Int).toNat).size + (strOfNums y262).size ≤ 9223372036854775807
            ·rw [if_pos c56] at H
             have c56b0 := eq_true c56
             have c56b1 : decide ((t248.extract 0 ((ji51) : Int).toNat).size + (strOfNums y262).size ≤ 9223372036854775807) = true := decide_eq_true c56
             try have c56b2 : (9223372036854775807 < (t248.extract 0 ((ji51) : Int).toNat).size + (strOfNums y262).size) = False := eq_false (Nat.not_lt.2 c56)
             have c56b8 : (9223372036854775807 < ji51.toNat + (strOfNums y262).size) = False := eq_false (by have h_ := c56; simp only [ByteArray.size_append, ByteArray.size_extract, Nat.sub_zero, Nat.min_self] at h_; have f0_ := of_decide_eq_true ‹decide (ji51 ≤ (t248.size : Int)) = true›; omega)
             obtain ⟨ji57, hji57⟩ : ∃ j_ : Int, (wrap64 ((ji51) + 1)) = j_ := ⟨_, rfl⟩
             replace H : (if 0 ≤ (ji57) then (if (ji57) ≤ (t248.size : Int) then (if ((t248.extract 0 ((ji51) : Int).toNat) ++ (strOfNums y262)).size + (t248.extract ((ji57) : Int).toNat t248.size).size ≤ 9223372036854775807 then ((impl_SumOf.f kj7 (((t248.extract 0 ((ji51) : Int).toNat) ++ (strOfNums y262)) ++ (t248.extract ((ji57) : Int).toNat t248.size))).bind fun t265 => (some (t265 != t249))) else (none)) else (none)) else (none)) = some r := by first | (rw [hji57] at H; exact H) | (simp only [hji57] at H ⊢; exact H)
             have hji57w : (IntKind.i64.wrap ((ji51) + 1)) = ji57 := (i64_w _).trans hji57
             by_cases c58 : 0 ≤ (ji57)
             ·rw [if_pos c58] at H
              have c58b0 := eq_true c58
              have c58b1 : decide (0 ≤ (ji57)) = true := decide_eq_true c58
              clear c58
              by_cases c59 : (ji57) ≤ (t248.size : Int)
              ·rw [if_pos c59] at H
               have c59b0 := eq_true c59
               have c59b1 : decide ((ji57) ≤ (t248.size : Int)) = true := decide_eq_true c59
               clear c59
               by_cases c60 : ((t248.extract 0 ((ji51) : Int).toNat) ++ (strOfNums y262)).size + (t248.extract ((ji57) : Int).toNat t248.size).size ≤ 9223372036854775807
               ·rw [if_pos c60] at H
                have c60b0 := eq_true c60
                have c60b1 : decide (((t248.extract 0 ((ji51) : Int).toNat) ++ (strOfNums y262)).size + (t248.extract ((ji57) : Int).toNat t248.size).size ≤ 9223372036854775807) = true := decide_eq_true c60
                try have c60b2 : (9223372036854775807 < ((t248.extract 0 ((ji51) : Int).toNat) ++ (strOfNums y262)).size + (t248.extract ((ji57) : Int).toNat t248.size).size) = False := eq_false (Nat.not_lt.2 c60)
                have c60b8 : (9223372036854775807 < ji51.toNat + (strOfNums y262).size + (t248.size - ji57.toNat)) = False := eq_false (by have h_ := c60; simp only [ByteArray.size_append, ByteArray.size_extract, Nat.sub_zero, Nat.min_self] at h_; have f0_ := of_decide_eq_true ‹decide (ji51 ≤ (t248.size : Int)) = true›; omega)
                replace H := Option.bind_eq_some_iff.mp H
                obtain ⟨t265, A610, H⟩ := H
                replace H : (some (t265 != t249)) = some r := H
                have A61 := Aside0.mk A610
                clear A610
                obtain rfl := Option.some.inj H
                try go_wp2
                have n0_ := Aside0.mk (below_drew1 HB.out)
                clear HB
                have HB := n0_
                clear n0_
                have p55 : 0 ≤ ((ji51) : Int) := of_decide_eq_true (by first | (with_reducible assumption) | assumption)
                have q55 : (ji51) < (t248.size : Int) := of_decide_eq_true (by first | (with_reducible assumption) | assumption)
                have hx55 := bt_at t248 (ji51)
                replace p55 := eq_true p55
                replace q55 := eq_true q55
                refine start_ (n := 22) (S := fun w' => True) (ds := []) #[false, false, false, false, false, false, false, false, false, false, false, false, false, false, false, false, false, false, false, false, false, false] (by kernel_rfl) rfl rfl trivial (fun hHeld => ?_); refine with_tabW laws_FnSumByte.tab11 laws_FnSumByte.bits11 (fun HT_ HW_ => ?_)
                generalize wc.drew = w62 at HB hHeld ⊢
                refine pure_ (i := 0) (N := some 51) (v := ?_) (a' := ?_) #[true, false, false, false, false, false, false, false, false, false, false, false, false, false, false, false, false, false, false, false, false, false] rfl rfl (any_of HT_.out (by kernel_rfl)) (fun _ _ _ h => h) (Or.inl ⟨by rfl, ?_⟩) ?_ ?_
                rotate_left
                ·intro w'
                 go_simp
                 with_reducible rfl
                rotate_left
                ·simp only [zp0, zp1, zp2, zp3, zp4, i64_w, i32_w]
                 rfl
                refine pure_ (i := 1) (N := some 52) (v := ?_) (a' := ?_) #[true, true, false, false, false, false, false, false, false, false, false, false, false, false, false, false, false, false, false, false, false, false] rfl rfl (any_of HT_.out (by kernel_rfl)) (fun _ _ _ h => h) (Or.inl ⟨by rfl, ?_⟩) ?_ ?_
                rotate_left
                ·intro w'
                 go_simp
                 with_reducible rfl
                rotate_left
                ·simp only [zp0, zp1, zp2, zp3, zp4, i64_w, i32_w]
                 rfl
                refine pure_ (i := 2) (N := some 53) (v := ?_) (a' := ?_) #[true, true, true, false, false, false, false, false, false, false, false, false, false, false, false, false, false, false, false, false, false, false] rfl rfl (any_of HT_.out (by kernel_rfl)) (fun _ _ _ h => h) (Or.inl ⟨by rfl, ?_⟩) ?_ ?_
                rotate_left
                ·intro w'
                 go_simp
                 with_reducible rfl
                rotate_left
                ·simp only [zp0, zp1, zp2, zp3, zp4, i64_w, i32_w]
                 rfl
                refine pure_ (i := 3) (N := some 54) (v := ?_) (a' := ?_) #[true, true, true, true, false, false, false, false, false, false, false, false, false, false, false, false, false, false, false, false, false, false] rfl rfl (any_of HT_.out (by kernel_rfl)) (fun _ _ _ h => h) (Or.inl ⟨by rfl, ?_⟩) ?_ ?_
                rotate_left
                ·intro w'
                 go_simp
                 with_reducible rfl
                rotate_left
                ·simp only [zp0, zp1, zp2, zp3, zp4, i64_w, i32_w]
                 rfl
                refine pure_ (i := 4) (N := some 55) (v := ?_) (a' := ?_) #[true, true, true, true, true, false, false, false, false, false, false, false, false, false, false, false, false, false, false, false, false, false] rfl rfl (any_of HT_.out (by kernel_rfl)) (fun _ _ _ h => h) (Or.inl ⟨by rfl, ?_⟩) ?_ ?_
                rotate_left
                ·intro w'
                 go_simp
                 with_reducible rfl
                rotate_left
                ·simp only [zp0, zp1, zp2, zp3, zp4, i64_w, i32_w]
                 rfl
                refine pure_ (i := 7) (N := some 58) (v := ?_) (a' := ?_) #[true, true, true, true, true, false, false, true, false, false, false, false, false, false, false, false, false, false, false, false, false, false] rfl rfl (any_of HT_.out (by kernel_rfl)) (fun _ _ _ h => h) (Or.inl ⟨by rfl, ?_⟩) ?_ ?_
                rotate_left
                ·intro w'
                 go_simp
                 with_reducible rfl
                rotate_left
                ·simp only [zp0, zp1, zp2, zp3, zp4, i64_w, i32_w]
                 rfl
                refine pure_ (i := 13) (N := some 64) (v := ?_) (a' := ?_) #[true, true, true, true, true, false, false, true, false, false, false, false, false, true, false, false, false, false, false, false, false, false] rfl rfl (any_of HT_.out (by kernel_rfl)) (fun _ _ _ h => h) (Or.inl ⟨by rfl, ?_⟩) ?_ ?_
                rotate_left
                ·intro w'
                 go_simp
                 with_reducible rfl
                rotate_left
                ·simp only [zp0, zp1, zp2, zp3, zp4, i64_w, i32_w]
                 rfl
                refine pure_ (i := 14) (N := some 65) (v := ?_) (a' := ?_) #[true, true, true, true, true, false, false, true, false, false, false, false, false, true, true, false, false, false, false, false, false, false] rfl rfl (any_of HT_.out (by kernel_rfl)) (fun _ _ _ h => h) (Or.inl ⟨by rfl, ?_⟩) ?_ ?_
                rotate_left
                ·intro w'
                 go_simp
                 with_reducible rfl
                rotate_left
                ·simp only [zp0, zp1, zp2, zp3, zp4, i64_w, i32_w]
                 rfl
                refine pure_ (i := 15) (N := some 66) (v := ?_) (a' := ?_) #[true, true, true, true, true, false, false, true, false, false, false, false, false, true, true, true, false, false, false, false, false, false] rfl rfl (any_of HT_.out (by kernel_rfl)) (fun _ _ _ h => h) (Or.inl ⟨by rfl, ?_⟩) ?_ ?_
                rotate_left
                ·intro w'
                 go_simp
                 with_reducible rfl
                rotate_left
                ·simp only [zp0, zp1, zp2, zp3, zp4, i64_w, i32_w]
                 rfl
                refine pure_ (i := 16) (N := some 67) (v := ?_) (a' := ?_) #[true, true, true, true, true, false, false, true, false, false, false, false, false, true, true, true, true, false, false, false, false, false] rfl rfl (any_of HT_.out (by kernel_rfl)) (fun _ _ _ h => h) (Or.inl ⟨by rfl, ?_⟩) ?_ ?_
                rotate_left
                ·intro w'
                 go_simp
                 with_reducible rfl
                rotate_left
                ·simp only [zp0, zp1, zp2, zp3, zp4, i64_w, i32_w]
                 rfl
                refine pure_ (i := 19) (N := some 70) (v := ?_) (a' := ?_) #[true, true, true, true, true, false, false, true, false, false, false, false, false, true, true, true, true, false, false, true, false, false] rfl rfl (any_of HT_.out (by kernel_rfl)) (fun _ _ _ h => h) (Or.inl ⟨by rfl, ?_⟩) ?_ ?_
                rotate_left
                ·intro w'
                 go_simp
                 with_reducible rfl
                rotate_left
                ·simp only [zp0, zp1, zp2, zp3, zp4, i64_w, i32_w]
                 rfl
                refine take_ (i := 5) (N := some 56) (v := ?_) (a' := ?_) #[true, true, true, true, true, true, false, true, false, false, false, false, false, true, true, true, true, false, false, true, false, false] rfl rfl (take_ofW HT_.out HW_.out (by kernel_rfl)) (fun _ _ _ h => h) (Or.inl ⟨by rfl, ?_⟩) hHeld ?_ ?_
                rotate_left
                ·intro w' _
                 go_simp
                 with_reducible rfl
                rotate_left
                ·simp only [zp0, zp1, zp2, zp3, zp4, i64_w, i32_w]
                 rfl
                refine pure_ (i := 6) (N := some 57) (v := ?_) (a' := ?_) #[true, true, true, true, true, true, true, true, false, false, false, false, false, true, true, true, true, false, false, true, false, false] rfl rfl (any_of HT_.out (by kernel_rfl)) (fun _ _ _ h => h) (Or.inl ⟨by rfl, ?_⟩) ?_ ?_
                rotate_left
                ·intro w'
                 go_simp
                 with_reducible rfl
                rotate_left
                ·simp only [zp0, zp1, zp2, zp3, zp4, i64_w, i32_w]
                 rfl
                refine pure_ (i := 8) (N := some 59) (v := ?_) (a' := ?_) #[true, true, true, true, true, true, true, true, true, false, false, false, false, true, true, true, true, false, false, true, false, false] rfl rfl (any_of HT_.out (by kernel_rfl)) (fun _ _ _ h => h) (Or.inl ⟨by rfl, ?_⟩) ?_ ?_
                rotate_left
                ·intro w'
                 go_simp
                 with_reducible rfl
                rotate_left
                ·simp only [zp0, zp1, zp2, zp3, zp4, i64_w, i32_w]
                 rfl
                refine pure_ (i := 9) (N := some 60) (v := ?_) (a' := ?_) #[true, true, true, true, true, true, true, true, true, true, false, false, false, true, true, true, true, false, false, true, false, false] rfl rfl (any_of HT_.out (by kernel_rfl)) (fun _ _ _ h => h) (Or.inl ⟨by rfl, ?_⟩) ?_ ?_
                rotate_left
                ·intro w'
                 go_simp
                 with_reducible rfl
                rotate_left
                ·simp only [zp0, zp1, zp2, zp3, zp4, i64_w, i32_w]
                 rfl
                refine one_ (i := 10) (N := some 61) #[true, true, true, true, true, true, true, true, true, true, true, false, false, true, true, true, true, false, false, true, false, false] rfl rfl (one_of HT_.out (by kernel_rfl)) (by decide) (fun K hK => ?_)
                refine Kd.R_lit_step (Kd.int .u8) _ 5 ?hg (N := 61) ?hd (xs := ([(wrap64 ((wrap64 (bt t248 (ji51))) + 1)) % 256] : List Int)) (inner := [.int .u8 ((wrap64 ((wrap64 (bt t248 (ji51))) + 1)) % 256)]) (ok := fun _ => True) (okp := fun _ => True) ?hr ?hp (fun _ hk => hk) trivial (Below.refl _ _) (Nat.le_refl _) (by simp) ?_; (case hd => rfl); (case hg => rfl); (case hr => first | (go_simp; done) | (go_simp; rfl)); (case hp => exact (Reps.one (show Kd.M (Kd.int .u8) _ _ _ ((wrap64 ((wrap64 (bt t248 (ji51))) + 1)) % 256) [.int .u8 ((wrap64 ((wrap64 (bt t248 (ji51))) + 1)) % 256)] from rfl) (Reps.none _ _)))
                intro v263 w63 ho64 hb hg_ hnew_
                clear hg_ hnew_
                (first | rw [← Ny262.out] at ho64 | (simp only [Int.reduceToNat] at ho64; rw [← Ny262.out] at ho64))
                have n0_ := Aside0.mk (Kd.R_lower ho64 (below_size (by exact zB HB.out)))
                have n1_ := Aside0.mk (below_step (by exact zB HB.out) hb)
                clear HB
                have HO264 := n0_
                have HB := n1_
                clear n0_ n1_
                clear hb ho64
                refine hK.out _ _ trivial (fun hHeld => ?_)
                clear hK K
                refine norm_ (a' := ?_) ?_ ?_
                rotate_left
                ·show Act.put _ (some 61) _ = _
                 simp only [zp0, zp1, zp2, zp3, zp4, i64_w, i32_w]
                 rfl
                refine one_ (i := 11) (N := some 62) #[true, true, true, true, true, true, true, true, true, true, true, true, false, true, true, true, true, false, false, true, false, false] rfl rfl (one_of HT_.out (by kernel_rfl)) (by decide) (fun K hK => ?_)
                have hcv65 := own_string (P := Try.prog) Try.underlying22 Try.underlying5 Try.underlying9 (Kd.own_of_R HO264.out)
                refine value_ (w1 := ?_) (v := ?_) (by rfl) rfl ?_ ?_
                rotate_left 2
                ·go_simp
                 constructor
                 ·rfl
                 ·rfl
                clear hcv65
                refine hK.out _ _ trivial (fun hHeld => ?_)
                clear hK K
                refine norm_ (a' := ?_) ?_ ?_
                rotate_left
                ·show Act.put _ (some 62) _ = _
                 simp only [zp0, zp1, zp2, zp3, zp4, i64_w, i32_w]
                 rfl
                refine pure_ (i := 12) (N := some 63) (v := ?_) (a' := ?_) #[true, true, true, true, true, true, true, true, true, true, true, true, true, true, true, true, true, false, false, true, false, false] rfl rfl (any_of HT_.out (by kernel_rfl)) (fun _ _ _ h => h) (Or.inl ⟨by rfl, ?_⟩) ?_ ?_
                rotate_left
                ·intro w'
                 go_simp
                 with_reducible rfl
                rotate_left
                ·simp only [zp0, zp1, zp2, zp3, zp4, i64_w, i32_w]
                 rfl
                refine pure_ (i := 17) (N := some 68) (v := ?_) (a' := ?_) #[true, true, true, true, true, true, true, true, true, true, true, true, true, true, true, true, true, true, false, true, false, false] rfl rfl (any_of HT_.out (by kernel_rfl)) (fun _ _ _ h => h) (Or.inl ⟨by rfl, ?_⟩) ?_ ?_
                rotate_left
                ·intro w'
                 go_simp
                 with_reducible rfl
                rotate_left
                ·simp only [zp0, zp1, zp2, zp3, zp4, i64_w, i32_w]
                 rfl
                refine one_ (i := 18) (N := some 69) #[true, true, true, true, true, true, true, true, true, true, true, true, true, true, true, true, true, true, true, true, false, false] rfl rfl (one_of HT_.out (by kernel_rfl)) (by decide) (fun K hK => ?_)
                refine goes_ Try.func30 (by kernel_rfl) rfl #[.string (((t248.extract 0 ((ji51) : Int).toNat) ++ (strOfNums y262)) ++ (t248.extract ((ji57) : Int).toNat t248.size))] (by rfl) rfl rfl (by (try simp only [zm1, zm2, zm3]); first | done | (simp only [hji51, hji57]; rfl) | rfl | (simp only [List.length_drop, List.length_take]; rfl)) ?_
                with_reducible refine (impl_SumOf.calls kj7 (((t248.extract 0 ((ji51) : Int).toNat) ++ (strOfNums y262)) ++ (t248.extract ((ji57) : Int).toNat t248.size)) t265 _ A61.out).mono ?_
                rintro e w66 ⟨rfl, hb⟩
                refine ⟨_, rfl, ?_⟩
                have n0_ := Aside0.mk (Kd.R_below (by exact zR HO264.out) hb)
                have n1_ := Aside0.mk (below_step (by exact zB HB.out) hb)
                clear HO264
                clear HB
                have HO264 := n0_
                have HB := n1_
                clear n0_ n1_
                (try clear hb)
                (try clear hb2)
                (try clear hk)
                (try clear hi)
                refine hK.out _ _ trivial (fun hHeld => ?_)
                clear hK K
                refine norm_ (a' := ?_) ?_ ?_
                rotate_left
                ·show Act.put _ (some 69) _ = _
                 simp only [zp0, zp1, zp2, zp3, zp4, i64_w, i32_w]
                 rfl
                refine pure_ (i := 20) (N := some 71) (v := ?_) (a' := ?_) #[true, true, true, true, true, true, true, true, true, true, true, true, true, true, true, true, true, true, true, true, true, false] rfl rfl (any_of HT_.out (by kernel_rfl)) (fun _ _ _ h => h) (Or.inl ⟨by rfl, ?_⟩) ?_ ?_
                rotate_left
                ·intro w'
                 go_simp
                 with_reducible rfl
                rotate_left
                ·simp only [zp0, zp1, zp2, zp3, zp4, i64_w, i32_w]
                 rfl
                refine pure_ (i := 21) (N := some 4) (v := ?_) (a' := ?_) #[true, true, true, true, true, true, true, true, true, true, true, true, true, true, true, true, true, true, true, true, true, true] rfl rfl (any_of HT_.out (by kernel_rfl)) (fun _ _ _ h => h) (Or.inl ⟨by rfl, ?_⟩) ?_ ?_
                rotate_left
                ·intro w'
                 go_simp
                 with_reducible rfl
                rotate_left
                ·simp only [zp0, zp1, zp2, zp3, zp4, i64_w, i32_w]
                 rfl
                refine done_ (done_of HT_.out (by kernel_rfl)) ?_
                try go_wp2
                go_ret
                exact ⟨by first | rfl | (simp [errW_none, errW_some] <;> rfl) | (simp only [← hji51, ← hji57]; first | rfl | (simp [errW_none, errW_some] <;> rfl)) | (simp [*, errW_none, errW_some] <;> rfl), by exact zB HB.out⟩
               ·rw [if_neg c60] at H
                exact absurd H (by simp)
              ·rw [if_neg c59] at H
               exact absurd H (by simp)
             ·rw [if_neg c58] at H
              exact absurd H (by simp)
            ·rw [if_neg c56] at H
             exact absurd H (by simp)
           ·rw [if_neg c54] at H
            exact absurd H (by simp)
          ·rw [if_neg c53] at H
           exact absurd H (by simp)
         ·rw [if_neg c52] at H
          exact absurd H (by simp)

/-- THE ONE PURE STATEMENT of laws_FnSumByte: yours. -/
def laws_FnSumByte.Pure : Prop := ∀ (l0 : List Int) (l1 : List Int), l0.length ≤ maxLen → l0.length * 1 ≤ 140737488351232 → (∀ x ∈ l0, (Lit.int .u8 x).wf = true) → l1.length ≤ maxLen → l1.length * 1 ≤ 140737488351232 → (∀ x ∈ l1, (Lit.int .u8 x).wf = true) → ∃ k, laws_FnSumByte.f k l0 l1 = some true
theorem laws_FnSumByte.walk (P : laws_FnSumByte.Pure) (a0 : Option Addr) (len0 cap0 : Nat) (z0 : List Int) (a1 : Option Addr) (len1 cap1 : Nat) (z1 : List Int) (w : World) (w0 : (a0 = none ∧ len0 = 0 ∧ cap0 = 0 ∧ z0 = []) ∨ ∃ x, a0 = some x ∧ len0 ≤ cap0 ∧ cap0 ≤ maxLen ∧ z0.length = cap0 ∧ (∀ i, i < z0.length → w.cell? (x.add i) = some (.int .u8 (z0.getD i 0))) ∧ ∀ n ∈ z0, (Lit.int .u8 n).wf = true) (y0 : len0 * 1 ≤ 140737488351232) (w1 : (a1 = none ∧ len1 = 0 ∧ cap1 = 0 ∧ z1 = []) ∨ ∃ x, a1 = some x ∧ len1 ≤ cap1 ∧ cap1 ≤ maxLen ∧ z1.length = cap1 ∧ (∀ i, i < z1.length → w.cell? (x.add i) = some (.int .u8 (z1.getD i 0))) ∧ ∀ n ∈ z1, (Lit.int .u8 n).wf = true) (y1 : len1 * 1 ≤ 140737488351232) :
  Calls Try.prog 7 #[.slice a0 len0 cap0, .slice a1 len1 cap1] w fun e w' => e = .returned (.bool true) ∧ Below w.heap.size w w' := by
 obtain ⟨l0, rfl, hr0, hm0, hw0, hc0⟩ := ReadsInt.ofRowC w0
 obtain ⟨l1, rfl, hr1, hm1, hw1, hc1⟩ := ReadsInt.ofRowC w1
 obtain ⟨k, h⟩ := P l0 l1 hm0 y0 hw0 hm1 y1 hw1
 refine (laws_FnSumByte.calls k _ _ l0 _ _ l1 true w (Kd.C_of_reads (d := (0 : Int)) (h1 := fun _ => rfl) hr0) hc0 (Kd.C_of_reads (d := (0 : Int)) (h1 := fun _ => rfl) hr1) hc1 h).mono ?_
 rintro e w' ⟨rfl, hd⟩
 exact ⟨rfl, hd⟩

end Go.Proofs.Ytkdmgbolbjedfaa.PFnSumByte
