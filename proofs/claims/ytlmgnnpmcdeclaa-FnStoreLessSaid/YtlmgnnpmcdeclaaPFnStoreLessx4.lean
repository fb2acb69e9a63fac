-- printed for this claim by a program out of the translation, its tactics shortened by another
import Derived.Test.YtlmgnnpmcdeclaaPFnStoreLessx3
namespace Go.Proofs.Ytlmgnnpmcdeclaa.PFnStoreLess
open Go.RowKit Go.Proofs.YtlmgnnpmcdeclaaW.PrintWords Go.Proofs.YtlmgnnpmcdeclaaW.PrintLast Go.Proofs.YtlmgnnpmcdeclaaW.PrintMore
attribute [local go_sem] max2_int min2_int max_two min_two max_three min_three max_four min_four   -- for this text's walks alone
set_option linter.unusedVariables false
set_option linter.unusedSimpArgs false

/-! ### laws_FnStoreLess: function 3 -/
mutual
def laws_FnStoreLess.j0 : Nat → List Int → List Int → Bool → Option (Bool)
 | 0, _, _, _ => none
 | k + 1, x0, x1, x17 => if x17 = true then (some true) else ((spec_DrawStoreOk.f k x0).bind fun t304 => ((impl_StoreOk.f k t304).bind fun t307 => ((spec_StoreOk.f k t304).bind fun t308 => (if (t307 != t308) = true then (laws_FnStoreLess.j1 k x1 t304 t307 true) else (if t307 = true then (laws_FnStoreLess.j1 k x1 t304 t307 ((t304.length : Int) == 0)) else (laws_FnStoreLess.j1 k x1 t304 t307 true))))))
def laws_FnStoreLess.j1 : Nat → List Int → List (S29) → Bool → Bool → Option (Bool)
 | 0, _, _, _, _ => none
 | k + 1, x1, x5, x6, x34 => if x34 = true then ((spec_StoreOk.f k x5).bind fun t309 => (some (x6 == t309))) else (if (x5.length : Int) = 0 then (none) else ((some (([] : List (S29)) : List (S29))).bind fun y310 => (if 0 ≤ ((x1.length : Int) % (x5.length : Int)) then (if ((x1.length : Int) % (x5.length : Int)) ≤ (x5.length : Int) then ((some (x5.take (((x1.length : Int) % (x5.length : Int)) : Int).toNat : List (S29))).bind fun y313 => (if y310.length + y313.length < 2199023255552 then ((some (y310 ++ y313 : List (S29))).bind fun y318 => (if 0 ≤ (wrap64 (((x1.length : Int) % (x5.length : Int)) + 1)) then (if (wrap64 (((x1.length : Int) % (x5.length : Int)) + 1)) ≤ (x5.length : Int) then ((some (x5.drop ((wrap64 (((x1.length : Int) % (x5.length : Int)) + 1)) : Int).toNat : List (S29))).bind fun y321 => (if y318.length + y321.length < 2199023255552 then ((some (([] : List (S29)) : List (S29))).bind fun y329 => ((some (x5.take (((x1.length : Int) % (x5.length : Int)) : Int).toNat : List (S29))).bind fun y332 => (if y329.length + y332.length < 2199023255552 then ((some (y329 ++ y332 : List (S29))).bind fun y337 => (if ((x1.length : Int) % (x5.length : Int)) < (x5.length : Int) then ((some (([(⟨(rd_T29 x5 ((x1.length : Int) % (x5.length : Int))).f0, (rd_T29 x5 ((x1.length : Int) % (x5.length : Int))).f1, (rd_T29 x5 ((x1.length : Int) % (x5.length : Int))).f2, (rd_T29 x5 ((x1.length : Int) % (x5.length : Int))).f3⟩ : S29)] : List (S29)) : List (S29))).bind fun y341 => (if y337.length + y341.length < 2199023255552 then ((some (y337 ++ y341 : List (S29))).bind fun y344 => ((some (x5.drop (((x1.length : Int) % (x5.length : Int)) : Int).toNat : List (S29))).bind fun y347 => (if y344.length + y347.length < 2199023255552 then ((impl_StoreOk.f k (y318 ++ y321)).bind fun t355 => (if t355 = true then ((impl_StoreOk.f k (y344 ++ y347)).bind fun t356 => (some (!t356))) else (none))) else (none)))) else (none))) else (none))) else (none)))) else (none))) else (none)) else (none))) else (none))) else (none)) else (none))))
end
def laws_FnStoreLess.f (k : Nat) (l0 : List Int) (l1 : List Int) : Option (Bool) := if (l0.length : Int) > 1048576 then (laws_FnStoreLess.j0 k l0 l1 true) else (laws_FnStoreLess.j0 k l0 l1 (decide ((l1.length : Int) > 1048576)))
theorem laws_FnStoreLess.mono_l : ∀ k, (∀ y0 y1 y2, LeO (laws_FnStoreLess.j0 k y0 y1 y2) (laws_FnStoreLess.j0 (k + 1) y0 y1 y2)) ∧ (∀ y0 y1 y2 y3, LeO (laws_FnStoreLess.j1 k y0 y1 y2 y3) (laws_FnStoreLess.j1 (k + 1) y0 y1 y2 y3))
 | 0 => ⟨fun _ _ _ r h => by simp [laws_FnStoreLess.j0] at h, fun _ _ _ _ r h => by simp [laws_FnStoreLess.j1] at h⟩
 | k + 1 => by
  obtain ⟨ih0, ih1⟩ := laws_FnStoreLess.mono_l k
  refine ⟨?_, ?_⟩
  ·intro y0 y1 y2
   unfold laws_FnStoreLess.j0
   repeat' first
   | (with_reducible exact ih0 _ _ _)
   | (with_reducible exact ih1 _ _ _ _)
   | (with_reducible exact impl_StoreOk.mono _ _)
   | (with_reducible exact spec_DrawStoreOk.mono _ _)
   | (with_reducible exact spec_StoreOk.mono _ _)
   | (with_reducible exact LeO.refl _)
   | (with_reducible exact LeO.none _)
   | (with_reducible refine LeO.ite ?_ ?_)
   | (with_reducible refine LeO.bind ?_ (fun _ => ?_))
   | exact ih0 _ _ _
   | exact ih1 _ _ _ _
   | exact impl_StoreOk.mono _ _
   | exact spec_DrawStoreOk.mono _ _
   | exact spec_StoreOk.mono _ _
   | exact LeO.none _
   | refine LeO.ite ?_ ?_
   | refine LeO.bind ?_ (fun _ => ?_)
  ·intro y0 y1 y2 y3
   unfold laws_FnStoreLess.j1
   repeat' first
   | (with_reducible exact ih0 _ _ _)
   | (with_reducible exact ih1 _ _ _ _)
   | (with_reducible exact impl_StoreOk.mono _ _)
   | (with_reducible exact spec_DrawStoreOk.mono _ _)
   | (with_reducible exact spec_StoreOk.mono _ _)
   | (with_reducible exact LeO.refl _)
   | (with_reducible exact LeO.none _)
   | (with_reducible refine LeO.ite ?_ ?_)
   | (with_reducible refine LeO.bind ?_ (fun _ => ?_))
   | exact ih0 _ _ _
   | exact ih1 _ _ _ _
   | exact impl_StoreOk.mono _ _
   | exact spec_DrawStoreOk.mono _ _
   | exact spec_StoreOk.mono _ _
   | exact LeO.none _
   | refine LeO.ite ?_ ?_
   | refine LeO.bind ?_ (fun _ => ?_)
theorem laws_FnStoreLess.mono : ∀ a0 a1 k, LeO (laws_FnStoreLess.f k a0 a1) (laws_FnStoreLess.f (k + 1) a0 a1) := by
 intro a0 a1 k
 obtain ⟨ih0, ih1⟩ := laws_FnStoreLess.mono_l k
 unfold laws_FnStoreLess.f
 repeat' first
   | (with_reducible exact ih0 _ _ _)
   | (with_reducible exact ih1 _ _ _ _)
   | (with_reducible exact impl_StoreOk.mono _ _)
   | (with_reducible exact spec_DrawStoreOk.mono _ _)
   | (with_reducible exact spec_StoreOk.mono _ _)
   | (with_reducible exact LeO.refl _)
   | (with_reducible exact LeO.none _)
   | (with_reducible refine LeO.ite ?_ ?_)
   | (with_reducible refine LeO.bind ?_ (fun _ => ?_))
   | exact ih0 _ _ _
   | exact ih1 _ _ _ _
   | exact impl_StoreOk.mono _ _
   | exact spec_DrawStoreOk.mono _ _
   | exact spec_StoreOk.mono _ _
   | exact LeO.none _
   | refine LeO.ite ?_ ?_
   | refine LeO.bind ?_ (fun _ => ?_)
def laws_FnStoreLess.T8 : Bool × List (List Nat × List Nat) := (true, [([], []), ([], []), ([], []), ([1, 2], [1, 2]), ([0, 3], [0, 3]), ([], []), ([], []), ([6], [6]), ([5, 7], [5, 7]), ([4, 8, 4], [4, 8]), ([9, 9, 0, 1, 2, 3, 4, 5, 6, 7, 8, 9], [9])])
def laws_FnStoreLess.B8 : List Nat := [0, 0, 0, 6, 15, 0, 0, 64, 224, 511, 1023]
theorem laws_FnStoreLess.tab8 : rtab .any (opsOf Try.f3 8) = laws_FnStoreLess.T8 := by kernel_rfl
theorem laws_FnStoreLess.bits8 : waitsOk laws_FnStoreLess.T8.2 laws_FnStoreLess.B8 = true := by kernel_rfl
def laws_FnStoreLess.T9 : Bool × List (List Nat × List Nat) := (true, [([], []), ([], []), ([], []), ([1, 2], [1, 2]), ([0, 3], [0, 3]), ([], []), ([], []), ([5, 6], [5, 6]), ([7], [7]), ([8], [8]), ([4, 9, 4], [4, 9]), ([], []), ([], []), ([11, 12], [11, 12]), ([10, 13, 10], [10, 13]), ([14, 14, 0, 1, 2, 3, 4, 5, 6, 7, 8, 9, 10, 11, 12, 13, 14], [14])])
def laws_FnStoreLess.B9 : List Nat := [0, 0, 0, 6, 15, 0, 0, 96, 224, 480, 1023, 0, 0, 6144, 16383, 32767]
theorem laws_FnStoreLess.tab9 : rtab .any (opsOf Try.f3 9) = laws_FnStoreLess.T9 := by kernel_rfl
theorem laws_FnStoreLess.bits9 : waitsOk laws_FnStoreLess.T9.2 laws_FnStoreLess.B9 = true := by kernel_rfl
set_option maxHeartbeats 8000000 in
set_option maxRecDepth 100000 in
theorem laws_FnStoreLess.calls (k : Nat) (A0 : Option Addr) (c0 : Nat) (l0 : List Int) (A1 : Option Addr) (c1 : Nat) (l1 : List Int) (r : Bool) (w : World) (hr0 : Kd.C (Kd.int .u8) w A0 l0.length l0) (hc0 : l0.length ≤ c0) (hr1 : Kd.C (Kd.int .u8) w A1 l1.length l1) (hc1 : l1.length ≤ c1) (h : laws_FnStoreLess.f k l0 l1 = some r) :
  Calls Try.prog 3 #[.slice A0 l0.length c0, .slice A1 l1.length c1] w fun e w' => e = .returned (.bool r) ∧ Below w.heap.size w w' := by
 have hu29 := Try.underlying29
 have HR0 := Aside0.mk hr0
 have HC0 := Aside0.mk hc0
 clear hr0 hc0
 have HR1 := Aside0.mk hr1
 have HC1 := Aside0.mk hc1
 clear hr1 hc1
 have HB := Aside0.mk (Below.refl w.heap.size w)
 have H : (if (l0.length : Int) > 1048576 then (laws_FnStoreLess.j0 k l0 l1 true) else (laws_FnStoreLess.j0 k l0 l1 (decide ((l1.length : Int) > 1048576)))) = some r := h
 clear h
 have HC3 := Aside0.mk H
 clear H
 go_enter Try.func3, Try.ntmps3
 go_upto_region 1 with (fail)
 go_cut [17] (fun v17 wc => ∃ (kq : Nat) (x17_2 : Bool), v17 = .bool x17_2 ∧ Aside0 (laws_FnStoreLess.j0 kq l0 l1 x17_2 = some r) ∧ Aside0 (kq ≤ k) ∧ Aside0 (Below w.heap.size w wc))
 case first =>
  have H := HC3.out
  clear HC3
  by_cases c4 : (l0.length : Int) > 1048576
  ·rw [if_pos c4] at H
   have c4b0 : decide (1048576 < (l0.length : Int)) = true := decide_eq_true c4
   have c4b1 : decide (1048576 < l0.length) = true := decide_eq_true (by omega)
   clear c4
   (first | rw [c4b0] | (simp only [i64_w, i32_w]; rw [c4b0]) | skip)
   have H' := Aside0.mk H
   clear H
   go_wp2
   go_meet
   case rel => exact ⟨_, (true), (by first | rfl | (simp; done) | (simp [*]; done)), H', ⟨by first | omega | exact Nat.le_refl _⟩, ⟨by exact zB HB.out⟩⟩
  ·rw [if_neg c4] at H
   have c4b0 : decide (1048576 < (l0.length : Int)) = false := decide_eq_false c4
   have c4b1 : decide (1048576 < l0.length) = false := decide_eq_false (by omega)
   clear c4
   (first | rw [c4b0] | (simp only [i64_w, i32_w]; rw [c4b0]) | skip)
   have H' := Aside0.mk H
   clear H
   go_wp2
   go_meet
   case rel => exact ⟨_, (decide ((l1.length : Int) > 1048576)), (by first | rfl | (simp; done) | (simp [*]; done)), H', ⟨by first | omega | exact Nat.le_refl _⟩, ⟨by exact zB HB.out⟩⟩
 case rest =>
  clear HC3
  try clear c1
  try clear p2
  try clear c3
  try clear c4
  try clear c4b0
  try clear c4b1
  obtain ⟨kq, x17_2, rfl, HA, HJ2, HB⟩ := hcut
  cases kq with
  | zero => exact absurd HA.out (by simp [laws_FnStoreLess.j0])
  | succ kj2 =>
   have H := HA.out
   clear HA
   simp only [laws_FnStoreLess.j0] at H
   by_cases c5 : x17_2 = true
   ·subst c5
    have H1 : (some true) = some r := by rw [if_pos rfl] at H; exact H
    clear H
    have H := H1
    clear H1
    obtain rfl := Option.some.inj H
    go_wp2
    go_ret
    exact ⟨by first | rfl | (simp [errW_none, errW_some] <;> rfl) | (simp [*, errW_none, errW_some] <;> rfl), by exact zB HB.out⟩
   ·replace c5 := Bool.eq_false_iff.mpr c5
    subst c5
    have H1 : ((spec_DrawStoreOk.f kj2 l0).bind fun t304 => ((impl_StoreOk.f kj2 t304).bind fun t307 => ((spec_StoreOk.f kj2 t304).bind fun t308 => (if (t307 != t308) = true then (laws_FnStoreLess.j1 kj2 l1 t304 t307 true) else (if t307 = true then (laws_FnStoreLess.j1 kj2 l1 t304 t307 ((t304.length : Int) == 0)) else (laws_FnStoreLess.j1 kj2 l1 t304 t307 true)))))) = some r := by rw [if_neg (show ¬ (false = true) by decide)] at H; exact H
    clear H
    have H := H1
    clear H1
    replace H := Option.bind_eq_some_iff.mp H
    obtain ⟨t304, A60, H⟩ := H
    replace H : ((impl_StoreOk.f kj2 t304).bind fun t307 => ((spec_StoreOk.f kj2 t304).bind fun t308 => (if (t307 != t308) = true then (laws_FnStoreLess.j1 kj2 l1 t304 t307 true) else (if t307 = true then (laws_FnStoreLess.j1 kj2 l1 t304 t307 ((t304.length : Int) == 0)) else (laws_FnStoreLess.j1 kj2 l1 t304 t307 true))))) = some r := H
    have A6 := Aside0.mk A60
    clear A60
    replace H := Option.bind_eq_some_iff.mp H
    obtain ⟨t307, A70, H⟩ := H
    replace H : ((spec_StoreOk.f kj2 t304).bind fun t308 => (if (t307 != t308) = true then (laws_FnStoreLess.j1 kj2 l1 t304 t307 true) else (if t307 = true then (laws_FnStoreLess.j1 kj2 l1 t304 t307 ((t304.length : Int) == 0)) else (laws_FnStoreLess.j1 kj2 l1 t304 t307 true)))) = some r := H
    have A7 := Aside0.mk A70
    clear A70
    have HC8 := Aside0.mk H
    clear H
    go_upto_region 5 with (first | ((with_reducible refine gate_callee (f := 8) rfl ?_); refine goesL_ (some 19) rfl rfl Try.func8 (by kernel_rfl) rfl #[.slice A0 l0.length c0] rfl (by (try simp only [zm1, zm2, zm3]); first | done | rfl | (simp only [List.length_drop, List.length_take]; rfl)) ?_; (with_reducible refine (spec_DrawStoreOk.calls kj2 _ _ l0 t304 _ ?side1 ?side2 A6.out).mono ?_); (case side1 => exact zC (Kd.C_below HR0.out HB.out)); (case side2 => exact HC0.out); rintro e w9 ⟨v305, rfl, ho0, hb⟩; refine ⟨_, rfl, ?_⟩; have n0_ := Aside0.mk (Kd.N_lower (Kd.N_mono (ok' := fun k_ => True) ho0 (fun k_ hk_ => trivial)) (below_size (by exact zB HB.out))); have n1_ := Aside0.mk (below_step (by exact zB HB.out) hb); clear HB; have HO306 := n0_; have HB := n1_; clear n0_ n1_; (try clear hb); (try clear hb2); (try clear hk); (try clear hi); (try clear ho0); obtain ⟨Ao10, co10, eo10⟩ := Kd.N_slice HO306.out; subst eo10) | ((with_reducible refine gate_callee (f := 9) rfl ?_); refine goesL_ (some 21) rfl rfl Try.func9 (by kernel_rfl) rfl #[.slice Ao10 t304.length co10] rfl (by (try simp only [zm1, zm2, zm3]); first | done | rfl | (simp only [List.length_drop, List.length_take]; rfl)) ?_; (with_reducible refine (impl_StoreOk.calls kj2 _ _ t304 t307 _ ?side1 ?side2 A7.out).mono ?_); (case side1 => exact zC (Kd.N_reads' HO306.out).2.2); (case side2 => exact (Kd.N_reads' HO306.out).2.1); rintro e w11 ⟨rfl, hb⟩; refine ⟨_, rfl, ?_⟩; have n0_ := Aside0.mk (Kd.N_below (by exact zN HO306.out) hb); have n1_ := Aside0.mk (below_step (by exact zB HB.out) hb); clear HO306; clear HB; have HO306 := n0_; have HB := n1_; clear n0_ n1_; (try clear hb); (try clear hb2); (try clear hk); (try clear hi)))
    (try simp only [zp0, zp1, zp2, zp3, zp4])
    go_cut [34] (fun v34 wc => ∃ (kq : Nat) (x34_7 : Bool), v34 = .bool x34_7 ∧ Aside0 (laws_FnStoreLess.j1 kq l1 t304 t307 x34_7 = some r) ∧ Aside0 (kq ≤ kj2) ∧ Aside0 (Kd.N k29 29 wc w.heap.size (fun _ => True) (.slice Ao10 t304.length co10) t304) ∧ Aside0 (Below w.heap.size w wc))
    case first =>
     have H := HC8.out
     clear HC8
     replace H := Option.bind_eq_some_iff.mp H
     obtain ⟨t308, A120, H⟩ := H
     replace H : (if (t307 != t308) = true then (laws_FnStoreLess.j1 kj2 l1 t304 t307 true) else (if t307 = true then (laws_FnStoreLess.j1 kj2 l1 t304 t307 ((t304.length : Int) == 0)) else (laws_FnStoreLess.j1 kj2 l1 t304 t307 true))) = some r := H
     have A12 := Aside0.mk A120
     clear A120
     by_cases c13 : (t307 != t308) = true
     ·rw [if_pos c13] at H
      have c13b0 : (t307 != t308) = true := c13
      (try (have c13b1 : decide (t307 = t308) = false := by simpa using c13))
      (try (have c13b2 : (t307 == t308) = false := by simpa using c13))
      (try (have c13b3 : ¬ (t307 = t308) := by simpa using c13))
      clear c13
      (first | rw [c13b0] | (simp only [i64_w, i32_w]; rw [c13b0]) | skip)
      have H' := Aside0.mk H
      clear H
      go_wp2_with (first | ((with_reducible refine gate_callee (f := 10) rfl ?_); refine goesL_ (some 24) rfl rfl Try.func10 (by kernel_rfl) rfl #[.slice Ao10 t304.length co10] rfl (by (try simp only [zm1, zm2, zm3]); first | done | rfl | (simp only [List.length_drop, List.length_take]; rfl)) ?_; (with_reducible refine (spec_StoreOk.calls kj2 _ _ t304 t308 _ ?side1 ?side2 A12.out).mono ?_); (case side1 => exact zC (Kd.N_reads' HO306.out).2.2); (case side2 => exact (Kd.N_reads' HO306.out).2.1); rintro e w14 ⟨rfl, hb⟩; refine ⟨_, rfl, ?_⟩; have n0_ := Aside0.mk (Kd.N_below (by exact zN HO306.out) hb); have n1_ := Aside0.mk (below_step (by exact zB HB.out) hb); clear HO306; clear HB; have HO306 := n0_; have HB := n1_; clear n0_ n1_; (try clear hb); (try clear hb2); (try clear hk); (try clear hi)))
      go_meet
      case rel => exact ⟨_, (true), (by first | rfl | (simp; done) | (simp [*]; done)), H', ⟨by have := HJ2.out; first | omega | exact Nat.le_refl _⟩, ⟨by exact zN HO306.out⟩, ⟨by exact zB HB.out⟩⟩
     ·rw [if_neg c13] at H
      have c13b0 : (t307 != t308) = false := by simpa using c13
      (try (have c13b1 : decide (t307 = t308) = true := by simpa using c13))
      (try (have c13b2 : (t307 == t308) = true := by simpa using c13))
      clear c13
      (first | rw [c13b0] | (simp only [i64_w, i32_w]; rw [c13b0]) | skip)
      by_cases c15 : t307 = true
      ·subst c15
       have H1 : (laws_FnStoreLess.j1 kj2 l1 t304 true ((t304.length : Int) == 0)) = some r := by rw [if_pos rfl] at H; exact H
       clear H
       have H := H1
       clear H1
       have H' := Aside0.mk H
       clear H
       go_wp2_with (first | ((with_reducible refine gate_callee (f := 10) rfl ?_); refine goesL_ (some 24) rfl rfl Try.func10 (by kernel_rfl) rfl #[.slice Ao10 t304.length co10] rfl (by (try simp only [zm1, zm2, zm3]); first | done | rfl | (simp only [List.length_drop, List.length_take]; rfl)) ?_; (with_reducible refine (spec_StoreOk.calls kj2 _ _ t304 t308 _ ?side1 ?side2 A12.out).mono ?_); (case side1 => exact zC (Kd.N_reads' HO306.out).2.2); (case side2 => exact (Kd.N_reads' HO306.out).2.1); rintro e w16 ⟨rfl, hb⟩; refine ⟨_, rfl, ?_⟩; have n0_ := Aside0.mk (Kd.N_below (by exact zN HO306.out) hb); have n1_ := Aside0.mk (below_step (by exact zB HB.out) hb); clear HO306; clear HB; have HO306 := n0_; have HB := n1_; clear n0_ n1_; (try clear hb); (try clear hb2); (try clear hk); (try clear hi)))
       go_meet
       case rel => exact ⟨_, (((t304.length : Int) == 0)), (by first | rfl | (simp; done) | (simp [*]; done)), H', ⟨by have := HJ2.out; first | omega | exact Nat.le_refl _⟩, ⟨by exact zN HO306.out⟩, ⟨by exact zB HB.out⟩⟩
      ·replace c15 := Bool.eq_false_iff.mpr c15
       subst c15
       have H1 : (laws_FnStoreLess.j1 kj2 l1 t304 false true) = some r := by rw [if_neg (show ¬ (false = true) by decide)] at H; exact H
       clear H
       have H := H1
       clear H1
       have H' := Aside0.mk H
       clear H
       go_wp2_with (first | ((with_reducible refine gate_callee (f := 10) rfl ?_); refine goesL_ (some 24) rfl rfl Try.func10 (by kernel_rfl) rfl #[.slice Ao10 t304.length co10] rfl (by (try simp only [zm1, zm2, zm3]); first | done | rfl | (simp only [List.length_drop, List.length_take]; rfl)) ?_; (with_reducible refine (spec_StoreOk.calls kj2 _ _ t304 t308 _ ?side1 ?side2 A12.out).mono ?_); (case side1 => exact zC (Kd.N_reads' HO306.out).2.2); (case side2 => exact (Kd.N_reads' HO306.out).2.1); rintro e w17 ⟨rfl, hb⟩; refine ⟨_, rfl, ?_⟩; have n0_ := Aside0.mk (Kd.N_below (by exact zN HO306.out) hb); have n1_ := Aside0.mk (below_step (by exact zB HB.out) hb); clear HO306; clear HB; have HO306 := n0_; have HB := n1_; clear n0_ n1_; (try clear hb); (try clear hb2); (try clear hk); (try clear hi)))
       go_meet
       case rel => exact ⟨_, (true), (by first | rfl | (simp; done) | (simp [*]; done)), H', ⟨by have := HJ2.out; first | omega | exact Nat.le_refl _⟩, ⟨by exact zN HO306.out⟩, ⟨by exact zB HB.out⟩⟩
    case rest =>
     clear HC8
     try clear c1
     try clear p2
     try clear c3
     try clear c4
     try clear c4b0
     try clear c4b1
     try clear c5
     try clear c8
     try clear c9
     try clear c10
     try clear c13
     try clear c13b0
     try clear c13b1
     try clear c13b2
     try clear c15
     try clear p2
     obtain ⟨kq, x34_7, rfl, HA, HJ7, HO_5, HB⟩ := hcut
     cases kq with
     | zero => exact absurd HA.out (by simp [laws_FnStoreLess.j1])
     | succ kj7 =>
      have H := HA.out
      clear HA
      simp only [laws_FnStoreLess.j1] at H
      by_cases c18 : x34_7 = true
      ·subst c18
       have H1 : ((spec_StoreOk.f kj7 t304).bind fun t309 => (some (t307 == t309))) = some r := by rw [if_pos rfl] at H; exact H
       clear H
       have H := H1
       clear H1
       replace H := Option.bind_eq_some_iff.mp H
       obtain ⟨t309, A190, H⟩ := H
       replace H : (some (t307 == t309)) = some r := H
       have A19 := Aside0.mk A190
       clear A190
       obtain rfl := Option.some.inj H
       go_wp2_with (first | ((with_reducible refine gate_callee (f := 10) rfl ?_); refine goesL_ (some 37) rfl rfl Try.func10 (by kernel_rfl) rfl #[.slice Ao10 t304.length co10] rfl (by (try simp only [zm1, zm2, zm3]); first | done | rfl | (simp only [List.length_drop, List.length_take]; rfl)) ?_; (with_reducible refine (spec_StoreOk.calls kj7 _ _ t304 t309 _ ?side1 ?side2 A19.out).mono ?_); (case side1 => exact zC (Kd.N_reads' HO_5.out).2.2); (case side2 => exact (Kd.N_reads' HO_5.out).2.1); rintro e w20 ⟨rfl, hb⟩; refine ⟨_, rfl, ?_⟩; have n0_ := Aside0.mk (Kd.N_below (by exact zN HO_5.out) hb); have n1_ := Aside0.mk (below_step (by exact zB HB.out) hb); clear HO_5; clear HB; have HO_5 := n0_; have HB := n1_; clear n0_ n1_; (try clear hb); (try clear hb2); (try clear hk); (try clear hi)))
       go_ret
       exact ⟨by first | rfl | (simp [errW_none, errW_some] <;> rfl) | (simp [*, errW_none, errW_some] <;> rfl), by exact zB HB.out⟩
      ·replace c18 := Bool.eq_false_iff.mpr c18
       subst c18
       have H1 : (if (t304.length : Int) = 0 then (none) else ((some (([] : List (S29)) : List (S29))).bind fun y310 => (if 0 ≤ ((l1.length : Int) % (t304.length : Int)) then (if ((l1.length : Int) % (t304.length : Int)) ≤ (t304.length : Int) then ((some (t304.take (((l1.length : Int) % (t304.length : Int)) : Int).toNat : List (S29))).bind fun y313 => (if y310.length + y313.length < 2199023255552 then ((some (y310 ++ y313 : List (S29))).bind fun y318 => (if 0 ≤ (wrap64 (((l1.length : Int) % (t304.length : Int)) + 1)) then (if (wrap64 (((l1.length : Int) % (t304.length : Int)) + 1)) ≤ (t304.length : Int) then ((some (t304.drop ((wrap64 (((l1.length : Int) % (t304.length : Int)) + 1)) : Int).toNat : List (S29))).bind fun y321 => (if y318.length + y321.length < 2199023255552 then ((some (([] : List (S29)) : List (S29))).bind fun y329 => ((some (t304.take (((l1.length : Int) % (t304.length : Int)) : Int).toNat : List (S29))).bind fun y332 => (if y329.length + y332.length < 2199023255552 then ((some (y329 ++ y332 : List (S29))).bind fun y337 => (if ((l1.length : Int) % (t304.length : Int)) < (t304.length : Int) then ((some (([(⟨(rd_T29 t304 ((l1.length : Int) % (t304.length : Int))).f0, (rd_T29 t304 ((l1.length : Int) % (t304.length : Int))).f1, (rd_T29 t304 ((l1.length : Int) % (t304.length : Int))).f2, (rd_T29 t304 ((l1.length : Int) % (t304.length : Int))).f3⟩ : S29)] : List (S29)) : List (S29))).bind fun y341 => (if y337.length + y341.length < 2199023255552 then ((some (y337 ++ y341 : List (S29))).bind fun y344 => ((some (t304.drop (((l1.length : Int) % (t304.length : Int)) : Int).toNat : List (S29))).bind fun y347 => (if y344.length + y347.length < 2199023255552 then ((impl_StoreOk.f kj7 (y318 ++ y321)).bind fun t355 => (if t355 = true then ((impl_StoreOk.f kj7 (y344 ++ y347)).bind fun t356 => (some (!t356))) else (none))) else (none)))) else (none))) else (none))) else (none)))) else (none))) else (none)) else (none))) else (none))) else (none)) else (none)))) = some r := by rw [if_neg (show ¬ (false = true) by decide)] at H; exact H
       clear H
       have H := H1
       clear H1
       by_cases c21 : (t304.length : Int) = 0
       ·rw [if_pos c21] at H
        exact absurd H (by simp)
       ·rw [if_neg c21] at H
        have c21b0 : ((t304.length : Int) == 0) = false := beq_eq_false_iff_ne.mpr c21
        have c21b1 : ((t304.length : Int) != 0) = true := bne_iff_ne.mpr c21
        have c21b2 : ¬ (t304 = []) := fun h_ => c21 (by rw [h_]; rfl)
        obtain ⟨y310, hy310⟩ : ∃ y_ : List (S29), y_ = (([] : List (S29))) := ⟨_, rfl⟩
        replace H : (if 0 ≤ ((l1.length : Int) % (t304.length : Int)) then (if ((l1.length : Int) % (t304.length : Int)) ≤ (t304.length : Int) then ((some (t304.take (((l1.length : Int) % (t304.length : Int)) : Int).toNat : List (S29))).bind fun y313 => (if y310.length + y313.length < 2199023255552 then ((some (y310 ++ y313 : List (S29))).bind fun y318 => (if 0 ≤ (wrap64 (((l1.length : Int) % (t304.length : Int)) + 1)) then (if (wrap64 (((l1.length : Int) % (t304.length : Int)) + 1)) ≤ (t304.length : Int) then ((some (t304.drop ((wrap64 (((l1.length : Int) % (t304.length : Int)) + 1)) : Int).toNat : List (S29))).bind fun y321 => (if y318.length + y321.length < 2199023255552 then ((some (([] : List (S29)) : List (S29))).bind fun y329 => ((some (t304.take (((l1.length : Int) % (t304.length : Int)) : Int).toNat : List (S29))).bind fun y332 => (if y329.length + y332.length < 2199023255552 then ((some (y329 ++ y332 : List (S29))).bind fun y337 => (if ((l1.length : Int) % (t304.length : Int)) < (t304.length : Int) then ((some (([(⟨(rd_T29 t304 ((l1.length : Int) % (t304.length : Int))).f0, (rd_T29 t304 ((l1.length : Int) % (t304.length : Int))).f1, (rd_T29 t304 ((l1.length : Int) % (t304.length : Int))).f2, (rd_T29 t304 ((l1.length : Int) % (t304.length : Int))).f3⟩ : S29)] : List (S29)) : List (S29))).bind fun y341 => (if y337.length + y341.length < 2199023255552 then ((some (y337 ++ y341 : List (S29))).bind fun y344 => ((some (t304.drop (((l1.length : Int) % (t304.length : Int)) : Int).toNat : List (S29))).bind fun y347 => (if y344.length + y347.length < 2199023255552 then ((impl_StoreOk.f kj7 (y318 ++ y321)).bind fun t355 => (if t355 = true then ((impl_StoreOk.f kj7 (y344 ++ y347)).bind fun t356 => (some (!t356))) else (none))) else (none)))) else (none))) else (none))) else (none)))) else (none))) else (none)) else (none))) else (none))) else (none)) else (none)) = some r := by first | (rw [hy310]; with_reducible exact H) | (have H2_ := (Option.bind_some _ _).symm.trans H; rw [hy310]; with_reducible exact H2_) | (have H2_ := (Option.bind_some _ _).symm.trans H; with_reducible exact H2_) | with_reducible exact H | (rw [hy310]; exact H) | exact H
        have Ny310 := Aside0.mk hy310
        clear hy310
        obtain ⟨ji22, hji22⟩ : ∃ j_ : Int, ((l1.length : Int) % (t304.length : Int)) = j_ := ⟨_, rfl⟩
        replace H : (if 0 ≤ (ji22) then (if (ji22) ≤ (t304.length : Int) then ((some (t304.take ((ji22) : Int).toNat : List (S29))).bind fun y313 => (if y310.length + y313.length < 2199023255552 then ((some (y310 ++ y313 : List (S29))).bind fun y318 => (if 0 ≤ (wrap64 ((ji22) + 1)) then (if (wrap64 ((ji22) + 1)) ≤ (t304.length : Int) then ((some (t304.drop ((wrap64 ((ji22) + 1)) : Int).toNat : List (S29))).bind fun y321 => (if y318.length + y321.length < 2199023255552 then ((some (([] : List (S29)) : List (S29))).bind fun y329 => ((some (t304.take ((ji22) : Int).toNat : List (S29))).bind fun y332 => (if y329.length + y332.length < 2199023255552 then ((some (y329 ++ y332 : List (S29))).bind fun y337 => (if (ji22) < (t304.length : Int) then ((some (([(⟨(rd_T29 t304 (ji22)).f0, (rd_T29 t304 (ji22)).f1, (rd_T29 t304 (ji22)).f2, (rd_T29 t304 (ji22)).f3⟩ : S29)] : List (S29)) : List (S29))).bind fun y341 => (if y337.length + y341.length < 2199023255552 then ((some (y337 ++ y341 : List (S29))).bind fun y344 => ((some (t304.drop ((ji22) : Int).toNat : List (S29))).bind fun y347 => (if y344.length + y347.length < 2199023255552 then ((impl_StoreOk.f kj7 (y318 ++ y321)).bind fun t355 => (if t355 = true then ((impl_StoreOk.f kj7 (y344 ++ y347)).bind fun t356 => (some (!t356))) else (none))) else (none)))) else (none))) else (none))) else (none)))) else (none))) else (none)) else (none))) else (none))) else (none)) else (none)) = some r := by first | (rw [hji22] at H; exact H) | (simp only [hji22] at H ⊢; exact H)
        by_cases c23 : 0 ≤ (ji22)
        ·rw [if_pos c23] at H
         have c23b0 := eq_true c23
         have c23b1 : decide (0 ≤ (ji22)) = true := decide_eq_true c23
         clear c23
         by_cases c24 : (ji22) ≤ (t304.length : Int)
         ·rw [if_pos c24] at H
          have c24b0 := eq_true c24
          have c24b1 : decide ((ji22) ≤ (t304.length : Int)) = true := decide_eq_true c24
          clear c24
          obtain ⟨y313, hy313⟩ : ∃ y_ : List (S29), y_ = (t304.take ((ji22) : Int).toNat) := ⟨_, rfl⟩
          replace H : (if y310.length + y313.length < 2199023255552 then ((some (y310 ++ y313 : List (S29))).bind fun y318 => (if 0 ≤ (wrap64 ((ji22) + 1)) then (if (wrap64 ((ji22) + 1)) ≤ (t304.length : Int) then ((some (t304.drop ((wrap64 ((ji22) + 1)) : Int).toNat : List (S29))).bind fun y321 => (if y318.length + y321.length < 2199023255552 then ((some (([] : List (S29)) : List (S29))).bind fun y329 => ((some (t304.take ((ji22) : Int).toNat : List (S29))).bind fun y332 => (if y329.length + y332.length < 2199023255552 then ((some (y329 ++ y332 : List (S29))).bind fun y337 => (if (ji22) < (t304.length : Int) then ((some (([(⟨(rd_T29 t304 (ji22)).f0, (rd_T29 t304 (ji22)).f1, (rd_T29 t304 (ji22)).f2, (rd_T29 t304 (ji22)).f3⟩ : S29)] : List (S29)) : List (S29))).bind fun y341 => (if y337.length + y341.length < 2199023255552 then ((some (y337 ++ y341 : List (S29))).bind fun y344 => ((some (t304.drop ((ji22) : Int).toNat : List (S29))).bind fun y347 => (if y344.length + y347.length < 2199023255552 then ((impl_StoreOk.f kj7 (y318 ++ y321)).bind fun t355 => (if t355 = true then ((impl_StoreOk.f kj7 (y344 ++ y347)).bind fun t356 => (some (!t356))) else (none))) else (none)))) else (none))) else (none))) else (none)))) else (none))) else (none)) else (none))) else (none)) = some r := by first | (rw [hy313]; with_reducible exact H) | (have H2_ := (Option.bind_some _ _).symm.trans H; rw [hy313]; with_reducible exact H2_) | (have H2_ := (Option.bind_some _ _).symm.trans H; with_reducible exact H2_) | with_reducible exact H | (rw [hy313]; exact H) | exact H
          have Ny313 := Aside0.mk hy313
          clear hy313
          by_cases c25 : y310.length + y313.length < 2199023255552
          ·rw [if_pos c25] at H
           have LMc25 := Aside0.mk c25
           clear c25
           obtain ⟨y318, hy318⟩ : ∃ y_ : List (S29), y_ = (y310 ++ y313) := ⟨_, rfl⟩
           replace H : (if 0 ≤ (wrap64 ((ji22) + 1)) then (if (wrap64 ((ji22) + 1)) ≤ (t304.length : Int) then ((some (t304.drop ((wrap64 ((ji22) + 1)) : Int).toNat : List (S29))).bind fun y321 => (if y318.length + y321.length < 2199023255552 then ((some (([] : List (S29)) : List (S29))).bind fun y329 => ((some (t304.take ((ji22) : Int).toNat : List (S29))).bind fun y332 => (if y329.length + y332.length < 2199023255552 then ((some (y329 ++ y332 : List (S29))).bind fun y337 => (if (ji22) < (t304.length : Int) then ((some (([(⟨(rd_T29 t304 (ji22)).f0, (rd_T29 t304 (ji22)).f1, (rd_T29 t304 (ji22)).f2, (rd_T29 t304 (ji22)).f3⟩ : S29)] : List (S29)) : List (S29))).bind fun y341 => (if y337.length + y341.length < 2199023255552 then ((some (y337 ++ y341 : List (S29))).bind fun y344 => ((some (t304.drop ((ji22) : Int).toNat : List (S29))).bind fun y347 => (if y344.length + y347.length < 2199023255552 then ((impl_StoreOk.f kj7 (y318 ++ y321)).bind fun t355 => (if t355 = true then ((impl_StoreOk.f kj7 (y344 ++ y347)).bind fun t356 => (some (!t356))) else (none))) else (none)))) else (none))) else (none))) else (none)))) else (none))) else (none)) else (none)) = some r := by first | (rw [hy318]; with_reducible exact H) | (have H2_ := (Option.bind_some _ _).symm.trans H; rw [hy318]; with_reducible exact H2_) | (have H2_ := (Option.bind_some _ _).symm.trans H; with_reducible exact H2_) | with_reducible exact H | (rw [hy318]; exact H) | exact H
           have Ny318 := Aside0.mk hy318
           clear hy318
           obtain ⟨ji26, hji26⟩ : ∃ j_ : Int, (wrap64 ((ji22) + 1)) = j_ := ⟨_, rfl⟩
           replace H : (if 0 ≤ (ji26) then (if (ji26) ≤ (t304.length : Int) then ((some (t304.drop ((ji26) : Int).toNat : List (S29))).bind fun y321 => (if y318.length + y321.length < 2199023255552 then ((some (([] : List (S29)) : List (S29))).bind fun y329 => ((some (t304.take ((ji22) : Int).toNat : List (S29))).bind fun y332 => (if y329.length + y332.length < 2199023255552 then ((some (y329 ++ y332 : List (S29))).bind fun y337 => (if (ji22) < (t304.length : Int) then ((some (([(⟨(rd_T29 t304 (ji22)).f0, (rd_T29 t304 (ji22)).f1, (rd_T29 t304 (ji22)).f2, (rd_T29 t304 (ji22)).f3⟩ : S29)] : List (S29)) : List (S29))).bind fun y341 => (if y337.length + y341.length < 2199023255552 then ((some (y337 ++ y341 : List (S29))).bind fun y344 => ((some (t304.drop ((ji22) : Int).toNat : List (S29))).bind fun y347 => (if y344.length + y347.length < 2199023255552 then ((impl_StoreOk.f kj7 (y318 ++ y321)).bind fun t355 => (if t355 = true then ((impl_StoreOk.f kj7 (y344 ++ y347)).bind fun t356 => (some (!t356))) else (none))) else (none)))) else (none))) else (none))) else (none)))) else (none))) else (none)) else (none)) = some r := by first | (rw [hji26] at H; exact H) | (simp only [hji26] at H ⊢; exact H)
           have hji26w : (IntKind.i64.wrap ((ji22) + 1)) = ji26 := (i64_w _).trans hji26
           by_cases c27 : 0 ≤ (ji26)
           ·rw [if_pos c27] at H
            have c27b0 := eq_true c27
            have c27b1 : decide (0 ≤ (ji26)) = true := decide_eq_true c27
            clear c27
            by_cases c28 : (ji26) ≤ (t304.length : Int)
            ·rw [if_pos c28] at H
             have c28b0 := eq_true c28
             have c28b1 : decide ((ji26) ≤ (t304.length : Int)) = true := decide_eq_true c28
             clear c28
             obtain ⟨y321, hy321⟩ : ∃ y_ : List (S29), y_ = (t304.drop ((ji26) : Int).toNat) := ⟨_, rfl⟩
             replace H : (if y318.length + y321.length < 2199023255552 then ((some (([] : List (S29)) : List (S29))).bind fun y329 => ((some (t304.take ((ji22) : Int).toNat : List (S29))).bind fun y332 => (if y329.length + y332.length < 2199023255552 then ((some (y329 ++ y332 : List (S29))).bind fun y337 => (if (ji22) < (t304.length : Int) then ((some (([(⟨(rd_T29 t304 (ji22)).f0, (rd_T29 t304 (ji22)).f1, (rd_T29 t304 (ji22)).f2, (rd_T29 t304 (ji22)).f3⟩ : S29)] : List (S29)) : List (S29))).bind fun y341 => (if y337.length + y341.length < 2199023255552 then ((some (y337 ++ y341 : List (S29))).bind fun y344 => ((some (t304.drop ((ji22) : Int).toNat : List (S29))).bind fun y347 => (if y344.length + y347.length < 2199023255552 then ((impl_StoreOk.f kj7 (y318 ++ y321)).bind fun t355 => (if t355 = true then ((impl_StoreOk.f kj7 (y344 ++ y347)).bind fun t356 => (some (!t356))) else (none))) else (none)))) else (none))) else (none))) else (none)))) else (none)) = some r := by first | (rw [hy321]; with_reducible exact H) | (have H2_ := (Option.bind_some _ _).symm.trans H; rw [hy321]; with_reducible exact H2_) | (have H2_ := (Option.bind_some _ _).symm.trans H; with_reducible exact H2_) | with_reducible exact H | (rw [hy321]; exact H) | exact H
             have Ny321 := Aside0.mk hy321
             clear hy321
             by_cases c29 : y318.length + y321.length < 2199023255552
             ·rw [if_pos c29] at H
              have LMc29 := Aside0.mk c29
              clear c29
              obtain ⟨y326, hy326⟩ : ∃ y_ : List (S29), y_ = (y318 ++ y321) := ⟨_, rfl⟩
              replace H : ((some (([] : List (S29)) : List (S29))).bind fun y329 => ((some (t304.take ((ji22) : Int).toNat : List (S29))).bind fun y332 => (if y329.length + y332.length < 2199023255552 then ((some (y329 ++ y332 : List (S29))).bind fun y337 => (if (ji22) < (t304.length : Int) then ((some (([(⟨(rd_T29 t304 (ji22)).f0, (rd_T29 t304 (ji22)).f1, (rd_T29 t304 (ji22)).f2, (rd_T29 t304 (ji22)).f3⟩ : S29)] : List (S29)) : List (S29))).bind fun y341 => (if y337.length + y341.length < 2199023255552 then ((some (y337 ++ y341 : List (S29))).bind fun y344 => ((some (t304.drop ((ji22) : Int).toNat : List (S29))).bind fun y347 => (if y344.length + y347.length < 2199023255552 then ((impl_StoreOk.f kj7 y326).bind fun t355 => (if t355 = true then ((impl_StoreOk.f kj7 (y344 ++ y347)).bind fun t356 => (some (!t356))) else (none))) else (none)))) else (none))) else (none))) else (none)))) = some r := by first | (rw [hy326]; with_reducible exact H) | (have H2_ := (Option.bind_some _ _).symm.trans H; rw [hy326]; with_reducible exact H2_) | (have H2_ := (Option.bind_some _ _).symm.trans H; with_reducible exact H2_) | with_reducible exact H | (rw [hy326]; exact H) | exact H
              have Ny326 := Aside0.mk hy326
              clear hy326
              obtain ⟨y329, hy329⟩ : ∃ y_ : List (S29), y_ = (([] : List (S29))) := ⟨_, rfl⟩
              replace H : ((some (t304.take ((ji22) : Int).toNat : List (S29))).bind fun y332 => (if y329.length + y332.length < 2199023255552 then ((some (y329 ++ y332 : List (S29))).bind fun y337 => (if (ji22) < (t304.length : Int) then ((some (([(⟨(rd_T29 t304 (ji22)).f0, (rd_T29 t304 (ji22)).f1, (rd_T29 t304 (ji22)).f2, (rd_T29 t304 (ji22)).f3⟩ : S29)] : List (S29)) : List (S29))).bind fun y341 => (if y337.length + y341.length < 2199023255552 then ((some (y337 ++ y341 : List (S29))).bind fun y344 => ((some (t304.drop ((ji22) : Int).toNat : List (S29))).bind fun y347 => (if y344.length + y347.length < 2199023255552 then ((impl_StoreOk.f kj7 y326).bind fun t355 => (if t355 = true then ((impl_StoreOk.f kj7 (y344 ++ y347)).bind fun t356 => (some (!t356))) else (none))) else (none)))) else (none))) else (none))) else (none))) = some r := by first | (rw [hy329]; with_reducible exact H) | (have H2_ := (Option.bind_some _ _).symm.trans H; rw [hy329]; with_reducible exact H2_) | (have H2_ := (Option.bind_some _ _).symm.trans H; with_reducible exact H2_) | with_reducible exact H | (rw [hy329]; exact H) | exact H
              have Ny329 := Aside0.mk hy329
              clear hy329
              have c30b0 := eq_true (of_decide_eq_true (by first | (with_reducible assumption) | assumption) : 0 ≤ (ji22))
              have c31b0 := eq_true (of_decide_eq_true (by first | (with_reducible assumption) | assumption) : (ji22) ≤ (t304.length : Int))
              obtain ⟨y332, hy332⟩ : ∃ y_ : List (S29), y_ = (t304.take ((ji22) : Int).toNat) := ⟨_, rfl⟩
              replace H : (if y329.length + y332.length < 2199023255552 then ((some (y329 ++ y332 : List (S29))).bind fun y337 => (if (ji22) < (t304.length : Int) then ((some (([(⟨(rd_T29 t304 (ji22)).f0, (rd_T29 t304 (ji22)).f1, (rd_T29 t304 (ji22)).f2, (rd_T29 t304 (ji22)).f3⟩ : S29)] : List (S29)) : List (S29))).bind fun y341 => (if y337.length + y341.length < 2199023255552 then ((some (y337 ++ y341 : List (S29))).bind fun y344 => ((some (t304.drop ((ji22) : Int).toNat : List (S29))).bind fun y347 => (if y344.length + y347.length < 2199023255552 then ((impl_StoreOk.f kj7 y326).bind fun t355 => (if t355 = true then ((impl_StoreOk.f kj7 (y344 ++ y347)).bind fun t356 => (some (!t356))) else (none))) else (none)))) else (none))) else (none))) else (none)) = some r := by first | (rw [hy332]; with_reducible exact H) | (have H2_ := (Option.bind_some _ _).symm.trans H; rw [hy332]; with_reducible exact H2_) | (have H2_ := (Option.bind_some _ _).symm.trans H; with_reducible exact H2_) | with_reducible exact H | (rw [hy332]; exact H) | exact H
              have Ny332 := Aside0.mk hy332
              clear hy332
              by_cases c32 : y329.length + y332.length < 2199023255552
              ·rw [if_pos c32] at H
               have LMc32 := Aside0.mk c32
               clear c32
               obtain ⟨y337, hy337⟩ : ∃ y_ : List (S29), y_ = (y329 ++ y332) := ⟨_, rfl⟩
               replace H : (if (ji22) < (t304.length : Int) then ((some (([(⟨(rd_T29 t304 (ji22)).f0, (rd_T29 t304 (ji22)).f1, (rd_T29 t304 (ji22)).f2, (rd_T29 t304 (ji22)).f3⟩ : S29)] : List (S29)) : List (S29))).bind fun y341 => (if y337.length + y341.length < 2199023255552 then ((some (y337 ++ y341 : List (S29))).bind fun y344 => ((some (t304.drop ((ji22) : Int).toNat : List (S29))).bind fun y347 => (if y344.length + y347.length < 2199023255552 then ((impl_StoreOk.f kj7 y326).bind fun t355 => (if t355 = true then ((impl_StoreOk.f kj7 (y344 ++ y347)).bind fun t356 => (some (!t356))) else (none))) else (none)))) else (none))) else (none)) = some r := by first | (rw [hy337]; with_reducible exact H) | (have H2_ := (Option.bind_some _ _).symm.trans H; rw [hy337]; with_reducible exact H2_) | (have H2_ := (Option.bind_some _ _).symm.trans H; with_reducible exact H2_) | with_reducible exact H | (rw [hy337]; exact H) | exact H
               have Ny337 := Aside0.mk hy337
               clear hy337
               by_cases c33 : (ji22) < (t304.length : Int)
               ·rw [if_pos c33] at H
                have c33b0 : decide ((ji22) < (t304.length : Int)) = true := decide_eq_true c33
                clear c33
                obtain ⟨y341, hy341⟩ : ∃ y_ : List (S29), y_ = (([(⟨(rd_T29 t304 (ji22)).f0, (rd_T29 t304 (ji22)).f1, (rd_T29 t304 (ji22)).f2, (rd_T29 t304 (ji22)).f3⟩ : S29)] : List (S29))) := ⟨_, rfl⟩
                replace H : (if y337.length + y341.length < 2199023255552 then ((some (y337 ++ y341 : List (S29))).bind fun y344 => ((some (t304.drop ((ji22) : Int).toNat : List (S29))).bind fun y347 => (if y344.length + y347.length < 2199023255552 then ((impl_StoreOk.f kj7 y326).bind fun t355 => (if t355 = true then ((impl_StoreOk.f kj7 (y344 ++ y347)).bind fun t356 => (some (!t356))) else (none))) else (none)))) else (none)) = some r := by first | (rw [hy341]; with_reducible exact H) | (have H2_ := (Option.bind_some _ _).symm.trans H; rw [hy341]; with_reducible exact H2_) | (have H2_ := (Option.bind_some _ _).symm.trans H; with_reducible exact H2_) | with_reducible exact H | (rw [hy341]; exact H) | exact H
                have Ny341 := Aside0.mk hy341
                clear hy341
                by_cases c34 : y337.length + y341.length < 2199023255552
                ·rw [if_pos c34] at H
                 have LMc34 := Aside0.mk c34
                 clear c34
                 obtain ⟨y344, hy344⟩ : ∃ y_ : List (S29), y_ = (y337 ++ y341) := ⟨_, rfl⟩
                 replace H : ((some (t304.drop ((ji22) : Int).toNat : List (S29))).bind fun y347 => (if y344.length + y347.length < 2199023255552 then ((impl_StoreOk.f kj7 y326).bind fun t355 => (if t355 = true then ((impl_StoreOk.f kj7 (y344 ++ y347)).bind fun t356 => (some (!t356))) else (none))) else (none))) = some r := by first | (rw [hy344]; with_reducible exact H) | (have H2_ := (Option.bind_some _ _).symm.trans H; rw [hy344]; with_reducible exact H2_) | (have H2_ := (Option.bind_some _ _).symm.trans H; with_reducible exact H2_) | with_reducible exact H | (rw [hy344]; exact H) | exact H
                 have Ny344 := Aside0.mk hy344
                 clear hy344
                 have c35b0 := eq_true (of_decide_eq_true (by first | (with_reducible assumption) | assumption) : 0 ≤ (ji22))
                 have c36b0 := eq_true (of_decide_eq_true (by first | (with_reducible assumption) | assumption) : (ji22) ≤ (t304.length : Int))
                 obtain ⟨y347, hy347⟩ : ∃ y_ : List (S29), y_ = (t304.drop ((ji22) : Int).toNat) := ⟨_, rfl⟩
                 replace H : (if y344.length + y347.length < 2199023255552 then ((impl_StoreOk.f kj7 y326).bind fun t355 => (if t355 = true then ((impl_StoreOk.f kj7 (y344 ++ y347)).bind fun t356 => (some (!t356))) else (none))) else (none)) = some r := by first | (rw [hy347]; with_reducible exact H) | (have H2_ := (Option.bind_some _ _).symm.trans H; rw [hy347]; with_reducible exact H2_) | (have H2_ := (Option.bind_some _ _).symm.trans H; with_reducible exact H2_) | with_reducible exact H | (rw [hy347]; exact H) | exact H
                 have Ny347 := Aside0.mk hy347
                 clear hy347
                 by_cases c37 : y344.length + y347.length < 2199023255552
                 ·rw [if_pos c37] at H
                  have LMc37 := Aside0.mk c37
                  clear c37
                  obtain ⟨y352, hy352⟩ : ∃ y_ : List (S29), y_ = (y344 ++ y347) := ⟨_, rfl⟩
                  replace H : ((impl_StoreOk.f kj7 y326).bind fun t355 => (if t355 = true then ((impl_StoreOk.f kj7 y352).bind fun t356 => (some (!t356))) else (none))) = some r := by first | (rw [hy352]; with_reducible exact H) | (have H2_ := (Option.bind_some _ _).symm.trans H; rw [hy352]; with_reducible exact H2_) | (have H2_ := (Option.bind_some _ _).symm.trans H; with_reducible exact H2_) | with_reducible exact H | (rw [hy352]; exact H) | exact H
                  have Ny352 := Aside0.mk hy352
                  clear hy352
                  replace H := Option.bind_eq_some_iff.mp H
                  obtain ⟨t355, A380, H⟩ := H
                  replace H : (if t355 = true then ((impl_StoreOk.f kj7 y352).bind fun t356 => (some (!t356))) else (none)) = some r := H
                  have A38 := Aside0.mk A380
                  clear A380
                  by_cases c39 : t355 = true
                  ·subst c39
                   have H1 : ((impl_StoreOk.f kj7 y352).bind fun t356 => (some (!t356))) = some r := by rw [if_pos rfl] at H; exact H
                   clear H
                   have H := H1
                   clear H1
                   replace H := Option.bind_eq_some_iff.mp H
                   obtain ⟨t356, A400, H⟩ := H
                   replace H : (some (!t356)) = some r := H
                   have A40 := Aside0.mk A400
                   clear A400
                   obtain rfl := Option.some.inj H
                   try go_wp2
                   have n0_ := Aside0.mk (Kd.N_drew HO_5.out)
                   have n1_ := Aside0.mk (below_drew1 HB.out)
                   clear HO_5
                   clear HB
                   have HO_5 := n0_
                   have HB := n1_
                   clear n0_ n1_
                   have q42 : ((ji22) : Int) ≤ ((t304.length : Int) : Int) := of_decide_eq_true (by first | (with_reducible assumption) | assumption)
                   obtain ⟨i042, hi042, _, hsz42, _⟩ := info_parts info29
                   have hroom42 : t304.length ≤ co10 := (Kd.N_reads' HO_5.out).2.1
                   have hC42 : Kd.F k29 _ _ Ao10 t304.length t304 := (Kd.V_at (base := w.heap.size) (Kd.N_V HO_5.out)).2.2
                   have hcut42 := cut_to (P := Try.prog) 23 29 .i64 Try.underlying23 hi042 Ao10 t304.length co10 (ji22) (of_decide_eq_true (by first | (with_reducible assumption) | assumption)) q42 hroom42
                   have hr42 := Kd.F_take (m := ((ji22) : Int).toNat) hC42 (by omega)
                   have hy42 : y313.length = ((ji22) : Int).toNat := (by rw [Ny313.out, List.length_take]; omega)
                   rw [← Ny313.out] at hr42
                   rw [← hy42] at hcut42
                   have HO317 := Aside0.mk (show Kd.V k29 29 _ w.heap.size _ (.slice Ao10 y313.length co10) y313 from Kd.V_mk (by omega) hr42)
                   have HC317 := Aside0.mk (show y313.length ≤ co10 from by omega)
                   clear hr42 hC42 hroom42 hi042 hsz42
                   have KY42 := Aside0.mk hy42
                   clear hy42
                   replace q42 := eq_true q42
                   have q43 : ((ji26) : Int) ≤ ((t304.length : Int) : Int) := of_decide_eq_true (by first | (with_reducible assumption) | assumption)
                   obtain ⟨i043, hi043, _, hsz43, _⟩ := info_parts info29
                   have hroom43 : t304.length ≤ co10 := (Kd.N_reads' HO_5.out).2.1
                   have hC43 : Kd.F k29 _ _ Ao10 t304.length t304 := (Kd.V_at (base := w.heap.size) (Kd.N_V HO_5.out)).2.2
                   have q043 : (0 : Int) ≤ ((ji26) : Int) := of_decide_eq_true (by first | (with_reducible assumption) | assumption)
                   have hcut43 := cut_from (P := Try.prog) 23 29 .i64 Try.underlying23 hi043 4 hsz43 Ao10 t304.length co10 (ji26) q043 q43
                   have hr43 := Kd.F_cut (m := ((ji26) : Int).toNat) (c := co10) hC43 (by omega) hroom43
                   obtain ⟨A43, hA43⟩ : ∃ A1, A1 = (if co10 = ((ji26) : Int).toNat then Ao10 else (Ao10 : Option Addr).map (·.add (((ji26) : Int).toNat * 4))) := ⟨_, rfl⟩
                   obtain ⟨c43, hc43⟩ : ∃ c1, c1 = co10 - ((ji26) : Int).toNat := ⟨_, rfl⟩
                   have hy43 : y321.length = t304.length - ((ji26) : Int).toNat := (by rw [Ny321.out, List.length_drop] <;> omega)
                   rw [show (t304).drop ((ji26) : Int).toNat = y321 from Ny321.out.symm] at hr43
                   replace hr43 : Kd.F k29 _ _ A43 y321.length y321 := (by rw [hA43]; exact hr43)
                   rw [← hy43, ← hA43, ← hc43] at hcut43
                   have HO325 := Aside0.mk (show Kd.V k29 29 _ w.heap.size _ (.slice A43 y321.length c43) y321 from Kd.V_mk (by rw [hy43, hc43]; exact Nat.sub_le_sub_right hroom43 _) hr43)
                   have HC325 := Aside0.mk (show y321.length ≤ c43 from by rw [hy43, hc43]; exact Nat.sub_le_sub_right hroom43 _)
                   clear hr43 hC43 hroom43 hi043 hsz43 hc43
                   have KY43 := Aside0.mk hy43
                   have KA43 := Aside0.mk hA43
                   clear hy43 hA43
                   replace q43 := eq_true q43
                   refine start_ (n := 11) (S := fun w' => True) (ds := []) #[false, false, false, false, false, false, false, false, false, false, false] (by kernel_rfl) rfl rfl trivial (fun hHeld => ?_); refine with_tabW laws_FnStoreLess.tab8 laws_FnStoreLess.bits8 (fun HT_ HW_ => ?_)
                   generalize wc.drew = w41 at HO_5 HB HO317 HO325 hHeld ⊢
                   refine pure_ (i := 1) (N := some 45) (v := ?_) (a' := ?_) #[false, true, false, false, false, false, false, false, false, false, false] rfl rfl (any_of HT_.out (by kernel_rfl)) (fun _ _ _ h => h) (Or.inl ⟨by rfl, ?_⟩) ?_ ?_
                   rotate_left
                   ·intro w'
                    go_simp
                    with_reducible rfl
                   rotate_left
                   ·simp only [zp0, zp1, zp2, zp3, zp4, i64_w, i32_w]
                    rfl
                   refine pure_ (i := 2) (N := some 46) (v := ?_) (a' := ?_) #[false, true, true, false, false, false, false, false, false, false, false] rfl rfl (any_of HT_.out (by kernel_rfl)) (fun _ _ _ h => h) (Or.inl ⟨by rfl, ?_⟩) ?_ ?_
                   rotate_left
                   ·intro w'
                    go_simp
                    with_reducible rfl
                   rotate_left
                   ·simp only [zp0, zp1, zp2, zp3, zp4, i64_w, i32_w]
                    rfl
                   refine pure_ (i := 3) (N := some 47) (v := ?_) (a' := ?_) #[false, true, true, true, false, false, false, false, false, false, false] rfl rfl (any_of HT_.out (by kernel_rfl)) (fun _ _ _ h => h) (Or.inl ⟨by rfl, ?_⟩) ?_ ?_
                   rotate_left
                   ·intro w'
                    go_simp
                    with_reducible rfl
                   rotate_left
                   ·simp only [zp0, zp1, zp2, zp3, zp4, i64_w, i32_w]
                    rfl
                   refine pure_ (i := 5) (N := some 49) (v := ?_) (a' := ?_) #[false, true, true, true, false, true, false, false, false, false, false] rfl rfl (any_of HT_.out (by kernel_rfl)) (fun _ _ _ h => h) (Or.inl ⟨by rfl, ?_⟩) ?_ ?_
                   rotate_left
                   ·intro w'
                    go_simp
                    with_reducible rfl
                   rotate_left
                   ·simp only [zp0, zp1, zp2, zp3, zp4, i64_w, i32_w]
                    rfl
                   refine pure_ (i := 6) (N := some 50) (v := ?_) (a' := ?_) #[false, true, true, true, false, true, true, false, false, false, false] rfl rfl (any_of HT_.out (by kernel_rfl)) (fun _ _ _ h => h) (Or.inl ⟨by rfl, ?_⟩) ?_ ?_
                   rotate_left
                   ·intro w'
                    go_simp
                    with_reducible rfl
                   rotate_left
                   ·simp only [zp0, zp1, zp2, zp3, zp4, i64_w, i32_w]
                    rfl
                   refine pure_ (i := 7) (N := some 51) (v := ?_) (a' := ?_) #[false, true, true, true, false, true, true, true, false, false, false] rfl rfl (any_of HT_.out (by kernel_rfl)) (fun _ _ _ h => h) (Or.inl ⟨by rfl, ?_⟩) ?_ ?_
                   rotate_left
                   ·intro w'
                    go_simp
                    with_reducible rfl
                   rotate_left
                   ·simp only [zp0, zp1, zp2, zp3, zp4, i64_w, i32_w]
                    rfl
                   refine pure_ (i := 8) (N := some 52) (v := ?_) (a' := ?_) #[false, true, true, true, false, true, true, true, true, false, false] rfl rfl (any_of HT_.out (by kernel_rfl)) (fun _ _ _ h => h) (Or.inl ⟨by rfl, ?_⟩) ?_ ?_
                   rotate_left
                   ·intro w'
                    go_simp
                    with_reducible rfl
                   rotate_left
                   ·simp only [zp0, zp1, zp2, zp3, zp4, i64_w, i32_w]
                    rfl
                   refine one_ (i := 0) (N := some 44) #[true, true, true, true, false, true, true, true, true, false, false] rfl rfl (one_of HT_.out (by kernel_rfl)) (by decide) (fun K hK => ?_)
                   refine Kd.N_lit_step k29 _ 29 ?hg (N' := 44) ?hd (xs := ([] : List (S29))) (inner := []) (ok := (fun k_ => some k_ ≠ (.slice Ao10 t304.length co10 : Value).ownBlock)) (okp := (fun k_ => some k_ ≠ (.slice Ao10 t304.length co10 : Value).ownBlock)) ?hr ?hp (fun _ hk => hk) ((show ∀ k_, w41.heap.size ≤ k_ → (fun k_ => some k_ ≠ (.slice Ao10 t304.length co10 : Value).ownBlock) k_ from fun k_ hk => Kd.fresh' (Kd.N_lt (by exact zN HO_5.out)) k_ hk) _ (Nat.le_refl _)) (Below.refl _ _) (Nat.le_refl _) (by simp) ?_; (case hd => rfl); (case hg => rfl); (case hr => first | (go_simp; done) | (go_simp; rfl)); (case hp => exact (Reps.none _ _))
                   intro v311 w44 ho45 hb hg_ hnew_
                   clear hg_ hnew_
                   (first | rw [← Ny310.out] at ho45 | (simp only [Int.reduceToNat] at ho45; rw [← Ny310.out] at ho45))
                   have n0_ := Aside0.mk (Kd.N_elder' (by exact zN HO_5.out) (Kd.N_base ho45) hb)
                   have n1_ := Aside0.mk (Kd.V_elder' (by (with_reducible repeat (first | apply Kd.V_alloc | apply Kd.V_drewN | apply Kd.V_drew)); exact HO317.out) (Kd.N_base ho45) hb)
                   have n2_ := Aside0.mk (Kd.V_elder' (by (with_reducible repeat (first | apply Kd.V_alloc | apply Kd.V_drewN | apply Kd.V_drew)); exact HO325.out) (Kd.N_base ho45) hb)
                   have n3_ := Aside0.mk (Kd.N_lower ho45 (below_size (by exact zB HB.out)))
                   have n4_ := Aside0.mk (below_step (by exact zB HB.out) hb)
                   clear HO_5
                   clear HO317
                   clear HO325
                   clear HB
                   have HO_5 := n0_
                   have HO317 := n1_
                   have HO325 := n2_
                   have HO312 := n3_
                   have HB := n4_
                   clear n0_ n1_ n2_ n3_ n4_
                   clear hb ho45
                   refine hK.out _ _ trivial (fun hHeld => ?_)
                   clear hK K
                   refine norm_ (a' := ?_) ?_ ?_
                   rotate_left
                   ·show Act.put _ (some 44) _ = _
                    simp only [zp0, zp1, zp2, zp3, zp4, i64_w, i32_w]
                    rfl
                   refine one_ (i := 4) (N := some 48) #[true, true, true, true, true, true, true, true, true, false, false] rfl rfl (one_of HT_.out (by kernel_rfl)) (by decide) (fun K hK => ?_)
                   refine Kd.N_append_rows_step k29 (w0 := w) w.heap.size (by rfl) (.tmp 44) (.tmp 47) 23 29 (.agg #[(.int .i64 0), (.int .i64 0), (.slice none 0 0), (.slice none 0 0)]) 64 rfl Try.underlying23 info29 rfl (by decide) (by omega) v311 y310 y313 _ _ _ (fun _ => True) (fun k_ => ((fun _ => True)) k_ ∧ some k_ ≠ (v311 : Value).ownBlock) rfl rfl ?aO ?aR (fun _ hk => hk) ?aF ?aB ?aS ?aL ?_
                   (case aR => exact (by skip; exact Kd.V_F (Kd.V_mono (ok' := (fun k_ => ((fun _ => True)) k_ ∧ some k_ ≠ (v311 : Value).ownBlock)) (HO317.out) (fun k_ hk => ⟨trivial, hk.2⟩))))
                   (case aB => exact (by exact zB HB.out))
                   (case aF => exact (fun _ _ => trivial))
                   (case aO => exact (by exact zN (Kd.N_mono HO312.out (fun _ hk => trivial))))
                   (case aS => exact (below_size (by exact zB HB.out)))
                   (case aL => have := LMc25.out; omega)
                   intro v319 w46 ho hb hg hat
                   rw [← Ny318.out] at ho
                   have n0_ := Aside0.mk (Kd.N_afterv (ok := (fun _ => True)) (by exact zN HO_5.out) hg hat)
                   have n1_ := Aside0.mk (Kd.V_afterv (ok := (fun _ => True)) (by (with_reducible repeat (first | apply Kd.V_alloc | apply Kd.V_drewN | apply Kd.V_drew)); exact HO317.out) hg hat)
                   have n2_ := Aside0.mk (Kd.V_afterv (ok := (fun _ => True)) (by (with_reducible repeat (first | apply Kd.V_alloc | apply Kd.V_drewN | apply Kd.V_drew)); exact HO325.out) hg hat)
                   have n3_ := Aside0.mk (hb)
                   have n4_ := Aside0.mk (ho)
                   clear HO_5
                   clear HO317
                   clear HO325
                   clear HB
                   clear HO312
                   have HO_5 := n0_
                   have HO317 := n1_
                   have HO325 := n2_
                   have HB := n3_
                   have HO320 := n4_
                   clear n0_ n1_ n2_ n3_ n4_
                   clear ho hb hg hat
                   refine hK.out _ _ trivial (fun hHeld => ?_)
                   clear hK K
                   refine norm_ (a' := ?_) ?_ ?_
                   rotate_left
                   ·show Act.put _ (some 48) _ = _
                    simp only [zp0, zp1, zp2, zp3, zp4, i64_w, i32_w]
                    rfl
                   refine one_ (i := 9) (N := some 53) #[true, true, true, true, true, true, true, true, true, true, false] rfl rfl (one_of HT_.out (by kernel_rfl)) (by decide) (fun K hK => ?_)
                   refine Kd.N_append_rows_step k29 (w0 := w) w.heap.size (by rfl) (.tmp 48) (.tmp 52) 23 29 (.agg #[(.int .i64 0), (.int .i64 0), (.slice none 0 0), (.slice none 0 0)]) 64 rfl Try.underlying23 info29 rfl (by decide) (by omega) v319 y318 y321 _ _ _ (fun _ => True) (fun k_ => ((fun _ => True)) k_ ∧ some k_ ≠ (v319 : Value).ownBlock) rfl rfl ?aO ?aR (fun _ hk => hk) ?aF ?aB ?aS ?aL ?_
                   (case aR => exact (by skip; exact Kd.V_F (Kd.V_mono (ok' := (fun k_ => ((fun _ => True)) k_ ∧ some k_ ≠ (v319 : Value).ownBlock)) (HO325.out) (fun k_ hk => ⟨trivial, hk.2⟩))))
                   (case aB => exact (by exact zB HB.out))
                   (case aF => exact (fun _ _ => trivial))
                   (case aO => exact (by exact zN HO320.out))
                   (case aS => exact (below_size (by exact zB HB.out)))
                   (case aL => have := LMc29.out; omega)
                   intro v327 w47 ho hb hg hat
                   rw [← Ny326.out] at ho
                   have n0_ := Aside0.mk (Kd.N_afterv (ok := (fun _ => True)) (by exact zN HO_5.out) hg hat)
                   have n1_ := Aside0.mk (Kd.V_afterv (ok := (fun _ => True)) (by (with_reducible repeat (first | apply Kd.V_alloc | apply Kd.V_drewN | apply Kd.V_drew)); exact HO317.out) hg hat)
                   have n2_ := Aside0.mk (Kd.V_afterv (ok := (fun _ => True)) (by (with_reducible repeat (first | apply Kd.V_alloc | apply Kd.V_drewN | apply Kd.V_drew)); exact HO325.out) hg hat)
                   have n3_ := Aside0.mk (hb)
                   have n4_ := Aside0.mk (ho)
                   clear HO_5
                   clear HO317
                   clear HO325
                   clear HB
                   clear HO320
                   have HO_5 := n0_
                   have HO317 := n1_
                   have HO325 := n2_
                   have HB := n3_
                   have HO328 := n4_
                   clear n0_ n1_ n2_ n3_ n4_
                   clear ho hb hg hat
                   refine hK.out _ _ trivial (fun hHeld => ?_)
                   clear hK K
                   refine norm_ (a' := ?_) ?_ ?_
                   rotate_left
                   ·show Act.put _ (some 53) _ = _
                    simp only [zp0, zp1, zp2, zp3, zp4, i64_w, i32_w]
                    rfl
                   refine pure_ (i := 10) (N := some 8) (v := ?_) (a' := ?_) #[true, true, true, true, true, true, true, true, true, true, true] rfl rfl (any_of HT_.out (by kernel_rfl)) (fun _ _ _ h => h) (Or.inl ⟨by rfl, ?_⟩) ?_ ?_
                   rotate_left
                   ·intro w'
                    go_simp
                    with_reducible rfl
                   rotate_left
                   ·simp only [zp0, zp1, zp2, zp3, zp4, i64_w, i32_w]
                    rfl
                   refine done_ (done_of HT_.out (by kernel_rfl)) ?_
                   try go_wp2
                   have n0_ := Aside0.mk (Kd.N_drew HO_5.out)
                   have n1_ := Aside0.mk (Kd.V_drew HO317.out)
                   have n2_ := Aside0.mk (Kd.V_drew HO325.out)
                   have n3_ := Aside0.mk (Kd.N_drew HO328.out)
                   have n4_ := Aside0.mk (below_drew1 HB.out)
                   clear HO_5
                   clear HO317
                   clear HO325
                   clear HO328
                   clear HB
                   have HO_5 := n0_
                   have HO317 := n1_
                   have HO325 := n2_
                   have HO328 := n3_
                   have HB := n4_
                   clear n0_ n1_ n2_ n3_ n4_
                   have q49 : ((ji22) : Int) ≤ ((t304.length : Int) : Int) := of_decide_eq_true (by first | (with_reducible assumption) | assumption)
                   obtain ⟨i049, hi049, _, hsz49, _⟩ := info_parts info29
                   have hroom49 : t304.length ≤ co10 := (Kd.N_reads' HO_5.out).2.1
                   have hC49 : Kd.F k29 _ _ Ao10 t304.length t304 := (Kd.V_at (base := w.heap.size) (Kd.N_V HO_5.out)).2.2
                   have hcut49 := cut_to (P := Try.prog) 23 29 .i64 Try.underlying23 hi049 Ao10 t304.length co10 (ji22) (of_decide_eq_true (by first | (with_reducible assumption) | assumption)) q49 hroom49
                   have hr49 := Kd.F_take (m := ((ji22) : Int).toNat) hC49 (by omega)
                   have hy49 : y332.length = ((ji22) : Int).toNat := (by rw [Ny332.out, List.length_take]; omega)
                   rw [← Ny332.out] at hr49
                   rw [← hy49] at hcut49
                   have HO336 := Aside0.mk (show Kd.V k29 29 _ w.heap.size _ (.slice Ao10 y332.length co10) y332 from Kd.V_mk (by omega) hr49)
                   have HC336 := Aside0.mk (show y332.length ≤ co10 from by omega)
                   clear hr49 hC49 hroom49 hi049 hsz49
                   have KY49 := Aside0.mk hy49
                   clear hy49
                   replace q49 := eq_true q49
                   have p340 : 0 ≤ ((ji22) : Int) := of_decide_eq_true (by first | (with_reducible assumption) | assumption)
                   have q340 : (ji22) < (t304.length : Int) := of_decide_eq_true (by first | (with_reducible assumption) | assumption)
                   obtain ⟨ad340, A340_2, c340_2, A340_3, c340_3, e340, hx340_0, hx340_1, hx340_2, hx340_3, hl340_2, hi340_2, hl340_3, hi340_3⟩ := at_T29 (Kd.N_reads' HO_5.out).2.2 (ji22) p340 q340
                   cases e340
                   obtain ⟨ce340, hce340, hMe340, hcc340⟩ := Kd.N_get HO_5.out z29 (ji22) p340 (by first | exact q340 | exact of_decide_eq_true (by first | (with_reducible assumption) | assumption) | (have e_ := (Kd.N_reads' HO_5.out).1; omega))
                   obtain ⟨ua340_2, uc340_2, ua340_3, uc340_3, rfl, ul340_2, ge340_2, ul340_3, ge340_3⟩ := k29_openF hMe340
                   have hv340_2 := hcc340 2 _ rfl
                   rw [add_field _ _ 2 (by omega)] at hv340_2
                   replace hv340_2 := Option.some.inj (hv340_2.symm.trans hx340_2)
                   injection hv340_2 with hva_ hvn_ hvc_
                   rw [hva_] at ge340_2
                   rw [hvc_] at ul340_2
                   have HL340_2 := Aside0.mk (show Kd.V k89 89 _ w.heap.size _ _ ((rd_T29 t304 (ji22)).f2) from Kd.V_mk ul340_2 ge340_2)
                   clear hva_ hvn_ hvc_ ge340_2 ul340_2
                   have hv340_3 := hcc340 3 _ rfl
                   rw [add_field _ _ 3 (by omega)] at hv340_3
                   replace hv340_3 := Option.some.inj (hv340_3.symm.trans hx340_3)
                   injection hv340_3 with hva_ hvn_ hvc_
                   rw [hva_] at ge340_3
                   rw [hvc_] at ul340_3
                   have HL340_3 := Aside0.mk (show Kd.V k91 91 _ w.heap.size _ _ ((rd_T29 t304 (ji22)).f3) from Kd.V_mk ul340_3 ge340_3)
                   clear hva_ hvn_ hvc_ ge340_3 ul340_3
                   clear hcc340 hce340
                   have HR340_2 := Aside0.mk hi340_2
                   have HC340_2 := Aside0.mk hl340_2
                   clear hi340_2 hl340_2
                   have HR340_3 := Aside0.mk hi340_3
                   have HC340_3 := Aside0.mk hl340_3
                   clear hi340_3 hl340_3
                   replace p340 := eq_true p340
                   replace q340 := eq_true q340
                   have q50 : ((ji22) : Int) ≤ ((t304.length : Int) : Int) := of_decide_eq_true (by first | (with_reducible assumption) | assumption)
                   obtain ⟨i050, hi050, _, hsz50, _⟩ := info_parts info29
                   have hroom50 : t304.length ≤ co10 := (Kd.N_reads' HO_5.out).2.1
                   have hC50 : Kd.F k29 _ _ (some ad340) t304.length t304 := (Kd.V_at (base := w.heap.size) (Kd.N_V HO_5.out)).2.2
                   have q050 : (0 : Int) ≤ ((ji22) : Int) := of_decide_eq_true (by first | (with_reducible assumption) | assumption)
                   have hcut50 := cut_from (P := Try.prog) 23 29 .i64 Try.underlying23 hi050 4 hsz50 (some ad340) t304.length co10 (ji22) q050 q50
                   have hr50 := Kd.F_cut (m := ((ji22) : Int).toNat) (c := co10) hC50 (by omega) hroom50
                   obtain ⟨A50, hA50⟩ : ∃ A1, A1 = (if co10 = ((ji22) : Int).toNat then (some ad340) else ((some ad340) : Option Addr).map (·.add (((ji22) : Int).toNat * 4))) := ⟨_, rfl⟩
                   obtain ⟨c50, hc50⟩ : ∃ c1, c1 = co10 - ((ji22) : Int).toNat := ⟨_, rfl⟩
                   have hy50 : y347.length = t304.length - ((ji22) : Int).toNat := (by rw [Ny347.out, List.length_drop] <;> omega)
                   rw [show (t304).drop ((ji22) : Int).toNat = y347 from Ny347.out.symm] at hr50
                   replace hr50 : Kd.F k29 _ _ A50 y347.length y347 := (by rw [hA50]; exact hr50)
                   rw [← hy50, ← hA50, ← hc50] at hcut50
                   have HO351 := Aside0.mk (show Kd.V k29 29 _ w.heap.size _ (.slice A50 y347.length c50) y347 from Kd.V_mk (by rw [hy50, hc50]; exact Nat.sub_le_sub_right hroom50 _) hr50)
                   have HC351 := Aside0.mk (show y347.length ≤ c50 from by rw [hy50, hc50]; exact Nat.sub_le_sub_right hroom50 _)
                   clear hr50 hC50 hroom50 hi050 hsz50 hc50
                   have KY50 := Aside0.mk hy50
                   have KA50 := Aside0.mk hA50
                   clear hy50 hA50
                   replace q50 := eq_true q50
                   refine start_ (n := 16) (S := fun w' => w'.cell? (ad340.add (((ji22)).toNat * 4)) = some (.int .i64 ((rd_T29 t304 (ji22)).f0)) ∧ w'.cell? ⟨(ad340.add (((ji22)).toNat * 4)).block, (ad340.add (((ji22)).toNat * 4)).off + 1, none⟩ = some (.int .i64 ((rd_T29 t304 (ji22)).f1)) ∧ w'.cell? ⟨(ad340.add (((ji22)).toNat * 4)).block, (ad340.add (((ji22)).toNat * 4)).off + 2, none⟩ = some (.slice A340_2 ((rd_T29 t304 (ji22)).f2).length c340_2) ∧ w'.cell? ⟨(ad340.add (((ji22)).toNat * 4)).block, (ad340.add (((ji22)).toNat * 4)).off + 3, none⟩ = some (.slice A340_3 ((rd_T29 t304 (ji22)).f3).length c340_3)) (ds := []) #[false, false, false, false, false, false, false, false, false, false, false, false, false, false, false, false] (by kernel_rfl) rfl rfl ⟨hx340_0, hx340_1, hx340_2, hx340_3⟩ (fun hHeld => ?_); refine with_tabW laws_FnStoreLess.tab9 laws_FnStoreLess.bits9 (fun HT_ HW_ => ?_)
                   generalize w47.drew = w48 at HO_5 HO317 HO325 HO328 HB HL340_2 HL340_3 HO336 HO351 HR340_2 HR340_3 hx340_0 hx340_1 hx340_2 hx340_3 hHeld ⊢
                   refine pure_ (i := 1) (N := some 55) (v := ?_) (a' := ?_) #[false, true, false, false, false, false, false, false, false, false, false, false, false, false, false, false] rfl rfl (any_of HT_.out (by kernel_rfl)) (fun _ _ _ h => h) (Or.inl ⟨by rfl, ?_⟩) ?_ ?_
                   rotate_left
                   ·intro w'
                    go_simp
                    with_reducible rfl
                   rotate_left
                   ·simp only [zp0, zp1, zp2, zp3, zp4, i64_w, i32_w]
                    rfl
                   refine pure_ (i := 2) (N := some 56) (v := ?_) (a' := ?_) #[false, true, true, false, false, false, false, false, false, false, false, false, false, false, false, false] rfl rfl (any_of HT_.out (by kernel_rfl)) (fun _ _ _ h => h) (Or.inl ⟨by rfl, ?_⟩) ?_ ?_
                   rotate_left
                   ·intro w'
                    go_simp
                    with_reducible rfl
                   rotate_left
                   ·simp only [zp0, zp1, zp2, zp3, zp4, i64_w, i32_w]
                    rfl
                   refine pure_ (i := 3) (N := some 57) (v := ?_) (a' := ?_) #[false, true, true, true, false, false, false, false, false, false, false, false, false, false, false, false] rfl rfl (any_of HT_.out (by kernel_rfl)) (fun _ _ _ h => h) (Or.inl ⟨by rfl, ?_⟩) ?_ ?_
                   rotate_left
                   ·intro w'
                    go_simp
                    with_reducible rfl
                   rotate_left
                   ·simp only [zp0, zp1, zp2, zp3, zp4, i64_w, i32_w]
                    rfl
                   refine pure_ (i := 5) (N := some 59) (v := ?_) (a' := ?_) #[false, true, true, true, false, true, false, false, false, false, false, false, false, false, false, false] rfl rfl (any_of HT_.out (by kernel_rfl)) (fun _ _ _ h => h) (Or.inl ⟨by rfl, ?_⟩) ?_ ?_
                   rotate_left
                   ·intro w'
                    go_simp
                    with_reducible rfl
                   rotate_left
                   ·simp only [zp0, zp1, zp2, zp3, zp4, i64_w, i32_w]
                    rfl
                   refine pure_ (i := 6) (N := some 60) (v := ?_) (a' := ?_) #[false, true, true, true, false, true, true, false, false, false, false, false, false, false, false, false] rfl rfl (any_of HT_.out (by kernel_rfl)) (fun _ _ _ h => h) (Or.inl ⟨by rfl, ?_⟩) ?_ ?_
                   rotate_left
                   ·intro w'
                    go_simp
                    with_reducible rfl
                   rotate_left
                   ·simp only [zp0, zp1, zp2, zp3, zp4, i64_w, i32_w]
                    rfl
                   refine pure_ (i := 7) (N := some 61) (v := ?_) (a' := ?_) #[false, true, true, true, false, true, true, true, false, false, false, false, false, false, false, false] rfl rfl (any_of HT_.out (by kernel_rfl)) (fun _ _ _ h => h) (Or.inl ⟨by rfl, ?_⟩) ?_ ?_
                   rotate_left
                   ·intro w'
                    go_simp
                    with_reducible rfl
                   rotate_left
                   ·simp only [zp0, zp1, zp2, zp3, zp4, i64_w, i32_w]
                    rfl
                   refine pure_ (i := 11) (N := some 65) (v := ?_) (a' := ?_) #[false, true, true, true, false, true, true, true, false, false, false, true, false, false, false, false] rfl rfl (any_of HT_.out (by kernel_rfl)) (fun _ _ _ h => h) (Or.inl ⟨by rfl, ?_⟩) ?_ ?_
                   rotate_left
                   ·intro w'
                    go_simp
                    with_reducible rfl
                   rotate_left
                   ·simp only [zp0, zp1, zp2, zp3, zp4, i64_w, i32_w]
                    rfl
                   refine pure_ (i := 12) (N := some 66) (v := ?_) (a' := ?_) #[false, true, true, true, false, true, true, true, false, false, false, true, true, false, false, false] rfl rfl (any_of HT_.out (by kernel_rfl)) (fun _ _ _ h => h) (Or.inl ⟨by rfl, ?_⟩) ?_ ?_
                   rotate_left
                   ·intro w'
                    go_simp
                    with_reducible rfl
                   rotate_left
                   ·simp only [zp0, zp1, zp2, zp3, zp4, i64_w, i32_w]
                    rfl
                   refine pure_ (i := 13) (N := some 67) (v := ?_) (a' := ?_) #[false, true, true, true, false, true, true, true, false, false, false, true, true, true, false, false] rfl rfl (any_of HT_.out (by kernel_rfl)) (fun _ _ _ h => h) (Or.inl ⟨by rfl, ?_⟩) ?_ ?_
                   rotate_left
                   ·intro w'
                    go_simp
                    with_reducible rfl
                   rotate_left
                   ·simp only [zp0, zp1, zp2, zp3, zp4, i64_w, i32_w]
                    rfl
                   refine take_ (i := 8) (N := some 62) (v := ?_) (a' := ?_) #[false, true, true, true, false, true, true, true, true, false, false, true, true, true, false, false] rfl rfl (take_ofW HT_.out HW_.out (by kernel_rfl)) (fun _ _ _ h => h) (Or.inl ⟨by rfl, ?_⟩) hHeld ?_ ?_
                   rotate_left
                   ·rintro w' ⟨s0, s1, s2, s3⟩
                    go_simp
                    with_reducible rfl
                   rotate_left
                   ·simp only [zp0, zp1, zp2, zp3, zp4, i64_w, i32_w]
                    rfl
                   refine join_ (σ := Value × Value × Value) 3 #[true, true, true, true, true, true, true, true, true, true, false, true, true, true, false, false] (fun s_ => [(54, s_.1), (58, s_.2.1), (63, s_.2.2)]) (fun s_ w' => (w'.cell? (ad340.add (((ji22)).toNat * 4)) = some (.int .i64 ((rd_T29 t304 (ji22)).f0)) ∧ w'.cell? ⟨(ad340.add (((ji22)).toNat * 4)).block, (ad340.add (((ji22)).toNat * 4)).off + 1, none⟩ = some (.int .i64 ((rd_T29 t304 (ji22)).f1)) ∧ w'.cell? ⟨(ad340.add (((ji22)).toNat * 4)).block, (ad340.add (((ji22)).toNat * 4)).off + 2, none⟩ = some (.slice A340_2 ((rd_T29 t304 (ji22)).f2).length c340_2) ∧ w'.cell? ⟨(ad340.add (((ji22)).toNat * 4)).block, (ad340.add (((ji22)).toNat * 4)).off + 3, none⟩ = some (.slice A340_3 ((rd_T29 t304 (ji22)).f3).length c340_3)) ∧ (Kd.V k89 89 w' w.heap.size (fun k_ => some k_ ≠ (v327 : Value).ownBlock ∧ some k_ ≠ (s_.2.1 : Value).ownBlock ∧ some k_ ≠ (s_.2.2 : Value).ownBlock ∧ some k_ ≠ (.slice (some ad340) t304.length co10 : Value).ownBlock) (.slice A340_2 ((rd_T29 t304 (ji22)).f2).length c340_2) ((rd_T29 t304 (ji22)).f2)) ∧ (Kd.V k91 91 w' w.heap.size (fun k_ => some k_ ≠ (v327 : Value).ownBlock ∧ some k_ ≠ (s_.2.1 : Value).ownBlock ∧ some k_ ≠ (s_.2.2 : Value).ownBlock ∧ some k_ ≠ (.slice (some ad340) t304.length co10 : Value).ownBlock) (.slice A340_3 ((rd_T29 t304 (ji22)).f3).length c340_3) ((rd_T29 t304 (ji22)).f3)) ∧ (Kd.V k29 29 w' w.heap.size (fun k_ => some k_ ≠ (v327 : Value).ownBlock ∧ some k_ ≠ (s_.2.1 : Value).ownBlock ∧ some k_ ≠ (s_.2.2 : Value).ownBlock) (.slice (some ad340) y313.length co10) y313) ∧ (Kd.V k29 29 w' w.heap.size (fun k_ => some k_ ≠ (v327 : Value).ownBlock ∧ some k_ ≠ (s_.2.1 : Value).ownBlock ∧ some k_ ≠ (s_.2.2 : Value).ownBlock) (.slice A43 y321.length c43) y321) ∧ (Kd.N k29 29 w' w.heap.size (fun k_ => some k_ ≠ (s_.2.1 : Value).ownBlock ∧ some k_ ≠ (s_.2.2 : Value).ownBlock) v327 y326) ∧ (Kd.V k29 29 w' w.heap.size (fun k_ => some k_ ≠ (v327 : Value).ownBlock ∧ some k_ ≠ (s_.2.1 : Value).ownBlock ∧ some k_ ≠ (s_.2.2 : Value).ownBlock) (.slice (some ad340) y332.length co10) y332) ∧ (Kd.N k29 29 w' w.heap.size (fun k_ => some k_ ≠ (v327 : Value).ownBlock ∧ some k_ ≠ (s_.2.2 : Value).ownBlock) s_.2.1 y337) ∧ (Kd.N k29 29 w' w.heap.size (fun k_ => some k_ ≠ (v327 : Value).ownBlock ∧ some k_ ≠ (s_.2.1 : Value).ownBlock ∧ some k_ ≠ (.slice (some ad340) t304.length co10 : Value).ownBlock) s_.2.2 y341) ∧ (Kd.V k29 29 w' w.heap.size (fun k_ => some k_ ≠ (v327 : Value).ownBlock ∧ some k_ ≠ (s_.2.1 : Value).ownBlock ∧ some k_ ≠ (s_.2.2 : Value).ownBlock) (.slice A50 y347.length c50) y347) ∧ (Kd.N k29 29 w' w.heap.size (fun k_ => some k_ ≠ (v327 : Value).ownBlock ∧ some k_ ≠ (s_.2.1 : Value).ownBlock ∧ some k_ ≠ (s_.2.2 : Value).ownBlock) (.slice (some ad340) t304.length co10) t304) ∧ (Below w.heap.size w w')) ?_ ?_
                   rotate_left
                   ·intro hCont
                    refine two_ (i := 0) (j := 9) (Ni := some 54) (Nj := some 63) #[true, true, true, true, false, true, true, true, true, false, false, true, true, true, false, false] #[false, true, true, true, false, true, true, true, true, true, false, true, true, true, false, false] rfl rfl rfl rfl (two_of HT_.out (by kernel_rfl)) (by decide) (by decide) (fun K hK => ?_) (fun K hK => ?_)
                    ·skip
                     refine Kd.N_lit_step k29 _ 29 ?hg (N' := 54) ?hd (xs := ([] : List (S29))) (inner := []) (ok := (fun k_ => some k_ ≠ (.slice (some ad340) t304.length co10 : Value).ownBlock ∧ some k_ ≠ (v327 : Value).ownBlock)) (okp := (fun k_ => some k_ ≠ (.slice (some ad340) t304.length co10 : Value).ownBlock ∧ some k_ ≠ (v327 : Value).ownBlock)) ?hr ?hp (fun _ hk => hk) ((show ∀ k_, w48.heap.size ≤ k_ → (fun k_ => some k_ ≠ (.slice (some ad340) t304.length co10 : Value).ownBlock ∧ some k_ ≠ (v327 : Value).ownBlock) k_ from fun k_ hk => ⟨Kd.fresh' (Kd.N_lt (by exact zN HO_5.out)) k_ hk, Kd.fresh' (Kd.N_lt (by exact zN HO328.out)) k_ hk⟩) _ (Nat.le_refl _)) (Below.refl _ _) (Nat.le_refl _) (by simp) ?_; (case hd => rfl); (case hg => rfl); (case hr => first | (go_simp; done) | (go_simp; rfl)); (case hp => exact (Reps.none _ _))
                     intro v330 w51 ho52 hb hg_ hnew_
                     have HS0_ := (hb.cell (World.block_lt_of_cell? _ _ (hHeld.1))).trans (hHeld.1)
                     have HS1_ := (hb.cell (World.block_lt_of_cell? _ _ (hHeld.2.1))).trans (hHeld.2.1)
                     have HS2_ := (hb.cell (World.block_lt_of_cell? _ _ (hHeld.2.2.1))).trans (hHeld.2.2.1)
                     have HS3_ := (hb.cell (World.block_lt_of_cell? _ _ (hHeld.2.2.2))).trans (hHeld.2.2.2)
                     clear hg_ hnew_
                     (first | rw [← Ny329.out] at ho52 | (simp only [Int.reduceToNat] at ho52; rw [← Ny329.out] at ho52))
                     have n0_ := Aside0.mk (Kd.N_elder' (by exact zN HO_5.out) (Kd.N_base ho52) hb)
                     have n1_ := Aside0.mk (Kd.V_elder' (by (with_reducible repeat (first | apply Kd.V_alloc | apply Kd.V_drewN | apply Kd.V_drew)); exact HO317.out) (Kd.N_base ho52) hb)
                     have n2_ := Aside0.mk (Kd.V_elder' (by (with_reducible repeat (first | apply Kd.V_alloc | apply Kd.V_drewN | apply Kd.V_drew)); exact HO325.out) (Kd.N_base ho52) hb)
                     have n3_ := Aside0.mk (Kd.N_elder' (by exact zN HO328.out) (Kd.N_base ho52) hb)
                     have n4_ := Aside0.mk (Kd.V_elder' (by (with_reducible repeat (first | apply Kd.V_alloc | apply Kd.V_drewN | apply Kd.V_drew)); exact HO336.out) (Kd.N_base ho52) hb)
                     have n5_ := Aside0.mk (Kd.V_elder' (by (with_reducible repeat (first | apply Kd.V_alloc | apply Kd.V_drewN | apply Kd.V_drew)); exact HL340_2.out) (Kd.N_base ho52) hb)
                     have n6_ := Aside0.mk (Kd.V_elder' (by (with_reducible repeat (first | apply Kd.V_alloc | apply Kd.V_drewN | apply Kd.V_drew)); exact HL340_3.out) (Kd.N_base ho52) hb)
                     have n7_ := Aside0.mk (Kd.V_elder' (by (with_reducible repeat (first | apply Kd.V_alloc | apply Kd.V_drewN | apply Kd.V_drew)); exact HO351.out) (Kd.N_base ho52) hb)
                     have n8_ := Aside0.mk (Kd.N_lower ho52 (below_size (by exact zB HB.out)))
                     have n9_ := Aside0.mk (Kd.C_below (by repeat (first | (with_reducible exact HR340_2.out) | (with_reducible refine Kd.C_alloc ?_ _) | (with_reducible refine Kd.C_drewN ?_ _) | (with_reducible refine Kd.C_drew ?_) | exact HR340_2.out)) hb)
                     have n10_ := Aside0.mk (Kd.C_below (by repeat (first | (with_reducible exact HR340_3.out) | (with_reducible refine Kd.C_alloc ?_ _) | (with_reducible refine Kd.C_drewN ?_ _) | (with_reducible refine Kd.C_drew ?_) | exact HR340_3.out)) hb)
                     have n11_ := Aside0.mk (below_step (by exact zB HB.out) hb)
                     clear HO_5
                     clear HO317
                     clear HO325
                     clear HO328
                     clear HO336
                     clear HL340_2
                     clear HL340_3
                     clear HO351
                     clear HR340_2
                     clear HR340_3
                     clear HB
                     have HO_5 := n0_
                     have HO317 := n1_
                     have HO325 := n2_
                     have HO328 := n3_
                     have HO336 := n4_
                     have HL340_2 := n5_
                     have HL340_3 := n6_
                     have HO351 := n7_
                     have HO331 := n8_
                     have HR340_2 := n9_
                     have HR340_3 := n10_
                     have HB := n11_
                     clear n0_ n1_ n2_ n3_ n4_ n5_ n6_ n7_ n8_ n9_ n10_ n11_
                     clear hb ho52
                     refine hK.out _ _ ⟨HS0_, HS1_, HS2_, HS3_⟩ (fun hHeld => ?_)
                     clear hK K
                     refine norm_ (a' := ?_) ?_ ?_
                     rotate_left
                     ·show Act.put _ (some 54) _ = _
                      simp only [zp0, zp1, zp2, zp3, zp4, i64_w, i32_w]
                      rfl
                     refine two_ (i := 4) (j := 9) (Ni := some 58) (Nj := some 63) #[true, true, true, true, true, true, true, true, true, false, false, true, true, true, false, false] #[true, true, true, true, false, true, true, true, true, true, false, true, true, true, false, false] rfl rfl rfl rfl (two_of HT_.out (by kernel_rfl)) (by decide) (by decide) (fun K hK => ?_) (fun K hK => ?_)
                     ·skip
                      refine Kd.N_append_rows_step k29 (w0 := w) w.heap.size (by rfl) (.tmp 54) (.tmp 57) 23 29 (.agg #[(.int .i64 0), (.int .i64 0), (.slice none 0 0), (.slice none 0 0)]) 64 rfl Try.underlying23 info29 rfl (by decide) (by omega) v330 y329 y332 _ _ _ (fun k_ => some k_ ≠ (v327 : Value).ownBlock) (fun k_ => ((fun k_ => some k_ ≠ (v327 : Value).ownBlock)) k_ ∧ some k_ ≠ (v330 : Value).ownBlock) rfl rfl ?aO ?aR (fun _ hk => hk) ?aF ?aB ?aS ?aL ?_
                      (case aR => exact (by have hlen_ : y313.length = y332.length := (by rw [Ny313.out, Ny332.out]); rw [hlen_]; exact Kd.V_F (Kd.V_mono (ok' := (fun k_ => ((fun k_ => some k_ ≠ (v327 : Value).ownBlock)) k_ ∧ some k_ ≠ (v330 : Value).ownBlock)) (HO336.out) (fun k_ hk => ⟨hk.1.2, hk.2⟩))))
                      (case aB => exact (by exact zB HB.out))
                      (case aF => exact (fun k_ hk => Kd.fresh' (Kd.N_lt (by exact zN HO328.out)) k_ hk))
                      (case aO => exact (by exact zN (Kd.N_mono HO331.out (fun _ hk => hk.2))))
                      (case aS => exact (below_size (by exact zB HB.out)))
                      (case aL => have hlen_ : y313.length = y332.length := (by rw [Ny313.out, Ny332.out]); have := LMc32.out; omega)
                      intro v338 w53 ho hb hg hat
                      have HS0_ := cell_grown hg (hHeld.1) (by intro e_; (try rw [add_block] at e_); have h_ := HO331.out.1 _ e_.symm; first | exact h_ rfl | exact h_.1 rfl | exact h_.2 rfl | exact h_.1.1 rfl | exact h_.1.2 rfl | exact h_.2.1 rfl | exact h_.2.2 rfl | exact h_.1.1.1 rfl | exact h_.1.1.2 rfl | exact h_.1.2.1 rfl | exact h_.1.2.2 rfl | exact h_.2.2.1 rfl | exact h_.2.2.2 rfl | exact h_.1.1.1.1 rfl | exact h_.1.1.1.2 rfl | (have h2_ := HO_5.out.1 _ rfl; first | exact h2_.1 e_ | exact h2_.2 e_ | exact h2_.2.1 e_ | exact h2_.2.2 e_ | exact h2_.1.1 e_ | exact h2_.1.2 e_ | exact h2_.2.2.1 e_ | exact h2_.2.2.2 e_))
                      have HS1_ := cell_grown hg (hHeld.2.1) (by intro e_; (try rw [add_block] at e_); have h_ := HO331.out.1 _ e_.symm; first | exact h_ rfl | exact h_.1 rfl | exact h_.2 rfl | exact h_.1.1 rfl | exact h_.1.2 rfl | exact h_.2.1 rfl | exact h_.2.2 rfl | exact h_.1.1.1 rfl | exact h_.1.1.2 rfl | exact h_.1.2.1 rfl | exact h_.1.2.2 rfl | exact h_.2.2.1 rfl | exact h_.2.2.2 rfl | exact h_.1.1.1.1 rfl | exact h_.1.1.1.2 rfl | (have h2_ := HO_5.out.1 _ rfl; first | exact h2_.1 e_ | exact h2_.2 e_ | exact h2_.2.1 e_ | exact h2_.2.2 e_ | exact h2_.1.1 e_ | exact h2_.1.2 e_ | exact h2_.2.2.1 e_ | exact h2_.2.2.2 e_))
                      have HS2_ := cell_grown hg (hHeld.2.2.1) (by intro e_; (try rw [add_block] at e_); have h_ := HO331.out.1 _ e_.symm; first | exact h_ rfl | exact h_.1 rfl | exact h_.2 rfl | exact h_.1.1 rfl | exact h_.1.2 rfl | exact h_.2.1 rfl | exact h_.2.2 rfl | exact h_.1.1.1 rfl | exact h_.1.1.2 rfl | exact h_.1.2.1 rfl | exact h_.1.2.2 rfl | exact h_.2.2.1 rfl | exact h_.2.2.2 rfl | exact h_.1.1.1.1 rfl | exact h_.1.1.1.2 rfl | (have h2_ := HO_5.out.1 _ rfl; first | exact h2_.1 e_ | exact h2_.2 e_ | exact h2_.2.1 e_ | exact h2_.2.2 e_ | exact h2_.1.1 e_ | exact h2_.1.2 e_ | exact h2_.2.2.1 e_ | exact h2_.2.2.2 e_))
                      have HS3_ := cell_grown hg (hHeld.2.2.2) (by intro e_; (try rw [add_block] at e_); have h_ := HO331.out.1 _ e_.symm; first | exact h_ rfl | exact h_.1 rfl | exact h_.2 rfl | exact h_.1.1 rfl | exact h_.1.2 rfl | exact h_.2.1 rfl | exact h_.2.2 rfl | exact h_.1.1.1 rfl | exact h_.1.1.2 rfl | exact h_.1.2.1 rfl | exact h_.1.2.2 rfl | exact h_.2.2.1 rfl | exact h_.2.2.2 rfl | exact h_.1.1.1.1 rfl | exact h_.1.1.1.2 rfl | (have h2_ := HO_5.out.1 _ rfl; first | exact h2_.1 e_ | exact h2_.2 e_ | exact h2_.2.1 e_ | exact h2_.2.2 e_ | exact h2_.1.1 e_ | exact h2_.1.2 e_ | exact h2_.2.2.1 e_ | exact h2_.2.2.2 e_))
                      rw [← Ny337.out] at ho
                      have n0_ := Aside0.mk (Kd.N_afterv (ok := (fun k_ => some k_ ≠ (v327 : Value).ownBlock)) (by exact zN (Kd.N_mono HO_5.out (fun _ hk => ⟨hk.1.2, hk.2⟩))) hg hat)
                      have n1_ := Aside0.mk (Kd.V_afterv (ok := (fun k_ => some k_ ≠ (v327 : Value).ownBlock)) (by (with_reducible repeat (first | apply Kd.V_alloc | apply Kd.V_drewN | apply Kd.V_drew)); exact Kd.V_mono HO317.out (fun _ hk => ⟨hk.1.2, hk.2⟩)) hg hat)
                      have n2_ := Aside0.mk (Kd.V_afterv (ok := (fun k_ => some k_ ≠ (v327 : Value).ownBlock)) (by (with_reducible repeat (first | apply Kd.V_alloc | apply Kd.V_drewN | apply Kd.V_drew)); exact Kd.V_mono HO325.out (fun _ hk => ⟨hk.1.2, hk.2⟩)) hg hat)
                      have n3_ := Aside0.mk (Kd.N_afterv (ok := (fun _ => True)) (by exact zN HO328.out) hg hat)
                      have n4_ := Aside0.mk (Kd.V_afterv (ok := (fun k_ => some k_ ≠ (v327 : Value).ownBlock)) (by (with_reducible repeat (first | apply Kd.V_alloc | apply Kd.V_drewN | apply Kd.V_drew)); exact Kd.V_mono HO336.out (fun _ hk => ⟨hk.1.2, hk.2⟩)) hg hat)
                      have n5_ := Aside0.mk (Kd.V_afterv (ok := (fun k_ => some k_ ≠ (.slice (some ad340) t304.length co10 : Value).ownBlock ∧ some k_ ≠ (v327 : Value).ownBlock)) (by (with_reducible repeat (first | apply Kd.V_alloc | apply Kd.V_drewN | apply Kd.V_drew)); exact Kd.V_mono HL340_2.out (fun _ hk => ⟨⟨hk.1.2, hk.1.1.2⟩, hk.2⟩)) hg hat)
                      have n6_ := Aside0.mk (Kd.V_afterv (ok := (fun k_ => some k_ ≠ (.slice (some ad340) t304.length co10 : Value).ownBlock ∧ some k_ ≠ (v327 : Value).ownBlock)) (by (with_reducible repeat (first | apply Kd.V_alloc | apply Kd.V_drewN | apply Kd.V_drew)); exact Kd.V_mono HL340_3.out (fun _ hk => ⟨⟨hk.1.2, hk.1.1.2⟩, hk.2⟩)) hg hat)
                      have n7_ := Aside0.mk (Kd.V_afterv (ok := (fun k_ => some k_ ≠ (v327 : Value).ownBlock)) (by (with_reducible repeat (first | apply Kd.V_alloc | apply Kd.V_drewN | apply Kd.V_drew)); exact Kd.V_mono HO351.out (fun _ hk => ⟨hk.1.2, hk.2⟩)) hg hat)
                      have n8_ := Aside0.mk (hb)
                      have n9_ := Aside0.mk (ho)
                      clear HO_5
                      clear HO317
                      clear HO325
                      clear HO328
                      clear HO336
                      clear HL340_2
                      clear HL340_3
                      clear HO351
                      clear HB
                      clear HO331
                      have HO_5 := n0_
                      have HO317 := n1_
                      have HO325 := n2_
                      have HO328 := n3_
                      have HO336 := n4_
                      have HL340_2 := n5_
                      have HL340_3 := n6_
                      have HO351 := n7_
                      have HB := n8_
                      have HO339 := n9_
                      clear n0_ n1_ n2_ n3_ n4_ n5_ n6_ n7_ n8_ n9_
                      clear ho hb hg hat
                      refine hK.out _ _ ⟨HS0_, HS1_, HS2_, HS3_⟩ (fun hHeld => ?_)
                      clear hK K
                      refine norm_ (a' := ?_) ?_ ?_
                      rotate_left
                      ·show Act.put _ (some 58) _ = _
                       simp only [zp0, zp1, zp2, zp3, zp4, i64_w, i32_w]
                       rfl
                      refine one_ (i := 9) (N := some 63) #[true, true, true, true, true, true, true, true, true, true, false, true, true, true, false, false] rfl rfl (one_of HT_.out (by kernel_rfl)) (by decide) (fun K hK => ?_)
                      refine Kd.N_lit_step k29 _ 29 ?hg (N' := 63) ?hd (xs := ([(⟨(rd_T29 t304 (ji22)).f0, (rd_T29 t304 (ji22)).f1, (rd_T29 t304 (ji22)).f2, (rd_T29 t304 (ji22)).f3⟩ : S29)] : List (S29))) (inner := [.int .i64 ((rd_T29 t304 (ji22)).f0), .int .i64 ((rd_T29 t304 (ji22)).f1), .slice A340_2 ((rd_T29 t304 (ji22)).f2).length c340_2, .slice A340_3 ((rd_T29 t304 (ji22)).f3).length c340_3]) (ok := (fun k_ => some k_ ≠ (.slice (some ad340) t304.length co10 : Value).ownBlock ∧ some k_ ≠ (v327 : Value).ownBlock ∧ some k_ ≠ (v338 : Value).ownBlock)) (okp := (fun k_ => some k_ ≠ (.slice (some ad340) t304.length co10 : Value).ownBlock ∧ some k_ ≠ (v327 : Value).ownBlock ∧ some k_ ≠ (v338 : Value).ownBlock)) ?hr ?hp (fun _ hk => hk) ((show ∀ k_, w53.heap.size ≤ k_ → (fun k_ => some k_ ≠ (.slice (some ad340) t304.length co10 : Value).ownBlock ∧ some k_ ≠ (v327 : Value).ownBlock ∧ some k_ ≠ (v338 : Value).ownBlock) k_ from fun k_ hk => ⟨Kd.fresh' (Kd.N_lt (by exact zN HO_5.out)) k_ hk, Kd.fresh' (Kd.N_lt (by exact zN HO328.out)) k_ hk, Kd.fresh' (Kd.N_lt (by exact zN HO339.out)) k_ hk⟩) _ (Nat.le_refl _)) (Below.refl _ _) (Nat.le_refl _) (by simp) ?_; (case hd => rfl); (case hg => rfl); (case hr => first | (go_simp; done) | (go_simp; rfl)); (case hp => exact (Reps.c4 (show Kd.FK k29 _ _ (⟨(rd_T29 t304 (ji22)).f0, (rd_T29 t304 (ji22)).f1, (rd_T29 t304 (ji22)).f2, (rd_T29 t304 (ji22)).f3⟩ : S29) [.int .i64 ((rd_T29 t304 (ji22)).f0), .int .i64 ((rd_T29 t304 (ji22)).f1), .slice A340_2 ((rd_T29 t304 (ji22)).f2).length c340_2, .slice A340_3 ((rd_T29 t304 (ji22)).f3).length c340_3] from (k29_mkF _ _ (⟨(rd_T29 t304 (ji22)).f0, (rd_T29 t304 (ji22)).f1, (rd_T29 t304 (ji22)).f2, (rd_T29 t304 (ji22)).f3⟩ : S29) (Kd.V_reads' (Kd.V_mono (ok' := (fun k_ => some k_ ≠ (.slice (some ad340) t304.length co10 : Value).ownBlock ∧ some k_ ≠ (v327 : Value).ownBlock ∧ some k_ ≠ (v338 : Value).ownBlock)) (HL340_2.out) (fun k_ hk => ⟨hk.1.1, ⟨hk.1.2, hk.2⟩⟩))).2.1 (Kd.V_F (Kd.V_mono (ok' := (fun k_ => some k_ ≠ (.slice (some ad340) t304.length co10 : Value).ownBlock ∧ some k_ ≠ (v327 : Value).ownBlock ∧ some k_ ≠ (v338 : Value).ownBlock)) (HL340_2.out) (fun k_ hk => ⟨hk.1.1, ⟨hk.1.2, hk.2⟩⟩))) (Kd.V_reads' (Kd.V_mono (ok' := (fun k_ => some k_ ≠ (.slice (some ad340) t304.length co10 : Value).ownBlock ∧ some k_ ≠ (v327 : Value).ownBlock ∧ some k_ ≠ (v338 : Value).ownBlock)) (HL340_3.out) (fun k_ hk => ⟨hk.1.1, ⟨hk.1.2, hk.2⟩⟩))).2.1 (Kd.V_F (Kd.V_mono (ok' := (fun k_ => some k_ ≠ (.slice (some ad340) t304.length co10 : Value).ownBlock ∧ some k_ ≠ (v327 : Value).ownBlock ∧ some k_ ≠ (v338 : Value).ownBlock)) (HL340_3.out) (fun k_ hk => ⟨hk.1.1, ⟨hk.1.2, hk.2⟩⟩))))) (Reps.none _ _)))
                      intro v342 w54 ho55 hb hg_ hnew_
                      have HS0_ := (hb.cell (World.block_lt_of_cell? _ _ (hHeld.1))).trans (hHeld.1)
                      have HS1_ := (hb.cell (World.block_lt_of_cell? _ _ (hHeld.2.1))).trans (hHeld.2.1)
                      have HS2_ := (hb.cell (World.block_lt_of_cell? _ _ (hHeld.2.2.1))).trans (hHeld.2.2.1)
                      have HS3_ := (hb.cell (World.block_lt_of_cell? _ _ (hHeld.2.2.2))).trans (hHeld.2.2.2)
                      clear hg_ hnew_
                      (first | rw [← Ny341.out] at ho55 | (simp only [Int.reduceToNat] at ho55; rw [← Ny341.out] at ho55))
                      have n0_ := Aside0.mk (Kd.N_elder' (by exact zN HO_5.out) (Kd.N_base ho55) hb)
                      have n1_ := Aside0.mk (Kd.V_elder' (by (with_reducible repeat (first | apply Kd.V_alloc | apply Kd.V_drewN | apply Kd.V_drew)); exact HO317.out) (Kd.N_base ho55) hb)
                      have n2_ := Aside0.mk (Kd.V_elder' (by (with_reducible repeat (first | apply Kd.V_alloc | apply Kd.V_drewN | apply Kd.V_drew)); exact HO325.out) (Kd.N_base ho55) hb)
                      have n3_ := Aside0.mk (Kd.N_elder' (by exact zN HO328.out) (Kd.N_base ho55) hb)
                      have n4_ := Aside0.mk (Kd.V_elder' (by (with_reducible repeat (first | apply Kd.V_alloc | apply Kd.V_drewN | apply Kd.V_drew)); exact HO336.out) (Kd.N_base ho55) hb)
                      have n5_ := Aside0.mk (Kd.V_elder' (by (with_reducible repeat (first | apply Kd.V_alloc | apply Kd.V_drewN | apply Kd.V_drew)); exact HL340_2.out) (Kd.N_base ho55) hb)
                      have n6_ := Aside0.mk (Kd.V_elder' (by (with_reducible repeat (first | apply Kd.V_alloc | apply Kd.V_drewN | apply Kd.V_drew)); exact HL340_3.out) (Kd.N_base ho55) hb)
                      have n7_ := Aside0.mk (Kd.V_elder' (by (with_reducible repeat (first | apply Kd.V_alloc | apply Kd.V_drewN | apply Kd.V_drew)); exact HO351.out) (Kd.N_base ho55) hb)
                      have n8_ := Aside0.mk (Kd.N_elder' (by exact zN HO339.out) (Kd.N_base ho55) hb)
                      have n9_ := Aside0.mk (Kd.N_lower ho55 (below_size (by exact zB HB.out)))
                      have n10_ := Aside0.mk (below_step (by exact zB HB.out) hb)
                      clear HO_5
                      clear HO317
                      clear HO325
                      clear HO328
                      clear HO336
                      clear HL340_2
                      clear HL340_3
                      clear HO351
                      clear HO339
                      clear HB
                      have HO_5 := n0_
                      have HO317 := n1_
                      have HO325 := n2_
                      have HO328 := n3_
                      have HO336 := n4_
                      have HL340_2 := n5_
                      have HL340_3 := n6_
                      have HO351 := n7_
                      have HO339 := n8_
                      have HO343 := n9_
                      have HB := n10_
                      clear n0_ n1_ n2_ n3_ n4_ n5_ n6_ n7_ n8_ n9_ n10_
                      clear hb ho55
                      refine hK.out _ _ ⟨HS0_, HS1_, HS2_, HS3_⟩ (fun hHeld => ?_)
                      clear hK K
                      refine norm_ (a' := ?_) ?_ ?_
                      rotate_left
                      ·show Act.put _ (some 63) _ = _
                       simp only [zp0, zp1, zp2, zp3, zp4, i64_w, i32_w]
                       rfl
                      exact norm_ (by simp only [putAll, zp0, zp1, zp2, zp3, zp4]) (hCont (v330, v338, v342) _ ⟨hHeld, (by (with_reducible repeat (first | apply Kd.V_alloc | apply Kd.V_drewN | apply Kd.V_drew)); exact Kd.V_mono HL340_2.out (fun _ hk => ⟨hk.1.1.2, ⟨hk.1.2, ⟨hk.2, hk.1.1.1⟩⟩⟩)), (by (with_reducible repeat (first | apply Kd.V_alloc | apply Kd.V_drewN | apply Kd.V_drew)); exact Kd.V_mono HL340_3.out (fun _ hk => ⟨hk.1.1.2, ⟨hk.1.2, ⟨hk.2, hk.1.1.1⟩⟩⟩)), (by (with_reducible repeat (first | apply Kd.V_alloc | apply Kd.V_drewN | apply Kd.V_drew)); exact Kd.V_mono HO317.out (fun _ hk => ⟨hk.1.1, ⟨hk.1.2, hk.2⟩⟩)), (by (with_reducible repeat (first | apply Kd.V_alloc | apply Kd.V_drewN | apply Kd.V_drew)); exact Kd.V_mono HO325.out (fun _ hk => ⟨hk.1.1, ⟨hk.1.2, hk.2⟩⟩)), (by exact zN (Kd.N_mono HO328.out (fun _ hk => ⟨hk.1.2, hk.2⟩))), (by (with_reducible repeat (first | apply Kd.V_alloc | apply Kd.V_drewN | apply Kd.V_drew)); exact Kd.V_mono HO336.out (fun _ hk => ⟨hk.1.1, ⟨hk.1.2, hk.2⟩⟩)), (by exact zN HO339.out), (by exact zN (Kd.N_mono HO343.out (fun _ hk => ⟨hk.2.1, ⟨hk.2.2, hk.1⟩⟩))), (by (with_reducible repeat (first | apply Kd.V_alloc | apply Kd.V_drewN | apply Kd.V_drew)); exact Kd.V_mono HO351.out (fun _ hk => ⟨hk.1.1, ⟨hk.1.2, hk.2⟩⟩)), (by exact zN (Kd.N_mono HO_5.out (fun _ hk => ⟨hk.1.1, ⟨hk.1.2, hk.2⟩⟩))), (by exact zB HB.out)⟩)
                     ·skip
                      refine Kd.N_lit_step k29 _ 29 ?hg (N' := 63) ?hd (xs := ([(⟨(rd_T29 t304 (ji22)).f0, (rd_T29 t304 (ji22)).f1, (rd_T29 t304 (ji22)).f2, (rd_T29 t304 (ji22)).f3⟩ : S29)] : List (S29))) (inner := [.int .i64 ((rd_T29 t304 (ji22)).f0), .int .i64 ((rd_T29 t304 (ji22)).f1), .slice A340_2 ((rd_T29 t304 (ji22)).f2).length c340_2, .slice A340_3 ((rd_T29 t304 (ji22)).f3).length c340_3]) (ok := (fun k_ => some k_ ≠ (.slice (some ad340) t304.length co10 : Value).ownBlock ∧ some k_ ≠ (v327 : Value).ownBlock ∧ some k_ ≠ (v330 : Value).ownBlock)) (okp := (fun k_ => some k_ ≠ (.slice (some ad340) t304.length co10 : Value).ownBlock ∧ some k_ ≠ (v327 : Value).ownBlock ∧ some k_ ≠ (v330 : Value).ownBlock)) ?hr ?hp (fun _ hk => hk) ((show ∀ k_, w51.heap.size ≤ k_ → (fun k_ => some k_ ≠ (.slice (some ad340) t304.length co10 : Value).ownBlock ∧ some k_ ≠ (v327 : Value).ownBlock ∧ some k_ ≠ (v330 : Value).ownBlock) k_ from fun k_ hk => ⟨Kd.fresh' (Kd.N_lt (by exact zN HO_5.out)) k_ hk, Kd.fresh' (Kd.N_lt (by exact zN HO328.out)) k_ hk, Kd.fresh' (Kd.N_lt (by exact zN HO331.out)) k_ hk⟩) _ (Nat.le_refl _)) (Below.refl _ _) (Nat.le_refl _) (by simp) ?_; (case hd => rfl); (case hg => rfl); (case hr => first | (go_simp; done) | (go_simp; rfl)); (case hp => exact (Reps.c4 (show Kd.FK k29 _ _ (⟨(rd_T29 t304 (ji22)).f0, (rd_T29 t304 (ji22)).f1, (rd_T29 t304 (ji22)).f2, (rd_T29 t304 (ji22)).f3⟩ : S29) [.int .i64 ((rd_T29 t304 (ji22)).f0), .int .i64 ((rd_T29 t304 (ji22)).f1), .slice A340_2 ((rd_T29 t304 (ji22)).f2).length c340_2, .slice A340_3 ((rd_T29 t304 (ji22)).f3).length c340_3] from (k29_mkF _ _ (⟨(rd_T29 t304 (ji22)).f0, (rd_T29 t304 (ji22)).f1, (rd_T29 t304 (ji22)).f2, (rd_T29 t304 (ji22)).f3⟩ : S29) (Kd.V_reads' (Kd.V_mono (ok' := (fun k_ => some k_ ≠ (.slice (some ad340) t304.length co10 : Value).ownBlock ∧ some k_ ≠ (v327 : Value).ownBlock ∧ some k_ ≠ (v330 : Value).ownBlock)) (HL340_2.out) (fun k_ hk => ⟨hk.1.2, ⟨hk.1.1.2, hk.2⟩⟩))).2.1 (Kd.V_F (Kd.V_mono (ok' := (fun k_ => some k_ ≠ (.slice (some ad340) t304.length co10 : Value).ownBlock ∧ some k_ ≠ (v327 : Value).ownBlock ∧ some k_ ≠ (v330 : Value).ownBlock)) (HL340_2.out) (fun k_ hk => ⟨hk.1.2, ⟨hk.1.1.2, hk.2⟩⟩))) (Kd.V_reads' (Kd.V_mono (ok' := (fun k_ => some k_ ≠ (.slice (some ad340) t304.length co10 : Value).ownBlock ∧ some k_ ≠ (v327 : Value).ownBlock ∧ some k_ ≠ (v330 : Value).ownBlock)) (HL340_3.out) (fun k_ hk => ⟨hk.1.2, ⟨hk.1.1.2, hk.2⟩⟩))).2.1 (Kd.V_F (Kd.V_mono (ok' := (fun k_ => some k_ ≠ (.slice (some ad340) t304.length co10 : Value).ownBlock ∧ some k_ ≠ (v327 : Value).ownBlock ∧ some k_ ≠ (v330 : Value).ownBlock)) (HL340_3.out) (fun k_ hk => ⟨hk.1.2, ⟨hk.1.1.2, hk.2⟩⟩))))) (Reps.none _ _)))
                      intro v342 w53 ho54 hb hg_ hnew_
                      have HS0_ := (hb.cell (World.block_lt_of_cell? _ _ (hHeld.1))).trans (hHeld.1)
                      have HS1_ := (hb.cell (World.block_lt_of_cell? _ _ (hHeld.2.1))).trans (hHeld.2.1)
                      have HS2_ := (hb.cell (World.block_lt_of_cell? _ _ (hHeld.2.2.1))).trans (hHeld.2.2.1)
                      have HS3_ := (hb.cell (World.block_lt_of_cell? _ _ (hHeld.2.2.2))).trans (hHeld.2.2.2)
                      clear hg_ hnew_
                      (first | rw [← Ny341.out] at ho54 | (simp only [Int.reduceToNat] at ho54; rw [← Ny341.out] at ho54))
                      have n0_ := Aside0.mk (Kd.N_elder' (by exact zN HO_5.out) (Kd.N_base ho54) hb)
                      have n1_ := Aside0.mk (Kd.V_elder' (by (with_reducible repeat (first | apply Kd.V_alloc | apply Kd.V_drewN | apply Kd.V_drew)); exact HO317.out) (Kd.N_base ho54) hb)
                      have n2_ := Aside0.mk (Kd.V_elder' (by (with_reducible repeat (first | apply Kd.V_alloc | apply Kd.V_drewN | apply Kd.V_drew)); exact HO325.out) (Kd.N_base ho54) hb)
                      have n3_ := Aside0.mk (Kd.N_elder' (by exact zN HO328.out) (Kd.N_base ho54) hb)
                      have n4_ := Aside0.mk (Kd.V_elder' (by (with_reducible repeat (first | apply Kd.V_alloc | apply Kd.V_drewN | apply Kd.V_drew)); exact HO336.out) (Kd.N_base ho54) hb)
                      have n5_ := Aside0.mk (Kd.V_elder' (by (with_reducible repeat (first | apply Kd.V_alloc | apply Kd.V_drewN | apply Kd.V_drew)); exact HL340_2.out) (Kd.N_base ho54) hb)
                      have n6_ := Aside0.mk (Kd.V_elder' (by (with_reducible repeat (first | apply Kd.V_alloc | apply Kd.V_drewN | apply Kd.V_drew)); exact HL340_3.out) (Kd.N_base ho54) hb)
                      have n7_ := Aside0.mk (Kd.V_elder' (by (with_reducible repeat (first | apply Kd.V_alloc | apply Kd.V_drewN | apply Kd.V_drew)); exact HO351.out) (Kd.N_base ho54) hb)
                      have n8_ := Aside0.mk (Kd.N_elder' (by exact zN HO331.out) (Kd.N_base ho54) hb)
                      have n9_ := Aside0.mk (Kd.N_lower ho54 (below_size (by exact zB HB.out)))
                      have n10_ := Aside0.mk (Kd.C_below (by repeat (first | (with_reducible exact HR340_2.out) | (with_reducible refine Kd.C_alloc ?_ _) | (with_reducible refine Kd.C_drewN ?_ _) | (with_reducible refine Kd.C_drew ?_) | exact HR340_2.out)) hb)
                      have n11_ := Aside0.mk (Kd.C_below (by repeat (first | (with_reducible exact HR340_3.out) | (with_reducible refine Kd.C_alloc ?_ _) | (with_reducible refine Kd.C_drewN ?_ _) | (with_reducible refine Kd.C_drew ?_) | exact HR340_3.out)) hb)
                      have n12_ := Aside0.mk (below_step (by exact zB HB.out) hb)
                      clear HO_5
                      clear HO317
                      clear HO325
                      clear HO328
                      clear HO336
                      clear HL340_2
                      clear HL340_3
                      clear HO351
                      clear HO331
                      clear HR340_2
                      clear HR340_3
                      clear HB
                      have HO_5 := n0_
                      have HO317 := n1_
                      have HO325 := n2_
                      have HO328 := n3_
                      have HO336 := n4_
                      have HL340_2 := n5_
                      have HL340_3 := n6_
                      have HO351 := n7_
                      have HO331 := n8_
                      have HO343 := n9_
                      have HR340_2 := n10_
                      have HR340_3 := n11_
                      have HB := n12_
                      clear n0_ n1_ n2_ n3_ n4_ n5_ n6_ n7_ n8_ n9_ n10_ n11_ n12_
                      clear hb ho54
                      refine hK.out _ _ ⟨HS0_, HS1_, HS2_, HS3_⟩ (fun hHeld => ?_)
                      clear hK K
                      refine norm_ (a' := ?_) ?_ ?_
                      rotate_left
                      ·show Act.put _ (some 63) _ = _
                       simp only [zp0, zp1, zp2, zp3, zp4, i64_w, i32_w]
                       rfl
                      refine one_ (i := 4) (N := some 58) #[true, true, true, true, true, true, true, true, true, true, false, true, true, true, false, false] rfl rfl (one_of HT_.out (by kernel_rfl)) (by decide) (fun K hK => ?_)
                      refine Kd.N_append_rows_step k29 (w0 := w) w.heap.size (by rfl) (.tmp 54) (.tmp 57) 23 29 (.agg #[(.int .i64 0), (.int .i64 0), (.slice none 0 0), (.slice none 0 0)]) 64 rfl Try.underlying23 info29 rfl (by decide) (by omega) v330 y329 y332 _ _ _ (fun k_ => some k_ ≠ (v327 : Value).ownBlock ∧ some k_ ≠ (v342 : Value).ownBlock) (fun k_ => ((fun k_ => some k_ ≠ (v327 : Value).ownBlock ∧ some k_ ≠ (v342 : Value).ownBlock)) k_ ∧ some k_ ≠ (v330 : Value).ownBlock) rfl rfl ?aO ?aR (fun _ hk => hk) ?aF ?aB ?aS ?aL ?_
                      (case aR => exact (by have hlen_ : y313.length = y332.length := (by rw [Ny313.out, Ny332.out]); rw [hlen_]; exact Kd.V_F (Kd.V_mono (ok' := (fun k_ => ((fun k_ => some k_ ≠ (v327 : Value).ownBlock ∧ some k_ ≠ (v342 : Value).ownBlock)) k_ ∧ some k_ ≠ (v330 : Value).ownBlock)) (HO336.out) (fun k_ hk => ⟨⟨hk.1.1.2, hk.2⟩, hk.1.2⟩))))
                      (case aB => exact (by exact zB HB.out))
                      (case aF => exact (fun k_ hk => ⟨Kd.fresh' (Kd.N_lt (by exact zN HO328.out)) k_ hk, Kd.fresh' (Kd.N_lt (by exact zN HO343.out)) k_ hk⟩))
                      (case aO => exact (by exact zN (Kd.N_mono HO331.out (fun _ hk => ⟨hk.1.2, hk.2⟩))))
                      (case aS => exact (below_size (by exact zB HB.out)))
                      (case aL => have hlen_ : y313.length = y332.length := (by rw [Ny313.out, Ny332.out]); have := LMc32.out; omega)
                      intro v338 w55 ho hb hg hat
                      have HS0_ := cell_grown hg (hHeld.1) (by intro e_; (try rw [add_block] at e_); have h_ := HO331.out.1 _ e_.symm; first | exact h_ rfl | exact h_.1 rfl | exact h_.2 rfl | exact h_.1.1 rfl | exact h_.1.2 rfl | exact h_.2.1 rfl | exact h_.2.2 rfl | exact h_.1.1.1 rfl | exact h_.1.1.2 rfl | exact h_.1.2.1 rfl | exact h_.1.2.2 rfl | exact h_.2.2.1 rfl | exact h_.2.2.2 rfl | exact h_.1.1.1.1 rfl | exact h_.1.1.1.2 rfl | (have h2_ := HO_5.out.1 _ rfl; first | exact h2_.1 e_ | exact h2_.2 e_ | exact h2_.2.1 e_ | exact h2_.2.2 e_ | exact h2_.1.1 e_ | exact h2_.1.2 e_ | exact h2_.2.2.1 e_ | exact h2_.2.2.2 e_))
                      have HS1_ := cell_grown hg (hHeld.2.1) (by intro e_; (try rw [add_block] at e_); have h_ := HO331.out.1 _ e_.symm; first | exact h_ rfl | exact h_.1 rfl | exact h_.2 rfl | exact h_.1.1 rfl | exact h_.1.2 rfl | exact h_.2.1 rfl | exact h_.2.2 rfl | exact h_.1.1.1 rfl | exact h_.1.1.2 rfl | exact h_.1.2.1 rfl | exact h_.1.2.2 rfl | exact h_.2.2.1 rfl | exact h_.2.2.2 rfl | exact h_.1.1.1.1 rfl | exact h_.1.1.1.2 rfl | (have h2_ := HO_5.out.1 _ rfl; first | exact h2_.1 e_ | exact h2_.2 e_ | exact h2_.2.1 e_ | exact h2_.2.2 e_ | exact h2_.1.1 e_ | exact h2_.1.2 e_ | exact h2_.2.2.1 e_ | exact h2_.2.2.2 e_))
                      have HS2_ := cell_grown hg (hHeld.2.2.1) (by intro e_; (try rw [add_block] at e_); have h_ := HO331.out.1 _ e_.symm; first | exact h_ rfl | exact h_.1 rfl | exact h_.2 rfl | exact h_.1.1 rfl | exact h_.1.2 rfl | exact h_.2.1 rfl | exact h_.2.2 rfl | exact h_.1.1.1 rfl | exact h_.1.1.2 rfl | exact h_.1.2.1 rfl | exact h_.1.2.2 rfl | exact h_.2.2.1 rfl | exact h_.2.2.2 rfl | exact h_.1.1.1.1 rfl | exact h_.1.1.1.2 rfl | (have h2_ := HO_5.out.1 _ rfl; first | exact h2_.1 e_ | exact h2_.2 e_ | exact h2_.2.1 e_ | exact h2_.2.2 e_ | exact h2_.1.1 e_ | exact h2_.1.2 e_ | exact h2_.2.2.1 e_ | exact h2_.2.2.2 e_))
                      have HS3_ := cell_grown hg (hHeld.2.2.2) (by intro e_; (try rw [add_block] at e_); have h_ := HO331.out.1 _ e_.symm; first | exact h_ rfl | exact h_.1 rfl | exact h_.2 rfl | exact h_.1.1 rfl | exact h_.1.2 rfl | exact h_.2.1 rfl | exact h_.2.2 rfl | exact h_.1.1.1 rfl | exact h_.1.1.2 rfl | exact h_.1.2.1 rfl | exact h_.1.2.2 rfl | exact h_.2.2.1 rfl | exact h_.2.2.2 rfl | exact h_.1.1.1.1 rfl | exact h_.1.1.1.2 rfl | (have h2_ := HO_5.out.1 _ rfl; first | exact h2_.1 e_ | exact h2_.2 e_ | exact h2_.2.1 e_ | exact h2_.2.2 e_ | exact h2_.1.1 e_ | exact h2_.1.2 e_ | exact h2_.2.2.1 e_ | exact h2_.2.2.2 e_))
                      rw [← Ny337.out] at ho
                      have n0_ := Aside0.mk (Kd.N_afterv (ok := (fun k_ => some k_ ≠ (v327 : Value).ownBlock ∧ some k_ ≠ (v342 : Value).ownBlock)) (by exact zN (Kd.N_mono HO_5.out (fun _ hk => ⟨⟨hk.1.1.2, hk.2⟩, hk.1.2⟩))) hg hat)
                      have n1_ := Aside0.mk (Kd.V_afterv (ok := (fun k_ => some k_ ≠ (v327 : Value).ownBlock ∧ some k_ ≠ (v342 : Value).ownBlock)) (by (with_reducible repeat (first | apply Kd.V_alloc | apply Kd.V_drewN | apply Kd.V_drew)); exact Kd.V_mono HO317.out (fun _ hk => ⟨⟨hk.1.1.2, hk.2⟩, hk.1.2⟩)) hg hat)
                      have n2_ := Aside0.mk (Kd.V_afterv (ok := (fun k_ => some k_ ≠ (v327 : Value).ownBlock ∧ some k_ ≠ (v342 : Value).ownBlock)) (by (with_reducible repeat (first | apply Kd.V_alloc | apply Kd.V_drewN | apply Kd.V_drew)); exact Kd.V_mono HO325.out (fun _ hk => ⟨⟨hk.1.1.2, hk.2⟩, hk.1.2⟩)) hg hat)
                      have n3_ := Aside0.mk (Kd.N_afterv (ok := (fun k_ => some k_ ≠ (v342 : Value).ownBlock)) (by exact zN (Kd.N_mono HO328.out (fun _ hk => ⟨hk.2, hk.1.2⟩))) hg hat)
                      have n4_ := Aside0.mk (Kd.V_afterv (ok := (fun k_ => some k_ ≠ (v327 : Value).ownBlock ∧ some k_ ≠ (v342 : Value).ownBlock)) (by (with_reducible repeat (first | apply Kd.V_alloc | apply Kd.V_drewN | apply Kd.V_drew)); exact Kd.V_mono HO336.out (fun _ hk => ⟨⟨hk.1.1.2, hk.2⟩, hk.1.2⟩)) hg hat)
                      have n5_ := Aside0.mk (Kd.V_afterv (ok := (fun k_ => some k_ ≠ (.slice (some ad340) t304.length co10 : Value).ownBlock ∧ some k_ ≠ (v327 : Value).ownBlock ∧ some k_ ≠ (v342 : Value).ownBlock)) (by (with_reducible repeat (first | apply Kd.V_alloc | apply Kd.V_drewN | apply Kd.V_drew)); exact Kd.V_mono HL340_2.out (fun _ hk => ⟨⟨hk.1.1.2, ⟨hk.1.1.1.2, hk.2⟩⟩, hk.1.2⟩)) hg hat)
                      have n6_ := Aside0.mk (Kd.V_afterv (ok := (fun k_ => some k_ ≠ (.slice (some ad340) t304.length co10 : Value).ownBlock ∧ some k_ ≠ (v327 : Value).ownBlock ∧ some k_ ≠ (v342 : Value).ownBlock)) (by (with_reducible repeat (first | apply Kd.V_alloc | apply Kd.V_drewN | apply Kd.V_drew)); exact Kd.V_mono HL340_3.out (fun _ hk => ⟨⟨hk.1.1.2, ⟨hk.1.1.1.2, hk.2⟩⟩, hk.1.2⟩)) hg hat)
                      have n7_ := Aside0.mk (Kd.V_afterv (ok := (fun k_ => some k_ ≠ (v327 : Value).ownBlock ∧ some k_ ≠ (v342 : Value).ownBlock)) (by (with_reducible repeat (first | apply Kd.V_alloc | apply Kd.V_drewN | apply Kd.V_drew)); exact Kd.V_mono HO351.out (fun _ hk => ⟨⟨hk.1.1.2, hk.2⟩, hk.1.2⟩)) hg hat)
                      have n8_ := Aside0.mk (Kd.N_afterv (ok := (fun k_ => some k_ ≠ (.slice (some ad340) t304.length co10 : Value).ownBlock ∧ some k_ ≠ (v327 : Value).ownBlock)) (by exact zN (Kd.N_mono HO343.out (fun _ hk => ⟨⟨hk.1, hk.2.1⟩, hk.2.2⟩))) hg hat)
                      have n9_ := Aside0.mk (hb)
                      have n10_ := Aside0.mk (ho)
                      clear HO_5
                      clear HO317
                      clear HO325
                      clear HO328
                      clear HO336
                      clear HL340_2
                      clear HL340_3
                      clear HO351
                      clear HO343
                      clear HB
                      clear HO331
                      have HO_5 := n0_
                      have HO317 := n1_
                      have HO325 := n2_
                      have HO328 := n3_
                      have HO336 := n4_
                      have HL340_2 := n5_
                      have HL340_3 := n6_
                      have HO351 := n7_
                      have HO343 := n8_
                      have HB := n9_
                      have HO339 := n10_
                      clear n0_ n1_ n2_ n3_ n4_ n5_ n6_ n7_ n8_ n9_ n10_
                      clear ho hb hg hat
                      refine hK.out _ _ ⟨HS0_, HS1_, HS2_, HS3_⟩ (fun hHeld => ?_)
                      clear hK K
                      refine norm_ (a' := ?_) ?_ ?_
                      rotate_left
                      ·show Act.put _ (some 58) _ = _
                       simp only [zp0, zp1, zp2, zp3, zp4, i64_w, i32_w]
                       rfl
                      exact norm_ (by simp only [putAll, zp0, zp1, zp2, zp3, zp4]) (hCont (v330, v338, v342) _ ⟨hHeld, (by (with_reducible repeat (first | apply Kd.V_alloc | apply Kd.V_drewN | apply Kd.V_drew)); exact Kd.V_mono HL340_2.out (fun _ hk => ⟨hk.1.2.1, ⟨hk.2, ⟨hk.1.2.2, hk.1.1⟩⟩⟩)), (by (with_reducible repeat (first | apply Kd.V_alloc | apply Kd.V_drewN | apply Kd.V_drew)); exact Kd.V_mono HL340_3.out (fun _ hk => ⟨hk.1.2.1, ⟨hk.2, ⟨hk.1.2.2, hk.1.1⟩⟩⟩)), (by (with_reducible repeat (first | apply Kd.V_alloc | apply Kd.V_drewN | apply Kd.V_drew)); exact Kd.V_mono HO317.out (fun _ hk => ⟨hk.1.1, ⟨hk.2, hk.1.2⟩⟩)), (by (with_reducible repeat (first | apply Kd.V_alloc | apply Kd.V_drewN | apply Kd.V_drew)); exact Kd.V_mono HO325.out (fun _ hk => ⟨hk.1.1, ⟨hk.2, hk.1.2⟩⟩)), (by exact zN (Kd.N_mono HO328.out (fun _ hk => ⟨hk.2, hk.1⟩))), (by (with_reducible repeat (first | apply Kd.V_alloc | apply Kd.V_drewN | apply Kd.V_drew)); exact Kd.V_mono HO336.out (fun _ hk => ⟨hk.1.1, ⟨hk.2, hk.1.2⟩⟩)), (by exact zN HO339.out), (by exact zN (Kd.N_mono HO343.out (fun _ hk => ⟨hk.1.2, ⟨hk.2, hk.1.1⟩⟩))), (by (with_reducible repeat (first | apply Kd.V_alloc | apply Kd.V_drewN | apply Kd.V_drew)); exact Kd.V_mono HO351.out (fun _ hk => ⟨hk.1.1, ⟨hk.2, hk.1.2⟩⟩)), (by exact zN (Kd.N_mono HO_5.out (fun _ hk => ⟨hk.1.1, ⟨hk.2, hk.1.2⟩⟩))), (by exact zB HB.out)⟩)
                    ·skip
                     refine Kd.N_lit_step k29 _ 29 ?hg (N' := 63) ?hd (xs := ([(⟨(rd_T29 t304 (ji22)).f0, (rd_T29 t304 (ji22)).f1, (rd_T29 t304 (ji22)).f2, (rd_T29 t304 (ji22)).f3⟩ : S29)] : List (S29))) (inner := [.int .i64 ((rd_T29 t304 (ji22)).f0), .int .i64 ((rd_T29 t304 (ji22)).f1), .slice A340_2 ((rd_T29 t304 (ji22)).f2).length c340_2, .slice A340_3 ((rd_T29 t304 (ji22)).f3).length c340_3]) (ok := (fun k_ => some k_ ≠ (.slice (some ad340) t304.length co10 : Value).ownBlock ∧ some k_ ≠ (v327 : Value).ownBlock)) (okp := (fun k_ => some k_ ≠ (.slice (some ad340) t304.length co10 : Value).ownBlock ∧ some k_ ≠ (v327 : Value).ownBlock)) ?hr ?hp (fun _ hk => hk) ((show ∀ k_, w48.heap.size ≤ k_ → (fun k_ => some k_ ≠ (.slice (some ad340) t304.length co10 : Value).ownBlock ∧ some k_ ≠ (v327 : Value).ownBlock) k_ from fun k_ hk => ⟨Kd.fresh' (Kd.N_lt (by exact zN HO_5.out)) k_ hk, Kd.fresh' (Kd.N_lt (by exact zN HO328.out)) k_ hk⟩) _ (Nat.le_refl _)) (Below.refl _ _) (Nat.le_refl _) (by simp) ?_; (case hd => rfl); (case hg => rfl); (case hr => first | (go_simp; done) | (go_simp; rfl)); (case hp => exact (Reps.c4 (show Kd.FK k29 _ _ (⟨(rd_T29 t304 (ji22)).f0, (rd_T29 t304 (ji22)).f1, (rd_T29 t304 (ji22)).f2, (rd_T29 t304 (ji22)).f3⟩ : S29) [.int .i64 ((rd_T29 t304 (ji22)).f0), .int .i64 ((rd_T29 t304 (ji22)).f1), .slice A340_2 ((rd_T29 t304 (ji22)).f2).length c340_2, .slice A340_3 ((rd_T29 t304 (ji22)).f3).length c340_3] from (k29_mkF _ _ (⟨(rd_T29 t304 (ji22)).f0, (rd_T29 t304 (ji22)).f1, (rd_T29 t304 (ji22)).f2, (rd_T29 t304 (ji22)).f3⟩ : S29) (Kd.V_reads' (Kd.V_mono (ok' := (fun k_ => some k_ ≠ (.slice (some ad340) t304.length co10 : Value).ownBlock ∧ some k_ ≠ (v327 : Value).ownBlock)) (HL340_2.out) (fun k_ hk => ⟨hk.2, hk.1.2⟩))).2.1 (Kd.V_F (Kd.V_mono (ok' := (fun k_ => some k_ ≠ (.slice (some ad340) t304.length co10 : Value).ownBlock ∧ some k_ ≠ (v327 : Value).ownBlock)) (HL340_2.out) (fun k_ hk => ⟨hk.2, hk.1.2⟩))) (Kd.V_reads' (Kd.V_mono (ok' := (fun k_ => some k_ ≠ (.slice (some ad340) t304.length co10 : Value).ownBlock ∧ some k_ ≠ (v327 : Value).ownBlock)) (HL340_3.out) (fun k_ hk => ⟨hk.2, hk.1.2⟩))).2.1 (Kd.V_F (Kd.V_mono (ok' := (fun k_ => some k_ ≠ (.slice (some ad340) t304.length co10 : Value).ownBlock ∧ some k_ ≠ (v327 : Value).ownBlock)) (HL340_3.out) (fun k_ hk => ⟨hk.2, hk.1.2⟩))))) (Reps.none _ _)))
                     intro v342 w51 ho52 hb hg_ hnew_
                     have HS0_ := (hb.cell (World.block_lt_of_cell? _ _ (hHeld.1))).trans (hHeld.1)
                     have HS1_ := (hb.cell (World.block_lt_of_cell? _ _ (hHeld.2.1))).trans (hHeld.2.1)
                     have HS2_ := (hb.cell (World.block_lt_of_cell? _ _ (hHeld.2.2.1))).trans (hHeld.2.2.1)
                     have HS3_ := (hb.cell (World.block_lt_of_cell? _ _ (hHeld.2.2.2))).trans (hHeld.2.2.2)
                     clear hg_ hnew_
                     (first | rw [← Ny341.out] at ho52 | (simp only [Int.reduceToNat] at ho52; rw [← Ny341.out] at ho52))
                     have n0_ := Aside0.mk (Kd.N_elder' (by exact zN HO_5.out) (Kd.N_base ho52) hb)
                     have n1_ := Aside0.mk (Kd.V_elder' (by (with_reducible repeat (first | apply Kd.V_alloc | apply Kd.V_drewN | apply Kd.V_drew)); exact HO317.out) (Kd.N_base ho52) hb)
                     have n2_ := Aside0.mk (Kd.V_elder' (by (with_reducible repeat (first | apply Kd.V_alloc | apply Kd.V_drewN | apply Kd.V_drew)); exact HO325.out) (Kd.N_base ho52) hb)
                     have n3_ := Aside0.mk (Kd.N_elder' (by exact zN HO328.out) (Kd.N_base ho52) hb)
                     have n4_ := Aside0.mk (Kd.V_elder' (by (with_reducible repeat (first | apply Kd.V_alloc | apply Kd.V_drewN | apply Kd.V_drew)); exact HO336.out) (Kd.N_base ho52) hb)
                     have n5_ := Aside0.mk (Kd.V_elder' (by (with_reducible repeat (first | apply Kd.V_alloc | apply Kd.V_drewN | apply Kd.V_drew)); exact HL340_2.out) (Kd.N_base ho52) hb)
                     have n6_ := Aside0.mk (Kd.V_elder' (by (with_reducible repeat (first | apply Kd.V_alloc | apply Kd.V_drewN | apply Kd.V_drew)); exact HL340_3.out) (Kd.N_base ho52) hb)
                     have n7_ := Aside0.mk (Kd.V_elder' (by (with_reducible repeat (first | apply Kd.V_alloc | apply Kd.V_drewN | apply Kd.V_drew)); exact HO351.out) (Kd.N_base ho52) hb)
                     have n8_ := Aside0.mk (Kd.N_lower ho52 (below_size (by exact zB HB.out)))
                     have n9_ := Aside0.mk (Kd.C_below (by repeat (first | (with_reducible exact HR340_2.out) | (with_reducible refine Kd.C_alloc ?_ _) | (with_reducible refine Kd.C_drewN ?_ _) | (with_reducible refine Kd.C_drew ?_) | exact HR340_2.out)) hb)
                     have n10_ := Aside0.mk (Kd.C_below (by repeat (first | (with_reducible exact HR340_3.out) | (with_reducible refine Kd.C_alloc ?_ _) | (with_reducible refine Kd.C_drewN ?_ _) | (with_reducible refine Kd.C_drew ?_) | exact HR340_3.out)) hb)
                     have n11_ := Aside0.mk (below_step (by exact zB HB.out) hb)
                     clear HO_5
                     clear HO317
                     clear HO325
                     clear HO328
                     clear HO336
                     clear HL340_2
                     clear HL340_3
                     clear HO351
                     clear HR340_2
                     clear HR340_3
                     clear HB
                     have HO_5 := n0_
                     have HO317 := n1_
                     have HO325 := n2_
                     have HO328 := n3_
                     have HO336 := n4_
                     have HL340_2 := n5_
                     have HL340_3 := n6_
                     have HO351 := n7_
                     have HO343 := n8_
                     have HR340_2 := n9_
                     have HR340_3 := n10_
                     have HB := n11_
                     clear n0_ n1_ n2_ n3_ n4_ n5_ n6_ n7_ n8_ n9_ n10_ n11_
                     clear hb ho52
                     refine hK.out _ _ ⟨HS0_, HS1_, HS2_, HS3_⟩ (fun hHeld => ?_)
                     clear hK K
                     refine norm_ (a' := ?_) ?_ ?_
                     rotate_left
                     ·show Act.put _ (some 63) _ = _
                      simp only [zp0, zp1, zp2, zp3, zp4, i64_w, i32_w]
                      rfl
                     refine one_ (i := 0) (N := some 54) #[true, true, true, true, false, true, true, true, true, true, false, true, true, true, false, false] rfl rfl (one_of HT_.out (by kernel_rfl)) (by decide) (fun K hK => ?_)
                     refine Kd.N_lit_step k29 _ 29 ?hg (N' := 54) ?hd (xs := ([] : List (S29))) (inner := []) (ok := (fun k_ => some k_ ≠ (.slice (some ad340) t304.length co10 : Value).ownBlock ∧ some k_ ≠ (v327 : Value).ownBlock ∧ some k_ ≠ (v342 : Value).ownBlock)) (okp := (fun k_ => some k_ ≠ (.slice (some ad340) t304.length co10 : Value).ownBlock ∧ some k_ ≠ (v327 : Value).ownBlock ∧ some k_ ≠ (v342 : Value).ownBlock)) ?hr ?hp (fun _ hk => hk) ((show ∀ k_, w51.heap.size ≤ k_ → (fun k_ => some k_ ≠ (.slice (some ad340) t304.length co10 : Value).ownBlock ∧ some k_ ≠ (v327 : Value).ownBlock ∧ some k_ ≠ (v342 : Value).ownBlock) k_ from fun k_ hk => ⟨Kd.fresh' (Kd.N_lt (by exact zN HO_5.out)) k_ hk, Kd.fresh' (Kd.N_lt (by exact zN HO328.out)) k_ hk, Kd.fresh' (Kd.N_lt (by exact zN HO343.out)) k_ hk⟩) _ (Nat.le_refl _)) (Below.refl _ _) (Nat.le_refl _) (by simp) ?_; (case hd => rfl); (case hg => rfl); (case hr => first | (go_simp; done) | (go_simp; rfl)); (case hp => exact (Reps.none _ _))
                     intro v330 w53 ho54 hb hg_ hnew_
                     have HS0_ := (hb.cell (World.block_lt_of_cell? _ _ (hHeld.1))).trans (hHeld.1)
                     have HS1_ := (hb.cell (World.block_lt_of_cell? _ _ (hHeld.2.1))).trans (hHeld.2.1)
                     have HS2_ := (hb.cell (World.block_lt_of_cell? _ _ (hHeld.2.2.1))).trans (hHeld.2.2.1)
                     have HS3_ := (hb.cell (World.block_lt_of_cell? _ _ (hHeld.2.2.2))).trans (hHeld.2.2.2)
                     clear hg_ hnew_
                     (first | rw [← Ny329.out] at ho54 | (simp only [Int.reduceToNat] at ho54; rw [← Ny329.out] at ho54))
                     have n0_ := Aside0.mk (Kd.N_elder' (by exact zN HO_5.out) (Kd.N_base ho54) hb)
                     have n1_ := Aside0.mk (Kd.V_elder' (by (with_reducible repeat (first | apply Kd.V_alloc | apply Kd.V_drewN | apply Kd.V_drew)); exact HO317.out) (Kd.N_base ho54) hb)
                     have n2_ := Aside0.mk (Kd.V_elder' (by (with_reducible repeat (first | apply Kd.V_alloc | apply Kd.V_drewN | apply Kd.V_drew)); exact HO325.out) (Kd.N_base ho54) hb)
                     have n3_ := Aside0.mk (Kd.N_elder' (by exact zN HO328.out) (Kd.N_base ho54) hb)
                     have n4_ := Aside0.mk (Kd.V_elder' (by (with_reducible repeat (first | apply Kd.V_alloc | apply Kd.V_drewN | apply Kd.V_drew)); exact HO336.out) (Kd.N_base ho54) hb)
                     have n5_ := Aside0.mk (Kd.V_elder' (by (with_reducible repeat (first | apply Kd.V_alloc | apply Kd.V_drewN | apply Kd.V_drew)); exact HL340_2.out) (Kd.N_base ho54) hb)
                     have n6_ := Aside0.mk (Kd.V_elder' (by (with_reducible repeat (first | apply Kd.V_alloc | apply Kd.V_drewN | apply Kd.V_drew)); exact HL340_3.out) (Kd.N_base ho54) hb)
                     have n7_ := Aside0.mk (Kd.V_elder' (by (with_reducible repeat (first | apply Kd.V_alloc | apply Kd.V_drewN | apply Kd.V_drew)); exact HO351.out) (Kd.N_base ho54) hb)
                     have n8_ := Aside0.mk (Kd.N_elder' (by exact zN HO343.out) (Kd.N_base ho54) hb)
                     have n9_ := Aside0.mk (Kd.N_lower ho54 (below_size (by exact zB HB.out)))
                     have n10_ := Aside0.mk (Kd.C_below (by repeat (first | (with_reducible exact HR340_2.out) | (with_reducible refine Kd.C_alloc ?_ _) | (with_reducible refine Kd.C_drewN ?_ _) | (with_reducible refine Kd.C_drew ?_) | exact HR340_2.out)) hb)
                     have n11_ := Aside0.mk (Kd.C_below (by repeat (first | (with_reducible exact HR340_3.out) | (with_reducible refine Kd.C_alloc ?_ _) | (with_reducible refine Kd.C_drewN ?_ _) | (with_reducible refine Kd.C_drew ?_) | exact HR340_3.out)) hb)
                     have n12_ := Aside0.mk (below_step (by exact zB HB.out) hb)
                     clear HO_5
                     clear HO317
                     clear HO325
                     clear HO328
                     clear HO336
                     clear HL340_2
                     clear HL340_3
                     clear HO351
                     clear HO343
                     clear HR340_2
                     clear HR340_3
                     clear HB
                     have HO_5 := n0_
                     have HO317 := n1_
                     have HO325 := n2_
                     have HO328 := n3_
                     have HO336 := n4_
                     have HL340_2 := n5_
                     have HL340_3 := n6_
                     have HO351 := n7_
                     have HO343 := n8_
                     have HO331 := n9_
                     have HR340_2 := n10_
                     have HR340_3 := n11_
                     have HB := n12_
                     clear n0_ n1_ n2_ n3_ n4_ n5_ n6_ n7_ n8_ n9_ n10_ n11_ n12_
                     clear hb ho54
                     refine hK.out _ _ ⟨HS0_, HS1_, HS2_, HS3_⟩ (fun hHeld => ?_)
                     clear hK K
                     refine norm_ (a' := ?_) ?_ ?_
                     rotate_left
                     ·show Act.put _ (some 54) _ = _
                      simp only [zp0, zp1, zp2, zp3, zp4, i64_w, i32_w]
                      rfl
                     refine one_ (i := 4) (N := some 58) #[true, true, true, true, true, true, true, true, true, true, false, true, true, true, false, false] rfl rfl (one_of HT_.out (by kernel_rfl)) (by decide) (fun K hK => ?_)
                     refine Kd.N_append_rows_step k29 (w0 := w) w.heap.size (by rfl) (.tmp 54) (.tmp 57) 23 29 (.agg #[(.int .i64 0), (.int .i64 0), (.slice none 0 0), (.slice none 0 0)]) 64 rfl Try.underlying23 info29 rfl (by decide) (by omega) v330 y329 y332 _ _ _ (fun k_ => some k_ ≠ (v327 : Value).ownBlock ∧ some k_ ≠ (v342 : Value).ownBlock) (fun k_ => ((fun k_ => some k_ ≠ (v327 : Value).ownBlock ∧ some k_ ≠ (v342 : Value).ownBlock)) k_ ∧ some k_ ≠ (v330 : Value).ownBlock) rfl rfl ?aO ?aR (fun _ hk => hk) ?aF ?aB ?aS ?aL ?_
                     (case aR => exact (by have hlen_ : y313.length = y332.length := (by rw [Ny313.out, Ny332.out]); rw [hlen_]; exact Kd.V_F (Kd.V_mono (ok' := (fun k_ => ((fun k_ => some k_ ≠ (v327 : Value).ownBlock ∧ some k_ ≠ (v342 : Value).ownBlock)) k_ ∧ some k_ ≠ (v330 : Value).ownBlock)) (HO336.out) (fun k_ hk => ⟨⟨hk.1.1.2, hk.1.2⟩, hk.2⟩))))
                     (case aB => exact (by exact zB HB.out))
                     (case aF => exact (fun k_ hk => ⟨Kd.fresh' (Kd.N_lt (by exact zN HO328.out)) k_ hk, Kd.fresh' (Kd.N_lt (by exact zN HO343.out)) k_ hk⟩))
                     (case aO => exact (by exact zN (Kd.N_mono HO331.out (fun _ hk => ⟨hk.2.1, hk.2.2⟩))))
                     (case aS => exact (below_size (by exact zB HB.out)))
                     (case aL => have hlen_ : y313.length = y332.length := (by rw [Ny313.out, Ny332.out]); have := LMc32.out; omega)
                     intro v338 w55 ho hb hg hat
                     have HS0_ := cell_grown hg (hHeld.1) (by intro e_; (try rw [add_block] at e_); have h_ := HO331.out.1 _ e_.symm; first | exact h_ rfl | exact h_.1 rfl | exact h_.2 rfl | exact h_.1.1 rfl | exact h_.1.2 rfl | exact h_.2.1 rfl | exact h_.2.2 rfl | exact h_.1.1.1 rfl | exact h_.1.1.2 rfl | exact h_.1.2.1 rfl | exact h_.1.2.2 rfl | exact h_.2.2.1 rfl | exact h_.2.2.2 rfl | exact h_.1.1.1.1 rfl | exact h_.1.1.1.2 rfl | (have h2_ := HO_5.out.1 _ rfl; first | exact h2_.1 e_ | exact h2_.2 e_ | exact h2_.2.1 e_ | exact h2_.2.2 e_ | exact h2_.1.1 e_ | exact h2_.1.2 e_ | exact h2_.2.2.1 e_ | exact h2_.2.2.2 e_))
                     have HS1_ := cell_grown hg (hHeld.2.1) (by intro e_; (try rw [add_block] at e_); have h_ := HO331.out.1 _ e_.symm; first | exact h_ rfl | exact h_.1 rfl | exact h_.2 rfl | exact h_.1.1 rfl | exact h_.1.2 rfl | exact h_.2.1 rfl | exact h_.2.2 rfl | exact h_.1.1.1 rfl | exact h_.1.1.2 rfl | exact h_.1.2.1 rfl | exact h_.1.2.2 rfl | exact h_.2.2.1 rfl | exact h_.2.2.2 rfl | exact h_.1.1.1.1 rfl | exact h_.1.1.1.2 rfl | (have h2_ := HO_5.out.1 _ rfl; first | exact h2_.1 e_ | exact h2_.2 e_ | exact h2_.2.1 e_ | exact h2_.2.2 e_ | exact h2_.1.1 e_ | exact h2_.1.2 e_ | exact h2_.2.2.1 e_ | exact h2_.2.2.2 e_))
                     have HS2_ := cell_grown hg (hHeld.2.2.1) (by intro e_; (try rw [add_block] at e_); have h_ := HO331.out.1 _ e_.symm; first | exact h_ rfl | exact h_.1 rfl | exact h_.2 rfl | exact h_.1.1 rfl | exact h_.1.2 rfl | exact h_.2.1 rfl | exact h_.2.2 rfl | exact h_.1.1.1 rfl | exact h_.1.1.2 rfl | exact h_.1.2.1 rfl | exact h_.1.2.2 rfl | exact h_.2.2.1 rfl | exact h_.2.2.2 rfl | exact h_.1.1.1.1 rfl | exact h_.1.1.1.2 rfl | (have h2_ := HO_5.out.1 _ rfl; first | exact h2_.1 e_ | exact h2_.2 e_ | exact h2_.2.1 e_ | exact h2_.2.2 e_ | exact h2_.1.1 e_ | exact h2_.1.2 e_ | exact h2_.2.2.1 e_ | exact h2_.2.2.2 e_))
                     have HS3_ := cell_grown hg (hHeld.2.2.2) (by intro e_; (try rw [add_block] at e_); have h_ := HO331.out.1 _ e_.symm; first | exact h_ rfl | exact h_.1 rfl | exact h_.2 rfl | exact h_.1.1 rfl | exact h_.1.2 rfl | exact h_.2.1 rfl | exact h_.2.2 rfl | exact h_.1.1.1 rfl | exact h_.1.1.2 rfl | exact h_.1.2.1 rfl | exact h_.1.2.2 rfl | exact h_.2.2.1 rfl | exact h_.2.2.2 rfl | exact h_.1.1.1.1 rfl | exact h_.1.1.1.2 rfl | (have h2_ := HO_5.out.1 _ rfl; first | exact h2_.1 e_ | exact h2_.2 e_ | exact h2_.2.1 e_ | exact h2_.2.2 e_ | exact h2_.1.1 e_ | exact h2_.1.2 e_ | exact h2_.2.2.1 e_ | exact h2_.2.2.2 e_))
                     rw [← Ny337.out] at ho
                     have n0_ := Aside0.mk (Kd.N_afterv (ok := (fun k_ => some k_ ≠ (v327 : Value).ownBlock ∧ some k_ ≠ (v342 : Value).ownBlock)) (by exact zN (Kd.N_mono HO_5.out (fun _ hk => ⟨⟨hk.1.1.2, hk.1.2⟩, hk.2⟩))) hg hat)
                     have n1_ := Aside0.mk (Kd.V_afterv (ok := (fun k_ => some k_ ≠ (v327 : Value).ownBlock ∧ some k_ ≠ (v342 : Value).ownBlock)) (by (with_reducible repeat (first | apply Kd.V_alloc | apply Kd.V_drewN | apply Kd.V_drew)); exact Kd.V_mono HO317.out (fun _ hk => ⟨⟨hk.1.1.2, hk.1.2⟩, hk.2⟩)) hg hat)
                     have n2_ := Aside0.mk (Kd.V_afterv (ok := (fun k_ => some k_ ≠ (v327 : Value).ownBlock ∧ some k_ ≠ (v342 : Value).ownBlock)) (by (with_reducible repeat (first | apply Kd.V_alloc | apply Kd.V_drewN | apply Kd.V_drew)); exact Kd.V_mono HO325.out (fun _ hk => ⟨⟨hk.1.1.2, hk.1.2⟩, hk.2⟩)) hg hat)
                     have n3_ := Aside0.mk (Kd.N_afterv (ok := (fun k_ => some k_ ≠ (v342 : Value).ownBlock)) (by exact zN (Kd.N_mono HO328.out (fun _ hk => ⟨hk.1.2, hk.2⟩))) hg hat)
                     have n4_ := Aside0.mk (Kd.V_afterv (ok := (fun k_ => some k_ ≠ (v327 : Value).ownBlock ∧ some k_ ≠ (v342 : Value).ownBlock)) (by (with_reducible repeat (first | apply Kd.V_alloc | apply Kd.V_drewN | apply Kd.V_drew)); exact Kd.V_mono HO336.out (fun _ hk => ⟨⟨hk.1.1.2, hk.1.2⟩, hk.2⟩)) hg hat)
                     have n5_ := Aside0.mk (Kd.V_afterv (ok := (fun k_ => some k_ ≠ (.slice (some ad340) t304.length co10 : Value).ownBlock ∧ some k_ ≠ (v327 : Value).ownBlock ∧ some k_ ≠ (v342 : Value).ownBlock)) (by (with_reducible repeat (first | apply Kd.V_alloc | apply Kd.V_drewN | apply Kd.V_drew)); exact Kd.V_mono HL340_2.out (fun _ hk => ⟨⟨hk.1.1.2, ⟨hk.1.1.1.2, hk.1.2⟩⟩, hk.2⟩)) hg hat)
                     have n6_ := Aside0.mk (Kd.V_afterv (ok := (fun k_ => some k_ ≠ (.slice (some ad340) t304.length co10 : Value).ownBlock ∧ some k_ ≠ (v327 : Value).ownBlock ∧ some k_ ≠ (v342 : Value).ownBlock)) (by (with_reducible repeat (first | apply Kd.V_alloc | apply Kd.V_drewN | apply Kd.V_drew)); exact Kd.V_mono HL340_3.out (fun _ hk => ⟨⟨hk.1.1.2, ⟨hk.1.1.1.2, hk.1.2⟩⟩, hk.2⟩)) hg hat)
                     have n7_ := Aside0.mk (Kd.V_afterv (ok := (fun k_ => some k_ ≠ (v327 : Value).ownBlock ∧ some k_ ≠ (v342 : Value).ownBlock)) (by (with_reducible repeat (first | apply Kd.V_alloc | apply Kd.V_drewN | apply Kd.V_drew)); exact Kd.V_mono HO351.out (fun _ hk => ⟨⟨hk.1.1.2, hk.1.2⟩, hk.2⟩)) hg hat)
                     have n8_ := Aside0.mk (Kd.N_afterv (ok := (fun k_ => some k_ ≠ (.slice (some ad340) t304.length co10 : Value).ownBlock ∧ some k_ ≠ (v327 : Value).ownBlock)) (by exact zN HO343.out) hg hat)
                     have n9_ := Aside0.mk (hb)
                     have n10_ := Aside0.mk (ho)
                     clear HO_5
                     clear HO317
                     clear HO325
                     clear HO328
                     clear HO336
                     clear HL340_2
                     clear HL340_3
                     clear HO351
                     clear HO343
                     clear HB
                     clear HO331
                     have HO_5 := n0_
                     have HO317 := n1_
                     have HO325 := n2_
                     have HO328 := n3_
                     have HO336 := n4_
                     have HL340_2 := n5_
                     have HL340_3 := n6_
                     have HO351 := n7_
                     have HO343 := n8_
                     have HB := n9_
                     have HO339 := n10_
                     clear n0_ n1_ n2_ n3_ n4_ n5_ n6_ n7_ n8_ n9_ n10_
                     clear ho hb hg hat
                     refine hK.out _ _ ⟨HS0_, HS1_, HS2_, HS3_⟩ (fun hHeld => ?_)
                     clear hK K
                     refine norm_ (a' := ?_) ?_ ?_
                     rotate_left
                     ·show Act.put _ (some 58) _ = _
                      simp only [zp0, zp1, zp2, zp3, zp4, i64_w, i32_w]
                      rfl
                     exact norm_ (by simp only [putAll, zp0, zp1, zp2, zp3, zp4]) (hCont (v330, v338, v342) _ ⟨hHeld, (by (with_reducible repeat (first | apply Kd.V_alloc | apply Kd.V_drewN | apply Kd.V_drew)); exact Kd.V_mono HL340_2.out (fun _ hk => ⟨hk.1.2.1, ⟨hk.2, ⟨hk.1.2.2, hk.1.1⟩⟩⟩)), (by (with_reducible repeat (first | apply Kd.V_alloc | apply Kd.V_drewN | apply Kd.V_drew)); exact Kd.V_mono HL340_3.out (fun _ hk => ⟨hk.1.2.1, ⟨hk.2, ⟨hk.1.2.2, hk.1.1⟩⟩⟩)), (by (with_reducible repeat (first | apply Kd.V_alloc | apply Kd.V_drewN | apply Kd.V_drew)); exact Kd.V_mono HO317.out (fun _ hk => ⟨hk.1.1, ⟨hk.2, hk.1.2⟩⟩)), (by (with_reducible repeat (first | apply Kd.V_alloc | apply Kd.V_drewN | apply Kd.V_drew)); exact Kd.V_mono HO325.out (fun _ hk => ⟨hk.1.1, ⟨hk.2, hk.1.2⟩⟩)), (by exact zN (Kd.N_mono HO328.out (fun _ hk => ⟨hk.2, hk.1⟩))), (by (with_reducible repeat (first | apply Kd.V_alloc | apply Kd.V_drewN | apply Kd.V_drew)); exact Kd.V_mono HO336.out (fun _ hk => ⟨hk.1.1, ⟨hk.2, hk.1.2⟩⟩)), (by exact zN HO339.out), (by exact zN (Kd.N_mono HO343.out (fun _ hk => ⟨hk.1.2, ⟨hk.2, hk.1.1⟩⟩))), (by (with_reducible repeat (first | apply Kd.V_alloc | apply Kd.V_drewN | apply Kd.V_drew)); exact Kd.V_mono HO351.out (fun _ hk => ⟨hk.1.1, ⟨hk.2, hk.1.2⟩⟩)), (by exact zN (Kd.N_mono HO_5.out (fun _ hk => ⟨hk.1.1, ⟨hk.2, hk.1.2⟩⟩))), (by exact zB HB.out)⟩)
                   rintro ⟨v330, v338, v342⟩ w56 ⟨hS_, h0_, h1_, h2_, h3_, h4_, h5_, h6_, h7_, h8_, h9_, h10_⟩
                   have n0_ : Aside0 (Kd.V k89 89 w56 w.heap.size (fun k_ => some k_ ≠ (v327 : Value).ownBlock ∧ some k_ ≠ (v338 : Value).ownBlock ∧ some k_ ≠ (v342 : Value).ownBlock ∧ some k_ ≠ (.slice (some ad340) t304.length co10 : Value).ownBlock) (.slice A340_2 ((rd_T29 t304 (ji22)).f2).length c340_2) ((rd_T29 t304 (ji22)).f2)) := ⟨h0_⟩
                   have n1_ : Aside0 (Kd.V k91 91 w56 w.heap.size (fun k_ => some k_ ≠ (v327 : Value).ownBlock ∧ some k_ ≠ (v338 : Value).ownBlock ∧ some k_ ≠ (v342 : Value).ownBlock ∧ some k_ ≠ (.slice (some ad340) t304.length co10 : Value).ownBlock) (.slice A340_3 ((rd_T29 t304 (ji22)).f3).length c340_3) ((rd_T29 t304 (ji22)).f3)) := ⟨h1_⟩
                   have n2_ : Aside0 (Kd.V k29 29 w56 w.heap.size (fun k_ => some k_ ≠ (v327 : Value).ownBlock ∧ some k_ ≠ (v338 : Value).ownBlock ∧ some k_ ≠ (v342 : Value).ownBlock) (.slice (some ad340) y313.length co10) y313) := ⟨h2_⟩
                   have n3_ : Aside0 (Kd.V k29 29 w56 w.heap.size (fun k_ => some k_ ≠ (v327 : Value).ownBlock ∧ some k_ ≠ (v338 : Value).ownBlock ∧ some k_ ≠ (v342 : Value).ownBlock) (.slice A43 y321.length c43) y321) := ⟨h3_⟩
                   have n4_ : Aside0 (Kd.N k29 29 w56 w.heap.size (fun k_ => some k_ ≠ (v338 : Value).ownBlock ∧ some k_ ≠ (v342 : Value).ownBlock) v327 y326) := ⟨h4_⟩
                   have n5_ : Aside0 (Kd.V k29 29 w56 w.heap.size (fun k_ => some k_ ≠ (v327 : Value).ownBlock ∧ some k_ ≠ (v338 : Value).ownBlock ∧ some k_ ≠ (v342 : Value).ownBlock) (.slice (some ad340) y332.length co10) y332) := ⟨h5_⟩
                   have n6_ : Aside0 (Kd.N k29 29 w56 w.heap.size (fun k_ => some k_ ≠ (v327 : Value).ownBlock ∧ some k_ ≠ (v342 : Value).ownBlock) v338 y337) := ⟨h6_⟩
                   have n7_ : Aside0 (Kd.N k29 29 w56 w.heap.size (fun k_ => some k_ ≠ (v327 : Value).ownBlock ∧ some k_ ≠ (v338 : Value).ownBlock ∧ some k_ ≠ (.slice (some ad340) t304.length co10 : Value).ownBlock) v342 y341) := ⟨h7_⟩
                   have n8_ : Aside0 (Kd.V k29 29 w56 w.heap.size (fun k_ => some k_ ≠ (v327 : Value).ownBlock ∧ some k_ ≠ (v338 : Value).ownBlock ∧ some k_ ≠ (v342 : Value).ownBlock) (.slice A50 y347.length c50) y347) := ⟨h8_⟩
                   have n9_ : Aside0 (Kd.N k29 29 w56 w.heap.size (fun k_ => some k_ ≠ (v327 : Value).ownBlock ∧ some k_ ≠ (v338 : Value).ownBlock ∧ some k_ ≠ (v342 : Value).ownBlock) (.slice (some ad340) t304.length co10) t304) := ⟨h9_⟩
                   have n10_ : Aside0 (Below w.heap.size w w56) := ⟨h10_⟩
                   clear HO_5
                   clear HO317
                   clear HO325
                   clear HO328
                   clear HB
                   clear h0_ h1_ h2_ h3_ h4_ h5_ h6_ h7_ h8_ h9_ h10_
                   have HL340_2 := n0_
                   have HL340_3 := n1_
                   have HO317 := n2_
                   have HO325 := n3_
                   have HO328 := n4_
                   have HO336 := n5_
                   have HO339 := n6_
                   have HO343 := n7_
                   have HO351 := n8_
                   have HO_5 := n9_
                   have HB := n10_
                   clear n0_ n1_ n2_ n3_ n4_ n5_ n6_ n7_ n8_ n9_ n10_
                   have hHeld : w56.cell? (ad340.add (((ji22)).toNat * 4)) = some (.int .i64 ((rd_T29 t304 (ji22)).f0)) ∧ w56.cell? ⟨(ad340.add (((ji22)).toNat * 4)).block, (ad340.add (((ji22)).toNat * 4)).off + 1, none⟩ = some (.int .i64 ((rd_T29 t304 (ji22)).f1)) ∧ w56.cell? ⟨(ad340.add (((ji22)).toNat * 4)).block, (ad340.add (((ji22)).toNat * 4)).off + 2, none⟩ = some (.slice A340_2 ((rd_T29 t304 (ji22)).f2).length c340_2) ∧ w56.cell? ⟨(ad340.add (((ji22)).toNat * 4)).block, (ad340.add (((ji22)).toNat * 4)).off + 3, none⟩ = some (.slice A340_3 ((rd_T29 t304 (ji22)).f3).length c340_3) := hS_
                   obtain ⟨Ao58, co58, eo58⟩ := Kd.N_slice HO343.out
                   (first | subst eo58 | (injection eo58 with f1_ f2_ f3_; have f4_ := f1_.symm; have f5_ := f3_.symm; clear f1_ f2_ f3_; subst f4_; subst f5_))
                   refine norm_ (a' := ?_) ?_ ?_
                   rotate_left
                   ·simp only [putAll, zp0, zp1, zp2, zp3, zp4]
                    rfl
                   refine one_ (i := 10) (N := some 64) #[true, true, true, true, true, true, true, true, true, true, true, true, true, true, false, false] rfl rfl (one_of HT_.out (by kernel_rfl)) (by decide) (fun K hK => ?_)
                   refine Kd.N_append_rows_step k29 (w0 := w) w.heap.size (by rfl) (.tmp 58) (.tmp 63) 23 29 (.agg #[(.int .i64 0), (.int .i64 0), (.slice none 0 0), (.slice none 0 0)]) 64 rfl Try.underlying23 info29 rfl (by decide) (by omega) v338 y337 y341 _ _ _ (fun k_ => some k_ ≠ (v327 : Value).ownBlock) (fun k_ => ((fun k_ => some k_ ≠ (v327 : Value).ownBlock)) k_ ∧ some k_ ≠ (v338 : Value).ownBlock) rfl rfl ?aO ?aR (fun _ hk => hk) ?aF ?aB ?aS ?aL ?_
                   (case aR => exact (by skip; exact Kd.N_F (Kd.N_mono (ok' := (fun k_ => ((fun k_ => some k_ ≠ (v327 : Value).ownBlock)) k_ ∧ some k_ ≠ (v338 : Value).ownBlock)) (HO343.out) (fun k_ hk => ⟨hk.1, hk.2.1⟩))))
                   (case aB => exact (by exact zB HB.out))
                   (case aF => exact (fun k_ hk => Kd.fresh' (Kd.N_lt (by exact zN HO328.out)) k_ hk))
                   (case aO => exact (by exact zN (Kd.N_mono HO339.out (fun _ hk => hk.1))))
                   (case aS => exact (below_size (by exact zB HB.out)))
                   (case aL => have := LMc34.out; omega)
                   intro v345 w57 ho hb hg hat
                   have HS0_ := cell_grown hg (hHeld.1) (by intro e_; (try rw [add_block] at e_); have h_ := HO339.out.1 _ e_.symm; first | exact h_ rfl | exact h_.1 rfl | exact h_.2 rfl | exact h_.1.1 rfl | exact h_.1.2 rfl | exact h_.2.1 rfl | exact h_.2.2 rfl | exact h_.1.1.1 rfl | exact h_.1.1.2 rfl | exact h_.1.2.1 rfl | exact h_.1.2.2 rfl | exact h_.2.2.1 rfl | exact h_.2.2.2 rfl | exact h_.1.1.1.1 rfl | exact h_.1.1.1.2 rfl | (have h2_ := HO_5.out.1 _ rfl; first | exact h2_.1 e_ | exact h2_.2 e_ | exact h2_.2.1 e_ | exact h2_.2.2 e_ | exact h2_.1.1 e_ | exact h2_.1.2 e_ | exact h2_.2.2.1 e_ | exact h2_.2.2.2 e_))
                   have HS1_ := cell_grown hg (hHeld.2.1) (by intro e_; (try rw [add_block] at e_); have h_ := HO339.out.1 _ e_.symm; first | exact h_ rfl | exact h_.1 rfl | exact h_.2 rfl | exact h_.1.1 rfl | exact h_.1.2 rfl | exact h_.2.1 rfl | exact h_.2.2 rfl | exact h_.1.1.1 rfl | exact h_.1.1.2 rfl | exact h_.1.2.1 rfl | exact h_.1.2.2 rfl | exact h_.2.2.1 rfl | exact h_.2.2.2 rfl | exact h_.1.1.1.1 rfl | exact h_.1.1.1.2 rfl | (have h2_ := HO_5.out.1 _ rfl; first | exact h2_.1 e_ | exact h2_.2 e_ | exact h2_.2.1 e_ | exact h2_.2.2 e_ | exact h2_.1.1 e_ | exact h2_.1.2 e_ | exact h2_.2.2.1 e_ | exact h2_.2.2.2 e_))
                   have HS2_ := cell_grown hg (hHeld.2.2.1) (by intro e_; (try rw [add_block] at e_); have h_ := HO339.out.1 _ e_.symm; first | exact h_ rfl | exact h_.1 rfl | exact h_.2 rfl | exact h_.1.1 rfl | exact h_.1.2 rfl | exact h_.2.1 rfl | exact h_.2.2 rfl | exact h_.1.1.1 rfl | exact h_.1.1.2 rfl | exact h_.1.2.1 rfl | exact h_.1.2.2 rfl | exact h_.2.2.1 rfl | exact h_.2.2.2 rfl | exact h_.1.1.1.1 rfl | exact h_.1.1.1.2 rfl | (have h2_ := HO_5.out.1 _ rfl; first | exact h2_.1 e_ | exact h2_.2 e_ | exact h2_.2.1 e_ | exact h2_.2.2 e_ | exact h2_.1.1 e_ | exact h2_.1.2 e_ | exact h2_.2.2.1 e_ | exact h2_.2.2.2 e_))
                   have HS3_ := cell_grown hg (hHeld.2.2.2) (by intro e_; (try rw [add_block] at e_); have h_ := HO339.out.1 _ e_.symm; first | exact h_ rfl | exact h_.1 rfl | exact h_.2 rfl | exact h_.1.1 rfl | exact h_.1.2 rfl | exact h_.2.1 rfl | exact h_.2.2 rfl | exact h_.1.1.1 rfl | exact h_.1.1.2 rfl | exact h_.1.2.1 rfl | exact h_.1.2.2 rfl | exact h_.2.2.1 rfl | exact h_.2.2.2 rfl | exact h_.1.1.1.1 rfl | exact h_.1.1.1.2 rfl | (have h2_ := HO_5.out.1 _ rfl; first | exact h2_.1 e_ | exact h2_.2 e_ | exact h2_.2.1 e_ | exact h2_.2.2 e_ | exact h2_.1.1 e_ | exact h2_.1.2 e_ | exact h2_.2.2.1 e_ | exact h2_.2.2.2 e_))
                   rw [← Ny344.out] at ho
                   have n0_ := Aside0.mk (Kd.N_afterv (ok := (fun k_ => some k_ ≠ (v327 : Value).ownBlock ∧ some k_ ≠ (.slice Ao58 y341.length co58 : Value).ownBlock)) (by exact zN (Kd.N_mono HO_5.out (fun _ hk => ⟨⟨hk.1, hk.2.2⟩, hk.2.1⟩))) hg hat)
                   have n1_ := Aside0.mk (Kd.V_afterv (ok := (fun k_ => some k_ ≠ (v327 : Value).ownBlock ∧ some k_ ≠ (.slice Ao58 y341.length co58 : Value).ownBlock)) (by (with_reducible repeat (first | apply Kd.V_alloc | apply Kd.V_drewN | apply Kd.V_drew)); exact Kd.V_mono HO317.out (fun _ hk => ⟨⟨hk.1, hk.2.2⟩, hk.2.1⟩)) hg hat)
                   have n2_ := Aside0.mk (Kd.V_afterv (ok := (fun k_ => some k_ ≠ (v327 : Value).ownBlock ∧ some k_ ≠ (.slice Ao58 y341.length co58 : Value).ownBlock)) (by (with_reducible repeat (first | apply Kd.V_alloc | apply Kd.V_drewN | apply Kd.V_drew)); exact Kd.V_mono HO325.out (fun _ hk => ⟨⟨hk.1, hk.2.2⟩, hk.2.1⟩)) hg hat)
                   have n3_ := Aside0.mk (Kd.N_afterv (ok := (fun k_ => some k_ ≠ (.slice Ao58 y341.length co58 : Value).ownBlock)) (by exact zN (Kd.N_mono HO328.out (fun _ hk => ⟨hk.2, hk.1⟩))) hg hat)
                   have n4_ := Aside0.mk (Kd.V_afterv (ok := (fun k_ => some k_ ≠ (v327 : Value).ownBlock ∧ some k_ ≠ (.slice Ao58 y341.length co58 : Value).ownBlock)) (by (with_reducible repeat (first | apply Kd.V_alloc | apply Kd.V_drewN | apply Kd.V_drew)); exact Kd.V_mono HO336.out (fun _ hk => ⟨⟨hk.1, hk.2.2⟩, hk.2.1⟩)) hg hat)
                   have n5_ := Aside0.mk (Kd.V_afterv (ok := (fun k_ => some k_ ≠ (.slice (some ad340) t304.length co10 : Value).ownBlock ∧ some k_ ≠ (v327 : Value).ownBlock ∧ some k_ ≠ (.slice Ao58 y341.length co58 : Value).ownBlock)) (by (with_reducible repeat (first | apply Kd.V_alloc | apply Kd.V_drewN | apply Kd.V_drew)); exact Kd.V_mono HL340_2.out (fun _ hk => ⟨⟨hk.2.2.2, ⟨hk.1, hk.2.2.1⟩⟩, hk.2.1⟩)) hg hat)
                   have n6_ := Aside0.mk (Kd.V_afterv (ok := (fun k_ => some k_ ≠ (.slice (some ad340) t304.length co10 : Value).ownBlock ∧ some k_ ≠ (v327 : Value).ownBlock ∧ some k_ ≠ (.slice Ao58 y341.length co58 : Value).ownBlock)) (by (with_reducible repeat (first | apply Kd.V_alloc | apply Kd.V_drewN | apply Kd.V_drew)); exact Kd.V_mono HL340_3.out (fun _ hk => ⟨⟨hk.2.2.2, ⟨hk.1, hk.2.2.1⟩⟩, hk.2.1⟩)) hg hat)
                   have n7_ := Aside0.mk (Kd.V_afterv (ok := (fun k_ => some k_ ≠ (v327 : Value).ownBlock ∧ some k_ ≠ (.slice Ao58 y341.length co58 : Value).ownBlock)) (by (with_reducible repeat (first | apply Kd.V_alloc | apply Kd.V_drewN | apply Kd.V_drew)); exact Kd.V_mono HO351.out (fun _ hk => ⟨⟨hk.1, hk.2.2⟩, hk.2.1⟩)) hg hat)
                   have n8_ := Aside0.mk (Kd.N_afterv (ok := (fun k_ => some k_ ≠ (.slice (some ad340) t304.length co10 : Value).ownBlock ∧ some k_ ≠ (v327 : Value).ownBlock)) (by exact zN (Kd.N_mono HO343.out (fun _ hk => ⟨⟨hk.2.2, hk.1⟩, hk.2.1⟩))) hg hat)
                   have n9_ := Aside0.mk (hb)
                   have n10_ := Aside0.mk (ho)
                   clear HO_5
                   clear HO317
                   clear HO325
                   clear HO328
                   clear HO336
                   clear HL340_2
                   clear HL340_3
                   clear HO351
                   clear HO343
                   clear HB
                   clear HO339
                   have HO_5 := n0_
                   have HO317 := n1_
                   have HO325 := n2_
                   have HO328 := n3_
                   have HO336 := n4_
                   have HL340_2 := n5_
                   have HL340_3 := n6_
                   have HO351 := n7_
                   have HO343 := n8_
                   have HB := n9_
                   have HO346 := n10_
                   clear n0_ n1_ n2_ n3_ n4_ n5_ n6_ n7_ n8_ n9_ n10_
                   clear ho hb hg hat
                   refine hK.out _ _ ⟨HS0_, HS1_, HS2_, HS3_⟩ (fun hHeld => ?_)
                   clear hK K
                   refine norm_ (a' := ?_) ?_ ?_
                   rotate_left
                   ·show Act.put _ (some 64) _ = _
                    simp only [zp0, zp1, zp2, zp3, zp4, i64_w, i32_w]
                    rfl
                   refine one_ (i := 14) (N := some 68) #[true, true, true, true, true, true, true, true, true, true, true, true, true, true, true, false] rfl rfl (one_of HT_.out (by kernel_rfl)) (by decide) (fun K hK => ?_)
                   refine Kd.N_append_rows_step k29 (w0 := w) w.heap.size (by rfl) (.tmp 64) (.tmp 67) 23 29 (.agg #[(.int .i64 0), (.int .i64 0), (.slice none 0 0), (.slice none 0 0)]) 64 rfl Try.underlying23 info29 rfl (by decide) (by omega) v345 y344 y347 _ _ _ (fun k_ => some k_ ≠ (v327 : Value).ownBlock) (fun k_ => ((fun k_ => some k_ ≠ (v327 : Value).ownBlock)) k_ ∧ some k_ ≠ (v345 : Value).ownBlock) rfl rfl ?aO ?aR (fun _ hk => hk) ?aF ?aB ?aS ?aL ?_
                   (case aR => exact (by skip; exact Kd.V_F (Kd.V_mono (ok' := (fun k_ => ((fun k_ => some k_ ≠ (v327 : Value).ownBlock)) k_ ∧ some k_ ≠ (v345 : Value).ownBlock)) (HO351.out) (fun k_ hk => ⟨hk.1.1, hk.2⟩))))
                   (case aB => exact (by exact zB HB.out))
                   (case aF => exact (fun k_ hk => Kd.fresh' (Kd.N_lt (by exact zN HO328.out)) k_ hk))
                   (case aO => exact (by exact zN HO346.out))
                   (case aS => exact (below_size (by exact zB HB.out)))
                   (case aL => have := LMc37.out; omega)
                   intro v353 w59 ho hb hg hat
                   have HS0_ := cell_grown hg (hHeld.1) (by intro e_; (try rw [add_block] at e_); have h_ := HO346.out.1 _ e_.symm; first | exact h_ rfl | exact h_.1 rfl | exact h_.2 rfl | exact h_.1.1 rfl | exact h_.1.2 rfl | exact h_.2.1 rfl | exact h_.2.2 rfl | exact h_.1.1.1 rfl | exact h_.1.1.2 rfl | exact h_.1.2.1 rfl | exact h_.1.2.2 rfl | exact h_.2.2.1 rfl | exact h_.2.2.2 rfl | exact h_.1.1.1.1 rfl | exact h_.1.1.1.2 rfl | (have h2_ := HO_5.out.1 _ rfl; first | exact h2_.1 e_ | exact h2_.2 e_ | exact h2_.2.1 e_ | exact h2_.2.2 e_ | exact h2_.1.1 e_ | exact h2_.1.2 e_ | exact h2_.2.2.1 e_ | exact h2_.2.2.2 e_))
                   have HS1_ := cell_grown hg (hHeld.2.1) (by intro e_; (try rw [add_block] at e_); have h_ := HO346.out.1 _ e_.symm; first | exact h_ rfl | exact h_.1 rfl | exact h_.2 rfl | exact h_.1.1 rfl | exact h_.1.2 rfl | exact h_.2.1 rfl | exact h_.2.2 rfl | exact h_.1.1.1 rfl | exact h_.1.1.2 rfl | exact h_.1.2.1 rfl | exact h_.1.2.2 rfl | exact h_.2.2.1 rfl | exact h_.2.2.2 rfl | exact h_.1.1.1.1 rfl | exact h_.1.1.1.2 rfl | (have h2_ := HO_5.out.1 _ rfl; first | exact h2_.1 e_ | exact h2_.2 e_ | exact h2_.2.1 e_ | exact h2_.2.2 e_ | exact h2_.1.1 e_ | exact h2_.1.2 e_ | exact h2_.2.2.1 e_ | exact h2_.2.2.2 e_))
                   have HS2_ := cell_grown hg (hHeld.2.2.1) (by intro e_; (try rw [add_block] at e_); have h_ := HO346.out.1 _ e_.symm; first | exact h_ rfl | exact h_.1 rfl | exact h_.2 rfl | exact h_.1.1 rfl | exact h_.1.2 rfl | exact h_.2.1 rfl | exact h_.2.2 rfl | exact h_.1.1.1 rfl | exact h_.1.1.2 rfl | exact h_.1.2.1 rfl | exact h_.1.2.2 rfl | exact h_.2.2.1 rfl | exact h_.2.2.2 rfl | exact h_.1.1.1.1 rfl | exact h_.1.1.1.2 rfl | (have h2_ := HO_5.out.1 _ rfl; first | exact h2_.1 e_ | exact h2_.2 e_ | exact h2_.2.1 e_ | exact h2_.2.2 e_ | exact h2_.1.1 e_ | exact h2_.1.2 e_ | exact h2_.2.2.1 e_ | exact h2_.2.2.2 e_))
                   have HS3_ := cell_grown hg (hHeld.2.2.2) (by intro e_; (try rw [add_block] at e_); have h_ := HO346.out.1 _ e_.symm; first | exact h_ rfl | exact h_.1 rfl | exact h_.2 rfl | exact h_.1.1 rfl | exact h_.1.2 rfl | exact h_.2.1 rfl | exact h_.2.2 rfl | exact h_.1.1.1 rfl | exact h_.1.1.2 rfl | exact h_.1.2.1 rfl | exact h_.1.2.2 rfl | exact h_.2.2.1 rfl | exact h_.2.2.2 rfl | exact h_.1.1.1.1 rfl | exact h_.1.1.1.2 rfl | (have h2_ := HO_5.out.1 _ rfl; first | exact h2_.1 e_ | exact h2_.2 e_ | exact h2_.2.1 e_ | exact h2_.2.2 e_ | exact h2_.1.1 e_ | exact h2_.1.2 e_ | exact h2_.2.2.1 e_ | exact h2_.2.2.2 e_))
                   rw [← Ny352.out] at ho
                   have n0_ := Aside0.mk (Kd.N_afterv (ok := (fun k_ => some k_ ≠ (v327 : Value).ownBlock ∧ some k_ ≠ (.slice Ao58 y341.length co58 : Value).ownBlock)) (by exact zN HO_5.out) hg hat)
                   have n1_ := Aside0.mk (Kd.V_afterv (ok := (fun k_ => some k_ ≠ (v327 : Value).ownBlock ∧ some k_ ≠ (.slice Ao58 y341.length co58 : Value).ownBlock)) (by (with_reducible repeat (first | apply Kd.V_alloc | apply Kd.V_drewN | apply Kd.V_drew)); exact HO317.out) hg hat)
                   have n2_ := Aside0.mk (Kd.V_afterv (ok := (fun k_ => some k_ ≠ (v327 : Value).ownBlock ∧ some k_ ≠ (.slice Ao58 y341.length co58 : Value).ownBlock)) (by (with_reducible repeat (first | apply Kd.V_alloc | apply Kd.V_drewN | apply Kd.V_drew)); exact HO325.out) hg hat)
                   have n3_ := Aside0.mk (Kd.N_afterv (ok := (fun k_ => some k_ ≠ (.slice Ao58 y341.length co58 : Value).ownBlock)) (by exact zN HO328.out) hg hat)
                   have n4_ := Aside0.mk (Kd.V_afterv (ok := (fun k_ => some k_ ≠ (v327 : Value).ownBlock ∧ some k_ ≠ (.slice Ao58 y341.length co58 : Value).ownBlock)) (by (with_reducible repeat (first | apply Kd.V_alloc | apply Kd.V_drewN | apply Kd.V_drew)); exact HO336.out) hg hat)
                   have n5_ := Aside0.mk (Kd.V_afterv (ok := (fun k_ => some k_ ≠ (.slice (some ad340) t304.length co10 : Value).ownBlock ∧ some k_ ≠ (v327 : Value).ownBlock ∧ some k_ ≠ (.slice Ao58 y341.length co58 : Value).ownBlock)) (by (with_reducible repeat (first | apply Kd.V_alloc | apply Kd.V_drewN | apply Kd.V_drew)); exact HL340_2.out) hg hat)
                   have n6_ := Aside0.mk (Kd.V_afterv (ok := (fun k_ => some k_ ≠ (.slice (some ad340) t304.length co10 : Value).ownBlock ∧ some k_ ≠ (v327 : Value).ownBlock ∧ some k_ ≠ (.slice Ao58 y341.length co58 : Value).ownBlock)) (by (with_reducible repeat (first | apply Kd.V_alloc | apply Kd.V_drewN | apply Kd.V_drew)); exact HL340_3.out) hg hat)
                   have n7_ := Aside0.mk (Kd.V_afterv (ok := (fun k_ => some k_ ≠ (v327 : Value).ownBlock ∧ some k_ ≠ (.slice Ao58 y341.length co58 : Value).ownBlock)) (by (with_reducible repeat (first | apply Kd.V_alloc | apply Kd.V_drewN | apply Kd.V_drew)); exact HO351.out) hg hat)
                   have n8_ := Aside0.mk (Kd.N_afterv (ok := (fun k_ => some k_ ≠ (.slice (some ad340) t304.length co10 : Value).ownBlock ∧ some k_ ≠ (v327 : Value).ownBlock)) (by exact zN HO343.out) hg hat)
                   have n9_ := Aside0.mk (hb)
                   have n10_ := Aside0.mk (ho)
                   clear HO_5
                   clear HO317
                   clear HO325
                   clear HO328
                   clear HO336
                   clear HL340_2
                   clear HL340_3
                   clear HO351
                   clear HO343
                   clear HB
                   clear HO346
                   have HO_5 := n0_
                   have HO317 := n1_
                   have HO325 := n2_
                   have HO328 := n3_
                   have HO336 := n4_
                   have HL340_2 := n5_
                   have HL340_3 := n6_
                   have HO351 := n7_
                   have HO343 := n8_
                   have HB := n9_
                   have HO354 := n10_
                   clear n0_ n1_ n2_ n3_ n4_ n5_ n6_ n7_ n8_ n9_ n10_
                   clear ho hb hg hat
                   refine hK.out _ _ ⟨HS0_, HS1_, HS2_, HS3_⟩ (fun hHeld => ?_)
                   clear hK K
                   refine norm_ (a' := ?_) ?_ ?_
                   rotate_left
                   ·show Act.put _ (some 68) _ = _
                    simp only [zp0, zp1, zp2, zp3, zp4, i64_w, i32_w]
                    rfl
                   refine pure_ (i := 15) (N := some 9) (v := ?_) (a' := ?_) #[true, true, true, true, true, true, true, true, true, true, true, true, true, true, true, true] rfl rfl (any_of HT_.out (by kernel_rfl)) (fun _ _ _ h => h) (Or.inl ⟨by rfl, ?_⟩) ?_ ?_
                   rotate_left
                   ·intro w'
                    go_simp
                    with_reducible rfl
                   rotate_left
                   ·simp only [zp0, zp1, zp2, zp3, zp4, i64_w, i32_w]
                    rfl
                   refine done_ (done_of HT_.out (by kernel_rfl)) ?_
                   obtain ⟨Ao60, co60, eo60⟩ := Kd.N_slice HO328.out
                   subst eo60
                   try go_wp2_with (first | ((with_reducible refine gate_callee (f := 9) rfl ?_); refine goesL_ (some 70) rfl rfl Try.func9 (by kernel_rfl) rfl #[.slice Ao60 y326.length co60] rfl (by (try simp only [zm1, zm2, zm3]); first | done | rfl | (simp only [List.length_drop, List.length_take]; rfl)) ?_; (with_reducible refine (impl_StoreOk.calls kj7 _ _ y326 true _ ?side1 ?side2 A38.out).mono ?_); (case side1 => exact zC (Kd.N_reads' HO328.out).2.2); (case side2 => exact (Kd.N_reads' HO328.out).2.1); rintro e w61 ⟨rfl, hb⟩; refine ⟨_, rfl, ?_⟩; have n0_ := Aside0.mk (Kd.N_below (by exact zN HO_5.out) hb); have n1_ := Aside0.mk (Kd.V_below (by (with_reducible repeat (first | apply Kd.V_alloc | apply Kd.V_drewN | apply Kd.V_drew)); exact HO317.out) hb); have n2_ := Aside0.mk (Kd.V_below (by (with_reducible repeat (first | apply Kd.V_alloc | apply Kd.V_drewN | apply Kd.V_drew)); exact HO325.out) hb); have n3_ := Aside0.mk (Kd.N_below (by exact zN HO328.out) hb); have n4_ := Aside0.mk (Kd.V_below (by (with_reducible repeat (first | apply Kd.V_alloc | apply Kd.V_drewN | apply Kd.V_drew)); exact HO336.out) hb); have n5_ := Aside0.mk (Kd.V_below (by (with_reducible repeat (first | apply Kd.V_alloc | apply Kd.V_drewN | apply Kd.V_drew)); exact HL340_2.out) hb); have n6_ := Aside0.mk (Kd.V_below (by (with_reducible repeat (first | apply Kd.V_alloc | apply Kd.V_drewN | apply Kd.V_drew)); exact HL340_3.out) hb); have n7_ := Aside0.mk (Kd.V_below (by (with_reducible repeat (first | apply Kd.V_alloc | apply Kd.V_drewN | apply Kd.V_drew)); exact HO351.out) hb); have n8_ := Aside0.mk (Kd.N_below (by exact zN HO343.out) hb); have n9_ := Aside0.mk (Kd.N_below (by exact zN HO354.out) hb); have n10_ := Aside0.mk (below_step (by exact zB HB.out) hb); clear HO_5; clear HO317; clear HO325; clear HO328; clear HO336; clear HL340_2; clear HL340_3; clear HO351; clear HO343; clear HO354; clear HB; have HO_5 := n0_; have HO317 := n1_; have HO325 := n2_; have HO328 := n3_; have HO336 := n4_; have HL340_2 := n5_; have HL340_3 := n6_; have HO351 := n7_; have HO343 := n8_; have HO354 := n9_; have HB := n10_; clear n0_ n1_ n2_ n3_ n4_ n5_ n6_ n7_ n8_ n9_ n10_; (try clear hb); (try clear hb2); (try clear hk); (try clear hi); obtain ⟨Ao62, co62, eo62⟩ := Kd.N_slice HO354.out; subst eo62) | (go_at_call 9; (with_reducible refine (impl_StoreOk.calls kj7 _ _ y352 t356 _ ?side1 ?side2 A40.out).mono ?_); (case side1 => exact zC (Kd.N_reads' HO354.out).2.2); (case side2 => exact (Kd.N_reads' HO354.out).2.1); rintro e w63 ⟨rfl, hb⟩; have n0_ := Aside0.mk (Kd.N_below (by exact zN HO_5.out) hb); have n1_ := Aside0.mk (Kd.V_below (by (with_reducible repeat (first | apply Kd.V_alloc | apply Kd.V_drewN | apply Kd.V_drew)); exact HO317.out) hb); have n2_ := Aside0.mk (Kd.V_below (by (with_reducible repeat (first | apply Kd.V_alloc | apply Kd.V_drewN | apply Kd.V_drew)); exact HO325.out) hb); have n3_ := Aside0.mk (Kd.N_below (by exact zN HO328.out) hb); have n4_ := Aside0.mk (Kd.V_below (by (with_reducible repeat (first | apply Kd.V_alloc | apply Kd.V_drewN | apply Kd.V_drew)); exact HO336.out) hb); have n5_ := Aside0.mk (Kd.V_below (by (with_reducible repeat (first | apply Kd.V_alloc | apply Kd.V_drewN | apply Kd.V_drew)); exact HL340_2.out) hb); have n6_ := Aside0.mk (Kd.V_below (by (with_reducible repeat (first | apply Kd.V_alloc | apply Kd.V_drewN | apply Kd.V_drew)); exact HL340_3.out) hb); have n7_ := Aside0.mk (Kd.V_below (by (with_reducible repeat (first | apply Kd.V_alloc | apply Kd.V_drewN | apply Kd.V_drew)); exact HO351.out) hb); have n8_ := Aside0.mk (Kd.N_below (by exact zN HO343.out) hb); have n9_ := Aside0.mk (Kd.N_below (by exact zN HO354.out) hb); have n10_ := Aside0.mk (below_step (by exact zB HB.out) hb); clear HO_5; clear HO317; clear HO325; clear HO328; clear HO336; clear HL340_2; clear HL340_3; clear HO351; clear HO343; clear HO354; clear HB; have HO_5 := n0_; have HO317 := n1_; have HO325 := n2_; have HO328 := n3_; have HO336 := n4_; have HL340_2 := n5_; have HL340_3 := n6_; have HO351 := n7_; have HO343 := n8_; have HO354 := n9_; have HB := n10_; clear n0_ n1_ n2_ n3_ n4_ n5_ n6_ n7_ n8_ n9_ n10_; (try clear hb); (try clear hb2); (try clear hk); (try clear hi)))
                   go_ret
                   exact ⟨by first | rfl | (simp [errW_none, errW_some] <;> rfl) | (simp only [← hji22, ← hji26]; first | rfl | (simp [errW_none, errW_some] <;> rfl)) | (simp [*, errW_none, errW_some] <;> rfl), by exact zB HB.out⟩
                  ·replace c39 := Bool.eq_false_iff.mpr c39
                   subst c39
                   have H1 : (none) = some r := by rw [if_neg (show ¬ (false = true) by decide)] at H; exact H
                   clear H
                   have H := H1
                   clear H1
                   exact absurd H (by simp)
                 ·rw [if_neg c37] at H
                  exact absurd H (by simp)
                ·rw [if_neg c34] at H
                 exact absurd H (by simp)
               ·rw [if_neg c33] at H
                exact absurd H (by simp)
              ·rw [if_neg c32] at H
               exact absurd H (by simp)
             ·rw [if_neg c29] at H
              exact absurd H (by simp)
            ·rw [if_neg c28] at H
             exact absurd H (by simp)
           ·rw [if_neg c27] at H
            exact absurd H (by simp)
          ·rw [if_neg c25] at H
           exact absurd H (by simp)
         ·rw [if_neg c24] at H
          exact absurd H (by simp)
        ·rw [if_neg c23] at H
         exact absurd H (by simp)

/-- THE ONE PURE STATEMENT of laws_FnStoreLess: yours. -/
def laws_FnStoreLess.Pure : Prop := ∀ (l0 : List Int) (l1 : List Int), l0.length ≤ maxLen → l0.length * 1 ≤ 140737488351232 → (∀ x ∈ l0, (Lit.int .u8 x).wf = true) → l1.length ≤ maxLen → l1.length * 1 ≤ 140737488351232 → (∀ x ∈ l1, (Lit.int .u8 x).wf = true) → ∃ k, laws_FnStoreLess.f k l0 l1 = some true
theorem laws_FnStoreLess.walk (P : laws_FnStoreLess.Pure) (a0 : Option Addr) (len0 cap0 : Nat) (z0 : List Int) (a1 : Option Addr) (len1 cap1 : Nat) (z1 : List Int) (w : World) (w0 : (a0 = none ∧ len0 = 0 ∧ cap0 = 0 ∧ z0 = []) ∨ ∃ x, a0 = some x ∧ len0 ≤ cap0 ∧ cap0 ≤ maxLen ∧ z0.length = cap0 ∧ (∀ i, i < z0.length → w.cell? (x.add i) = some (.int .u8 (z0.getD i 0))) ∧ ∀ n ∈ z0, (Lit.int .u8 n).wf = true) (y0 : len0 * 1 ≤ 140737488351232) (w1 : (a1 = none ∧ len1 = 0 ∧ cap1 = 0 ∧ z1 = []) ∨ ∃ x, a1 = some x ∧ len1 ≤ cap1 ∧ cap1 ≤ maxLen ∧ z1.length = cap1 ∧ (∀ i, i < z1.length → w.cell? (x.add i) = some (.int .u8 (z1.getD i 0))) ∧ ∀ n ∈ z1, (Lit.int .u8 n).wf = true) (y1 : len1 * 1 ≤ 140737488351232) :
  Calls Try.prog 3 #[.slice a0 len0 cap0, .slice a1 len1 cap1] w fun e w' => e = .returned (.bool true) ∧ Below w.heap.size w w' := by
 obtain ⟨l0, rfl, hr0, hm0, hw0, hc0⟩ := ReadsInt.ofRowC w0
 obtain ⟨l1, rfl, hr1, hm1, hw1, hc1⟩ := ReadsInt.ofRowC w1
 obtain ⟨k, h⟩ := P l0 l1 hm0 y0 hw0 hm1 y1 hw1
 refine (laws_FnStoreLess.calls k _ _ l0 _ _ l1 true w (Kd.C_of_reads (d := (0 : Int)) (h1 := fun _ => rfl) hr0) hc0 (Kd.C_of_reads (d := (0 : Int)) (h1 := fun _ => rfl) hr1) hc1 h).mono ?_
 rintro e w' ⟨rfl, hd⟩
 exact ⟨rfl, hd⟩

end Go.Proofs.Ytlmgnnpmcdeclaa.PFnStoreLess
