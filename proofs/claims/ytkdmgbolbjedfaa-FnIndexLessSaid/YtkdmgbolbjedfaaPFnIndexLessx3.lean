-- printed for this claim by a program out of the translation, its tactics shortened by another
import Derived.Test.YtkdmgbolbjedfaaPFnIndexLessx2
namespace Go.Proofs.Ytkdmgbolbjedfaa.PFnIndexLess
open Go.RowKit Go.Proofs.YtkdmgbolbjedfaaW.PrintWords Go.Proofs.YtkdmgbolbjedfaaW.PrintLast Go.Proofs.YtkdmgbolbjedfaaW.PrintMore
attribute [local go_sem] max2_int min2_int max_two min_two max_three min_three max_four min_four   -- for this text's walks alone
set_option linter.unusedVariables false
set_option linter.unusedSimpArgs false

/-! ### spec_l12Find: function 83 -/
def spec_l12Find.l0 : Nat → List (S26) → Int → Int → Int → Option (Int)
 | 0, _, _, _, _ => none
 | k + 1, x0, x1, x2, x7 => if x7 < (x0.length : Int) then (if 0 ≤ x7 then (if ((rd_T26 x0 x7).f0) = x1 then (if ((rd_T26 x0 x7).f1) = x2 then (some x7) else (spec_l12Find.l0 k x0 x1 x2 (wrap64 (x7 + 1)))) else (spec_l12Find.l0 k x0 x1 x2 (wrap64 (x7 + 1)))) else (none)) else (some (-1))
def spec_l12Find.f (k : Nat) (l0 : List (S26)) (a1 : Int) (a2 : Int) : Option (Int) := spec_l12Find.l0 k l0 a1 a2 0
theorem spec_l12Find.mono_l : ∀ k, (∀ y0 y1 y2 y3, LeO (spec_l12Find.l0 k y0 y1 y2 y3) (spec_l12Find.l0 (k + 1) y0 y1 y2 y3))
 | 0 => fun _ _ _ _ r h => by simp [spec_l12Find.l0] at h
 | k + 1 => by
  have ih0 := spec_l12Find.mono_l k
  ·intro y0 y1 y2 y3
   unfold spec_l12Find.l0
   repeat' first
   | (with_reducible exact ih0 _ _ _ _)
   | (with_reducible exact LeO.refl _)
   | (with_reducible exact LeO.none _)
   | (with_reducible refine LeO.ite ?_ ?_)
   | (with_reducible refine LeO.bind ?_ (fun _ => ?_))
   | exact ih0 _ _ _ _
   | exact LeO.none _
   | refine LeO.ite ?_ ?_
   | refine LeO.bind ?_ (fun _ => ?_)
theorem spec_l12Find.mono : ∀ a0 a1 a2 k, LeO (spec_l12Find.f k a0 a1 a2) (spec_l12Find.f (k + 1) a0 a1 a2) := by
 intro a0 a1 a2 k
 have ih0 := spec_l12Find.mono_l k
 unfold spec_l12Find.f
 repeat' first
   | (with_reducible exact ih0 _ _ _ _)
   | (with_reducible exact LeO.refl _)
   | (with_reducible exact LeO.none _)
   | (with_reducible refine LeO.ite ?_ ?_)
   | (with_reducible refine LeO.bind ?_ (fun _ => ?_))
   | exact ih0 _ _ _ _
   | exact LeO.none _
   | refine LeO.ite ?_ ?_
   | refine LeO.bind ?_ (fun _ => ?_)
set_option maxHeartbeats 8000000 in
set_option maxRecDepth 100000 in
theorem spec_l12Find.calls (k : Nat) (A0 : Option Addr) (c0 : Nat) (l0 : List (S26)) (a1 : Int) (a2 : Int) (r : Int) (w : World) (hr0 : Kd.C k26 w A0 l0.length l0) (hc0 : l0.length ≤ c0) (h : spec_l12Find.f k l0 a1 a2 = some r) :
  Calls Try.prog 83 #[.slice A0 l0.length c0, .int .i64 a1, .int .i64 a2] w fun e w' => e = .returned (.int .i64 r) ∧ Drawn0 w w' := by
 have HR0 := Aside0.mk hr0
 have HC0 := Aside0.mk hc0
 clear hr0 hc0
 have H : (spec_l12Find.l0 k l0 a1 a2 0) = some r := h
 clear h
 have H' := Aside0.mk H
 clear H
 go_enter Try.func83, Try.ntmps83
 go_wp2
 go_loopg [7] k (fun kq v7 w' => ∃ (x7_1 : Int), v7 = .int .i64 x7_1 ∧ Aside0 (spec_l12Find.l0 kq l0 a1 a2 x7_1 = some r) ∧ Aside0 (kq ≤ k) ∧ Drawn0 w w')
 case atStart => exact ⟨(0), (by first | rfl | (simp; done) | (simp [*]; done)), H', ⟨Nat.le_refl _⟩, by repeat (first | exact Drawn0.refl _ | apply Drawn0.step)⟩
 case round =>
  clear H'
  try clear p2
  obtain ⟨x7_1, rfl, HA, HK1, ⟨m1, rfl⟩⟩ := hrel
  cases gk with
  | zero => exact absurd HA.out (by simp [spec_l12Find.l0])
  | succ k1 =>
   have H := HA.out
   clear HA
   simp only [spec_l12Find.l0] at H
   by_cases c4 : x7_1 < (l0.length : Int)
   ·rw [if_pos c4] at H
    have c4b0 : decide (x7_1 < (l0.length : Int)) = true := decide_eq_true c4
    clear c4
    by_cases c5 : 0 ≤ x7_1
    ·rw [if_pos c5] at H
     have c5b0 : decide (0 ≤ x7_1) = true := decide_eq_true c5
     clear c5
     by_cases c6 : ((rd_T26 l0 x7_1).f0) = a1
     ·rw [if_pos c6] at H
      have c6b0 : (((rd_T26 l0 x7_1).f0) == a1) = true := beq_iff_eq.mpr c6
      have c6b1 : (((rd_T26 l0 x7_1).f0) != a1) = false := bne_eq_false_iff_eq.mpr c6
      clear c6
      by_cases c7 : ((rd_T26 l0 x7_1).f1) = a2
      ·rw [if_pos c7] at H
       have c7b0 : (((rd_T26 l0 x7_1).f1) == a2) = true := beq_iff_eq.mpr c7
       have c7b1 : (((rd_T26 l0 x7_1).f1) != a2) = false := bne_eq_false_iff_eq.mpr c7
       clear c7
       obtain rfl := Option.some.inj H
       have p193 : 0 ≤ (x7_1 : Int) := of_decide_eq_true (by first | (with_reducible assumption) | assumption)
       have q193 : x7_1 < (l0.length : Int) := of_decide_eq_true (by first | (with_reducible assumption) | assumption)
       obtain ⟨ad193, A193_2, c193_2, A193_3, c193_3, e193, hx193_0, hx193_1, hx193_2, hx193_3, hl193_2, hi193_2, hl193_3, hi193_3⟩ := at_T26 HR0.out x7_1 p193 q193
       cases e193
       have HR193_2 := Aside0.mk hi193_2
       have HC193_2 := Aside0.mk hl193_2
       clear hi193_2 hl193_2
       have HR193_3 := Aside0.mk hi193_3
       have HC193_3 := Aside0.mk hl193_3
       clear hi193_3 hl193_3
       replace p193 := eq_true p193
       replace q193 := eq_true q193
       have p194 : 0 ≤ (x7_1 : Int) := of_decide_eq_true (by first | (with_reducible assumption) | assumption)
       have q194 : x7_1 < (l0.length : Int) := of_decide_eq_true (by first | (with_reducible assumption) | assumption)
       obtain ⟨ad194, A194_2, c194_2, A194_3, c194_3, e194, hx194_0, hx194_1, hx194_2, hx194_3, hl194_2, hi194_2, hl194_3, hi194_3⟩ := at_T26 HR0.out x7_1 p194 q194
       obtain rfl : ad193 = ad194 := (by injection e194)
       have HR194_2 := Aside0.mk hi194_2
       have HC194_2 := Aside0.mk hl194_2
       clear hi194_2 hl194_2
       have HR194_3 := Aside0.mk hi194_3
       have HC194_3 := Aside0.mk hl194_3
       clear hi194_3 hl194_3
       replace p194 := eq_true p194
       replace q194 := eq_true q194
       have ea_ := Option.some.inj (hx193_2.symm.trans hx194_2)
       injection ea_ with ea_ en_ ec_
       subst ea_
       subst ec_
       clear en_
       have ea_ := Option.some.inj (hx193_3.symm.trans hx194_3)
       injection ea_ with ea_ en_ ec_
       subst ea_
       subst ec_
       clear en_
       go_wp2
       go_ret
       exact ⟨by first | rfl | (simp; done) | (simp [*]; done), by repeat (first | exact Drawn0.refl _ | apply Drawn0.step)⟩
      ·rw [if_neg c7] at H
       have c7b0 : (((rd_T26 l0 x7_1).f1) == a2) = false := beq_eq_false_iff_ne.mpr c7
       have c7b1 : (((rd_T26 l0 x7_1).f1) != a2) = true := bne_iff_ne.mpr c7
       have H' := Aside0.mk H
       clear H
       have p193 : 0 ≤ (x7_1 : Int) := of_decide_eq_true (by first | (with_reducible assumption) | assumption)
       have q193 : x7_1 < (l0.length : Int) := of_decide_eq_true (by first | (with_reducible assumption) | assumption)
       obtain ⟨ad193, A193_2, c193_2, A193_3, c193_3, e193, hx193_0, hx193_1, hx193_2, hx193_3, hl193_2, hi193_2, hl193_3, hi193_3⟩ := at_T26 HR0.out x7_1 p193 q193
       cases e193
       have HR193_2 := Aside0.mk hi193_2
       have HC193_2 := Aside0.mk hl193_2
       clear hi193_2 hl193_2
       have HR193_3 := Aside0.mk hi193_3
       have HC193_3 := Aside0.mk hl193_3
       clear hi193_3 hl193_3
       replace p193 := eq_true p193
       replace q193 := eq_true q193
       have p194 : 0 ≤ (x7_1 : Int) := of_decide_eq_true (by first | (with_reducible assumption) | assumption)
       have q194 : x7_1 < (l0.length : Int) := of_decide_eq_true (by first | (with_reducible assumption) | assumption)
       obtain ⟨ad194, A194_2, c194_2, A194_3, c194_3, e194, hx194_0, hx194_1, hx194_2, hx194_3, hl194_2, hi194_2, hl194_3, hi194_3⟩ := at_T26 HR0.out x7_1 p194 q194
       obtain rfl : ad193 = ad194 := (by injection e194)
       have HR194_2 := Aside0.mk hi194_2
       have HC194_2 := Aside0.mk hl194_2
       clear hi194_2 hl194_2
       have HR194_3 := Aside0.mk hi194_3
       have HC194_3 := Aside0.mk hl194_3
       clear hi194_3 hl194_3
       replace p194 := eq_true p194
       replace q194 := eq_true q194
       have ea_ := Option.some.inj (hx193_2.symm.trans hx194_2)
       injection ea_ with ea_ en_ ec_
       subst ea_
       subst ec_
       clear en_
       have ea_ := Option.some.inj (hx193_3.symm.trans hx194_3)
       injection ea_ with ea_ en_ ec_
       subst ea_
       subst ec_
       clear en_
       go_wp2
       go_roundg k1
       case measure => have := HK1.out; omega
       case rel => exact ⟨(wrap64 (x7_1 + 1)), (by first | rfl | (simp; done) | (simp [*]; done)), H', ⟨by have := HK1.out; omega⟩, by repeat (first | exact Drawn0.refl _ | apply Drawn0.step)⟩
     ·rw [if_neg c6] at H
      have c6b0 : (((rd_T26 l0 x7_1).f0) == a1) = false := beq_eq_false_iff_ne.mpr c6
      have c6b1 : (((rd_T26 l0 x7_1).f0) != a1) = true := bne_iff_ne.mpr c6
      have H' := Aside0.mk H
      clear H
      have p193 : 0 ≤ (x7_1 : Int) := of_decide_eq_true (by first | (with_reducible assumption) | assumption)
      have q193 : x7_1 < (l0.length : Int) := of_decide_eq_true (by first | (with_reducible assumption) | assumption)
      obtain ⟨ad193, A193_2, c193_2, A193_3, c193_3, e193, hx193_0, hx193_1, hx193_2, hx193_3, hl193_2, hi193_2, hl193_3, hi193_3⟩ := at_T26 HR0.out x7_1 p193 q193
      cases e193
      have HR193_2 := Aside0.mk hi193_2
      have HC193_2 := Aside0.mk hl193_2
      clear hi193_2 hl193_2
      have HR193_3 := Aside0.mk hi193_3
      have HC193_3 := Aside0.mk hl193_3
      clear hi193_3 hl193_3
      replace p193 := eq_true p193
      replace q193 := eq_true q193
      go_wp2
      go_roundg k1
      case measure => have := HK1.out; omega
      case rel => exact ⟨(wrap64 (x7_1 + 1)), (by first | rfl | (simp; done) | (simp [*]; done)), H', ⟨by have := HK1.out; omega⟩, by repeat (first | exact Drawn0.refl _ | apply Drawn0.step)⟩
    ·rw [if_neg c5] at H
     exact absurd H (by simp)
   ·rw [if_neg c4] at H
    have c4b0 : decide (x7_1 < (l0.length : Int)) = false := decide_eq_false c4
    clear c4
    obtain rfl := Option.some.inj H
    go_wp2
    go_ret
    exact ⟨by first | rfl | (simp; done) | (simp [*]; done), by repeat (first | exact Drawn0.refl _ | apply Drawn0.step)⟩

/-! ### spec_l12With: function 84 -/
mutual
def spec_l12With.l0 : Nat → List (S26) → List (S26) → Int → Int → Int → List (S82) → List (S30) → Option ((List (S26)))
 | 0, _, _, _, _, _, _, _ => none
 | k + 1, x0, x5, x6, x196000, x196001, x196002, x196003 => if x6 < (x0.length : Int) then (if 0 ≤ x6 then ((spec_l3Less.f ((rd_T26 x0 x6).f0) ((rd_T26 x0 x6).f1) x196000 x196001).bind fun t201 => (if t201 = true then (if x5.length < 2199023255552 then (spec_l12With.l0 k x0 (x5 ++ [(⟨(rd_T26 x0 x6).f0, (rd_T26 x0 x6).f1, (rd_T26 x0 x6).f2, (rd_T26 x0 x6).f3⟩ : S26)]) (wrap64 (x6 + 1)) x196000 x196001 x196002 x196003) else (none)) else (spec_l12With.l0 k x0 x5 (wrap64 (x6 + 1)) x196000 x196001 x196002 x196003))) else (none)) else (if x5.length < 2199023255552 then (spec_l12With.l1 k x0 (x5 ++ [(⟨x196000, x196001, x196002, x196003⟩ : S26)]) 0 x196000 x196001 x196002 x196003) else (none))
def spec_l12With.l1 : Nat → List (S26) → List (S26) → Int → Int → Int → List (S82) → List (S30) → Option ((List (S26)))
 | 0, _, _, _, _, _, _, _ => none
 | k + 1, x0, x5, x7, x196000, x196001, x196002, x196003 => if x7 < (x0.length : Int) then (if 0 ≤ x7 then ((spec_l3Less.f x196000 x196001 ((rd_T26 x0 x7).f0) ((rd_T26 x0 x7).f1)).bind fun t211 => (if t211 = true then (if x5.length < 2199023255552 then (spec_l12With.l1 k x0 (x5 ++ [(⟨(rd_T26 x0 x7).f0, (rd_T26 x0 x7).f1, (rd_T26 x0 x7).f2, (rd_T26 x0 x7).f3⟩ : S26)]) (wrap64 (x7 + 1)) x196000 x196001 x196002 x196003) else (none)) else (spec_l12With.l1 k x0 x5 (wrap64 (x7 + 1)) x196000 x196001 x196002 x196003))) else (none)) else (some x5)
end
def spec_l12With.f (k : Nat) (l0 : List (S26)) (a1_0 : Int) (a1_1 : Int) (l1_2 : List (S82)) (l1_3 : List (S30)) : Option ((List (S26))) := spec_l12With.l0 k l0 (([] : List (S26))) 0 a1_0 a1_1 l1_2 l1_3
theorem spec_l12With.mono_l : ∀ k, (∀ y0 y1 y2 y3 y4 y5 y6, LeO (spec_l12With.l0 k y0 y1 y2 y3 y4 y5 y6) (spec_l12With.l0 (k + 1) y0 y1 y2 y3 y4 y5 y6)) ∧ (∀ y0 y1 y2 y3 y4 y5 y6, LeO (spec_l12With.l1 k y0 y1 y2 y3 y4 y5 y6) (spec_l12With.l1 (k + 1) y0 y1 y2 y3 y4 y5 y6))
 | 0 => ⟨fun _ _ _ _ _ _ _ r h => by simp [spec_l12With.l0] at h, fun _ _ _ _ _ _ _ r h => by simp [spec_l12With.l1] at h⟩
 | k + 1 => by
  obtain ⟨ih0, ih1⟩ := spec_l12With.mono_l k
  refine ⟨?_, ?_⟩
  ·intro y0 y1 y2 y3 y4 y5 y6
   unfold spec_l12With.l0
   repeat' first
   | (with_reducible exact ih0 _ _ _ _ _ _ _)
   | (with_reducible exact ih1 _ _ _ _ _ _ _)
   | (with_reducible exact LeO.refl _)
   | (with_reducible exact LeO.none _)
   | (with_reducible refine LeO.ite ?_ ?_)
   | (with_reducible refine LeO.bind ?_ (fun _ => ?_))
   | exact ih0 _ _ _ _ _ _ _
   | exact ih1 _ _ _ _ _ _ _
   | exact LeO.none _
   | refine LeO.ite ?_ ?_
   | refine LeO.bind ?_ (fun _ => ?_)
  ·intro y0 y1 y2 y3 y4 y5 y6
   unfold spec_l12With.l1
   repeat' first
   | (with_reducible exact ih0 _ _ _ _ _ _ _)
   | (with_reducible exact ih1 _ _ _ _ _ _ _)
   | (with_reducible exact LeO.refl _)
   | (with_reducible exact LeO.none _)
   | (with_reducible refine LeO.ite ?_ ?_)
   | (with_reducible refine LeO.bind ?_ (fun _ => ?_))
   | exact ih0 _ _ _ _ _ _ _
   | exact ih1 _ _ _ _ _ _ _
   | exact LeO.none _
   | refine LeO.ite ?_ ?_
   | refine LeO.bind ?_ (fun _ => ?_)
theorem spec_l12With.mono : ∀ a0 a1 a2 a3 a4 k, LeO (spec_l12With.f k a0 a1 a2 a3 a4) (spec_l12With.f (k + 1) a0 a1 a2 a3 a4) := by
 intro a0 a1 a2 a3 a4 k
 obtain ⟨ih0, ih1⟩ := spec_l12With.mono_l k
 unfold spec_l12With.f
 repeat' first
   | (with_reducible exact ih0 _ _ _ _ _ _ _)
   | (with_reducible exact ih1 _ _ _ _ _ _ _)
   | (with_reducible exact LeO.refl _)
   | (with_reducible exact LeO.none _)
   | (with_reducible refine LeO.ite ?_ ?_)
   | (with_reducible refine LeO.bind ?_ (fun _ => ?_))
   | exact ih0 _ _ _ _ _ _ _
   | exact ih1 _ _ _ _ _ _ _
   | exact LeO.none _
   | refine LeO.ite ?_ ?_
   | refine LeO.bind ?_ (fun _ => ?_)
set_option maxHeartbeats 8000000 in
set_option maxRecDepth 100000 in
theorem spec_l12With.calls (k : Nat) (P0_ : Nat → Prop) (A0 : Option Addr) (c0 : Nat) (l0 : List (S26)) (a1_0 : Int) (a1_1 : Int) (P1_2_ : Nat → Prop) (A1_2 : Option Addr) (c1_2 : Nat) (l1_2 : List (S82)) (P1_3_ : Nat → Prop) (A1_3 : Option Addr) (c1_3 : Nat) (l1_3 : List (S30)) (r : List (S26)) (w : World) (hs0 : Kd.V k26 26 w w.heap.size (fun k_ => P0_ k_) (.slice A0 l0.length c0) l0) (hs1_2 : Kd.V k82 82 w w.heap.size (fun k_ => P1_2_ k_) (.slice A1_2 l1_2.length c1_2) l1_2) (hs1_3 : Kd.V k30 30 w w.heap.size (fun k_ => P1_3_ k_) (.slice A1_3 l1_3.length c1_3) l1_3) (h : spec_l12With.f k l0 a1_0 a1_1 l1_2 l1_3 = some r) :
  Calls Try.prog 84 #[.slice A0 l0.length c0, .agg #[.int .i64 a1_0, .int .i64 a1_1, .slice A1_2 l1_2.length c1_2, .slice A1_3 l1_3.length c1_3]] w fun e w' => ∃ v0_ : Value, e = .returned (v0_) ∧ Kd.N k26 26 w' w.heap.size (fun k_ => ((P0_ k_ ∨ P1_2_ k_ ∨ P1_3_ k_) ∨ w.heap.size ≤ k_)) v0_ r ∧ Below w.heap.size w w' := by
 have hu26 := Try.underlying26
 have HO0 := Aside0.mk (show Kd.V k26 26 w w.heap.size (fun k_ => ((P0_ k_ ∨ P1_2_ k_ ∨ P1_3_ k_) ∨ w.heap.size ≤ k_)) (.slice A0 l0.length c0) l0 from Kd.V_mono hs0 (fun k_ hk => .inl (.inl hk)))
 have HO1_2 := Aside0.mk (show Kd.V k82 82 w w.heap.size (fun k_ => ((P0_ k_ ∨ P1_2_ k_ ∨ P1_3_ k_) ∨ w.heap.size ≤ k_)) (.slice A1_2 l1_2.length c1_2) l1_2 from Kd.V_mono hs1_2 (fun k_ hk => .inl (.inr (.inl hk))))
 have HO1_3 := Aside0.mk (show Kd.V k30 30 w w.heap.size (fun k_ => ((P0_ k_ ∨ P1_2_ k_ ∨ P1_3_ k_) ∨ w.heap.size ≤ k_)) (.slice A1_3 l1_3.length c1_3) l1_3 from Kd.V_mono hs1_3 (fun k_ hk => .inl (.inr (.inr hk))))
 have HB := Aside0.mk (Below.refl w.heap.size w)
 have H : (spec_l12With.l0 k l0 (([] : List (S26))) 0 a1_0 a1_1 l1_2 l1_3) = some r := h
 clear h
 obtain ⟨y196, hy196⟩ : ∃ y_ : List (S26), y_ = (([] : List (S26))) := ⟨_, rfl⟩
 replace H : (spec_l12With.l0 k l0 y196 0 a1_0 a1_1 l1_2 l1_3) = some r := by first | (rw [hy196]; with_reducible exact H) | (have H2_ := (Option.bind_some _ _).symm.trans H; rw [hy196]; with_reducible exact H2_) | (have H2_ := (Option.bind_some _ _).symm.trans H; with_reducible exact H2_) | with_reducible exact H | (rw [hy196]; exact H) | exact H
 have Ny196 := Aside0.mk hy196
 clear hy196
 have H' := Aside0.mk H
 clear H
 go_enter Try.func84, Try.ntmps84
 go_wp2_with (first | ((with_reducible refine gate_dst (N := 3) rfl ?_); refine box_event ?hg (N := 3) ?hd (cs := #[.int .i64 a1_0, .int .i64 a1_1, .slice A1_2 l1_2.length c1_2, .slice A1_3 l1_3.length c1_3]) (t := 26) ?hr ?_; (case hd => rfl); (case hg => rfl); (case hr => first | (go_simp; done) | (go_simp; rfl)); intro gb195 hg w3 hbox hb; have n0_ := Aside0.mk (Kd.V_below (Kd.V_elderB (by (with_reducible repeat (first | apply Kd.V_alloc | apply Kd.V_drewN | apply Kd.V_drew)); exact HO0.out) gb195 (Nat.le_of_eq hg.symm)) hb); have n1_ := Aside0.mk (Kd.V_below (Kd.V_elderB (by (with_reducible repeat (first | apply Kd.V_alloc | apply Kd.V_drewN | apply Kd.V_drew)); exact HO1_2.out) gb195 (Nat.le_of_eq hg.symm)) hb); have n2_ := Aside0.mk (Kd.V_below (Kd.V_elderB (by (with_reducible repeat (first | apply Kd.V_alloc | apply Kd.V_drewN | apply Kd.V_drew)); exact HO1_3.out) gb195 (Nat.le_of_eq hg.symm)) hb); have n3_ := Aside0.mk (below_step (by exact zB HB.out) hb); have n4_ := Aside0.mk (hbox); have n5_ := Aside0.mk ((by rw [hg]; exact (below_size (by exact zB HB.out)) : w.heap.size ≤ gb195)); have n6_ := Aside0.mk ((by rw [hg]; exact (below_size (by exact zB HB.out)) : w.heap.size ≤ gb195)); clear HO0; clear HO1_2; clear HO1_3; clear HB; have HO0 := n0_; have HO1_2 := n1_; have HO1_3 := n2_; have HB := n3_; have BK195 := n4_; have GW195 := n5_; have GE195 := n6_; clear n0_ n1_ n2_ n3_ n4_ n5_ n6_; clear hb hbox hg) | ((with_reducible refine gate_dst (N := 8) rfl ?_); refine Kd.N_lit k26 _ 26 ?hg (N' := 8) ?hd (xs := ([] : List (S26))) (inner := []) (ok := (fun k_ => ((P0_ k_ ∨ P1_2_ k_ ∨ P1_3_ k_) ∨ w.heap.size ≤ k_) ∧ k_ ≠ gb195)) (okp := (fun k_ => ((P0_ k_ ∨ P1_2_ k_ ∨ P1_3_ k_) ∨ w.heap.size ≤ k_) ∧ k_ ≠ gb195)) ?hr ?hp (fun _ hk => hk) ((show ∀ k_, w3.heap.size ≤ k_ → (fun k_ => ((P0_ k_ ∨ P1_2_ k_ ∨ P1_3_ k_) ∨ w.heap.size ≤ k_) ∧ k_ ≠ gb195) k_ from fun k_ hk => ⟨(.inr (Nat.le_trans (below_size (by exact zB1 HB.out GE195.out)) hk)), Kd.freshB (g := gb195) (o := .cells #[.int .i64 a1_0, .int .i64 a1_1, .slice A1_2 l1_2.length c1_2, .slice A1_3 l1_3.length c1_3] 26 (0, 0)) (by exact zK BK195.out) k_ hk⟩) _ (Nat.le_refl _)) (Below.refl _ _) (Nat.le_refl _) (by simp) ?_; (case hd => rfl); (case hg => rfl); (case hr => first | (go_simp; done) | (go_simp; rfl)); (case hp => exact (Reps.none _ _)); intro v197 w4 ho5 hb hg_ hnew_; clear hg_ hnew_; (first | rw [← Ny196.out] at ho5 | (simp only [Int.reduceToNat] at ho5; rw [← Ny196.out] at ho5)); have n0_ := Aside0.mk (Kd.V_elder' (by (with_reducible repeat (first | apply Kd.V_alloc | apply Kd.V_drewN | apply Kd.V_drew)); exact HO0.out) (Kd.N_base ho5) hb); have n1_ := Aside0.mk (Kd.V_elder' (by (with_reducible repeat (first | apply Kd.V_alloc | apply Kd.V_drewN | apply Kd.V_drew)); exact HO1_2.out) (Kd.N_base ho5) hb); have n2_ := Aside0.mk (Kd.V_elder' (by (with_reducible repeat (first | apply Kd.V_alloc | apply Kd.V_drewN | apply Kd.V_drew)); exact HO1_3.out) (Kd.N_base ho5) hb); have n3_ := Aside0.mk (Kd.N_lower ho5 (below_size (by exact zB1 HB.out GE195.out))); have n4_ := Aside0.mk (blk_below (g := gb195) (o := .cells #[.int .i64 a1_0, .int .i64 a1_1, .slice A1_2 l1_2.length c1_2, .slice A1_3 l1_3.length c1_3] 26 (0, 0)) (by exact zK BK195.out) hb); have n5_ := Aside0.mk (below_step (by exact zB1 HB.out GE195.out) hb); clear HO0; clear HO1_2; clear HO1_3; clear BK195; clear HB; have HO0 := n0_; have HO1_2 := n1_; have HO1_3 := n2_; have HO198 := n3_; have BK195 := n4_; have HB := n5_; clear n0_ n1_ n2_ n3_ n4_ n5_; clear hb ho5))
 repeat (go_quiet (first | ((with_reducible refine gate_dst (N := 3) rfl ?_); refine box_event ?hg (N := 3) ?hd (cs := #[.int .i64 a1_0, .int .i64 a1_1, .slice A1_2 l1_2.length c1_2, .slice A1_3 l1_3.length c1_3]) (t := 26) ?hr ?_; (case hd => rfl); (case hg => rfl); (case hr => first | (go_simp; done) | (go_simp; rfl)); intro gb195 hg w3 hbox hb; have n0_ := Aside0.mk (Kd.V_below (Kd.V_elderB (by (with_reducible repeat (first | apply Kd.V_alloc | apply Kd.V_drewN | apply Kd.V_drew)); exact HO0.out) gb195 (Nat.le_of_eq hg.symm)) hb); have n1_ := Aside0.mk (Kd.V_below (Kd.V_elderB (by (with_reducible repeat (first | apply Kd.V_alloc | apply Kd.V_drewN | apply Kd.V_drew)); exact HO1_2.out) gb195 (Nat.le_of_eq hg.symm)) hb); have n2_ := Aside0.mk (Kd.V_below (Kd.V_elderB (by (with_reducible repeat (first | apply Kd.V_alloc | apply Kd.V_drewN | apply Kd.V_drew)); exact HO1_3.out) gb195 (Nat.le_of_eq hg.symm)) hb); have n3_ := Aside0.mk (below_step (by exact zB HB.out) hb); have n4_ := Aside0.mk (hbox); have n5_ := Aside0.mk ((by rw [hg]; exact (below_size (by exact zB HB.out)) : w.heap.size ≤ gb195)); have n6_ := Aside0.mk ((by rw [hg]; exact (below_size (by exact zB HB.out)) : w.heap.size ≤ gb195)); clear HO0; clear HO1_2; clear HO1_3; clear HB; have HO0 := n0_; have HO1_2 := n1_; have HO1_3 := n2_; have HB := n3_; have BK195 := n4_; have GW195 := n5_; have GE195 := n6_; clear n0_ n1_ n2_ n3_ n4_ n5_ n6_; clear hb hbox hg) | ((with_reducible refine gate_dst (N := 8) rfl ?_); refine Kd.N_lit k26 _ 26 ?hg (N' := 8) ?hd (xs := ([] : List (S26))) (inner := []) (ok := (fun k_ => ((P0_ k_ ∨ P1_2_ k_ ∨ P1_3_ k_) ∨ w.heap.size ≤ k_) ∧ k_ ≠ gb195)) (okp := (fun k_ => ((P0_ k_ ∨ P1_2_ k_ ∨ P1_3_ k_) ∨ w.heap.size ≤ k_) ∧ k_ ≠ gb195)) ?hr ?hp (fun _ hk => hk) ((show ∀ k_, w3.heap.size ≤ k_ → (fun k_ => ((P0_ k_ ∨ P1_2_ k_ ∨ P1_3_ k_) ∨ w.heap.size ≤ k_) ∧ k_ ≠ gb195) k_ from fun k_ hk => ⟨(.inr (Nat.le_trans (below_size (by exact zB1 HB.out GE195.out)) hk)), Kd.freshB (g := gb195) (o := .cells #[.int .i64 a1_0, .int .i64 a1_1, .slice A1_2 l1_2.length c1_2, .slice A1_3 l1_3.length c1_3] 26 (0, 0)) (by exact zK BK195.out) k_ hk⟩) _ (Nat.le_refl _)) (Below.refl _ _) (Nat.le_refl _) (by simp) ?_; (case hd => rfl); (case hg => rfl); (case hr => first | (go_simp; done) | (go_simp; rfl)); (case hp => exact (Reps.none _ _)); intro v197 w4 ho5 hb hg_ hnew_; clear hg_ hnew_; (first | rw [← Ny196.out] at ho5 | (simp only [Int.reduceToNat] at ho5; rw [← Ny196.out] at ho5)); have n0_ := Aside0.mk (Kd.V_elder' (by (with_reducible repeat (first | apply Kd.V_alloc | apply Kd.V_drewN | apply Kd.V_drew)); exact HO0.out) (Kd.N_base ho5) hb); have n1_ := Aside0.mk (Kd.V_elder' (by (with_reducible repeat (first | apply Kd.V_alloc | apply Kd.V_drewN | apply Kd.V_drew)); exact HO1_2.out) (Kd.N_base ho5) hb); have n2_ := Aside0.mk (Kd.V_elder' (by (with_reducible repeat (first | apply Kd.V_alloc | apply Kd.V_drewN | apply Kd.V_drew)); exact HO1_3.out) (Kd.N_base ho5) hb); have n3_ := Aside0.mk (Kd.N_lower ho5 (below_size (by exact zB1 HB.out GE195.out))); have n4_ := Aside0.mk (blk_below (g := gb195) (o := .cells #[.int .i64 a1_0, .int .i64 a1_1, .slice A1_2 l1_2.length c1_2, .slice A1_3 l1_3.length c1_3] 26 (0, 0)) (by exact zK BK195.out) hb); have n5_ := Aside0.mk (below_step (by exact zB1 HB.out GE195.out) hb); clear HO0; clear HO1_2; clear HO1_3; clear BK195; clear HB; have HO0 := n0_; have HO1_2 := n1_; have HO1_3 := n2_; have HO198 := n3_; have BK195 := n4_; have HB := n5_; clear n0_ n1_ n2_ n3_ n4_ n5_; clear hb ho5)); try go_wp2_with (first | ((with_reducible refine gate_dst (N := 3) rfl ?_); refine box_event ?hg (N := 3) ?hd (cs := #[.int .i64 a1_0, .int .i64 a1_1, .slice A1_2 l1_2.length c1_2, .slice A1_3 l1_3.length c1_3]) (t := 26) ?hr ?_; (case hd => rfl); (case hg => rfl); (case hr => first | (go_simp; done) | (go_simp; rfl)); intro gb195 hg w3 hbox hb; have n0_ := Aside0.mk (Kd.V_below (Kd.V_elderB (by (with_reducible repeat (first | apply Kd.V_alloc | apply Kd.V_drewN | apply Kd.V_drew)); exact HO0.out) gb195 (Nat.le_of_eq hg.symm)) hb); have n1_ := Aside0.mk (Kd.V_below (Kd.V_elderB (by (with_reducible repeat (first | apply Kd.V_alloc | apply Kd.V_drewN | apply Kd.V_drew)); exact HO1_2.out) gb195 (Nat.le_of_eq hg.symm)) hb); have n2_ := Aside0.mk (Kd.V_below (Kd.V_elderB (by (with_reducible repeat (first | apply Kd.V_alloc | apply Kd.V_drewN | apply Kd.V_drew)); exact HO1_3.out) gb195 (Nat.le_of_eq hg.symm)) hb); have n3_ := Aside0.mk (below_step (by exact zB HB.out) hb); have n4_ := Aside0.mk (hbox); have n5_ := Aside0.mk ((by rw [hg]; exact (below_size (by exact zB HB.out)) : w.heap.size ≤ gb195)); have n6_ := Aside0.mk ((by rw [hg]; exact (below_size (by exact zB HB.out)) : w.heap.size ≤ gb195)); clear HO0; clear HO1_2; clear HO1_3; clear HB; have HO0 := n0_; have HO1_2 := n1_; have HO1_3 := n2_; have HB := n3_; have BK195 := n4_; have GW195 := n5_; have GE195 := n6_; clear n0_ n1_ n2_ n3_ n4_ n5_ n6_; clear hb hbox hg) | ((with_reducible refine gate_dst (N := 8) rfl ?_); refine Kd.N_lit k26 _ 26 ?hg (N' := 8) ?hd (xs := ([] : List (S26))) (inner := []) (ok := (fun k_ => ((P0_ k_ ∨ P1_2_ k_ ∨ P1_3_ k_) ∨ w.heap.size ≤ k_) ∧ k_ ≠ gb195)) (okp := (fun k_ => ((P0_ k_ ∨ P1_2_ k_ ∨ P1_3_ k_) ∨ w.heap.size ≤ k_) ∧ k_ ≠ gb195)) ?hr ?hp (fun _ hk => hk) ((show ∀ k_, w3.heap.size ≤ k_ → (fun k_ => ((P0_ k_ ∨ P1_2_ k_ ∨ P1_3_ k_) ∨ w.heap.size ≤ k_) ∧ k_ ≠ gb195) k_ from fun k_ hk => ⟨(.inr (Nat.le_trans (below_size (by exact zB1 HB.out GE195.out)) hk)), Kd.freshB (g := gb195) (o := .cells #[.int .i64 a1_0, .int .i64 a1_1, .slice A1_2 l1_2.length c1_2, .slice A1_3 l1_3.length c1_3] 26 (0, 0)) (by exact zK BK195.out) k_ hk⟩) _ (Nat.le_refl _)) (Below.refl _ _) (Nat.le_refl _) (by simp) ?_; (case hd => rfl); (case hg => rfl); (case hr => first | (go_simp; done) | (go_simp; rfl)); (case hp => exact (Reps.none _ _)); intro v197 w4 ho5 hb hg_ hnew_; clear hg_ hnew_; (first | rw [← Ny196.out] at ho5 | (simp only [Int.reduceToNat] at ho5; rw [← Ny196.out] at ho5)); have n0_ := Aside0.mk (Kd.V_elder' (by (with_reducible repeat (first | apply Kd.V_alloc | apply Kd.V_drewN | apply Kd.V_drew)); exact HO0.out) (Kd.N_base ho5) hb); have n1_ := Aside0.mk (Kd.V_elder' (by (with_reducible repeat (first | apply Kd.V_alloc | apply Kd.V_drewN | apply Kd.V_drew)); exact HO1_2.out) (Kd.N_base ho5) hb); have n2_ := Aside0.mk (Kd.V_elder' (by (with_reducible repeat (first | apply Kd.V_alloc | apply Kd.V_drewN | apply Kd.V_drew)); exact HO1_3.out) (Kd.N_base ho5) hb); have n3_ := Aside0.mk (Kd.N_lower ho5 (below_size (by exact zB1 HB.out GE195.out))); have n4_ := Aside0.mk (blk_below (g := gb195) (o := .cells #[.int .i64 a1_0, .int .i64 a1_1, .slice A1_2 l1_2.length c1_2, .slice A1_3 l1_3.length c1_3] 26 (0, 0)) (by exact zK BK195.out) hb); have n5_ := Aside0.mk (below_step (by exact zB1 HB.out GE195.out) hb); clear HO0; clear HO1_2; clear HO1_3; clear BK195; clear HB; have HO0 := n0_; have HO1_2 := n1_; have HO1_3 := n2_; have HO198 := n3_; have BK195 := n4_; have HB := n5_; clear n0_ n1_ n2_ n3_ n4_ n5_; clear hb ho5)))
 go_loopg [5, 6] k (fun kq v5 v6 w' => ∃ (x5_1 : List (S26)) (x6_1 : Int), v6 = .int .i64 x6_1 ∧ Aside0 (spec_l12With.l0 kq l0 x5_1 x6_1 a1_0 a1_1 l1_2 l1_3 = some r) ∧ Aside0 (kq ≤ k) ∧ Aside0 (Kd.V k26 26 w' w.heap.size (fun k_ => ((P0_ k_ ∨ P1_2_ k_ ∨ P1_3_ k_) ∨ w.heap.size ≤ k_) ∧ some k_ ≠ (v5 : Value).ownBlock ∧ k_ ≠ gb195) (.slice A0 l0.length c0) l0) ∧ Aside0 (Kd.N k26 26 w' w.heap.size (fun k_ => ((P0_ k_ ∨ P1_2_ k_ ∨ P1_3_ k_) ∨ w.heap.size ≤ k_) ∧ k_ ≠ gb195) v5 x5_1) ∧ Aside0 (Kd.V k82 82 w' w.heap.size (fun k_ => ((P0_ k_ ∨ P1_2_ k_ ∨ P1_3_ k_) ∨ w.heap.size ≤ k_) ∧ some k_ ≠ (v5 : Value).ownBlock ∧ k_ ≠ gb195) (.slice A1_2 l1_2.length c1_2) l1_2) ∧ Aside0 (Kd.V k30 30 w' w.heap.size (fun k_ => ((P0_ k_ ∨ P1_2_ k_ ∨ P1_3_ k_) ∨ w.heap.size ≤ k_) ∧ some k_ ≠ (v5 : Value).ownBlock ∧ k_ ≠ gb195) (.slice A1_3 l1_3.length c1_3) l1_3) ∧ Aside0 (w'.heap[gb195]? = some (.cells #[.int .i64 a1_0, .int .i64 a1_1, (.slice A1_2 l1_2.length c1_2), (.slice A1_3 l1_3.length c1_3)] 26 (0, 0))) ∧ Aside0 (Below w.heap.size w w'))
 case atStart => exact ⟨(y196), (0), (by first | rfl | (simp; done) | (simp [*]; done)), H', ⟨Nat.le_refl _⟩, ⟨by (with_reducible repeat (first | apply Kd.V_alloc | apply Kd.V_drewN | apply Kd.V_drew)); exact Kd.V_mono HO0.out (fun _ hk => ⟨hk.1.1, ⟨hk.2, hk.1.2⟩⟩)⟩, ⟨by exact zN HO198.out⟩, ⟨by (with_reducible repeat (first | apply Kd.V_alloc | apply Kd.V_drewN | apply Kd.V_drew)); exact Kd.V_mono HO1_2.out (fun _ hk => ⟨hk.1.1, ⟨hk.2, hk.1.2⟩⟩)⟩, ⟨by (with_reducible repeat (first | apply Kd.V_alloc | apply Kd.V_drewN | apply Kd.V_drew)); exact Kd.V_mono HO1_3.out (fun _ hk => ⟨hk.1.1, ⟨hk.2, hk.1.2⟩⟩)⟩, ⟨by exact zK BK195.out⟩, ⟨by exact zB1 HB.out GE195.out⟩⟩
 case round =>
  clear H'
  try clear c1
  try clear p2
  obtain ⟨x5_1, x6_1, rfl, HA, HK1, HO_0, HO_5, HO_196002, HO_196003, BK195, HB⟩ := hrel
  cases gk with
  | zero => exact absurd HA.out (by simp [spec_l12With.l0])
  | succ k1 =>
   have H := HA.out
   clear HA
   simp only [spec_l12With.l0] at H
   by_cases c6 : x6_1 < (l0.length : Int)
   ·rw [if_pos c6] at H
    have c6b0 : decide (x6_1 < (l0.length : Int)) = true := decide_eq_true c6
    clear c6
    by_cases c7 : 0 ≤ x6_1
    ·rw [if_pos c7] at H
     have c7b0 : decide (0 ≤ x6_1) = true := decide_eq_true c7
     clear c7
     replace H := Option.bind_eq_some_iff.mp H
     obtain ⟨t201, A80, H⟩ := H
     replace H : (if t201 = true then (if x5_1.length < 2199023255552 then (spec_l12With.l0 k1 l0 (x5_1 ++ [(⟨(rd_T26 l0 x6_1).f0, (rd_T26 l0 x6_1).f1, (rd_T26 l0 x6_1).f2, (rd_T26 l0 x6_1).f3⟩ : S26)]) (wrap64 (x6_1 + 1)) a1_0 a1_1 l1_2 l1_3) else (none)) else (spec_l12With.l0 k1 l0 x5_1 (wrap64 (x6_1 + 1)) a1_0 a1_1 l1_2 l1_3)) = some r := H
     have A8 := Aside0.mk A80
     clear A80
     by_cases c9 : t201 = true
     ·subst c9
      have H1 : (if x5_1.length < 2199023255552 then (spec_l12With.l0 k1 l0 (x5_1 ++ [(⟨(rd_T26 l0 x6_1).f0, (rd_T26 l0 x6_1).f1, (rd_T26 l0 x6_1).f2, (rd_T26 l0 x6_1).f3⟩ : S26)]) (wrap64 (x6_1 + 1)) a1_0 a1_1 l1_2 l1_3) else (none)) = some r := by rw [if_pos rfl] at H; exact H
      clear H
      have H := H1
      clear H1
      by_cases c10 : x5_1.length < 2199023255552
      ·rw [if_pos c10] at H
       have LMc10 := Aside0.mk c10
       clear c10
       obtain ⟨y203, hy203⟩ : ∃ y_ : List (S26), y_ = (x5_1 ++ [(⟨(rd_T26 l0 x6_1).f0, (rd_T26 l0 x6_1).f1, (rd_T26 l0 x6_1).f2, (rd_T26 l0 x6_1).f3⟩ : S26)]) := ⟨_, rfl⟩
       replace H : (spec_l12With.l0 k1 l0 y203 (wrap64 (x6_1 + 1)) a1_0 a1_1 l1_2 l1_3) = some r := by first | (rw [hy203]; with_reducible exact H) | (have H2_ := (Option.bind_some _ _).symm.trans H; rw [hy203]; with_reducible exact H2_) | (have H2_ := (Option.bind_some _ _).symm.trans H; with_reducible exact H2_) | with_reducible exact H | (rw [hy203]; exact H) | exact H
       have Ny203 := Aside0.mk hy203
       clear hy203
       have H' := Aside0.mk H
       clear H
       have p199 : 0 ≤ (x6_1 : Int) := of_decide_eq_true (by first | (with_reducible assumption) | assumption)
       have q199 : x6_1 < (l0.length : Int) := of_decide_eq_true (by first | (with_reducible assumption) | assumption)
       obtain ⟨ad199, A199_2, c199_2, A199_3, c199_3, e199, hx199_0, hx199_1, hx199_2, hx199_3, hl199_2, hi199_2, hl199_3, hi199_3⟩ := at_T26 (Kd.V_reads' HO_0.out).2.2 x6_1 p199 q199
       cases e199
       obtain ⟨ce199, hce199, hMe199, hcc199⟩ := Kd.V_get HO_0.out z26 x6_1 p199 (by first | exact q199 | exact of_decide_eq_true (by first | (with_reducible assumption) | assumption) | (have e_ := (Kd.V_reads' HO_0.out).1; omega))
       obtain ⟨ua199_2, uc199_2, ua199_3, uc199_3, rfl, ul199_2, ge199_2, ul199_3, ge199_3⟩ := k26_openF hMe199
       have hv199_2 := hcc199 2 _ rfl
       rw [add_field _ _ 2 (by omega)] at hv199_2
       replace hv199_2 := Option.some.inj (hv199_2.symm.trans hx199_2)
       injection hv199_2 with hva_ hvn_ hvc_
       rw [hva_] at ge199_2
       rw [hvc_] at ul199_2
       have HL199_2 := Aside0.mk (show Kd.V k82 82 _ w.heap.size _ _ ((rd_T26 l0 x6_1).f2) from Kd.V_mk ul199_2 ge199_2)
       clear hva_ hvn_ hvc_ ge199_2 ul199_2
       have hv199_3 := hcc199 3 _ rfl
       rw [add_field _ _ 3 (by omega)] at hv199_3
       replace hv199_3 := Option.some.inj (hv199_3.symm.trans hx199_3)
       injection hv199_3 with hva_ hvn_ hvc_
       rw [hva_] at ge199_3
       rw [hvc_] at ul199_3
       have HL199_3 := Aside0.mk (show Kd.V k30 30 _ w.heap.size _ _ ((rd_T26 l0 x6_1).f3) from Kd.V_mk ul199_3 ge199_3)
       clear hva_ hvn_ hvc_ ge199_3 ul199_3
       clear hcc199 hce199
       have HR199_2 := Aside0.mk hi199_2
       have HC199_2 := Aside0.mk hl199_2
       clear hi199_2 hl199_2
       have HR199_3 := Aside0.mk hi199_3
       have HC199_3 := Aside0.mk hl199_3
       clear hi199_3 hl199_3
       replace p199 := eq_true p199
       replace q199 := eq_true q199
       have p200 : 0 ≤ (x6_1 : Int) := of_decide_eq_true (by first | (with_reducible assumption) | assumption)
       have q200 : x6_1 < (l0.length : Int) := of_decide_eq_true (by first | (with_reducible assumption) | assumption)
       obtain ⟨ad200, A200_2, c200_2, A200_3, c200_3, e200, hx200_0, hx200_1, hx200_2, hx200_3, hl200_2, hi200_2, hl200_3, hi200_3⟩ := at_T26 (Kd.V_reads' HO_0.out).2.2 x6_1 p200 q200
       obtain rfl : ad199 = ad200 := (by injection e200)
       obtain ⟨ce200, hce200, hMe200, hcc200⟩ := Kd.V_get HO_0.out z26 x6_1 p200 (by first | exact q200 | exact of_decide_eq_true (by first | (with_reducible assumption) | assumption) | (have e_ := (Kd.V_reads' HO_0.out).1; omega))
       obtain ⟨ua200_2, uc200_2, ua200_3, uc200_3, rfl, ul200_2, ge200_2, ul200_3, ge200_3⟩ := k26_openF hMe200
       have hv200_2 := hcc200 2 _ rfl
       rw [add_field _ _ 2 (by omega)] at hv200_2
       replace hv200_2 := Option.some.inj (hv200_2.symm.trans hx200_2)
       injection hv200_2 with hva_ hvn_ hvc_
       rw [hva_] at ge200_2
       rw [hvc_] at ul200_2
       have HL200_2 := Aside0.mk (show Kd.V k82 82 _ w.heap.size _ _ ((rd_T26 l0 x6_1).f2) from Kd.V_mk ul200_2 ge200_2)
       clear hva_ hvn_ hvc_ ge200_2 ul200_2
       have hv200_3 := hcc200 3 _ rfl
       rw [add_field _ _ 3 (by omega)] at hv200_3
       replace hv200_3 := Option.some.inj (hv200_3.symm.trans hx200_3)
       injection hv200_3 with hva_ hvn_ hvc_
       rw [hva_] at ge200_3
       rw [hvc_] at ul200_3
       have HL200_3 := Aside0.mk (show Kd.V k30 30 _ w.heap.size _ _ ((rd_T26 l0 x6_1).f3) from Kd.V_mk ul200_3 ge200_3)
       clear hva_ hvn_ hvc_ ge200_3 ul200_3
       clear hcc200 hce200
       have HR200_2 := Aside0.mk hi200_2
       have HC200_2 := Aside0.mk hl200_2
       clear hi200_2 hl200_2
       have HR200_3 := Aside0.mk hi200_3
       have HC200_3 := Aside0.mk hl200_3
       clear hi200_3 hl200_3
       replace p200 := eq_true p200
       replace q200 := eq_true q200
       have ea_ := Option.some.inj (hx199_2.symm.trans hx200_2)
       injection ea_ with ea_ en_ ec_
       subst ea_
       subst ec_
       clear en_
       have ea_ := Option.some.inj (hx199_3.symm.trans hx200_3)
       injection ea_ with ea_ en_ ec_
       subst ea_
       subst ec_
       clear en_
       obtain ⟨hcz11_0, hcz11_1, hcz11_2, hcz11_3, hfz11_0, hfz11_1, hfz11_2, hfz11_3⟩ := zc4f BK195.out
       go_wp2_with (first | (go_at_call 71; (with_reducible refine (spec_l3Less.calls ((rd_T26 l0 x6_1).f0) ((rd_T26 l0 x6_1).f1) a1_0 a1_1 true _ A8.out).mono ?_); rintro e w' ⟨rfl, ⟨nd, rfl⟩⟩; (try first | exact ⟨rfl, _, World.drewN_drewN _ _ _⟩ | exact ⟨rfl, _, Eq.trans (World.drewN_drewN _ _ _) (congrArg (World.drewN _) (Nat.add_assoc _ _ _))⟩); have p202 : 0 ≤ (x6_1 : Int) := of_decide_eq_true (by first | (with_reducible assumption) | assumption); have q202 : x6_1 < (l0.length : Int) := of_decide_eq_true (by first | (with_reducible assumption) | assumption); obtain ⟨ad202, A202_2, c202_2, A202_3, c202_3, e202, hx202_0, hx202_1, hx202_2, hx202_3, hl202_2, hi202_2, hl202_3, hi202_3⟩ := at_T26 (Kd.V_reads' HO_0.out).2.2 x6_1 p202 q202; obtain rfl : ad199 = ad202 := (by injection e202); obtain ⟨ce202, hce202, hMe202, hcc202⟩ := Kd.V_get HO_0.out z26 x6_1 p202 (by first | exact q202 | exact of_decide_eq_true (by first | (with_reducible assumption) | assumption) | (have e_ := (Kd.V_reads' HO_0.out).1; omega)); obtain ⟨ua202_2, uc202_2, ua202_3, uc202_3, rfl, ul202_2, ge202_2, ul202_3, ge202_3⟩ := k26_openF hMe202; have hv202_2 := hcc202 2 _ rfl; rw [add_field _ _ 2 (by omega)] at hv202_2; replace hv202_2 := Option.some.inj (hv202_2.symm.trans hx202_2); injection hv202_2 with hva_ hvn_ hvc_; rw [hva_] at ge202_2; rw [hvc_] at ul202_2; have HL202_2 := Aside0.mk (show Kd.V k82 82 _ w.heap.size _ _ ((rd_T26 l0 x6_1).f2) from Kd.V_mk ul202_2 ge202_2); clear hva_ hvn_ hvc_ ge202_2 ul202_2; have hv202_3 := hcc202 3 _ rfl; rw [add_field _ _ 3 (by omega)] at hv202_3; replace hv202_3 := Option.some.inj (hv202_3.symm.trans hx202_3); injection hv202_3 with hva_ hvn_ hvc_; rw [hva_] at ge202_3; rw [hvc_] at ul202_3; have HL202_3 := Aside0.mk (show Kd.V k30 30 _ w.heap.size _ _ ((rd_T26 l0 x6_1).f3) from Kd.V_mk ul202_3 ge202_3); clear hva_ hvn_ hvc_ ge202_3 ul202_3; clear hcc202 hce202; have HR202_2 := Aside0.mk hi202_2; have HC202_2 := Aside0.mk hl202_2; clear hi202_2 hl202_2; have HR202_3 := Aside0.mk hi202_3; have HC202_3 := Aside0.mk hl202_3; clear hi202_3 hl202_3; replace p202 := eq_true p202; replace q202 := eq_true q202; have ea_ := Option.some.inj (hx199_2.symm.trans hx202_2); injection ea_ with ea_ en_ ec_; subst ea_; subst ec_; clear en_; have ea_ := Option.some.inj (hx199_3.symm.trans hx202_3); injection ea_ with ea_ en_ ec_; subst ea_; subst ec_; clear en_) | ((with_reducible refine gate_builtin (b := .append) (xs := #[.tmp 30, .tmp 35]) rfl ?_); at_builtin; refine Kd.N_append k26 (w0 := w) w.heap.size rfl (.tmp 30) (.tmp 35) 117 26 (.agg #[(.int .i64 0), (.int .i64 0), (.slice none 0 0), (.slice none 0 0)]) 64 rfl Try.underlying117 info26 rfl (by decide) (by omega) u5 x5_1 (⟨(rd_T26 l0 x6_1).f0, (rd_T26 l0 x6_1).f1, (rd_T26 l0 x6_1).f2, (rd_T26 l0 x6_1).f3⟩ : S26) [.int .i64 ((rd_T26 l0 x6_1).f0), .int .i64 ((rd_T26 l0 x6_1).f1), .slice A199_2 ((rd_T26 l0 x6_1).f2).length c199_2, .slice A199_3 ((rd_T26 l0 x6_1).f3).length c199_3] (fun k_ => ((P0_ k_ ∨ P1_2_ k_ ∨ P1_3_ k_) ∨ w.heap.size ≤ k_) ∧ k_ ≠ gb195) (fun k_ => ((fun k_ => ((P0_ k_ ∨ P1_2_ k_ ∨ P1_3_ k_) ∨ w.heap.size ≤ k_) ∧ k_ ≠ gb195)) k_ ∧ some k_ ≠ (u5 : Value).ownBlock) rfl rfl ?aP (fun _ hk => hk) ?aF ?aO ?aB ?aS ?aL ?_; (case aP => exact (k26_mkF _ _ (⟨(rd_T26 l0 x6_1).f0, (rd_T26 l0 x6_1).f1, (rd_T26 l0 x6_1).f2, (rd_T26 l0 x6_1).f3⟩ : S26) (Kd.V_reads' (Kd.V_mono (ok' := (fun k_ => ((fun k_ => ((P0_ k_ ∨ P1_2_ k_ ∨ P1_3_ k_) ∨ w.heap.size ≤ k_) ∧ k_ ≠ gb195)) k_ ∧ some k_ ≠ (u5 : Value).ownBlock)) (HL202_2.out) (fun k_ hk => ⟨⟨hk.1, hk.2.2⟩, hk.2.1⟩))).2.1 (Kd.V_F (Kd.V_mono (ok' := (fun k_ => ((fun k_ => ((P0_ k_ ∨ P1_2_ k_ ∨ P1_3_ k_) ∨ w.heap.size ≤ k_) ∧ k_ ≠ gb195)) k_ ∧ some k_ ≠ (u5 : Value).ownBlock)) (HL202_2.out) (fun k_ hk => ⟨⟨hk.1, hk.2.2⟩, hk.2.1⟩))) (Kd.V_reads' (Kd.V_mono (ok' := (fun k_ => ((fun k_ => ((P0_ k_ ∨ P1_2_ k_ ∨ P1_3_ k_) ∨ w.heap.size ≤ k_) ∧ k_ ≠ gb195)) k_ ∧ some k_ ≠ (u5 : Value).ownBlock)) (HL202_3.out) (fun k_ hk => ⟨⟨hk.1, hk.2.2⟩, hk.2.1⟩))).2.1 (Kd.V_F (Kd.V_mono (ok' := (fun k_ => ((fun k_ => ((P0_ k_ ∨ P1_2_ k_ ∨ P1_3_ k_) ∨ w.heap.size ≤ k_) ∧ k_ ≠ gb195)) k_ ∧ some k_ ≠ (u5 : Value).ownBlock)) (HL202_3.out) (fun k_ hk => ⟨⟨hk.1, hk.2.2⟩, hk.2.1⟩))))); (case aB => exact (by exact zB1 HB.out GE195.out)); (case aF => exact (fun k_ hk => ⟨(.inr (Nat.le_trans (below_size (by exact zB1 HB.out GE195.out)) hk)), Kd.freshB (g := gb195) (o := .cells #[.int .i64 a1_0, .int .i64 a1_1, .slice A1_2 l1_2.length c1_2, .slice A1_3 l1_3.length c1_3] 26 (0, 0)) (by exact zK BK195.out) k_ hk⟩)); (case aO => exact (by exact zN HO_5.out)); (case aS => exact (below_size (by exact zB1 HB.out GE195.out))); (case aL => have := LMc10.out; omega); intro v204 w12 ho hb hg hat; rw [← Ny203.out] at ho; have n0_ := Aside0.mk (Kd.V_afterv (ok := (fun k_ => ((P0_ k_ ∨ P1_2_ k_ ∨ P1_3_ k_) ∨ w.heap.size ≤ k_) ∧ k_ ≠ gb195)) (by (with_reducible repeat (first | apply Kd.V_alloc | apply Kd.V_drewN | apply Kd.V_drew)); exact Kd.V_mono HO_0.out (fun _ hk => ⟨⟨hk.1, hk.2.2⟩, hk.2.1⟩)) hg hat); have n1_ := Aside0.mk (Kd.V_afterv (ok := (fun k_ => ((P0_ k_ ∨ P1_2_ k_ ∨ P1_3_ k_) ∨ w.heap.size ≤ k_) ∧ k_ ≠ gb195)) (by (with_reducible repeat (first | apply Kd.V_alloc | apply Kd.V_drewN | apply Kd.V_drew)); exact Kd.V_mono HO_196002.out (fun _ hk => ⟨⟨hk.1, hk.2.2⟩, hk.2.1⟩)) hg hat); have n2_ := Aside0.mk (Kd.V_afterv (ok := (fun k_ => ((P0_ k_ ∨ P1_2_ k_ ∨ P1_3_ k_) ∨ w.heap.size ≤ k_) ∧ k_ ≠ gb195)) (by (with_reducible repeat (first | apply Kd.V_alloc | apply Kd.V_drewN | apply Kd.V_drew)); exact Kd.V_mono HO_196003.out (fun _ hk => ⟨⟨hk.1, hk.2.2⟩, hk.2.1⟩)) hg hat); have n3_ := Aside0.mk (blk_grown (g := gb195) (o := .cells #[.int .i64 a1_0, .int .i64 a1_1, .slice A1_2 l1_2.length c1_2, .slice A1_3 l1_3.length c1_3] 26 (0, 0)) (by exact zK BK195.out) hg (Kd.N_away HO_5.out (fun _ hk => hk.2))); have n4_ := Aside0.mk (Kd.V_afterv (ok := (fun k_ => ((P0_ k_ ∨ P1_2_ k_ ∨ P1_3_ k_) ∨ w.heap.size ≤ k_) ∧ k_ ≠ gb195)) (by (with_reducible repeat (first | apply Kd.V_alloc | apply Kd.V_drewN | apply Kd.V_drew)); exact Kd.V_mono HL199_2.out (fun _ hk => ⟨⟨hk.1, hk.2.2⟩, hk.2.1⟩)) hg hat); have n5_ := Aside0.mk (Kd.V_afterv (ok := (fun k_ => ((P0_ k_ ∨ P1_2_ k_ ∨ P1_3_ k_) ∨ w.heap.size ≤ k_) ∧ k_ ≠ gb195)) (by (with_reducible repeat (first | apply Kd.V_alloc | apply Kd.V_drewN | apply Kd.V_drew)); exact Kd.V_mono HL199_3.out (fun _ hk => ⟨⟨hk.1, hk.2.2⟩, hk.2.1⟩)) hg hat); have n6_ := Aside0.mk (Kd.V_afterv (ok := (fun k_ => ((P0_ k_ ∨ P1_2_ k_ ∨ P1_3_ k_) ∨ w.heap.size ≤ k_) ∧ k_ ≠ gb195)) (by (with_reducible repeat (first | apply Kd.V_alloc | apply Kd.V_drewN | apply Kd.V_drew)); exact Kd.V_mono HL200_2.out (fun _ hk => ⟨⟨hk.1, hk.2.2⟩, hk.2.1⟩)) hg hat); have n7_ := Aside0.mk (Kd.V_afterv (ok := (fun k_ => ((P0_ k_ ∨ P1_2_ k_ ∨ P1_3_ k_) ∨ w.heap.size ≤ k_) ∧ k_ ≠ gb195)) (by (with_reducible repeat (first | apply Kd.V_alloc | apply Kd.V_drewN | apply Kd.V_drew)); exact Kd.V_mono HL200_3.out (fun _ hk => ⟨⟨hk.1, hk.2.2⟩, hk.2.1⟩)) hg hat); have n8_ := Aside0.mk (Kd.V_afterv (ok := (fun k_ => ((P0_ k_ ∨ P1_2_ k_ ∨ P1_3_ k_) ∨ w.heap.size ≤ k_) ∧ k_ ≠ gb195)) (by (with_reducible repeat (first | apply Kd.V_alloc | apply Kd.V_drewN | apply Kd.V_drew)); exact Kd.V_mono HL202_2.out (fun _ hk => ⟨⟨hk.1, hk.2.2⟩, hk.2.1⟩)) hg hat); have n9_ := Aside0.mk (Kd.V_afterv (ok := (fun k_ => ((P0_ k_ ∨ P1_2_ k_ ∨ P1_3_ k_) ∨ w.heap.size ≤ k_) ∧ k_ ≠ gb195)) (by (with_reducible repeat (first | apply Kd.V_alloc | apply Kd.V_drewN | apply Kd.V_drew)); exact Kd.V_mono HL202_3.out (fun _ hk => ⟨⟨hk.1, hk.2.2⟩, hk.2.1⟩)) hg hat); have n10_ := Aside0.mk (hb); have n11_ := Aside0.mk (ho); clear HO_0; clear HO_196002; clear HO_196003; clear BK195; clear HL199_2; clear HL199_3; clear HL200_2; clear HL200_3; clear HL202_2; clear HL202_3; clear HB; clear HO_5; have HO_0 := n0_; have HO_196002 := n1_; have HO_196003 := n2_; have BK195 := n3_; have HL199_2 := n4_; have HL199_3 := n5_; have HL200_2 := n6_; have HL200_3 := n7_; have HL202_2 := n8_; have HL202_3 := n9_; have HB := n10_; have HO205 := n11_; clear n0_ n1_ n2_ n3_ n4_ n5_ n6_ n7_ n8_ n9_ n10_ n11_; clear ho hb hg hat))
       repeat (go_quiet (first | (go_at_call 71; (with_reducible refine (spec_l3Less.calls ((rd_T26 l0 x6_1).f0) ((rd_T26 l0 x6_1).f1) a1_0 a1_1 true _ A8.out).mono ?_); rintro e w' ⟨rfl, ⟨nd, rfl⟩⟩; (try first | exact ⟨rfl, _, World.drewN_drewN _ _ _⟩ | exact ⟨rfl, _, Eq.trans (World.drewN_drewN _ _ _) (congrArg (World.drewN _) (Nat.add_assoc _ _ _))⟩); have p202 : 0 ≤ (x6_1 : Int) := of_decide_eq_true (by first | (with_reducible assumption) | assumption); have q202 : x6_1 < (l0.length : Int) := of_decide_eq_true (by first | (with_reducible assumption) | assumption); obtain ⟨ad202, A202_2, c202_2, A202_3, c202_3, e202, hx202_0, hx202_1, hx202_2, hx202_3, hl202_2, hi202_2, hl202_3, hi202_3⟩ := at_T26 (Kd.V_reads' HO_0.out).2.2 x6_1 p202 q202; obtain rfl : ad199 = ad202 := (by injection e202); obtain ⟨ce202, hce202, hMe202, hcc202⟩ := Kd.V_get HO_0.out z26 x6_1 p202 (by first | exact q202 | exact of_decide_eq_true (by first | (with_reducible assumption) | assumption) | (have e_ := (Kd.V_reads' HO_0.out).1; omega)); obtain ⟨ua202_2, uc202_2, ua202_3, uc202_3, rfl, ul202_2, ge202_2, ul202_3, ge202_3⟩ := k26_openF hMe202; have hv202_2 := hcc202 2 _ rfl; rw [add_field _ _ 2 (by omega)] at hv202_2; replace hv202_2 := Option.some.inj (hv202_2.symm.trans hx202_2); injection hv202_2 with hva_ hvn_ hvc_; rw [hva_] at ge202_2; rw [hvc_] at ul202_2; have HL202_2 := Aside0.mk (show Kd.V k82 82 _ w.heap.size _ _ ((rd_T26 l0 x6_1).f2) from Kd.V_mk ul202_2 ge202_2); clear hva_ hvn_ hvc_ ge202_2 ul202_2; have hv202_3 := hcc202 3 _ rfl; rw [add_field _ _ 3 (by omega)] at hv202_3; replace hv202_3 := Option.some.inj (hv202_3.symm.trans hx202_3); injection hv202_3 with hva_ hvn_ hvc_; rw [hva_] at ge202_3; rw [hvc_] at ul202_3; have HL202_3 := Aside0.mk (show Kd.V k30 30 _ w.heap.size _ _ ((rd_T26 l0 x6_1).f3) from Kd.V_mk ul202_3 ge202_3); clear hva_ hvn_ hvc_ ge202_3 ul202_3; clear hcc202 hce202; have HR202_2 := Aside0.mk hi202_2; have HC202_2 := Aside0.mk hl202_2; clear hi202_2 hl202_2; have HR202_3 := Aside0.mk hi202_3; have HC202_3 := Aside0.mk hl202_3; clear hi202_3 hl202_3; replace p202 := eq_true p202; replace q202 := eq_true q202; have ea_ := Option.some.inj (hx199_2.symm.trans hx202_2); injection ea_ with ea_ en_ ec_; subst ea_; subst ec_; clear en_; have ea_ := Option.some.inj (hx199_3.symm.trans hx202_3); injection ea_ with ea_ en_ ec_; subst ea_; subst ec_; clear en_) | ((with_reducible refine gate_builtin (b := .append) (xs := #[.tmp 30, .tmp 35]) rfl ?_); at_builtin; refine Kd.N_append k26 (w0 := w) w.heap.size rfl (.tmp 30) (.tmp 35) 117 26 (.agg #[(.int .i64 0), (.int .i64 0), (.slice none 0 0), (.slice none 0 0)]) 64 rfl Try.underlying117 info26 rfl (by decide) (by omega) u5 x5_1 (⟨(rd_T26 l0 x6_1).f0, (rd_T26 l0 x6_1).f1, (rd_T26 l0 x6_1).f2, (rd_T26 l0 x6_1).f3⟩ : S26) [.int .i64 ((rd_T26 l0 x6_1).f0), .int .i64 ((rd_T26 l0 x6_1).f1), .slice A199_2 ((rd_T26 l0 x6_1).f2).length c199_2, .slice A199_3 ((rd_T26 l0 x6_1).f3).length c199_3] (fun k_ => ((P0_ k_ ∨ P1_2_ k_ ∨ P1_3_ k_) ∨ w.heap.size ≤ k_) ∧ k_ ≠ gb195) (fun k_ => ((fun k_ => ((P0_ k_ ∨ P1_2_ k_ ∨ P1_3_ k_) ∨ w.heap.size ≤ k_) ∧ k_ ≠ gb195)) k_ ∧ some k_ ≠ (u5 : Value).ownBlock) rfl rfl ?aP (fun _ hk => hk) ?aF ?aO ?aB ?aS ?aL ?_; (case aP => exact (k26_mkF _ _ (⟨(rd_T26 l0 x6_1).f0, (rd_T26 l0 x6_1).f1, (rd_T26 l0 x6_1).f2, (rd_T26 l0 x6_1).f3⟩ : S26) (Kd.V_reads' (Kd.V_mono (ok' := (fun k_ => ((fun k_ => ((P0_ k_ ∨ P1_2_ k_ ∨ P1_3_ k_) ∨ w.heap.size ≤ k_) ∧ k_ ≠ gb195)) k_ ∧ some k_ ≠ (u5 : Value).ownBlock)) (HL202_2.out) (fun k_ hk => ⟨⟨hk.1, hk.2.2⟩, hk.2.1⟩))).2.1 (Kd.V_F (Kd.V_mono (ok' := (fun k_ => ((fun k_ => ((P0_ k_ ∨ P1_2_ k_ ∨ P1_3_ k_) ∨ w.heap.size ≤ k_) ∧ k_ ≠ gb195)) k_ ∧ some k_ ≠ (u5 : Value).ownBlock)) (HL202_2.out) (fun k_ hk => ⟨⟨hk.1, hk.2.2⟩, hk.2.1⟩))) (Kd.V_reads' (Kd.V_mono (ok' := (fun k_ => ((fun k_ => ((P0_ k_ ∨ P1_2_ k_ ∨ P1_3_ k_) ∨ w.heap.size ≤ k_) ∧ k_ ≠ gb195)) k_ ∧ some k_ ≠ (u5 : Value).ownBlock)) (HL202_3.out) (fun k_ hk => ⟨⟨hk.1, hk.2.2⟩, hk.2.1⟩))).2.1 (Kd.V_F (Kd.V_mono (ok' := (fun k_ => ((fun k_ => ((P0_ k_ ∨ P1_2_ k_ ∨ P1_3_ k_) ∨ w.heap.size ≤ k_) ∧ k_ ≠ gb195)) k_ ∧ some k_ ≠ (u5 : Value).ownBlock)) (HL202_3.out) (fun k_ hk => ⟨⟨hk.1, hk.2.2⟩, hk.2.1⟩))))); (case aB => exact (by exact zB1 HB.out GE195.out)); (case aF => exact (fun k_ hk => ⟨(.inr (Nat.le_trans (below_size (by exact zB1 HB.out GE195.out)) hk)), Kd.freshB (g := gb195) (o := .cells #[.int .i64 a1_0, .int .i64 a1_1, .slice A1_2 l1_2.length c1_2, .slice A1_3 l1_3.length c1_3] 26 (0, 0)) (by exact zK BK195.out) k_ hk⟩)); (case aO => exact (by exact zN HO_5.out)); (case aS => exact (below_size (by exact zB1 HB.out GE195.out))); (case aL => have := LMc10.out; omega); intro v204 w12 ho hb hg hat; rw [← Ny203.out] at ho; have n0_ := Aside0.mk (Kd.V_afterv (ok := (fun k_ => ((P0_ k_ ∨ P1_2_ k_ ∨ P1_3_ k_) ∨ w.heap.size ≤ k_) ∧ k_ ≠ gb195)) (by (with_reducible repeat (first | apply Kd.V_alloc | apply Kd.V_drewN | apply Kd.V_drew)); exact Kd.V_mono HO_0.out (fun _ hk => ⟨⟨hk.1, hk.2.2⟩, hk.2.1⟩)) hg hat); have n1_ := Aside0.mk (Kd.V_afterv (ok := (fun k_ => ((P0_ k_ ∨ P1_2_ k_ ∨ P1_3_ k_) ∨ w.heap.size ≤ k_) ∧ k_ ≠ gb195)) (by (with_reducible repeat (first | apply Kd.V_alloc | apply Kd.V_drewN | apply Kd.V_drew)); exact Kd.V_mono HO_196002.out (fun _ hk => ⟨⟨hk.1, hk.2.2⟩, hk.2.1⟩)) hg hat); have n2_ := Aside0.mk (Kd.V_afterv (ok := (fun k_ => ((P0_ k_ ∨ P1_2_ k_ ∨ P1_3_ k_) ∨ w.heap.size ≤ k_) ∧ k_ ≠ gb195)) (by (with_reducible repeat (first | apply Kd.V_alloc | apply Kd.V_drewN | apply Kd.V_drew)); exact Kd.V_mono HO_196003.out (fun _ hk => ⟨⟨hk.1, hk.2.2⟩, hk.2.1⟩)) hg hat); have n3_ := Aside0.mk (blk_grown (g := gb195) (o := .cells #[.int .i64 a1_0, .int .i64 a1_1, .slice A1_2 l1_2.length c1_2, .slice A1_3 l1_3.length c1_3] 26 (0, 0)) (by exact zK BK195.out) hg (Kd.N_away HO_5.out (fun _ hk => hk.2))); have n4_ := Aside0.mk (Kd.V_afterv (ok := (fun k_ => ((P0_ k_ ∨ P1_2_ k_ ∨ P1_3_ k_) ∨ w.heap.size ≤ k_) ∧ k_ ≠ gb195)) (by (with_reducible repeat (first | apply Kd.V_alloc | apply Kd.V_drewN | apply Kd.V_drew)); exact Kd.V_mono HL199_2.out (fun _ hk => ⟨⟨hk.1, hk.2.2⟩, hk.2.1⟩)) hg hat); have n5_ := Aside0.mk (Kd.V_afterv (ok := (fun k_ => ((P0_ k_ ∨ P1_2_ k_ ∨ P1_3_ k_) ∨ w.heap.size ≤ k_) ∧ k_ ≠ gb195)) (by (with_reducible repeat (first | apply Kd.V_alloc | apply Kd.V_drewN | apply Kd.V_drew)); exact Kd.V_mono HL199_3.out (fun _ hk => ⟨⟨hk.1, hk.2.2⟩, hk.2.1⟩)) hg hat); have n6_ := Aside0.mk (Kd.V_afterv (ok := (fun k_ => ((P0_ k_ ∨ P1_2_ k_ ∨ P1_3_ k_) ∨ w.heap.size ≤ k_) ∧ k_ ≠ gb195)) (by (with_reducible repeat (first | apply Kd.V_alloc | apply Kd.V_drewN | apply Kd.V_drew)); exact Kd.V_mono HL200_2.out (fun _ hk => ⟨⟨hk.1, hk.2.2⟩, hk.2.1⟩)) hg hat); have n7_ := Aside0.mk (Kd.V_afterv (ok := (fun k_ => ((P0_ k_ ∨ P1_2_ k_ ∨ P1_3_ k_) ∨ w.heap.size ≤ k_) ∧ k_ ≠ gb195)) (by (with_reducible repeat (first | apply Kd.V_alloc | apply Kd.V_drewN | apply Kd.V_drew)); exact Kd.V_mono HL200_3.out (fun _ hk => ⟨⟨hk.1, hk.2.2⟩, hk.2.1⟩)) hg hat); have n8_ := Aside0.mk (Kd.V_afterv (ok := (fun k_ => ((P0_ k_ ∨ P1_2_ k_ ∨ P1_3_ k_) ∨ w.heap.size ≤ k_) ∧ k_ ≠ gb195)) (by (with_reducible repeat (first | apply Kd.V_alloc | apply Kd.V_drewN | apply Kd.V_drew)); exact Kd.V_mono HL202_2.out (fun _ hk => ⟨⟨hk.1, hk.2.2⟩, hk.2.1⟩)) hg hat); have n9_ := Aside0.mk (Kd.V_afterv (ok := (fun k_ => ((P0_ k_ ∨ P1_2_ k_ ∨ P1_3_ k_) ∨ w.heap.size ≤ k_) ∧ k_ ≠ gb195)) (by (with_reducible repeat (first | apply Kd.V_alloc | apply Kd.V_drewN | apply Kd.V_drew)); exact Kd.V_mono HL202_3.out (fun _ hk => ⟨⟨hk.1, hk.2.2⟩, hk.2.1⟩)) hg hat); have n10_ := Aside0.mk (hb); have n11_ := Aside0.mk (ho); clear HO_0; clear HO_196002; clear HO_196003; clear BK195; clear HL199_2; clear HL199_3; clear HL200_2; clear HL200_3; clear HL202_2; clear HL202_3; clear HB; clear HO_5; have HO_0 := n0_; have HO_196002 := n1_; have HO_196003 := n2_; have BK195 := n3_; have HL199_2 := n4_; have HL199_3 := n5_; have HL200_2 := n6_; have HL200_3 := n7_; have HL202_2 := n8_; have HL202_3 := n9_; have HB := n10_; have HO205 := n11_; clear n0_ n1_ n2_ n3_ n4_ n5_ n6_ n7_ n8_ n9_ n10_ n11_; clear ho hb hg hat)); try go_wp2_with (first | (go_at_call 71; (with_reducible refine (spec_l3Less.calls ((rd_T26 l0 x6_1).f0) ((rd_T26 l0 x6_1).f1) a1_0 a1_1 true _ A8.out).mono ?_); rintro e w' ⟨rfl, ⟨nd, rfl⟩⟩; (try first | exact ⟨rfl, _, World.drewN_drewN _ _ _⟩ | exact ⟨rfl, _, Eq.trans (World.drewN_drewN _ _ _) (congrArg (World.drewN _) (Nat.add_assoc _ _ _))⟩); have p202 : 0 ≤ (x6_1 : Int) := of_decide_eq_true (by first | (with_reducible assumption) | assumption); have q202 : x6_1 < (l0.length : Int) := of_decide_eq_true (by first | (with_reducible assumption) | assumption); obtain ⟨ad202, A202_2, c202_2, A202_3, c202_3, e202, hx202_0, hx202_1, hx202_2, hx202_3, hl202_2, hi202_2, hl202_3, hi202_3⟩ := at_T26 (Kd.V_reads' HO_0.out).2.2 x6_1 p202 q202; obtain rfl : ad199 = ad202 := (by injection e202); obtain ⟨ce202, hce202, hMe202, hcc202⟩ := Kd.V_get HO_0.out z26 x6_1 p202 (by first | exact q202 | exact of_decide_eq_true (by first | (with_reducible assumption) | assumption) | (have e_ := (Kd.V_reads' HO_0.out).1; omega)); obtain ⟨ua202_2, uc202_2, ua202_3, uc202_3, rfl, ul202_2, ge202_2, ul202_3, ge202_3⟩ := k26_openF hMe202; have hv202_2 := hcc202 2 _ rfl; rw [add_field _ _ 2 (by omega)] at hv202_2; replace hv202_2 := Option.some.inj (hv202_2.symm.trans hx202_2); injection hv202_2 with hva_ hvn_ hvc_; rw [hva_] at ge202_2; rw [hvc_] at ul202_2; have HL202_2 := Aside0.mk (show Kd.V k82 82 _ w.heap.size _ _ ((rd_T26 l0 x6_1).f2) from Kd.V_mk ul202_2 ge202_2); clear hva_ hvn_ hvc_ ge202_2 ul202_2; have hv202_3 := hcc202 3 _ rfl; rw [add_field _ _ 3 (by omega)] at hv202_3; replace hv202_3 := Option.some.inj (hv202_3.symm.trans hx202_3); injection hv202_3 with hva_ hvn_ hvc_; rw [hva_] at ge202_3; rw [hvc_] at ul202_3; have HL202_3 := Aside0.mk (show Kd.V k30 30 _ w.heap.size _ _ ((rd_T26 l0 x6_1).f3) from Kd.V_mk ul202_3 ge202_3); clear hva_ hvn_ hvc_ ge202_3 ul202_3; clear hcc202 hce202; have HR202_2 := Aside0.mk hi202_2; have HC202_2 := Aside0.mk hl202_2; clear hi202_2 hl202_2; have HR202_3 := Aside0.mk hi202_3; have HC202_3 := Aside0.mk hl202_3; clear hi202_3 hl202_3; replace p202 := eq_true p202; replace q202 := eq_true q202; have ea_ := Option.some.inj (hx199_2.symm.trans hx202_2); injection ea_ with ea_ en_ ec_; subst ea_; subst ec_; clear en_; have ea_ := Option.some.inj (hx199_3.symm.trans hx202_3); injection ea_ with ea_ en_ ec_; subst ea_; subst ec_; clear en_) | ((with_reducible refine gate_builtin (b := .append) (xs := #[.tmp 30, .tmp 35]) rfl ?_); at_builtin; refine Kd.N_append k26 (w0 := w) w.heap.size rfl (.tmp 30) (.tmp 35) 117 26 (.agg #[(.int .i64 0), (.int .i64 0), (.slice none 0 0), (.slice none 0 0)]) 64 rfl Try.underlying117 info26 rfl (by decide) (by omega) u5 x5_1 (⟨(rd_T26 l0 x6_1).f0, (rd_T26 l0 x6_1).f1, (rd_T26 l0 x6_1).f2, (rd_T26 l0 x6_1).f3⟩ : S26) [.int .i64 ((rd_T26 l0 x6_1).f0), .int .i64 ((rd_T26 l0 x6_1).f1), .slice A199_2 ((rd_T26 l0 x6_1).f2).length c199_2, .slice A199_3 ((rd_T26 l0 x6_1).f3).length c199_3] (fun k_ => ((P0_ k_ ∨ P1_2_ k_ ∨ P1_3_ k_) ∨ w.heap.size ≤ k_) ∧ k_ ≠ gb195) (fun k_ => ((fun k_ => ((P0_ k_ ∨ P1_2_ k_ ∨ P1_3_ k_) ∨ w.heap.size ≤ k_) ∧ k_ ≠ gb195)) k_ ∧ some k_ ≠ (u5 : Value).ownBlock) rfl rfl ?aP (fun _ hk => hk) ?aF ?aO ?aB ?aS ?aL ?_; (case aP => exact (k26_mkF _ _ (⟨(rd_T26 l0 x6_1).f0, (rd_T26 l0 x6_1).f1, (rd_T26 l0 x6_1).f2, (rd_T26 l0 x6_1).f3⟩ : S26) (Kd.V_reads' (Kd.V_mono (ok' := (fun k_ => ((fun k_ => ((P0_ k_ ∨ P1_2_ k_ ∨ P1_3_ k_) ∨ w.heap.size ≤ k_) ∧ k_ ≠ gb195)) k_ ∧ some k_ ≠ (u5 : Value).ownBlock)) (HL202_2.out) (fun k_ hk => ⟨⟨hk.1, hk.2.2⟩, hk.2.1⟩))).2.1 (Kd.V_F (Kd.V_mono (ok' := (fun k_ => ((fun k_ => ((P0_ k_ ∨ P1_2_ k_ ∨ P1_3_ k_) ∨ w.heap.size ≤ k_) ∧ k_ ≠ gb195)) k_ ∧ some k_ ≠ (u5 : Value).ownBlock)) (HL202_2.out) (fun k_ hk => ⟨⟨hk.1, hk.2.2⟩, hk.2.1⟩))) (Kd.V_reads' (Kd.V_mono (ok' := (fun k_ => ((fun k_ => ((P0_ k_ ∨ P1_2_ k_ ∨ P1_3_ k_) ∨ w.heap.size ≤ k_) ∧ k_ ≠ gb195)) k_ ∧ some k_ ≠ (u5 : Value).ownBlock)) (HL202_3.out) (fun k_ hk => ⟨⟨hk.1, hk.2.2⟩, hk.2.1⟩))).2.1 (Kd.V_F (Kd.V_mono (ok' := (fun k_ => ((fun k_ => ((P0_ k_ ∨ P1_2_ k_ ∨ P1_3_ k_) ∨ w.heap.size ≤ k_) ∧ k_ ≠ gb195)) k_ ∧ some k_ ≠ (u5 : Value).ownBlock)) (HL202_3.out) (fun k_ hk => ⟨⟨hk.1, hk.2.2⟩, hk.2.1⟩))))); (case aB => exact (by exact zB1 HB.out GE195.out)); (case aF => exact (fun k_ hk => ⟨(.inr (Nat.le_trans (below_size (by exact zB1 HB.out GE195.out)) hk)), Kd.freshB (g := gb195) (o := .cells #[.int .i64 a1_0, .int .i64 a1_1, .slice A1_2 l1_2.length c1_2, .slice A1_3 l1_3.length c1_3] 26 (0, 0)) (by exact zK BK195.out) k_ hk⟩)); (case aO => exact (by exact zN HO_5.out)); (case aS => exact (below_size (by exact zB1 HB.out GE195.out))); (case aL => have := LMc10.out; omega); intro v204 w12 ho hb hg hat; rw [← Ny203.out] at ho; have n0_ := Aside0.mk (Kd.V_afterv (ok := (fun k_ => ((P0_ k_ ∨ P1_2_ k_ ∨ P1_3_ k_) ∨ w.heap.size ≤ k_) ∧ k_ ≠ gb195)) (by (with_reducible repeat (first | apply Kd.V_alloc | apply Kd.V_drewN | apply Kd.V_drew)); exact Kd.V_mono HO_0.out (fun _ hk => ⟨⟨hk.1, hk.2.2⟩, hk.2.1⟩)) hg hat); have n1_ := Aside0.mk (Kd.V_afterv (ok := (fun k_ => ((P0_ k_ ∨ P1_2_ k_ ∨ P1_3_ k_) ∨ w.heap.size ≤ k_) ∧ k_ ≠ gb195)) (by (with_reducible repeat (first | apply Kd.V_alloc | apply Kd.V_drewN | apply Kd.V_drew)); exact Kd.V_mono HO_196002.out (fun _ hk => ⟨⟨hk.1, hk.2.2⟩, hk.2.1⟩)) hg hat); have n2_ := Aside0.mk (Kd.V_afterv (ok := (fun k_ => ((P0_ k_ ∨ P1_2_ k_ ∨ P1_3_ k_) ∨ w.heap.size ≤ k_) ∧ k_ ≠ gb195)) (by (with_reducible repeat (first | apply Kd.V_alloc | apply Kd.V_drewN | apply Kd.V_drew)); exact Kd.V_mono HO_196003.out (fun _ hk => ⟨⟨hk.1, hk.2.2⟩, hk.2.1⟩)) hg hat); have n3_ := Aside0.mk (blk_grown (g := gb195) (o := .cells #[.int .i64 a1_0, .int .i64 a1_1, .slice A1_2 l1_2.length c1_2, .slice A1_3 l1_3.length c1_3] 26 (0, 0)) (by exact zK BK195.out) hg (Kd.N_away HO_5.out (fun _ hk => hk.2))); have n4_ := Aside0.mk (Kd.V_afterv (ok := (fun k_ => ((P0_ k_ ∨ P1_2_ k_ ∨ P1_3_ k_) ∨ w.heap.size ≤ k_) ∧ k_ ≠ gb195)) (by (with_reducible repeat (first | apply Kd.V_alloc | apply Kd.V_drewN | apply Kd.V_drew)); exact Kd.V_mono HL199_2.out (fun _ hk => ⟨⟨hk.1, hk.2.2⟩, hk.2.1⟩)) hg hat); have n5_ := Aside0.mk (Kd.V_afterv (ok := (fun k_ => ((P0_ k_ ∨ P1_2_ k_ ∨ P1_3_ k_) ∨ w.heap.size ≤ k_) ∧ k_ ≠ gb195)) (by (with_reducible repeat (first | apply Kd.V_alloc | apply Kd.V_drewN | apply Kd.V_drew)); exact Kd.V_mono HL199_3.out (fun _ hk => ⟨⟨hk.1, hk.2.2⟩, hk.2.1⟩)) hg hat); have n6_ := Aside0.mk (Kd.V_afterv (ok := (fun k_ => ((P0_ k_ ∨ P1_2_ k_ ∨ P1_3_ k_) ∨ w.heap.size ≤ k_) ∧ k_ ≠ gb195)) (by (with_reducible repeat (first | apply Kd.V_alloc | apply Kd.V_drewN | apply Kd.V_drew)); exact Kd.V_mono HL200_2.out (fun _ hk => ⟨⟨hk.1, hk.2.2⟩, hk.2.1⟩)) hg hat); have n7_ := Aside0.mk (Kd.V_afterv (ok := (fun k_ => ((P0_ k_ ∨ P1_2_ k_ ∨ P1_3_ k_) ∨ w.heap.size ≤ k_) ∧ k_ ≠ gb195)) (by (with_reducible repeat (first | apply Kd.V_alloc | apply Kd.V_drewN | apply Kd.V_drew)); exact Kd.V_mono HL200_3.out (fun _ hk => ⟨⟨hk.1, hk.2.2⟩, hk.2.1⟩)) hg hat); have n8_ := Aside0.mk (Kd.V_afterv (ok := (fun k_ => ((P0_ k_ ∨ P1_2_ k_ ∨ P1_3_ k_) ∨ w.heap.size ≤ k_) ∧ k_ ≠ gb195)) (by (with_reducible repeat (first | apply Kd.V_alloc | apply Kd.V_drewN | apply Kd.V_drew)); exact Kd.V_mono HL202_2.out (fun _ hk => ⟨⟨hk.1, hk.2.2⟩, hk.2.1⟩)) hg hat); have n9_ := Aside0.mk (Kd.V_afterv (ok := (fun k_ => ((P0_ k_ ∨ P1_2_ k_ ∨ P1_3_ k_) ∨ w.heap.size ≤ k_) ∧ k_ ≠ gb195)) (by (with_reducible repeat (first | apply Kd.V_alloc | apply Kd.V_drewN | apply Kd.V_drew)); exact Kd.V_mono HL202_3.out (fun _ hk => ⟨⟨hk.1, hk.2.2⟩, hk.2.1⟩)) hg hat); have n10_ := Aside0.mk (hb); have n11_ := Aside0.mk (ho); clear HO_0; clear HO_196002; clear HO_196003; clear BK195; clear HL199_2; clear HL199_3; clear HL200_2; clear HL200_3; clear HL202_2; clear HL202_3; clear HB; clear HO_5; have HO_0 := n0_; have HO_196002 := n1_; have HO_196003 := n2_; have BK195 := n3_; have HL199_2 := n4_; have HL199_3 := n5_; have HL200_2 := n6_; have HL200_3 := n7_; have HL202_2 := n8_; have HL202_3 := n9_; have HB := n10_; have HO205 := n11_; clear n0_ n1_ n2_ n3_ n4_ n5_ n6_ n7_ n8_ n9_ n10_ n11_; clear ho hb hg hat)))
       go_roundg k1
       case measure => have := HK1.out; omega
       case rel => exact ⟨(y203), (wrap64 (x6_1 + 1)), (by first | rfl | (simp; done) | (simp [*]; done)), H', ⟨by have := HK1.out; omega⟩, ⟨by (with_reducible repeat (first | apply Kd.V_alloc | apply Kd.V_drewN | apply Kd.V_drew)); exact Kd.V_mono HO_0.out (fun _ hk => ⟨hk.1.1, ⟨hk.2, hk.1.2⟩⟩)⟩, ⟨by exact zN HO205.out⟩, ⟨by (with_reducible repeat (first | apply Kd.V_alloc | apply Kd.V_drewN | apply Kd.V_drew)); exact Kd.V_mono HO_196002.out (fun _ hk => ⟨hk.1.1, ⟨hk.2, hk.1.2⟩⟩)⟩, ⟨by (with_reducible repeat (first | apply Kd.V_alloc | apply Kd.V_drewN | apply Kd.V_drew)); exact Kd.V_mono HO_196003.out (fun _ hk => ⟨hk.1.1, ⟨hk.2, hk.1.2⟩⟩)⟩, ⟨by exact zK BK195.out⟩, ⟨by exact zB1 HB.out GE195.out⟩⟩
      ·rw [if_neg c10] at H
       exact absurd H (by simp)
     ·replace c9 := Bool.eq_false_iff.mpr c9
      subst c9
      have H1 : (spec_l12With.l0 k1 l0 x5_1 (wrap64 (x6_1 + 1)) a1_0 a1_1 l1_2 l1_3) = some r := by rw [if_neg (show ¬ (false = true) by decide)] at H; exact H
      clear H
      have H := H1
      clear H1
      have H' := Aside0.mk H
      clear H
      have p199 : 0 ≤ (x6_1 : Int) := of_decide_eq_true (by first | (with_reducible assumption) | assumption)
      have q199 : x6_1 < (l0.length : Int) := of_decide_eq_true (by first | (with_reducible assumption) | assumption)
      obtain ⟨ad199, A199_2, c199_2, A199_3, c199_3, e199, hx199_0, hx199_1, hx199_2, hx199_3, hl199_2, hi199_2, hl199_3, hi199_3⟩ := at_T26 (Kd.V_reads' HO_0.out).2.2 x6_1 p199 q199
      cases e199
      obtain ⟨ce199, hce199, hMe199, hcc199⟩ := Kd.V_get HO_0.out z26 x6_1 p199 (by first | exact q199 | exact of_decide_eq_true (by first | (with_reducible assumption) | assumption) | (have e_ := (Kd.V_reads' HO_0.out).1; omega))
      obtain ⟨ua199_2, uc199_2, ua199_3, uc199_3, rfl, ul199_2, ge199_2, ul199_3, ge199_3⟩ := k26_openF hMe199
      have hv199_2 := hcc199 2 _ rfl
      rw [add_field _ _ 2 (by omega)] at hv199_2
      replace hv199_2 := Option.some.inj (hv199_2.symm.trans hx199_2)
      injection hv199_2 with hva_ hvn_ hvc_
      rw [hva_] at ge199_2
      rw [hvc_] at ul199_2
      have HL199_2 := Aside0.mk (show Kd.V k82 82 _ w.heap.size _ _ ((rd_T26 l0 x6_1).f2) from Kd.V_mk ul199_2 ge199_2)
      clear hva_ hvn_ hvc_ ge199_2 ul199_2
      have hv199_3 := hcc199 3 _ rfl
      rw [add_field _ _ 3 (by omega)] at hv199_3
      replace hv199_3 := Option.some.inj (hv199_3.symm.trans hx199_3)
      injection hv199_3 with hva_ hvn_ hvc_
      rw [hva_] at ge199_3
      rw [hvc_] at ul199_3
      have HL199_3 := Aside0.mk (show Kd.V k30 30 _ w.heap.size _ _ ((rd_T26 l0 x6_1).f3) from Kd.V_mk ul199_3 ge199_3)
      clear hva_ hvn_ hvc_ ge199_3 ul199_3
      clear hcc199 hce199
      have HR199_2 := Aside0.mk hi199_2
      have HC199_2 := Aside0.mk hl199_2
      clear hi199_2 hl199_2
      have HR199_3 := Aside0.mk hi199_3
      have HC199_3 := Aside0.mk hl199_3
      clear hi199_3 hl199_3
      replace p199 := eq_true p199
      replace q199 := eq_true q199
      have p200 : 0 ≤ (x6_1 : Int) := of_decide_eq_true (by first | (with_reducible assumption) | assumption)
      have q200 : x6_1 < (l0.length : Int) := of_decide_eq_true (by first | (with_reducible assumption) | assumption)
      obtain ⟨ad200, A200_2, c200_2, A200_3, c200_3, e200, hx200_0, hx200_1, hx200_2, hx200_3, hl200_2, hi200_2, hl200_3, hi200_3⟩ := at_T26 (Kd.V_reads' HO_0.out).2.2 x6_1 p200 q200
      obtain rfl : ad199 = ad200 := (by injection e200)
      obtain ⟨ce200, hce200, hMe200, hcc200⟩ := Kd.V_get HO_0.out z26 x6_1 p200 (by first | exact q200 | exact of_decide_eq_true (by first | (with_reducible assumption) | assumption) | (have e_ := (Kd.V_reads' HO_0.out).1; omega))
      obtain ⟨ua200_2, uc200_2, ua200_3, uc200_3, rfl, ul200_2, ge200_2, ul200_3, ge200_3⟩ := k26_openF hMe200
      have hv200_2 := hcc200 2 _ rfl
      rw [add_field _ _ 2 (by omega)] at hv200_2
      replace hv200_2 := Option.some.inj (hv200_2.symm.trans hx200_2)
      injection hv200_2 with hva_ hvn_ hvc_
      rw [hva_] at ge200_2
      rw [hvc_] at ul200_2
      have HL200_2 := Aside0.mk (show Kd.V k82 82 _ w.heap.size _ _ ((rd_T26 l0 x6_1).f2) from Kd.V_mk ul200_2 ge200_2)
      clear hva_ hvn_ hvc_ ge200_2 ul200_2
      have hv200_3 := hcc200 3 _ rfl
      rw [add_field _ _ 3 (by omega)] at hv200_3
      replace hv200_3 := Option.some.inj (hv200_3.symm.trans hx200_3)
      injection hv200_3 with hva_ hvn_ hvc_
      rw [hva_] at ge200_3
      rw [hvc_] at ul200_3
      have HL200_3 := Aside0.mk (show Kd.V k30 30 _ w.heap.size _ _ ((rd_T26 l0 x6_1).f3) from Kd.V_mk ul200_3 ge200_3)
      clear hva_ hvn_ hvc_ ge200_3 ul200_3
      clear hcc200 hce200
      have HR200_2 := Aside0.mk hi200_2
      have HC200_2 := Aside0.mk hl200_2
      clear hi200_2 hl200_2
      have HR200_3 := Aside0.mk hi200_3
      have HC200_3 := Aside0.mk hl200_3
      clear hi200_3 hl200_3
      replace p200 := eq_true p200
      replace q200 := eq_true q200
      have ea_ := Option.some.inj (hx199_2.symm.trans hx200_2)
      injection ea_ with ea_ en_ ec_
      subst ea_
      subst ec_
      clear en_
      have ea_ := Option.some.inj (hx199_3.symm.trans hx200_3)
      injection ea_ with ea_ en_ ec_
      subst ea_
      subst ec_
      clear en_
      obtain ⟨hcz13_0, hcz13_1, hcz13_2, hcz13_3, hfz13_0, hfz13_1, hfz13_2, hfz13_3⟩ := zc4f BK195.out
      go_wp2_with (first | (go_at_call 71; (with_reducible refine (spec_l3Less.calls ((rd_T26 l0 x6_1).f0) ((rd_T26 l0 x6_1).f1) a1_0 a1_1 false _ A8.out).mono ?_); rintro e w' ⟨rfl, ⟨nd, rfl⟩⟩; (try first | exact ⟨rfl, _, World.drewN_drewN _ _ _⟩ | exact ⟨rfl, _, Eq.trans (World.drewN_drewN _ _ _) (congrArg (World.drewN _) (Nat.add_assoc _ _ _))⟩)))
      repeat (go_quiet (first | (go_at_call 71; (with_reducible refine (spec_l3Less.calls ((rd_T26 l0 x6_1).f0) ((rd_T26 l0 x6_1).f1) a1_0 a1_1 false _ A8.out).mono ?_); rintro e w' ⟨rfl, ⟨nd, rfl⟩⟩; (try first | exact ⟨rfl, _, World.drewN_drewN _ _ _⟩ | exact ⟨rfl, _, Eq.trans (World.drewN_drewN _ _ _) (congrArg (World.drewN _) (Nat.add_assoc _ _ _))⟩))); try go_wp2_with (first | (go_at_call 71; (with_reducible refine (spec_l3Less.calls ((rd_T26 l0 x6_1).f0) ((rd_T26 l0 x6_1).f1) a1_0 a1_1 false _ A8.out).mono ?_); rintro e w' ⟨rfl, ⟨nd, rfl⟩⟩; (try first | exact ⟨rfl, _, World.drewN_drewN _ _ _⟩ | exact ⟨rfl, _, Eq.trans (World.drewN_drewN _ _ _) (congrArg (World.drewN _) (Nat.add_assoc _ _ _))⟩))))
      go_roundg k1
      case measure => have := HK1.out; omega
      case rel => exact ⟨(x5_1), (wrap64 (x6_1 + 1)), (by first | rfl | (simp; done) | (simp [*]; done)), H', ⟨by have := HK1.out; omega⟩, ⟨by (with_reducible repeat (first | apply Kd.V_alloc | apply Kd.V_drewN | apply Kd.V_drew)); exact HO_0.out⟩, ⟨by exact zN HO_5.out⟩, ⟨by (with_reducible repeat (first | apply Kd.V_alloc | apply Kd.V_drewN | apply Kd.V_drew)); exact HO_196002.out⟩, ⟨by (with_reducible repeat (first | apply Kd.V_alloc | apply Kd.V_drewN | apply Kd.V_drew)); exact HO_196003.out⟩, ⟨by exact zK BK195.out⟩, ⟨by exact zB1 HB.out GE195.out⟩⟩
    ·rw [if_neg c7] at H
     exact absurd H (by simp)
   ·rw [if_neg c6] at H
    have c6b0 : decide (x6_1 < (l0.length : Int)) = false := decide_eq_false c6
    clear c6
    by_cases c14 : x5_1.length < 2199023255552
    ·rw [if_pos c14] at H
     have LMc14 := Aside0.mk c14
     clear c14
     obtain ⟨y206, hy206⟩ : ∃ y_ : List (S26), y_ = (x5_1 ++ [(⟨a1_0, a1_1, l1_2, l1_3⟩ : S26)]) := ⟨_, rfl⟩
     replace H : (spec_l12With.l1 k1 l0 y206 0 a1_0 a1_1 l1_2 l1_3) = some r := by first | (rw [hy206]; with_reducible exact H) | (have H2_ := (Option.bind_some _ _).symm.trans H; rw [hy206]; with_reducible exact H2_) | (have H2_ := (Option.bind_some _ _).symm.trans H; with_reducible exact H2_) | with_reducible exact H | (rw [hy206]; exact H) | exact H
     have Ny206 := Aside0.mk hy206
     clear hy206
     have H' := Aside0.mk H
     clear H
     obtain ⟨hcz15_0, hcz15_1, hcz15_2, hcz15_3, hfz15_0, hfz15_1, hfz15_2, hfz15_3⟩ := zc4f BK195.out
     go_wp2_with (first | ((with_reducible refine gate_builtin (b := .append) (xs := #[.tmp 37, .tmp 39]) rfl ?_); at_builtin; refine Kd.N_append k26 (w0 := w) w.heap.size rfl (.tmp 37) (.tmp 39) 117 26 (.agg #[(.int .i64 0), (.int .i64 0), (.slice none 0 0), (.slice none 0 0)]) 64 rfl Try.underlying117 info26 rfl (by decide) (by omega) u5 x5_1 (⟨a1_0, a1_1, l1_2, l1_3⟩ : S26) [.int .i64 a1_0, .int .i64 a1_1, .slice A1_2 l1_2.length c1_2, .slice A1_3 l1_3.length c1_3] (fun k_ => ((P0_ k_ ∨ P1_2_ k_ ∨ P1_3_ k_) ∨ w.heap.size ≤ k_) ∧ k_ ≠ gb195) (fun k_ => ((fun k_ => ((P0_ k_ ∨ P1_2_ k_ ∨ P1_3_ k_) ∨ w.heap.size ≤ k_) ∧ k_ ≠ gb195)) k_ ∧ some k_ ≠ (u5 : Value).ownBlock) rfl rfl ?aP (fun _ hk => hk) ?aF ?aO ?aB ?aS ?aL ?_; (case aP => exact (k26_mkF _ _ (⟨a1_0, a1_1, l1_2, l1_3⟩ : S26) (Kd.V_reads' (Kd.V_mono (ok' := (fun k_ => ((fun k_ => ((P0_ k_ ∨ P1_2_ k_ ∨ P1_3_ k_) ∨ w.heap.size ≤ k_) ∧ k_ ≠ gb195)) k_ ∧ some k_ ≠ (u5 : Value).ownBlock)) (HO_196002.out) (fun k_ hk => ⟨⟨hk.1, hk.2.2⟩, hk.2.1⟩))).2.1 (Kd.V_F (Kd.V_mono (ok' := (fun k_ => ((fun k_ => ((P0_ k_ ∨ P1_2_ k_ ∨ P1_3_ k_) ∨ w.heap.size ≤ k_) ∧ k_ ≠ gb195)) k_ ∧ some k_ ≠ (u5 : Value).ownBlock)) (HO_196002.out) (fun k_ hk => ⟨⟨hk.1, hk.2.2⟩, hk.2.1⟩))) (Kd.V_reads' (Kd.V_mono (ok' := (fun k_ => ((fun k_ => ((P0_ k_ ∨ P1_2_ k_ ∨ P1_3_ k_) ∨ w.heap.size ≤ k_) ∧ k_ ≠ gb195)) k_ ∧ some k_ ≠ (u5 : Value).ownBlock)) (HO_196003.out) (fun k_ hk => ⟨⟨hk.1, hk.2.2⟩, hk.2.1⟩))).2.1 (Kd.V_F (Kd.V_mono (ok' := (fun k_ => ((fun k_ => ((P0_ k_ ∨ P1_2_ k_ ∨ P1_3_ k_) ∨ w.heap.size ≤ k_) ∧ k_ ≠ gb195)) k_ ∧ some k_ ≠ (u5 : Value).ownBlock)) (HO_196003.out) (fun k_ hk => ⟨⟨hk.1, hk.2.2⟩, hk.2.1⟩))))); (case aB => exact (by exact zB1 HB.out GE195.out)); (case aF => exact (fun k_ hk => ⟨(.inr (Nat.le_trans (below_size (by exact zB1 HB.out GE195.out)) hk)), Kd.freshB (g := gb195) (o := .cells #[.int .i64 a1_0, .int .i64 a1_1, .slice A1_2 l1_2.length c1_2, .slice A1_3 l1_3.length c1_3] 26 (0, 0)) (by exact zK BK195.out) k_ hk⟩)); (case aO => exact (by exact zN HO_5.out)); (case aS => exact (below_size (by exact zB1 HB.out GE195.out))); (case aL => have := LMc14.out; omega); intro v207 w16 ho hb hg hat; rw [← Ny206.out] at ho; have n0_ := Aside0.mk (Kd.V_afterv (ok := (fun k_ => ((P0_ k_ ∨ P1_2_ k_ ∨ P1_3_ k_) ∨ w.heap.size ≤ k_) ∧ k_ ≠ gb195)) (by (with_reducible repeat (first | apply Kd.V_alloc | apply Kd.V_drewN | apply Kd.V_drew)); exact Kd.V_mono HO_0.out (fun _ hk => ⟨⟨hk.1, hk.2.2⟩, hk.2.1⟩)) hg hat); have n1_ := Aside0.mk (Kd.V_afterv (ok := (fun k_ => ((P0_ k_ ∨ P1_2_ k_ ∨ P1_3_ k_) ∨ w.heap.size ≤ k_) ∧ k_ ≠ gb195)) (by (with_reducible repeat (first | apply Kd.V_alloc | apply Kd.V_drewN | apply Kd.V_drew)); exact Kd.V_mono HO_196002.out (fun _ hk => ⟨⟨hk.1, hk.2.2⟩, hk.2.1⟩)) hg hat); have n2_ := Aside0.mk (Kd.V_afterv (ok := (fun k_ => ((P0_ k_ ∨ P1_2_ k_ ∨ P1_3_ k_) ∨ w.heap.size ≤ k_) ∧ k_ ≠ gb195)) (by (with_reducible repeat (first | apply Kd.V_alloc | apply Kd.V_drewN | apply Kd.V_drew)); exact Kd.V_mono HO_196003.out (fun _ hk => ⟨⟨hk.1, hk.2.2⟩, hk.2.1⟩)) hg hat); have n3_ := Aside0.mk (blk_grown (g := gb195) (o := .cells #[.int .i64 a1_0, .int .i64 a1_1, .slice A1_2 l1_2.length c1_2, .slice A1_3 l1_3.length c1_3] 26 (0, 0)) (by exact zK BK195.out) hg (Kd.N_away HO_5.out (fun _ hk => hk.2))); have n4_ := Aside0.mk (hb); have n5_ := Aside0.mk (ho); clear HO_0; clear HO_196002; clear HO_196003; clear BK195; clear HB; clear HO_5; have HO_0 := n0_; have HO_196002 := n1_; have HO_196003 := n2_; have BK195 := n3_; have HB := n4_; have HO208 := n5_; clear n0_ n1_ n2_ n3_ n4_ n5_; clear ho hb hg hat))
     repeat (go_quiet (first | ((with_reducible refine gate_builtin (b := .append) (xs := #[.tmp 37, .tmp 39]) rfl ?_); at_builtin; refine Kd.N_append k26 (w0 := w) w.heap.size rfl (.tmp 37) (.tmp 39) 117 26 (.agg #[(.int .i64 0), (.int .i64 0), (.slice none 0 0), (.slice none 0 0)]) 64 rfl Try.underlying117 info26 rfl (by decide) (by omega) u5 x5_1 (⟨a1_0, a1_1, l1_2, l1_3⟩ : S26) [.int .i64 a1_0, .int .i64 a1_1, .slice A1_2 l1_2.length c1_2, .slice A1_3 l1_3.length c1_3] (fun k_ => ((P0_ k_ ∨ P1_2_ k_ ∨ P1_3_ k_) ∨ w.heap.size ≤ k_) ∧ k_ ≠ gb195) (fun k_ => ((fun k_ => ((P0_ k_ ∨ P1_2_ k_ ∨ P1_3_ k_) ∨ w.heap.size ≤ k_) ∧ k_ ≠ gb195)) k_ ∧ some k_ ≠ (u5 : Value).ownBlock) rfl rfl ?aP (fun _ hk => hk) ?aF ?aO ?aB ?aS ?aL ?_; (case aP => exact (k26_mkF _ _ (⟨a1_0, a1_1, l1_2, l1_3⟩ : S26) (Kd.V_reads' (Kd.V_mono (ok' := (fun k_ => ((fun k_ => ((P0_ k_ ∨ P1_2_ k_ ∨ P1_3_ k_) ∨ w.heap.size ≤ k_) ∧ k_ ≠ gb195)) k_ ∧ some k_ ≠ (u5 : Value).ownBlock)) (HO_196002.out) (fun k_ hk => ⟨⟨hk.1, hk.2.2⟩, hk.2.1⟩))).2.1 (Kd.V_F (Kd.V_mono (ok' := (fun k_ => ((fun k_ => ((P0_ k_ ∨ P1_2_ k_ ∨ P1_3_ k_) ∨ w.heap.size ≤ k_) ∧ k_ ≠ gb195)) k_ ∧ some k_ ≠ (u5 : Value).ownBlock)) (HO_196002.out) (fun k_ hk => ⟨⟨hk.1, hk.2.2⟩, hk.2.1⟩))) (Kd.V_reads' (Kd.V_mono (ok' := (fun k_ => ((fun k_ => ((P0_ k_ ∨ P1_2_ k_ ∨ P1_3_ k_) ∨ w.heap.size ≤ k_) ∧ k_ ≠ gb195)) k_ ∧ some k_ ≠ (u5 : Value).ownBlock)) (HO_196003.out) (fun k_ hk => ⟨⟨hk.1, hk.2.2⟩, hk.2.1⟩))).2.1 (Kd.V_F (Kd.V_mono (ok' := (fun k_ => ((fun k_ => ((P0_ k_ ∨ P1_2_ k_ ∨ P1_3_ k_) ∨ w.heap.size ≤ k_) ∧ k_ ≠ gb195)) k_ ∧ some k_ ≠ (u5 : Value).ownBlock)) (HO_196003.out) (fun k_ hk => ⟨⟨hk.1, hk.2.2⟩, hk.2.1⟩))))); (case aB => exact (by exact zB1 HB.out GE195.out)); (case aF => exact (fun k_ hk => ⟨(.inr (Nat.le_trans (below_size (by exact zB1 HB.out GE195.out)) hk)), Kd.freshB (g := gb195) (o := .cells #[.int .i64 a1_0, .int .i64 a1_1, .slice A1_2 l1_2.length c1_2, .slice A1_3 l1_3.length c1_3] 26 (0, 0)) (by exact zK BK195.out) k_ hk⟩)); (case aO => exact (by exact zN HO_5.out)); (case aS => exact (below_size (by exact zB1 HB.out GE195.out))); (case aL => have := LMc14.out; omega); intro v207 w16 ho hb hg hat; rw [← Ny206.out] at ho; have n0_ := Aside0.mk (Kd.V_afterv (ok := (fun k_ => ((P0_ k_ ∨ P1_2_ k_ ∨ P1_3_ k_) ∨ w.heap.size ≤ k_) ∧ k_ ≠ gb195)) (by (with_reducible repeat (first | apply Kd.V_alloc | apply Kd.V_drewN | apply Kd.V_drew)); exact Kd.V_mono HO_0.out (fun _ hk => ⟨⟨hk.1, hk.2.2⟩, hk.2.1⟩)) hg hat); have n1_ := Aside0.mk (Kd.V_afterv (ok := (fun k_ => ((P0_ k_ ∨ P1_2_ k_ ∨ P1_3_ k_) ∨ w.heap.size ≤ k_) ∧ k_ ≠ gb195)) (by (with_reducible repeat (first | apply Kd.V_alloc | apply Kd.V_drewN | apply Kd.V_drew)); exact Kd.V_mono HO_196002.out (fun _ hk => ⟨⟨hk.1, hk.2.2⟩, hk.2.1⟩)) hg hat); have n2_ := Aside0.mk (Kd.V_afterv (ok := (fun k_ => ((P0_ k_ ∨ P1_2_ k_ ∨ P1_3_ k_) ∨ w.heap.size ≤ k_) ∧ k_ ≠ gb195)) (by (with_reducible repeat (first | apply Kd.V_alloc | apply Kd.V_drewN | apply Kd.V_drew)); exact Kd.V_mono HO_196003.out (fun _ hk => ⟨⟨hk.1, hk.2.2⟩, hk.2.1⟩)) hg hat); have n3_ := Aside0.mk (blk_grown (g := gb195) (o := .cells #[.int .i64 a1_0, .int .i64 a1_1, .slice A1_2 l1_2.length c1_2, .slice A1_3 l1_3.length c1_3] 26 (0, 0)) (by exact zK BK195.out) hg (Kd.N_away HO_5.out (fun _ hk => hk.2))); have n4_ := Aside0.mk (hb); have n5_ := Aside0.mk (ho); clear HO_0; clear HO_196002; clear HO_196003; clear BK195; clear HB; clear HO_5; have HO_0 := n0_; have HO_196002 := n1_; have HO_196003 := n2_; have BK195 := n3_; have HB := n4_; have HO208 := n5_; clear n0_ n1_ n2_ n3_ n4_ n5_; clear ho hb hg hat)); try go_wp2_with (first | ((with_reducible refine gate_builtin (b := .append) (xs := #[.tmp 37, .tmp 39]) rfl ?_); at_builtin; refine Kd.N_append k26 (w0 := w) w.heap.size rfl (.tmp 37) (.tmp 39) 117 26 (.agg #[(.int .i64 0), (.int .i64 0), (.slice none 0 0), (.slice none 0 0)]) 64 rfl Try.underlying117 info26 rfl (by decide) (by omega) u5 x5_1 (⟨a1_0, a1_1, l1_2, l1_3⟩ : S26) [.int .i64 a1_0, .int .i64 a1_1, .slice A1_2 l1_2.length c1_2, .slice A1_3 l1_3.length c1_3] (fun k_ => ((P0_ k_ ∨ P1_2_ k_ ∨ P1_3_ k_) ∨ w.heap.size ≤ k_) ∧ k_ ≠ gb195) (fun k_ => ((fun k_ => ((P0_ k_ ∨ P1_2_ k_ ∨ P1_3_ k_) ∨ w.heap.size ≤ k_) ∧ k_ ≠ gb195)) k_ ∧ some k_ ≠ (u5 : Value).ownBlock) rfl rfl ?aP (fun _ hk => hk) ?aF ?aO ?aB ?aS ?aL ?_; (case aP => exact (k26_mkF _ _ (⟨a1_0, a1_1, l1_2, l1_3⟩ : S26) (Kd.V_reads' (Kd.V_mono (ok' := (fun k_ => ((fun k_ => ((P0_ k_ ∨ P1_2_ k_ ∨ P1_3_ k_) ∨ w.heap.size ≤ k_) ∧ k_ ≠ gb195)) k_ ∧ some k_ ≠ (u5 : Value).ownBlock)) (HO_196002.out) (fun k_ hk => ⟨⟨hk.1, hk.2.2⟩, hk.2.1⟩))).2.1 (Kd.V_F (Kd.V_mono (ok' := (fun k_ => ((fun k_ => ((P0_ k_ ∨ P1_2_ k_ ∨ P1_3_ k_) ∨ w.heap.size ≤ k_) ∧ k_ ≠ gb195)) k_ ∧ some k_ ≠ (u5 : Value).ownBlock)) (HO_196002.out) (fun k_ hk => ⟨⟨hk.1, hk.2.2⟩, hk.2.1⟩))) (Kd.V_reads' (Kd.V_mono (ok' := (fun k_ => ((fun k_ => ((P0_ k_ ∨ P1_2_ k_ ∨ P1_3_ k_) ∨ w.heap.size ≤ k_) ∧ k_ ≠ gb195)) k_ ∧ some k_ ≠ (u5 : Value).ownBlock)) (HO_196003.out) (fun k_ hk => ⟨⟨hk.1, hk.2.2⟩, hk.2.1⟩))).2.1 (Kd.V_F (Kd.V_mono (ok' := (fun k_ => ((fun k_ => ((P0_ k_ ∨ P1_2_ k_ ∨ P1_3_ k_) ∨ w.heap.size ≤ k_) ∧ k_ ≠ gb195)) k_ ∧ some k_ ≠ (u5 : Value).ownBlock)) (HO_196003.out) (fun k_ hk => ⟨⟨hk.1, hk.2.2⟩, hk.2.1⟩))))); (case aB => exact (by exact zB1 HB.out GE195.out)); (case aF => exact (fun k_ hk => ⟨(.inr (Nat.le_trans (below_size (by exact zB1 HB.out GE195.out)) hk)), Kd.freshB (g := gb195) (o := .cells #[.int .i64 a1_0, .int .i64 a1_1, .slice A1_2 l1_2.length c1_2, .slice A1_3 l1_3.length c1_3] 26 (0, 0)) (by exact zK BK195.out) k_ hk⟩)); (case aO => exact (by exact zN HO_5.out)); (case aS => exact (below_size (by exact zB1 HB.out GE195.out))); (case aL => have := LMc14.out; omega); intro v207 w16 ho hb hg hat; rw [← Ny206.out] at ho; have n0_ := Aside0.mk (Kd.V_afterv (ok := (fun k_ => ((P0_ k_ ∨ P1_2_ k_ ∨ P1_3_ k_) ∨ w.heap.size ≤ k_) ∧ k_ ≠ gb195)) (by (with_reducible repeat (first | apply Kd.V_alloc | apply Kd.V_drewN | apply Kd.V_drew)); exact Kd.V_mono HO_0.out (fun _ hk => ⟨⟨hk.1, hk.2.2⟩, hk.2.1⟩)) hg hat); have n1_ := Aside0.mk (Kd.V_afterv (ok := (fun k_ => ((P0_ k_ ∨ P1_2_ k_ ∨ P1_3_ k_) ∨ w.heap.size ≤ k_) ∧ k_ ≠ gb195)) (by (with_reducible repeat (first | apply Kd.V_alloc | apply Kd.V_drewN | apply Kd.V_drew)); exact Kd.V_mono HO_196002.out (fun _ hk => ⟨⟨hk.1, hk.2.2⟩, hk.2.1⟩)) hg hat); have n2_ := Aside0.mk (Kd.V_afterv (ok := (fun k_ => ((P0_ k_ ∨ P1_2_ k_ ∨ P1_3_ k_) ∨ w.heap.size ≤ k_) ∧ k_ ≠ gb195)) (by (with_reducible repeat (first | apply Kd.V_alloc | apply Kd.V_drewN | apply Kd.V_drew)); exact Kd.V_mono HO_196003.out (fun _ hk => ⟨⟨hk.1, hk.2.2⟩, hk.2.1⟩)) hg hat); have n3_ := Aside0.mk (blk_grown (g := gb195) (o := .cells #[.int .i64 a1_0, .int .i64 a1_1, .slice A1_2 l1_2.length c1_2, .slice A1_3 l1_3.length c1_3] 26 (0, 0)) (by exact zK BK195.out) hg (Kd.N_away HO_5.out (fun _ hk => hk.2))); have n4_ := Aside0.mk (hb); have n5_ := Aside0.mk (ho); clear HO_0; clear HO_196002; clear HO_196003; clear BK195; clear HB; clear HO_5; have HO_0 := n0_; have HO_196002 := n1_; have HO_196003 := n2_; have BK195 := n3_; have HB := n4_; have HO208 := n5_; clear n0_ n1_ n2_ n3_ n4_ n5_; clear ho hb hg hat)))
     go_loopg [5, 7] k1 (fun kq v5 v7 w' => ∃ (x5_2 : List (S26)) (x7_2 : Int), v7 = .int .i64 x7_2 ∧ Aside0 (spec_l12With.l1 kq l0 x5_2 x7_2 a1_0 a1_1 l1_2 l1_3 = some r) ∧ Aside0 (kq ≤ k1) ∧ Aside0 (Kd.V k26 26 w' w.heap.size (fun k_ => ((P0_ k_ ∨ P1_2_ k_ ∨ P1_3_ k_) ∨ w.heap.size ≤ k_) ∧ some k_ ≠ (v5 : Value).ownBlock ∧ k_ ≠ gb195) (.slice A0 l0.length c0) l0) ∧ Aside0 (Kd.N k26 26 w' w.heap.size (fun k_ => ((P0_ k_ ∨ P1_2_ k_ ∨ P1_3_ k_) ∨ w.heap.size ≤ k_) ∧ k_ ≠ gb195) v5 x5_2) ∧ Aside0 (Kd.V k82 82 w' w.heap.size (fun k_ => ((P0_ k_ ∨ P1_2_ k_ ∨ P1_3_ k_) ∨ w.heap.size ≤ k_) ∧ some k_ ≠ (v5 : Value).ownBlock ∧ k_ ≠ gb195) (.slice A1_2 l1_2.length c1_2) l1_2) ∧ Aside0 (Kd.V k30 30 w' w.heap.size (fun k_ => ((P0_ k_ ∨ P1_2_ k_ ∨ P1_3_ k_) ∨ w.heap.size ≤ k_) ∧ some k_ ≠ (v5 : Value).ownBlock ∧ k_ ≠ gb195) (.slice A1_3 l1_3.length c1_3) l1_3) ∧ Aside0 (w'.heap[gb195]? = some (.cells #[.int .i64 a1_0, .int .i64 a1_1, (.slice A1_2 l1_2.length c1_2), (.slice A1_3 l1_3.length c1_3)] 26 (0, 0))) ∧ Aside0 (Below w.heap.size w w'))
     case atStart => exact ⟨(y206), (0), (by first | rfl | (simp; done) | (simp [*]; done)), H', ⟨Nat.le_refl _⟩, ⟨by (with_reducible repeat (first | apply Kd.V_alloc | apply Kd.V_drewN | apply Kd.V_drew)); exact Kd.V_mono HO_0.out (fun _ hk => ⟨hk.1.1, ⟨hk.2, hk.1.2⟩⟩)⟩, ⟨by exact zN HO208.out⟩, ⟨by (with_reducible repeat (first | apply Kd.V_alloc | apply Kd.V_drewN | apply Kd.V_drew)); exact Kd.V_mono HO_196002.out (fun _ hk => ⟨hk.1.1, ⟨hk.2, hk.1.2⟩⟩)⟩, ⟨by (with_reducible repeat (first | apply Kd.V_alloc | apply Kd.V_drewN | apply Kd.V_drew)); exact Kd.V_mono HO_196003.out (fun _ hk => ⟨hk.1.1, ⟨hk.2, hk.1.2⟩⟩)⟩, ⟨by exact zK BK195.out⟩, ⟨by exact zB1 HB.out GE195.out⟩⟩
     case round =>
      clear H'
      try clear c1
      try clear p1
      try clear q1
      try clear hx1
      try clear c2
      try clear p2
      try clear q2
      try clear hx2
      try clear c6
      try clear c6b0
      try clear p6
      try clear c7
      try clear c7b0
      try clear c8
      try clear c9
      try clear c10
      try clear c14
      try clear hcz11_0
      try clear hcz11_1
      try clear hcz11_2
      try clear hcz11_3
      try clear hcz13_0
      try clear hcz13_1
      try clear hcz13_2
      try clear hcz13_3
      try clear hcz15_0
      try clear hcz15_1
      try clear hcz15_2
      try clear hcz15_3
      try clear hfz11_0
      try clear hfz11_1
      try clear hfz11_2
      try clear hfz11_3
      try clear hfz13_0
      try clear hfz13_1
      try clear hfz13_2
      try clear hfz13_3
      try clear hfz15_0
      try clear hfz15_1
      try clear hfz15_2
      try clear hfz15_3
      try clear hx199_0
      try clear hx199_1
      try clear hx199_2
      try clear hx199_3
      try clear hx200_0
      try clear hx200_1
      try clear hx200_2
      try clear hx200_3
      try clear hx202_0
      try clear hx202_1
      try clear hx202_2
      try clear hx202_3
      try clear p199
      try clear p2
      try clear p200
      try clear p202
      try clear q199
      try clear q200
      try clear q202
      obtain ⟨x5_2, x7_2, rfl, HA, HK2, HO_0, HO_5, HO_196002, HO_196003, BK195, HB⟩ := hrel
      cases gk with
      | zero => exact absurd HA.out (by simp [spec_l12With.l1])
      | succ k2 =>
       have H := HA.out
       clear HA
       simp only [spec_l12With.l1] at H
       by_cases c17 : x7_2 < (l0.length : Int)
       ·rw [if_pos c17] at H
        have c17b0 : decide (x7_2 < (l0.length : Int)) = true := decide_eq_true c17
        clear c17
        by_cases c18 : 0 ≤ x7_2
        ·rw [if_pos c18] at H
         have c18b0 : decide (0 ≤ x7_2) = true := decide_eq_true c18
         clear c18
         replace H := Option.bind_eq_some_iff.mp H
         obtain ⟨t211, A190, H⟩ := H
         replace H : (if t211 = true then (if x5_2.length < 2199023255552 then (spec_l12With.l1 k2 l0 (x5_2 ++ [(⟨(rd_T26 l0 x7_2).f0, (rd_T26 l0 x7_2).f1, (rd_T26 l0 x7_2).f2, (rd_T26 l0 x7_2).f3⟩ : S26)]) (wrap64 (x7_2 + 1)) a1_0 a1_1 l1_2 l1_3) else (none)) else (spec_l12With.l1 k2 l0 x5_2 (wrap64 (x7_2 + 1)) a1_0 a1_1 l1_2 l1_3)) = some r := H
         have A19 := Aside0.mk A190
         clear A190
         by_cases c20 : t211 = true
         ·subst c20
          have H1 : (if x5_2.length < 2199023255552 then (spec_l12With.l1 k2 l0 (x5_2 ++ [(⟨(rd_T26 l0 x7_2).f0, (rd_T26 l0 x7_2).f1, (rd_T26 l0 x7_2).f2, (rd_T26 l0 x7_2).f3⟩ : S26)]) (wrap64 (x7_2 + 1)) a1_0 a1_1 l1_2 l1_3) else (none)) = some r := by rw [if_pos rfl] at H; exact H
          clear H
          have H := H1
          clear H1
          by_cases c21 : x5_2.length < 2199023255552
          ·rw [if_pos c21] at H
           have LMc21 := Aside0.mk c21
           clear c21
           obtain ⟨y213, hy213⟩ : ∃ y_ : List (S26), y_ = (x5_2 ++ [(⟨(rd_T26 l0 x7_2).f0, (rd_T26 l0 x7_2).f1, (rd_T26 l0 x7_2).f2, (rd_T26 l0 x7_2).f3⟩ : S26)]) := ⟨_, rfl⟩
           replace H : (spec_l12With.l1 k2 l0 y213 (wrap64 (x7_2 + 1)) a1_0 a1_1 l1_2 l1_3) = some r := by first | (rw [hy213]; with_reducible exact H) | (have H2_ := (Option.bind_some _ _).symm.trans H; rw [hy213]; with_reducible exact H2_) | (have H2_ := (Option.bind_some _ _).symm.trans H; with_reducible exact H2_) | with_reducible exact H | (rw [hy213]; exact H) | exact H
           have Ny213 := Aside0.mk hy213
           clear hy213
           have H' := Aside0.mk H
           clear H
           obtain ⟨hcz22_0, hcz22_1, hcz22_2, hcz22_3, hfz22_0, hfz22_1, hfz22_2, hfz22_3⟩ := zc4f BK195.out
           have p209 : 0 ≤ (x7_2 : Int) := of_decide_eq_true (by first | (with_reducible assumption) | assumption)
           have q209 : x7_2 < (l0.length : Int) := of_decide_eq_true (by first | (with_reducible assumption) | assumption)
           obtain ⟨ad209, A209_2, c209_2, A209_3, c209_3, e209, hx209_0, hx209_1, hx209_2, hx209_3, hl209_2, hi209_2, hl209_3, hi209_3⟩ := at_T26 (Kd.V_reads' HO_0.out).2.2 x7_2 p209 q209
           cases e209
           obtain ⟨ce209, hce209, hMe209, hcc209⟩ := Kd.V_get HO_0.out z26 x7_2 p209 (by first | exact q209 | exact of_decide_eq_true (by first | (with_reducible assumption) | assumption) | (have e_ := (Kd.V_reads' HO_0.out).1; omega))
           obtain ⟨ua209_2, uc209_2, ua209_3, uc209_3, rfl, ul209_2, ge209_2, ul209_3, ge209_3⟩ := k26_openF hMe209
           have hv209_2 := hcc209 2 _ rfl
           rw [add_field _ _ 2 (by omega)] at hv209_2
           replace hv209_2 := Option.some.inj (hv209_2.symm.trans hx209_2)
           injection hv209_2 with hva_ hvn_ hvc_
           rw [hva_] at ge209_2
           rw [hvc_] at ul209_2
           have HL209_2 := Aside0.mk (show Kd.V k82 82 _ w.heap.size _ _ ((rd_T26 l0 x7_2).f2) from Kd.V_mk ul209_2 ge209_2)
           clear hva_ hvn_ hvc_ ge209_2 ul209_2
           have hv209_3 := hcc209 3 _ rfl
           rw [add_field _ _ 3 (by omega)] at hv209_3
           replace hv209_3 := Option.some.inj (hv209_3.symm.trans hx209_3)
           injection hv209_3 with hva_ hvn_ hvc_
           rw [hva_] at ge209_3
           rw [hvc_] at ul209_3
           have HL209_3 := Aside0.mk (show Kd.V k30 30 _ w.heap.size _ _ ((rd_T26 l0 x7_2).f3) from Kd.V_mk ul209_3 ge209_3)
           clear hva_ hvn_ hvc_ ge209_3 ul209_3
           clear hcc209 hce209
           have HR209_2 := Aside0.mk hi209_2
           have HC209_2 := Aside0.mk hl209_2
           clear hi209_2 hl209_2
           have HR209_3 := Aside0.mk hi209_3
           have HC209_3 := Aside0.mk hl209_3
           clear hi209_3 hl209_3
           replace p209 := eq_true p209
           replace q209 := eq_true q209
           have p210 : 0 ≤ (x7_2 : Int) := of_decide_eq_true (by first | (with_reducible assumption) | assumption)
           have q210 : x7_2 < (l0.length : Int) := of_decide_eq_true (by first | (with_reducible assumption) | assumption)
           obtain ⟨ad210, A210_2, c210_2, A210_3, c210_3, e210, hx210_0, hx210_1, hx210_2, hx210_3, hl210_2, hi210_2, hl210_3, hi210_3⟩ := at_T26 (Kd.V_reads' HO_0.out).2.2 x7_2 p210 q210
           obtain rfl : ad209 = ad210 := (by injection e210)
           obtain ⟨ce210, hce210, hMe210, hcc210⟩ := Kd.V_get HO_0.out z26 x7_2 p210 (by first | exact q210 | exact of_decide_eq_true (by first | (with_reducible assumption) | assumption) | (have e_ := (Kd.V_reads' HO_0.out).1; omega))
           obtain ⟨ua210_2, uc210_2, ua210_3, uc210_3, rfl, ul210_2, ge210_2, ul210_3, ge210_3⟩ := k26_openF hMe210
           have hv210_2 := hcc210 2 _ rfl
           rw [add_field _ _ 2 (by omega)] at hv210_2
           replace hv210_2 := Option.some.inj (hv210_2.symm.trans hx210_2)
           injection hv210_2 with hva_ hvn_ hvc_
           rw [hva_] at ge210_2
           rw [hvc_] at ul210_2
           have HL210_2 := Aside0.mk (show Kd.V k82 82 _ w.heap.size _ _ ((rd_T26 l0 x7_2).f2) from Kd.V_mk ul210_2 ge210_2)
           clear hva_ hvn_ hvc_ ge210_2 ul210_2
           have hv210_3 := hcc210 3 _ rfl
           rw [add_field _ _ 3 (by omega)] at hv210_3
           replace hv210_3 := Option.some.inj (hv210_3.symm.trans hx210_3)
           injection hv210_3 with hva_ hvn_ hvc_
           rw [hva_] at ge210_3
           rw [hvc_] at ul210_3
           have HL210_3 := Aside0.mk (show Kd.V k30 30 _ w.heap.size _ _ ((rd_T26 l0 x7_2).f3) from Kd.V_mk ul210_3 ge210_3)
           clear hva_ hvn_ hvc_ ge210_3 ul210_3
           clear hcc210 hce210
           have HR210_2 := Aside0.mk hi210_2
           have HC210_2 := Aside0.mk hl210_2
           clear hi210_2 hl210_2
           have HR210_3 := Aside0.mk hi210_3
           have HC210_3 := Aside0.mk hl210_3
           clear hi210_3 hl210_3
           replace p210 := eq_true p210
           replace q210 := eq_true q210
           have ea_ := Option.some.inj (hx209_2.symm.trans hx210_2)
           injection ea_ with ea_ en_ ec_
           subst ea_
           subst ec_
           clear en_
           have ea_ := Option.some.inj (hx209_3.symm.trans hx210_3)
           injection ea_ with ea_ en_ ec_
           subst ea_
           subst ec_
           clear en_
           go_wp2_with (first | (go_at_call 71; (with_reducible refine (spec_l3Less.calls a1_0 a1_1 ((rd_T26 l0 x7_2).f0) ((rd_T26 l0 x7_2).f1) true _ A19.out).mono ?_); rintro e w' ⟨rfl, ⟨nd, rfl⟩⟩; (try first | exact ⟨rfl, _, World.drewN_drewN _ _ _⟩ | exact ⟨rfl, _, Eq.trans (World.drewN_drewN _ _ _) (congrArg (World.drewN _) (Nat.add_assoc _ _ _))⟩); have p212 : 0 ≤ (x7_2 : Int) := of_decide_eq_true (by first | (with_reducible assumption) | assumption); have q212 : x7_2 < (l0.length : Int) := of_decide_eq_true (by first | (with_reducible assumption) | assumption); obtain ⟨ad212, A212_2, c212_2, A212_3, c212_3, e212, hx212_0, hx212_1, hx212_2, hx212_3, hl212_2, hi212_2, hl212_3, hi212_3⟩ := at_T26 (Kd.V_reads' HO_0.out).2.2 x7_2 p212 q212; obtain rfl : ad209 = ad212 := (by injection e212); obtain ⟨ce212, hce212, hMe212, hcc212⟩ := Kd.V_get HO_0.out z26 x7_2 p212 (by first | exact q212 | exact of_decide_eq_true (by first | (with_reducible assumption) | assumption) | (have e_ := (Kd.V_reads' HO_0.out).1; omega)); obtain ⟨ua212_2, uc212_2, ua212_3, uc212_3, rfl, ul212_2, ge212_2, ul212_3, ge212_3⟩ := k26_openF hMe212; have hv212_2 := hcc212 2 _ rfl; rw [add_field _ _ 2 (by omega)] at hv212_2; replace hv212_2 := Option.some.inj (hv212_2.symm.trans hx212_2); injection hv212_2 with hva_ hvn_ hvc_; rw [hva_] at ge212_2; rw [hvc_] at ul212_2; have HL212_2 := Aside0.mk (show Kd.V k82 82 _ w.heap.size _ _ ((rd_T26 l0 x7_2).f2) from Kd.V_mk ul212_2 ge212_2); clear hva_ hvn_ hvc_ ge212_2 ul212_2; have hv212_3 := hcc212 3 _ rfl; rw [add_field _ _ 3 (by omega)] at hv212_3; replace hv212_3 := Option.some.inj (hv212_3.symm.trans hx212_3); injection hv212_3 with hva_ hvn_ hvc_; rw [hva_] at ge212_3; rw [hvc_] at ul212_3; have HL212_3 := Aside0.mk (show Kd.V k30 30 _ w.heap.size _ _ ((rd_T26 l0 x7_2).f3) from Kd.V_mk ul212_3 ge212_3); clear hva_ hvn_ hvc_ ge212_3 ul212_3; clear hcc212 hce212; have HR212_2 := Aside0.mk hi212_2; have HC212_2 := Aside0.mk hl212_2; clear hi212_2 hl212_2; have HR212_3 := Aside0.mk hi212_3; have HC212_3 := Aside0.mk hl212_3; clear hi212_3 hl212_3; replace p212 := eq_true p212; replace q212 := eq_true q212; have ea_ := Option.some.inj (hx209_2.symm.trans hx212_2); injection ea_ with ea_ en_ ec_; subst ea_; subst ec_; clear en_; have ea_ := Option.some.inj (hx209_3.symm.trans hx212_3); injection ea_ with ea_ en_ ec_; subst ea_; subst ec_; clear en_) | ((with_reducible refine gate_builtin (b := .append) (xs := #[.tmp 62, .tmp 67]) rfl ?_); at_builtin; refine Kd.N_append k26 (w0 := w) w.heap.size rfl (.tmp 62) (.tmp 67) 117 26 (.agg #[(.int .i64 0), (.int .i64 0), (.slice none 0 0), (.slice none 0 0)]) 64 rfl Try.underlying117 info26 rfl (by decide) (by omega) u5 x5_2 (⟨(rd_T26 l0 x7_2).f0, (rd_T26 l0 x7_2).f1, (rd_T26 l0 x7_2).f2, (rd_T26 l0 x7_2).f3⟩ : S26) [.int .i64 ((rd_T26 l0 x7_2).f0), .int .i64 ((rd_T26 l0 x7_2).f1), .slice A209_2 ((rd_T26 l0 x7_2).f2).length c209_2, .slice A209_3 ((rd_T26 l0 x7_2).f3).length c209_3] (fun k_ => ((P0_ k_ ∨ P1_2_ k_ ∨ P1_3_ k_) ∨ w.heap.size ≤ k_) ∧ k_ ≠ gb195) (fun k_ => ((fun k_ => ((P0_ k_ ∨ P1_2_ k_ ∨ P1_3_ k_) ∨ w.heap.size ≤ k_) ∧ k_ ≠ gb195)) k_ ∧ some k_ ≠ (u5 : Value).ownBlock) rfl rfl ?aP (fun _ hk => hk) ?aF ?aO ?aB ?aS ?aL ?_; (case aP => exact (k26_mkF _ _ (⟨(rd_T26 l0 x7_2).f0, (rd_T26 l0 x7_2).f1, (rd_T26 l0 x7_2).f2, (rd_T26 l0 x7_2).f3⟩ : S26) (Kd.V_reads' (Kd.V_mono (ok' := (fun k_ => ((fun k_ => ((P0_ k_ ∨ P1_2_ k_ ∨ P1_3_ k_) ∨ w.heap.size ≤ k_) ∧ k_ ≠ gb195)) k_ ∧ some k_ ≠ (u5 : Value).ownBlock)) (HL212_2.out) (fun k_ hk => ⟨⟨hk.1, hk.2.2⟩, hk.2.1⟩))).2.1 (Kd.V_F (Kd.V_mono (ok' := (fun k_ => ((fun k_ => ((P0_ k_ ∨ P1_2_ k_ ∨ P1_3_ k_) ∨ w.heap.size ≤ k_) ∧ k_ ≠ gb195)) k_ ∧ some k_ ≠ (u5 : Value).ownBlock)) (HL212_2.out) (fun k_ hk => ⟨⟨hk.1, hk.2.2⟩, hk.2.1⟩))) (Kd.V_reads' (Kd.V_mono (ok' := (fun k_ => ((fun k_ => ((P0_ k_ ∨ P1_2_ k_ ∨ P1_3_ k_) ∨ w.heap.size ≤ k_) ∧ k_ ≠ gb195)) k_ ∧ some k_ ≠ (u5 : Value).ownBlock)) (HL212_3.out) (fun k_ hk => ⟨⟨hk.1, hk.2.2⟩, hk.2.1⟩))).2.1 (Kd.V_F (Kd.V_mono (ok' := (fun k_ => ((fun k_ => ((P0_ k_ ∨ P1_2_ k_ ∨ P1_3_ k_) ∨ w.heap.size ≤ k_) ∧ k_ ≠ gb195)) k_ ∧ some k_ ≠ (u5 : Value).ownBlock)) (HL212_3.out) (fun k_ hk => ⟨⟨hk.1, hk.2.2⟩, hk.2.1⟩))))); (case aB => exact (by exact zB1 HB.out GE195.out)); (case aF => exact (fun k_ hk => ⟨(.inr (Nat.le_trans (below_size (by exact zB1 HB.out GE195.out)) hk)), Kd.freshB (g := gb195) (o := .cells #[.int .i64 a1_0, .int .i64 a1_1, .slice A1_2 l1_2.length c1_2, .slice A1_3 l1_3.length c1_3] 26 (0, 0)) (by exact zK BK195.out) k_ hk⟩)); (case aO => exact (by exact zN HO_5.out)); (case aS => exact (below_size (by exact zB1 HB.out GE195.out))); (case aL => have := LMc21.out; omega); intro v214 w23 ho hb hg hat; rw [← Ny213.out] at ho; have n0_ := Aside0.mk (Kd.V_afterv (ok := (fun k_ => ((P0_ k_ ∨ P1_2_ k_ ∨ P1_3_ k_) ∨ w.heap.size ≤ k_) ∧ k_ ≠ gb195)) (by (with_reducible repeat (first | apply Kd.V_alloc | apply Kd.V_drewN | apply Kd.V_drew)); exact Kd.V_mono HO_0.out (fun _ hk => ⟨⟨hk.1, hk.2.2⟩, hk.2.1⟩)) hg hat); have n1_ := Aside0.mk (Kd.V_afterv (ok := (fun k_ => ((P0_ k_ ∨ P1_2_ k_ ∨ P1_3_ k_) ∨ w.heap.size ≤ k_) ∧ k_ ≠ gb195)) (by (with_reducible repeat (first | apply Kd.V_alloc | apply Kd.V_drewN | apply Kd.V_drew)); exact Kd.V_mono HO_196002.out (fun _ hk => ⟨⟨hk.1, hk.2.2⟩, hk.2.1⟩)) hg hat); have n2_ := Aside0.mk (Kd.V_afterv (ok := (fun k_ => ((P0_ k_ ∨ P1_2_ k_ ∨ P1_3_ k_) ∨ w.heap.size ≤ k_) ∧ k_ ≠ gb195)) (by (with_reducible repeat (first | apply Kd.V_alloc | apply Kd.V_drewN | apply Kd.V_drew)); exact Kd.V_mono HO_196003.out (fun _ hk => ⟨⟨hk.1, hk.2.2⟩, hk.2.1⟩)) hg hat); have n3_ := Aside0.mk (blk_grown (g := gb195) (o := .cells #[.int .i64 a1_0, .int .i64 a1_1, .slice A1_2 l1_2.length c1_2, .slice A1_3 l1_3.length c1_3] 26 (0, 0)) (by exact zK BK195.out) hg (Kd.N_away HO_5.out (fun _ hk => hk.2))); have n4_ := Aside0.mk (Kd.V_afterv (ok := (fun k_ => ((P0_ k_ ∨ P1_2_ k_ ∨ P1_3_ k_) ∨ w.heap.size ≤ k_) ∧ k_ ≠ gb195)) (by (with_reducible repeat (first | apply Kd.V_alloc | apply Kd.V_drewN | apply Kd.V_drew)); exact Kd.V_mono HL209_2.out (fun _ hk => ⟨⟨hk.1, hk.2.2⟩, hk.2.1⟩)) hg hat); have n5_ := Aside0.mk (Kd.V_afterv (ok := (fun k_ => ((P0_ k_ ∨ P1_2_ k_ ∨ P1_3_ k_) ∨ w.heap.size ≤ k_) ∧ k_ ≠ gb195)) (by (with_reducible repeat (first | apply Kd.V_alloc | apply Kd.V_drewN | apply Kd.V_drew)); exact Kd.V_mono HL209_3.out (fun _ hk => ⟨⟨hk.1, hk.2.2⟩, hk.2.1⟩)) hg hat); have n6_ := Aside0.mk (Kd.V_afterv (ok := (fun k_ => ((P0_ k_ ∨ P1_2_ k_ ∨ P1_3_ k_) ∨ w.heap.size ≤ k_) ∧ k_ ≠ gb195)) (by (with_reducible repeat (first | apply Kd.V_alloc | apply Kd.V_drewN | apply Kd.V_drew)); exact Kd.V_mono HL210_2.out (fun _ hk => ⟨⟨hk.1, hk.2.2⟩, hk.2.1⟩)) hg hat); have n7_ := Aside0.mk (Kd.V_afterv (ok := (fun k_ => ((P0_ k_ ∨ P1_2_ k_ ∨ P1_3_ k_) ∨ w.heap.size ≤ k_) ∧ k_ ≠ gb195)) (by (with_reducible repeat (first | apply Kd.V_alloc | apply Kd.V_drewN | apply Kd.V_drew)); exact Kd.V_mono HL210_3.out (fun _ hk => ⟨⟨hk.1, hk.2.2⟩, hk.2.1⟩)) hg hat); have n8_ := Aside0.mk (Kd.V_afterv (ok := (fun k_ => ((P0_ k_ ∨ P1_2_ k_ ∨ P1_3_ k_) ∨ w.heap.size ≤ k_) ∧ k_ ≠ gb195)) (by (with_reducible repeat (first | apply Kd.V_alloc | apply Kd.V_drewN | apply Kd.V_drew)); exact Kd.V_mono HL212_2.out (fun _ hk => ⟨⟨hk.1, hk.2.2⟩, hk.2.1⟩)) hg hat); have n9_ := Aside0.mk (Kd.V_afterv (ok := (fun k_ => ((P0_ k_ ∨ P1_2_ k_ ∨ P1_3_ k_) ∨ w.heap.size ≤ k_) ∧ k_ ≠ gb195)) (by (with_reducible repeat (first | apply Kd.V_alloc | apply Kd.V_drewN | apply Kd.V_drew)); exact Kd.V_mono HL212_3.out (fun _ hk => ⟨⟨hk.1, hk.2.2⟩, hk.2.1⟩)) hg hat); have n10_ := Aside0.mk (hb); have n11_ := Aside0.mk (ho); clear HO_0; clear HO_196002; clear HO_196003; clear BK195; clear HL209_2; clear HL209_3; clear HL210_2; clear HL210_3; clear HL212_2; clear HL212_3; clear HB; clear HO_5; have HO_0 := n0_; have HO_196002 := n1_; have HO_196003 := n2_; have BK195 := n3_; have HL209_2 := n4_; have HL209_3 := n5_; have HL210_2 := n6_; have HL210_3 := n7_; have HL212_2 := n8_; have HL212_3 := n9_; have HB := n10_; have HO215 := n11_; clear n0_ n1_ n2_ n3_ n4_ n5_ n6_ n7_ n8_ n9_ n10_ n11_; clear ho hb hg hat))
           repeat (go_quiet (first | (go_at_call 71; (with_reducible refine (spec_l3Less.calls a1_0 a1_1 ((rd_T26 l0 x7_2).f0) ((rd_T26 l0 x7_2).f1) true _ A19.out).mono ?_); rintro e w' ⟨rfl, ⟨nd, rfl⟩⟩; (try first | exact ⟨rfl, _, World.drewN_drewN _ _ _⟩ | exact ⟨rfl, _, Eq.trans (World.drewN_drewN _ _ _) (congrArg (World.drewN _) (Nat.add_assoc _ _ _))⟩); have p212 : 0 ≤ (x7_2 : Int) := of_decide_eq_true (by first | (with_reducible assumption) | assumption); have q212 : x7_2 < (l0.length : Int) := of_decide_eq_true (by first | (with_reducible assumption) | assumption); obtain ⟨ad212, A212_2, c212_2, A212_3, c212_3, e212, hx212_0, hx212_1, hx212_2, hx212_3, hl212_2, hi212_2, hl212_3, hi212_3⟩ := at_T26 (Kd.V_reads' HO_0.out).2.2 x7_2 p212 q212; obtain rfl : ad209 = ad212 := (by injection e212); obtain ⟨ce212, hce212, hMe212, hcc212⟩ := Kd.V_get HO_0.out z26 x7_2 p212 (by first | exact q212 | exact of_decide_eq_true (by first | (with_reducible assumption) | assumption) | (have e_ := (Kd.V_reads' HO_0.out).1; omega)); obtain ⟨ua212_2, uc212_2, ua212_3, uc212_3, rfl, ul212_2, ge212_2, ul212_3, ge212_3⟩ := k26_openF hMe212; have hv212_2 := hcc212 2 _ rfl; rw [add_field _ _ 2 (by omega)] at hv212_2; replace hv212_2 := Option.some.inj (hv212_2.symm.trans hx212_2); injection hv212_2 with hva_ hvn_ hvc_; rw [hva_] at ge212_2; rw [hvc_] at ul212_2; have HL212_2 := Aside0.mk (show Kd.V k82 82 _ w.heap.size _ _ ((rd_T26 l0 x7_2).f2) from Kd.V_mk ul212_2 ge212_2); clear hva_ hvn_ hvc_ ge212_2 ul212_2; have hv212_3 := hcc212 3 _ rfl; rw [add_field _ _ 3 (by omega)] at hv212_3; replace hv212_3 := Option.some.inj (hv212_3.symm.trans hx212_3); injection hv212_3 with hva_ hvn_ hvc_; rw [hva_] at ge212_3; rw [hvc_] at ul212_3; have HL212_3 := Aside0.mk (show Kd.V k30 30 _ w.heap.size _ _ ((rd_T26 l0 x7_2).f3) from Kd.V_mk ul212_3 ge212_3); clear hva_ hvn_ hvc_ ge212_3 ul212_3; clear hcc212 hce212; have HR212_2 := Aside0.mk hi212_2; have HC212_2 := Aside0.mk hl212_2; clear hi212_2 hl212_2; have HR212_3 := Aside0.mk hi212_3; have HC212_3 := Aside0.mk hl212_3; clear hi212_3 hl212_3; replace p212 := eq_true p212; replace q212 := eq_true q212; have ea_ := Option.some.inj (hx209_2.symm.trans hx212_2); injection ea_ with ea_ en_ ec_; subst ea_; subst ec_; clear en_; have ea_ := Option.some.inj (hx209_3.symm.trans hx212_3); injection ea_ with ea_ en_ ec_; subst ea_; subst ec_; clear en_) | ((with_reducible refine gate_builtin (b := .append) (xs := #[.tmp 62, .tmp 67]) rfl ?_); at_builtin; refine Kd.N_append k26 (w0 := w) w.heap.size rfl (.tmp 62) (.tmp 67) 117 26 (.agg #[(.int .i64 0), (.int .i64 0), (.slice none 0 0), (.slice none 0 0)]) 64 rfl Try.underlying117 info26 rfl (by decide) (by omega) u5 x5_2 (⟨(rd_T26 l0 x7_2).f0, (rd_T26 l0 x7_2).f1, (rd_T26 l0 x7_2).f2, (rd_T26 l0 x7_2).f3⟩ : S26) [.int .i64 ((rd_T26 l0 x7_2).f0), .int .i64 ((rd_T26 l0 x7_2).f1), .slice A209_2 ((rd_T26 l0 x7_2).f2).length c209_2, .slice A209_3 ((rd_T26 l0 x7_2).f3).length c209_3] (fun k_ => ((P0_ k_ ∨ P1_2_ k_ ∨ P1_3_ k_) ∨ w.heap.size ≤ k_) ∧ k_ ≠ gb195) (fun k_ => ((fun k_ => ((P0_ k_ ∨ P1_2_ k_ ∨ P1_3_ k_) ∨ w.heap.size ≤ k_) ∧ k_ ≠ gb195)) k_ ∧ some k_ ≠ (u5 : Value).ownBlock) rfl rfl ?aP (fun _ hk => hk) ?aF ?aO ?aB ?aS ?aL ?_; (case aP => exact (k26_mkF _ _ (⟨(rd_T26 l0 x7_2).f0, (rd_T26 l0 x7_2).f1, (rd_T26 l0 x7_2).f2, (rd_T26 l0 x7_2).f3⟩ : S26) (Kd.V_reads' (Kd.V_mono (ok' := (fun k_ => ((fun k_ => ((P0_ k_ ∨ P1_2_ k_ ∨ P1_3_ k_) ∨ w.heap.size ≤ k_) ∧ k_ ≠ gb195)) k_ ∧ some k_ ≠ (u5 : Value).ownBlock)) (HL212_2.out) (fun k_ hk => ⟨⟨hk.1, hk.2.2⟩, hk.2.1⟩))).2.1 (Kd.V_F (Kd.V_mono (ok' := (fun k_ => ((fun k_ => ((P0_ k_ ∨ P1_2_ k_ ∨ P1_3_ k_) ∨ w.heap.size ≤ k_) ∧ k_ ≠ gb195)) k_ ∧ some k_ ≠ (u5 : Value).ownBlock)) (HL212_2.out) (fun k_ hk => ⟨⟨hk.1, hk.2.2⟩, hk.2.1⟩))) (Kd.V_reads' (Kd.V_mono (ok' := (fun k_ => ((fun k_ => ((P0_ k_ ∨ P1_2_ k_ ∨ P1_3_ k_) ∨ w.heap.size ≤ k_) ∧ k_ ≠ gb195)) k_ ∧ some k_ ≠ (u5 : Value).ownBlock)) (HL212_3.out) (fun k_ hk => ⟨⟨hk.1, hk.2.2⟩, hk.2.1⟩))).2.1 (Kd.V_F (Kd.V_mono (ok' := (fun k_ => ((fun k_ => ((P0_ k_ ∨ P1_2_ k_ ∨ P1_3_ k_) ∨ w.heap.size ≤ k_) ∧ k_ ≠ gb195)) k_ ∧ some k_ ≠ (u5 : Value).ownBlock)) (HL212_3.out) (fun k_ hk => ⟨⟨hk.1, hk.2.2⟩, hk.2.1⟩))))); (case aB => exact (by exact zB1 HB.out GE195.out)); (case aF => exact (fun k_ hk => ⟨(.inr (Nat.le_trans (below_size (by exact zB1 HB.out GE195.out)) hk)), Kd.freshB (g := gb195) (o := .cells #[.int .i64 a1_0, .int .i64 a1_1, .slice A1_2 l1_2.length c1_2, .slice A1_3 l1_3.length c1_3] 26 (0, 0)) (by exact zK BK195.out) k_ hk⟩)); (case aO => exact (by exact zN HO_5.out)); (case aS => exact (below_size (by exact zB1 HB.out GE195.out))); (case aL => have := LMc21.out; omega); intro v214 w23 ho hb hg hat; rw [← Ny213.out] at ho; have n0_ := Aside0.mk (Kd.V_afterv (ok := (fun k_ => ((P0_ k_ ∨ P1_2_ k_ ∨ P1_3_ k_) ∨ w.heap.size ≤ k_) ∧ k_ ≠ gb195)) (by (with_reducible repeat (first | apply Kd.V_alloc | apply Kd.V_drewN | apply Kd.V_drew)); exact Kd.V_mono HO_0.out (fun _ hk => ⟨⟨hk.1, hk.2.2⟩, hk.2.1⟩)) hg hat); have n1_ := Aside0.mk (Kd.V_afterv (ok := (fun k_ => ((P0_ k_ ∨ P1_2_ k_ ∨ P1_3_ k_) ∨ w.heap.size ≤ k_) ∧ k_ ≠ gb195)) (by (with_reducible repeat (first | apply Kd.V_alloc | apply Kd.V_drewN | apply Kd.V_drew)); exact Kd.V_mono HO_196002.out (fun _ hk => ⟨⟨hk.1, hk.2.2⟩, hk.2.1⟩)) hg hat); have n2_ := Aside0.mk (Kd.V_afterv (ok := (fun k_ => ((P0_ k_ ∨ P1_2_ k_ ∨ P1_3_ k_) ∨ w.heap.size ≤ k_) ∧ k_ ≠ gb195)) (by (with_reducible repeat (first | apply Kd.V_alloc | apply Kd.V_drewN | apply Kd.V_drew)); exact Kd.V_mono HO_196003.out (fun _ hk => ⟨⟨hk.1, hk.2.2⟩, hk.2.1⟩)) hg hat); have n3_ := Aside0.mk (blk_grown (g := gb195) (o := .cells #[.int .i64 a1_0, .int .i64 a1_1, .slice A1_2 l1_2.length c1_2, .slice A1_3 l1_3.length c1_3] 26 (0, 0)) (by exact zK BK195.out) hg (Kd.N_away HO_5.out (fun _ hk => hk.2))); have n4_ := Aside0.mk (Kd.V_afterv (ok := (fun k_ => ((P0_ k_ ∨ P1_2_ k_ ∨ P1_3_ k_) ∨ w.heap.size ≤ k_) ∧ k_ ≠ gb195)) (by (with_reducible repeat (first | apply Kd.V_alloc | apply Kd.V_drewN | apply Kd.V_drew)); exact Kd.V_mono HL209_2.out (fun _ hk => ⟨⟨hk.1, hk.2.2⟩, hk.2.1⟩)) hg hat); have n5_ := Aside0.mk (Kd.V_afterv (ok := (fun k_ => ((P0_ k_ ∨ P1_2_ k_ ∨ P1_3_ k_) ∨ w.heap.size ≤ k_) ∧ k_ ≠ gb195)) (by (with_reducible repeat (first | apply Kd.V_alloc | apply Kd.V_drewN | apply Kd.V_drew)); exact Kd.V_mono HL209_3.out (fun _ hk => ⟨⟨hk.1, hk.2.2⟩, hk.2.1⟩)) hg hat); have n6_ := Aside0.mk (Kd.V_afterv (ok := (fun k_ => ((P0_ k_ ∨ P1_2_ k_ ∨ P1_3_ k_) ∨ w.heap.size ≤ k_) ∧ k_ ≠ gb195)) (by (with_reducible repeat (first | apply Kd.V_alloc | apply Kd.V_drewN | apply Kd.V_drew)); exact Kd.V_mono HL210_2.out (fun _ hk => ⟨⟨hk.1, hk.2.2⟩, hk.2.1⟩)) hg hat); have n7_ := Aside0.mk (Kd.V_afterv (ok := (fun k_ => ((P0_ k_ ∨ P1_2_ k_ ∨ P1_3_ k_) ∨ w.heap.size ≤ k_) ∧ k_ ≠ gb195)) (by (with_reducible repeat (first | apply Kd.V_alloc | apply Kd.V_drewN | apply Kd.V_drew)); exact Kd.V_mono HL210_3.out (fun _ hk => ⟨⟨hk.1, hk.2.2⟩, hk.2.1⟩)) hg hat); have n8_ := Aside0.mk (Kd.V_afterv (ok := (fun k_ => ((P0_ k_ ∨ P1_2_ k_ ∨ P1_3_ k_) ∨ w.heap.size ≤ k_) ∧ k_ ≠ gb195)) (by (with_reducible repeat (first | apply Kd.V_alloc | apply Kd.V_drewN | apply Kd.V_drew)); exact Kd.V_mono HL212_2.out (fun _ hk => ⟨⟨hk.1, hk.2.2⟩, hk.2.1⟩)) hg hat); have n9_ := Aside0.mk (Kd.V_afterv (ok := (fun k_ => ((P0_ k_ ∨ P1_2_ k_ ∨ P1_3_ k_) ∨ w.heap.size ≤ k_) ∧ k_ ≠ gb195)) (by (with_reducible repeat (first | apply Kd.V_alloc | apply Kd.V_drewN | apply Kd.V_drew)); exact Kd.V_mono HL212_3.out (fun _ hk => ⟨⟨hk.1, hk.2.2⟩, hk.2.1⟩)) hg hat); have n10_ := Aside0.mk (hb); have n11_ := Aside0.mk (ho); clear HO_0; clear HO_196002; clear HO_196003; clear BK195; clear HL209_2; clear HL209_3; clear HL210_2; clear HL210_3; clear HL212_2; clear HL212_3; clear HB; clear HO_5; have HO_0 := n0_; have HO_196002 := n1_; have HO_196003 := n2_; have BK195 := n3_; have HL209_2 := n4_; have HL209_3 := n5_; have HL210_2 := n6_; have HL210_3 := n7_; have HL212_2 := n8_; have HL212_3 := n9_; have HB := n10_; have HO215 := n11_; clear n0_ n1_ n2_ n3_ n4_ n5_ n6_ n7_ n8_ n9_ n10_ n11_; clear ho hb hg hat)); try go_wp2_with (first | (go_at_call 71; (with_reducible refine (spec_l3Less.calls a1_0 a1_1 ((rd_T26 l0 x7_2).f0) ((rd_T26 l0 x7_2).f1) true _ A19.out).mono ?_); rintro e w' ⟨rfl, ⟨nd, rfl⟩⟩; (try first | exact ⟨rfl, _, World.drewN_drewN _ _ _⟩ | exact ⟨rfl, _, Eq.trans (World.drewN_drewN _ _ _) (congrArg (World.drewN _) (Nat.add_assoc _ _ _))⟩); have p212 : 0 ≤ (x7_2 : Int) := of_decide_eq_true (by first | (with_reducible assumption) | assumption); have q212 : x7_2 < (l0.length : Int) := of_decide_eq_true (by first | (with_reducible assumption) | assumption); obtain ⟨ad212, A212_2, c212_2, A212_3, c212_3, e212, hx212_0, hx212_1, hx212_2, hx212_3, hl212_2, hi212_2, hl212_3, hi212_3⟩ := at_T26 (Kd.V_reads' HO_0.out).2.2 x7_2 p212 q212; obtain rfl : ad209 = ad212 := (by injection e212); obtain ⟨ce212, hce212, hMe212, hcc212⟩ := Kd.V_get HO_0.out z26 x7_2 p212 (by first | exact q212 | exact of_decide_eq_true (by first | (with_reducible assumption) | assumption) | (have e_ := (Kd.V_reads' HO_0.out).1; omega)); obtain ⟨ua212_2, uc212_2, ua212_3, uc212_3, rfl, ul212_2, ge212_2, ul212_3, ge212_3⟩ := k26_openF hMe212; have hv212_2 := hcc212 2 _ rfl; rw [add_field _ _ 2 (by omega)] at hv212_2; replace hv212_2 := Option.some.inj (hv212_2.symm.trans hx212_2); injection hv212_2 with hva_ hvn_ hvc_; rw [hva_] at ge212_2; rw [hvc_] at ul212_2; have HL212_2 := Aside0.mk (show Kd.V k82 82 _ w.heap.size _ _ ((rd_T26 l0 x7_2).f2) from Kd.V_mk ul212_2 ge212_2); clear hva_ hvn_ hvc_ ge212_2 ul212_2; have hv212_3 := hcc212 3 _ rfl; rw [add_field _ _ 3 (by omega)] at hv212_3; replace hv212_3 := Option.some.inj (hv212_3.symm.trans hx212_3); injection hv212_3 with hva_ hvn_ hvc_; rw [hva_] at ge212_3; rw [hvc_] at ul212_3; have HL212_3 := Aside0.mk (show Kd.V k30 30 _ w.heap.size _ _ ((rd_T26 l0 x7_2).f3) from Kd.V_mk ul212_3 ge212_3); clear hva_ hvn_ hvc_ ge212_3 ul212_3; clear hcc212 hce212; have HR212_2 := Aside0.mk hi212_2; have HC212_2 := Aside0.mk hl212_2; clear hi212_2 hl212_2; have HR212_3 := Aside0.mk hi212_3; have HC212_3 := Aside0.mk hl212_3; clear hi212_3 hl212_3; replace p212 := eq_true p212; replace q212 := eq_true q212; have ea_ := Option.some.inj (hx209_2.symm.trans hx212_2); injection ea_ with ea_ en_ ec_; subst ea_; subst ec_; clear en_; have ea_ := Option.some.inj (hx209_3.symm.trans hx212_3); injection ea_ with ea_ en_ ec_; subst ea_; subst ec_; clear en_) | ((with_reducible refine gate_builtin (b := .append) (xs := #[.tmp 62, .tmp 67]) rfl ?_); at_builtin; refine Kd.N_append k26 (w0 := w) w.heap.size rfl (.tmp 62) (.tmp 67) 117 26 (.agg #[(.int .i64 0), (.int .i64 0), (.slice none 0 0), (.slice none 0 0)]) 64 rfl Try.underlying117 info26 rfl (by decide) (by omega) u5 x5_2 (⟨(rd_T26 l0 x7_2).f0, (rd_T26 l0 x7_2).f1, (rd_T26 l0 x7_2).f2, (rd_T26 l0 x7_2).f3⟩ : S26) [.int .i64 ((rd_T26 l0 x7_2).f0), .int .i64 ((rd_T26 l0 x7_2).f1), .slice A209_2 ((rd_T26 l0 x7_2).f2).length c209_2, .slice A209_3 ((rd_T26 l0 x7_2).f3).length c209_3] (fun k_ => ((P0_ k_ ∨ P1_2_ k_ ∨ P1_3_ k_) ∨ w.heap.size ≤ k_) ∧ k_ ≠ gb195) (fun k_ => ((fun k_ => ((P0_ k_ ∨ P1_2_ k_ ∨ P1_3_ k_) ∨ w.heap.size ≤ k_) ∧ k_ ≠ gb195)) k_ ∧ some k_ ≠ (u5 : Value).ownBlock) rfl rfl ?aP (fun _ hk => hk) ?aF ?aO ?aB ?aS ?aL ?_; (case aP => exact (k26_mkF _ _ (⟨(rd_T26 l0 x7_2).f0, (rd_T26 l0 x7_2).f1, (rd_T26 l0 x7_2).f2, (rd_T26 l0 x7_2).f3⟩ : S26) (Kd.V_reads' (Kd.V_mono (ok' := (fun k_ => ((fun k_ => ((P0_ k_ ∨ P1_2_ k_ ∨ P1_3_ k_) ∨ w.heap.size ≤ k_) ∧ k_ ≠ gb195)) k_ ∧ some k_ ≠ (u5 : Value).ownBlock)) (HL212_2.out) (fun k_ hk => ⟨⟨hk.1, hk.2.2⟩, hk.2.1⟩))).2.1 (Kd.V_F (Kd.V_mono (ok' := (fun k_ => ((fun k_ => ((P0_ k_ ∨ P1_2_ k_ ∨ P1_3_ k_) ∨ w.heap.size ≤ k_) ∧ k_ ≠ gb195)) k_ ∧ some k_ ≠ (u5 : Value).ownBlock)) (HL212_2.out) (fun k_ hk => ⟨⟨hk.1, hk.2.2⟩, hk.2.1⟩))) (Kd.V_reads' (Kd.V_mono (ok' := (fun k_ => ((fun k_ => ((P0_ k_ ∨ P1_2_ k_ ∨ P1_3_ k_) ∨ w.heap.size ≤ k_) ∧ k_ ≠ gb195)) k_ ∧ some k_ ≠ (u5 : Value).ownBlock)) (HL212_3.out) (fun k_ hk => ⟨⟨hk.1, hk.2.2⟩, hk.2.1⟩))).2.1 (Kd.V_F (Kd.V_mono (ok' := (fun k_ => ((fun k_ => ((P0_ k_ ∨ P1_2_ k_ ∨ P1_3_ k_) ∨ w.heap.size ≤ k_) ∧ k_ ≠ gb195)) k_ ∧ some k_ ≠ (u5 : Value).ownBlock)) (HL212_3.out) (fun k_ hk => ⟨⟨hk.1, hk.2.2⟩, hk.2.1⟩))))); (case aB => exact (by exact zB1 HB.out GE195.out)); (case aF => exact (fun k_ hk => ⟨(.inr (Nat.le_trans (below_size (by exact zB1 HB.out GE195.out)) hk)), Kd.freshB (g := gb195) (o := .cells #[.int .i64 a1_0, .int .i64 a1_1, .slice A1_2 l1_2.length c1_2, .slice A1_3 l1_3.length c1_3] 26 (0, 0)) (by exact zK BK195.out) k_ hk⟩)); (case aO => exact (by exact zN HO_5.out)); (case aS => exact (below_size (by exact zB1 HB.out GE195.out))); (case aL => have := LMc21.out; omega); intro v214 w23 ho hb hg hat; rw [← Ny213.out] at ho; have n0_ := Aside0.mk (Kd.V_afterv (ok := (fun k_ => ((P0_ k_ ∨ P1_2_ k_ ∨ P1_3_ k_) ∨ w.heap.size ≤ k_) ∧ k_ ≠ gb195)) (by (with_reducible repeat (first | apply Kd.V_alloc | apply Kd.V_drewN | apply Kd.V_drew)); exact Kd.V_mono HO_0.out (fun _ hk => ⟨⟨hk.1, hk.2.2⟩, hk.2.1⟩)) hg hat); have n1_ := Aside0.mk (Kd.V_afterv (ok := (fun k_ => ((P0_ k_ ∨ P1_2_ k_ ∨ P1_3_ k_) ∨ w.heap.size ≤ k_) ∧ k_ ≠ gb195)) (by (with_reducible repeat (first | apply Kd.V_alloc | apply Kd.V_drewN | apply Kd.V_drew)); exact Kd.V_mono HO_196002.out (fun _ hk => ⟨⟨hk.1, hk.2.2⟩, hk.2.1⟩)) hg hat); have n2_ := Aside0.mk (Kd.V_afterv (ok := (fun k_ => ((P0_ k_ ∨ P1_2_ k_ ∨ P1_3_ k_) ∨ w.heap.size ≤ k_) ∧ k_ ≠ gb195)) (by (with_reducible repeat (first | apply Kd.V_alloc | apply Kd.V_drewN | apply Kd.V_drew)); exact Kd.V_mono HO_196003.out (fun _ hk => ⟨⟨hk.1, hk.2.2⟩, hk.2.1⟩)) hg hat); have n3_ := Aside0.mk (blk_grown (g := gb195) (o := .cells #[.int .i64 a1_0, .int .i64 a1_1, .slice A1_2 l1_2.length c1_2, .slice A1_3 l1_3.length c1_3] 26 (0, 0)) (by exact zK BK195.out) hg (Kd.N_away HO_5.out (fun _ hk => hk.2))); have n4_ := Aside0.mk (Kd.V_afterv (ok := (fun k_ => ((P0_ k_ ∨ P1_2_ k_ ∨ P1_3_ k_) ∨ w.heap.size ≤ k_) ∧ k_ ≠ gb195)) (by (with_reducible repeat (first | apply Kd.V_alloc | apply Kd.V_drewN | apply Kd.V_drew)); exact Kd.V_mono HL209_2.out (fun _ hk => ⟨⟨hk.1, hk.2.2⟩, hk.2.1⟩)) hg hat); have n5_ := Aside0.mk (Kd.V_afterv (ok := (fun k_ => ((P0_ k_ ∨ P1_2_ k_ ∨ P1_3_ k_) ∨ w.heap.size ≤ k_) ∧ k_ ≠ gb195)) (by (with_reducible repeat (first | apply Kd.V_alloc | apply Kd.V_drewN | apply Kd.V_drew)); exact Kd.V_mono HL209_3.out (fun _ hk => ⟨⟨hk.1, hk.2.2⟩, hk.2.1⟩)) hg hat); have n6_ := Aside0.mk (Kd.V_afterv (ok := (fun k_ => ((P0_ k_ ∨ P1_2_ k_ ∨ P1_3_ k_) ∨ w.heap.size ≤ k_) ∧ k_ ≠ gb195)) (by (with_reducible repeat (first | apply Kd.V_alloc | apply Kd.V_drewN | apply Kd.V_drew)); exact Kd.V_mono HL210_2.out (fun _ hk => ⟨⟨hk.1, hk.2.2⟩, hk.2.1⟩)) hg hat); have n7_ := Aside0.mk (Kd.V_afterv (ok := (fun k_ => ((P0_ k_ ∨ P1_2_ k_ ∨ P1_3_ k_) ∨ w.heap.size ≤ k_) ∧ k_ ≠ gb195)) (by (with_reducible repeat (first | apply Kd.V_alloc | apply Kd.V_drewN | apply Kd.V_drew)); exact Kd.V_mono HL210_3.out (fun _ hk => ⟨⟨hk.1, hk.2.2⟩, hk.2.1⟩)) hg hat); have n8_ := Aside0.mk (Kd.V_afterv (ok := (fun k_ => ((P0_ k_ ∨ P1_2_ k_ ∨ P1_3_ k_) ∨ w.heap.size ≤ k_) ∧ k_ ≠ gb195)) (by (with_reducible repeat (first | apply Kd.V_alloc | apply Kd.V_drewN | apply Kd.V_drew)); exact Kd.V_mono HL212_2.out (fun _ hk => ⟨⟨hk.1, hk.2.2⟩, hk.2.1⟩)) hg hat); have n9_ := Aside0.mk (Kd.V_afterv (ok := (fun k_ => ((P0_ k_ ∨ P1_2_ k_ ∨ P1_3_ k_) ∨ w.heap.size ≤ k_) ∧ k_ ≠ gb195)) (by (with_reducible repeat (first | apply Kd.V_alloc | apply Kd.V_drewN | apply Kd.V_drew)); exact Kd.V_mono HL212_3.out (fun _ hk => ⟨⟨hk.1, hk.2.2⟩, hk.2.1⟩)) hg hat); have n10_ := Aside0.mk (hb); have n11_ := Aside0.mk (ho); clear HO_0; clear HO_196002; clear HO_196003; clear BK195; clear HL209_2; clear HL209_3; clear HL210_2; clear HL210_3; clear HL212_2; clear HL212_3; clear HB; clear HO_5; have HO_0 := n0_; have HO_196002 := n1_; have HO_196003 := n2_; have BK195 := n3_; have HL209_2 := n4_; have HL209_3 := n5_; have HL210_2 := n6_; have HL210_3 := n7_; have HL212_2 := n8_; have HL212_3 := n9_; have HB := n10_; have HO215 := n11_; clear n0_ n1_ n2_ n3_ n4_ n5_ n6_ n7_ n8_ n9_ n10_ n11_; clear ho hb hg hat)))
           go_roundg k2
           case measure => have := HK1.out; have := HK2.out; omega
           case rel => exact ⟨(y213), (wrap64 (x7_2 + 1)), (by first | rfl | (simp; done) | (simp [*]; done)), H', ⟨by have := HK1.out; have := HK2.out; omega⟩, ⟨by (with_reducible repeat (first | apply Kd.V_alloc | apply Kd.V_drewN | apply Kd.V_drew)); exact Kd.V_mono HO_0.out (fun _ hk => ⟨hk.1.1, ⟨hk.2, hk.1.2⟩⟩)⟩, ⟨by exact zN HO215.out⟩, ⟨by (with_reducible repeat (first | apply Kd.V_alloc | apply Kd.V_drewN | apply Kd.V_drew)); exact Kd.V_mono HO_196002.out (fun _ hk => ⟨hk.1.1, ⟨hk.2, hk.1.2⟩⟩)⟩, ⟨by (with_reducible repeat (first | apply Kd.V_alloc | apply Kd.V_drewN | apply Kd.V_drew)); exact Kd.V_mono HO_196003.out (fun _ hk => ⟨hk.1.1, ⟨hk.2, hk.1.2⟩⟩)⟩, ⟨by exact zK BK195.out⟩, ⟨by exact zB1 HB.out GE195.out⟩⟩
          ·rw [if_neg c21] at H
           exact absurd H (by simp)
         ·replace c20 := Bool.eq_false_iff.mpr c20
          subst c20
          have H1 : (spec_l12With.l1 k2 l0 x5_2 (wrap64 (x7_2 + 1)) a1_0 a1_1 l1_2 l1_3) = some r := by rw [if_neg (show ¬ (false = true) by decide)] at H; exact H
          clear H
          have H := H1
          clear H1
          have H' := Aside0.mk H
          clear H
          obtain ⟨hcz24_0, hcz24_1, hcz24_2, hcz24_3, hfz24_0, hfz24_1, hfz24_2, hfz24_3⟩ := zc4f BK195.out
          have p209 : 0 ≤ (x7_2 : Int) := of_decide_eq_true (by first | (with_reducible assumption) | assumption)
          have q209 : x7_2 < (l0.length : Int) := of_decide_eq_true (by first | (with_reducible assumption) | assumption)
          obtain ⟨ad209, A209_2, c209_2, A209_3, c209_3, e209, hx209_0, hx209_1, hx209_2, hx209_3, hl209_2, hi209_2, hl209_3, hi209_3⟩ := at_T26 (Kd.V_reads' HO_0.out).2.2 x7_2 p209 q209
          cases e209
          obtain ⟨ce209, hce209, hMe209, hcc209⟩ := Kd.V_get HO_0.out z26 x7_2 p209 (by first | exact q209 | exact of_decide_eq_true (by first | (with_reducible assumption) | assumption) | (have e_ := (Kd.V_reads' HO_0.out).1; omega))
          obtain ⟨ua209_2, uc209_2, ua209_3, uc209_3, rfl, ul209_2, ge209_2, ul209_3, ge209_3⟩ := k26_openF hMe209
          have hv209_2 := hcc209 2 _ rfl
          rw [add_field _ _ 2 (by omega)] at hv209_2
          replace hv209_2 := Option.some.inj (hv209_2.symm.trans hx209_2)
          injection hv209_2 with hva_ hvn_ hvc_
          rw [hva_] at ge209_2
          rw [hvc_] at ul209_2
          have HL209_2 := Aside0.mk (show Kd.V k82 82 _ w.heap.size _ _ ((rd_T26 l0 x7_2).f2) from Kd.V_mk ul209_2 ge209_2)
          clear hva_ hvn_ hvc_ ge209_2 ul209_2
          have hv209_3 := hcc209 3 _ rfl
          rw [add_field _ _ 3 (by omega)] at hv209_3
          replace hv209_3 := Option.some.inj (hv209_3.symm.trans hx209_3)
          injection hv209_3 with hva_ hvn_ hvc_
          rw [hva_] at ge209_3
          rw [hvc_] at ul209_3
          have HL209_3 := Aside0.mk (show Kd.V k30 30 _ w.heap.size _ _ ((rd_T26 l0 x7_2).f3) from Kd.V_mk ul209_3 ge209_3)
          clear hva_ hvn_ hvc_ ge209_3 ul209_3
          clear hcc209 hce209
          have HR209_2 := Aside0.mk hi209_2
          have HC209_2 := Aside0.mk hl209_2
          clear hi209_2 hl209_2
          have HR209_3 := Aside0.mk hi209_3
          have HC209_3 := Aside0.mk hl209_3
          clear hi209_3 hl209_3
          replace p209 := eq_true p209
          replace q209 := eq_true q209
          have p210 : 0 ≤ (x7_2 : Int) := of_decide_eq_true (by first | (with_reducible assumption) | assumption)
          have q210 : x7_2 < (l0.length : Int) := of_decide_eq_true (by first | (with_reducible assumption) | assumption)
          obtain ⟨ad210, A210_2, c210_2, A210_3, c210_3, e210, hx210_0, hx210_1, hx210_2, hx210_3, hl210_2, hi210_2, hl210_3, hi210_3⟩ := at_T26 (Kd.V_reads' HO_0.out).2.2 x7_2 p210 q210
          obtain rfl : ad209 = ad210 := (by injection e210)
          obtain ⟨ce210, hce210, hMe210, hcc210⟩ := Kd.V_get HO_0.out z26 x7_2 p210 (by first | exact q210 | exact of_decide_eq_true (by first | (with_reducible assumption) | assumption) | (have e_ := (Kd.V_reads' HO_0.out).1; omega))
          obtain ⟨ua210_2, uc210_2, ua210_3, uc210_3, rfl, ul210_2, ge210_2, ul210_3, ge210_3⟩ := k26_openF hMe210
          have hv210_2 := hcc210 2 _ rfl
          rw [add_field _ _ 2 (by omega)] at hv210_2
          replace hv210_2 := Option.some.inj (hv210_2.symm.trans hx210_2)
          injection hv210_2 with hva_ hvn_ hvc_
          rw [hva_] at ge210_2
          rw [hvc_] at ul210_2
          have HL210_2 := Aside0.mk (show Kd.V k82 82 _ w.heap.size _ _ ((rd_T26 l0 x7_2).f2) from Kd.V_mk ul210_2 ge210_2)
          clear hva_ hvn_ hvc_ ge210_2 ul210_2
          have hv210_3 := hcc210 3 _ rfl
          rw [add_field _ _ 3 (by omega)] at hv210_3
          replace hv210_3 := Option.some.inj (hv210_3.symm.trans hx210_3)
          injection hv210_3 with hva_ hvn_ hvc_
          rw [hva_] at ge210_3
          rw [hvc_] at ul210_3
          have HL210_3 := Aside0.mk (show Kd.V k30 30 _ w.heap.size _ _ ((rd_T26 l0 x7_2).f3) from Kd.V_mk ul210_3 ge210_3)
          clear hva_ hvn_ hvc_ ge210_3 ul210_3
          clear hcc210 hce210
          have HR210_2 := Aside0.mk hi210_2
          have HC210_2 := Aside0.mk hl210_2
          clear hi210_2 hl210_2
          have HR210_3 := Aside0.mk hi210_3
          have HC210_3 := Aside0.mk hl210_3
          clear hi210_3 hl210_3
          replace p210 := eq_true p210
          replace q210 := eq_true q210
          have ea_ := Option.some.inj (hx209_2.symm.trans hx210_2)
          injection ea_ with ea_ en_ ec_
          subst ea_
          subst ec_
          clear en_
          have ea_ := Option.some.inj (hx209_3.symm.trans hx210_3)
          injection ea_ with ea_ en_ ec_
          subst ea_
          subst ec_
          clear en_
          go_wp2_with (first | (go_at_call 71; (with_reducible refine (spec_l3Less.calls a1_0 a1_1 ((rd_T26 l0 x7_2).f0) ((rd_T26 l0 x7_2).f1) false _ A19.out).mono ?_); rintro e w' ⟨rfl, ⟨nd, rfl⟩⟩; (try first | exact ⟨rfl, _, World.drewN_drewN _ _ _⟩ | exact ⟨rfl, _, Eq.trans (World.drewN_drewN _ _ _) (congrArg (World.drewN _) (Nat.add_assoc _ _ _))⟩)))
          repeat (go_quiet (first | (go_at_call 71; (with_reducible refine (spec_l3Less.calls a1_0 a1_1 ((rd_T26 l0 x7_2).f0) ((rd_T26 l0 x7_2).f1) false _ A19.out).mono ?_); rintro e w' ⟨rfl, ⟨nd, rfl⟩⟩; (try first | exact ⟨rfl, _, World.drewN_drewN _ _ _⟩ | exact ⟨rfl, _, Eq.trans (World.drewN_drewN _ _ _) (congrArg (World.drewN _) (Nat.add_assoc _ _ _))⟩))); try go_wp2_with (first | (go_at_call 71; (with_reducible refine (spec_l3Less.calls a1_0 a1_1 ((rd_T26 l0 x7_2).f0) ((rd_T26 l0 x7_2).f1) false _ A19.out).mono ?_); rintro e w' ⟨rfl, ⟨nd, rfl⟩⟩; (try first | exact ⟨rfl, _, World.drewN_drewN _ _ _⟩ | exact ⟨rfl, _, Eq.trans (World.drewN_drewN _ _ _) (congrArg (World.drewN _) (Nat.add_assoc _ _ _))⟩))))
          go_roundg k2
          case measure => have := HK1.out; have := HK2.out; omega
          case rel => exact ⟨(x5_2), (wrap64 (x7_2 + 1)), (by first | rfl | (simp; done) | (simp [*]; done)), H', ⟨by have := HK1.out; have := HK2.out; omega⟩, ⟨by (with_reducible repeat (first | apply Kd.V_alloc | apply Kd.V_drewN | apply Kd.V_drew)); exact HO_0.out⟩, ⟨by exact zN HO_5.out⟩, ⟨by (with_reducible repeat (first | apply Kd.V_alloc | apply Kd.V_drewN | apply Kd.V_drew)); exact HO_196002.out⟩, ⟨by (with_reducible repeat (first | apply Kd.V_alloc | apply Kd.V_drewN | apply Kd.V_drew)); exact HO_196003.out⟩, ⟨by exact zK BK195.out⟩, ⟨by exact zB1 HB.out GE195.out⟩⟩
        ·rw [if_neg c18] at H
         exact absurd H (by simp)
       ·rw [if_neg c17] at H
        have c17b0 : decide (x7_2 < (l0.length : Int)) = false := decide_eq_false c17
        clear c17
        obtain rfl := Option.some.inj H
        go_wp2
        repeat (go_quiet (fail); try go_wp2)
        go_ret
        exact ⟨_, by first | rfl | (simp [errW_none, errW_some] <;> rfl) | (simp [*, errW_none, errW_some] <;> rfl), by exact zN (Kd.N_mono HO_5.out (fun _ hk => hk.1)), by exact zB1 HB.out GE195.out⟩
    ·rw [if_neg c14] at H
     exact absurd H (by simp)

/-! ### spec_l71Pkgs: function 81 -/
def spec_l71Pkgs.l0 : Nat → List (S26) → Int → List Int → Int → Option ((List (S26)) × Int)
 | 0, _, _, _, _ => none
 | k + 1, x3, x4, x1000, x1001 => if x4 > 0 then ((spec_l6Rd_pick.f k x1000 x1001 4).bind fun bt221 => ((spec_l6Rd_pick.f k x1000 bt221.2 3).bind fun bt223 => ((spec_l71Pkg.f k x1000 bt223.2 (wrap64 (1 + bt221.1)) (wrap64 (1 + bt223.1))).bind fun bt225 => ((spec_l12Find.f k x3 bt225.1 bt225.2.1).bind fun t235 => (if t235 < 0 then ((spec_l12With.f k x3 bt225.1 bt225.2.1 bt225.2.2.1 bt225.2.2.2.1).bind fun t236 => (spec_l71Pkgs.l0 k t236 (wrap64 (x4 - 1)) x1000 bt225.2.2.2.2)) else (spec_l71Pkgs.l0 k x3 (wrap64 (x4 - 1)) x1000 bt225.2.2.2.2)))))) else (some (x3, x1001))
def spec_l71Pkgs.f (k : Nat) (s0_0 : List Int) (s0_1 : Int) : Option ((List (S26)) × Int) := (spec_l6Rd_pick.f k s0_0 s0_1 8).bind fun bt219 => (spec_l71Pkgs.l0 k (([] : List (S26))) bt219.1 s0_0 bt219.2)
theorem spec_l71Pkgs.mono_l : ∀ k, (∀ y0 y1 y2 y3, LeO (spec_l71Pkgs.l0 k y0 y1 y2 y3) (spec_l71Pkgs.l0 (k + 1) y0 y1 y2 y3))
 | 0 => fun _ _ _ _ r h => by simp [spec_l71Pkgs.l0] at h
 | k + 1 => by
  have ih0 := spec_l71Pkgs.mono_l k
  ·intro y0 y1 y2 y3
   unfold spec_l71Pkgs.l0
   repeat' first
   | (with_reducible exact ih0 _ _ _ _)
   | (with_reducible exact spec_l12Find.mono _ _ _ _)
   | (with_reducible exact spec_l12With.mono _ _ _ _ _ _)
   | (with_reducible exact spec_l6Rd_pick.mono _ _ _ _)
   | (with_reducible exact spec_l71Pkg.mono _ _ _ _ _)
   | (with_reducible exact LeO.refl _)
   | (with_reducible exact LeO.none _)
   | (with_reducible refine LeO.ite ?_ ?_)
   | (with_reducible refine LeO.bind ?_ (fun _ => ?_))
   | exact ih0 _ _ _ _
   | exact spec_l12Find.mono _ _ _ _
   | exact spec_l12With.mono _ _ _ _ _ _
   | exact spec_l6Rd_pick.mono _ _ _ _
   | exact spec_l71Pkg.mono _ _ _ _ _
   | exact LeO.none _
   | refine LeO.ite ?_ ?_
   | refine LeO.bind ?_ (fun _ => ?_)
theorem spec_l71Pkgs.mono : ∀ a0 a1 k, LeO (spec_l71Pkgs.f k a0 a1) (spec_l71Pkgs.f (k + 1) a0 a1) := by
 intro a0 a1 k
 have ih0 := spec_l71Pkgs.mono_l k
 unfold spec_l71Pkgs.f
 repeat' first
   | (with_reducible exact ih0 _ _ _ _)
   | (with_reducible exact spec_l12Find.mono _ _ _ _)
   | (with_reducible exact spec_l12With.mono _ _ _ _ _ _)
   | (with_reducible exact spec_l6Rd_pick.mono _ _ _ _)
   | (with_reducible exact spec_l71Pkg.mono _ _ _ _ _)
   | (with_reducible exact LeO.refl _)
   | (with_reducible exact LeO.none _)
   | (with_reducible refine LeO.ite ?_ ?_)
   | (with_reducible refine LeO.bind ?_ (fun _ => ?_))
   | exact ih0 _ _ _ _
   | exact spec_l12Find.mono _ _ _ _
   | exact spec_l12With.mono _ _ _ _ _ _
   | exact spec_l6Rd_pick.mono _ _ _ _
   | exact spec_l71Pkg.mono _ _ _ _ _
   | exact LeO.none _
   | refine LeO.ite ?_ ?_
   | refine LeO.bind ?_ (fun _ => ?_)
set_option maxHeartbeats 8000000 in
set_option maxRecDepth 100000 in
theorem spec_l71Pkgs.calls (k : Nat) (g : Nat) (s0_0 : List Int) (s0_1 : Int) (r1 : List (S26)) (r2 : Int) (w0 w : World) (hI : IsS105 w0 w g s0_0 s0_1) (hB : Below w0.heap.size w0 w) (h : spec_l71Pkgs.f k s0_0 s0_1 = some (r1, r2)) :
  Calls Try.prog 81 #[.pointer (some ⟨g, 0, none⟩)] w fun e w' => ∃ v0_ : Value, e = .returned (v0_) ∧ Kd.N k26 26 w' w.heap.size (fun k_ => (w.heap.size ≤ k_)) v0_ r1 ∧ IsS105 w0 w' g s0_0 r2 ∧ Below w0.heap.size w0 w' ∧ KeepBut w w' g none := by
 have hu26 := Try.underlying26
 have HI0 := Aside0.mk hI
 have HK := Aside0.mk (KeepBut.refl w g none)
 have HL := Aside0.mk hB.size
 clear hI
 have HW0 := Aside0.mk hB.size
 have HB := Aside0.mk hB
 clear hB
 have H : ((spec_l6Rd_pick.f k s0_0 s0_1 8).bind fun bt219 => (spec_l71Pkgs.l0 k (([] : List (S26))) bt219.1 s0_0 bt219.2)) = some (r1, r2) := h
 clear h
 obtain ⟨y216, hy216⟩ : ∃ y_ : List (S26), y_ = (([] : List (S26))) := ⟨_, rfl⟩
 replace H : ((spec_l6Rd_pick.f k s0_0 s0_1 8).bind fun bt219 => (spec_l71Pkgs.l0 k y216 bt219.1 s0_0 bt219.2)) = some (r1, r2) := by first | (rw [hy216]; with_reducible exact H) | (have H2_ := (Option.bind_some _ _).symm.trans H; rw [hy216]; with_reducible exact H2_) | (have H2_ := (Option.bind_some _ _).symm.trans H; with_reducible exact H2_) | with_reducible exact H | (rw [hy216]; exact H) | exact H
 have Ny216 := Aside0.mk hy216
 clear hy216
 replace H := Option.bind_eq_some_iff.mp H
 obtain ⟨⟨t219, t220⟩, A20, H⟩ := H
 replace H : (spec_l71Pkgs.l0 k y216 t219 s0_0 t220) = some (r1, r2) := H
 have A2 := Aside0.mk A20
 clear A20
 have H' := Aside0.mk H
 clear H
 go_enter Try.func81, Try.ntmps81
 go_wp2_with (first | ((with_reducible refine gate_dst (N := 6) rfl ?_); refine Kd.N_lit k26 _ 26 ?hg (N' := 6) ?hd (xs := ([] : List (S26))) (inner := []) (ok := (fun k_ => (w.heap.size ≤ k_) ∧ k_ ≠ g)) (okp := (fun k_ => (w.heap.size ≤ k_) ∧ k_ ≠ g)) ?hr ?hp (fun _ hk => hk) ((show ∀ k_, w.heap.size ≤ k_ → (fun k_ => (w.heap.size ≤ k_) ∧ k_ ≠ g) k_ from fun k_ hk => ⟨(Nat.le_trans (keep_size (w := w) (g := g) (row := none) (by repeat (first | (with_reducible first | exact HK.out | apply KeepBut.set_ | apply keep_drewN | apply keep_drew | apply keep_alloc) | exact HK.out))) hk), IsS105.fresh (by repeat (first | (with_reducible first | exact HI0.out | apply IsS105.alloc | apply IsS105.drewN | apply IsS105.drew | apply IsS105.set_1) | exact HI0.out)) k_ hk⟩) _ (Nat.le_refl _)) (Below.refl _ _) (Nat.le_refl _) (by simp) ?_; (case hd => rfl); (case hg => rfl); (case hr => first | (go_simp; done) | (go_simp; rfl)); (case hp => exact (Reps.none _ _)); intro v217 w3 ho4 hb hg_ hnew_; clear hg_ hnew_; (first | rw [← Ny216.out] at ho4 | (simp only [Int.reduceToNat] at ho4; rw [← Ny216.out] at ho4)); have n0_ := Aside0.mk (Kd.N_lower ho4 (keep_size (w := w) (g := g) (row := none) (by repeat (first | (with_reducible first | exact HK.out | apply KeepBut.set_ | apply keep_drewN | apply keep_drew | apply keep_alloc) | exact HK.out)))); have n1_ := Aside0.mk (IsS105.below (by repeat (first | (with_reducible first | exact HI0.out | apply IsS105.alloc | apply IsS105.drewN | apply IsS105.drew | apply IsS105.set_1) | exact HI0.out)) hb); have n2_ := Aside0.mk (KeepBut.trans (by repeat (first | (with_reducible first | exact HK.out | apply KeepBut.set_ | apply keep_drewN | apply keep_drew | apply keep_alloc) | exact HK.out)) (KeepBut.of_below hb g none) (.inl rfl)); have n3_ := Aside0.mk (below_step (by exact zB1 HB.out (IsS105.ge HI0.out)) hb); clear HI0; clear HK; clear HB; have HO218 := n0_; have HI0 := n1_; have HK := n2_; have HB := n3_; clear n0_ n1_ n2_ n3_; clear hb ho4) | ((with_reducible refine gate_callee (f := 46) rfl ?_); refine goesL_ (some 8) rfl rfl Try.func46 (by kernel_rfl) rfl #[.pointer (some ⟨g, 0, none⟩), .int .i64 8] rfl (by (try simp only [zm1, zm2, zm3]); first | done | rfl | (simp only [List.length_drop, List.length_take]; rfl)) ?_; (with_reducible refine (spec_l6Rd_pick.calls k g s0_0 s0_1 8 t219 t220 w0 _ ?side1 ?side2 A2.out).mono ?_); (case side1 => repeat (first | (with_reducible first | exact HI0.out | apply IsS105.alloc | apply IsS105.drewN | apply IsS105.drew | apply IsS105.set_1) | exact HI0.out)); (case side2 => exact zB1 HB.out (IsS105.ge HI0.out)); rintro e w5 ⟨rfl, hi, hb, hk⟩; refine ⟨_, rfl, ?_⟩; have n0_ := Aside0.mk (Kd.N_mono (Kd.N_keep (Kd.N_mono (ok := fun k_ => (((w.heap.size ≤ k_)) ∧ k_ ≠ g)) (by exact zN HO218.out) (fun k_ hk_ => (⟨hk_, hk_.2⟩ : _ ∧ k_ ≠ g))) hk (fun _ h => h.2)) (fun _ h => h.1)); have n1_ := Aside0.mk (KeepBut.trans (by repeat (first | (with_reducible first | exact HK.out | apply KeepBut.set_ | apply keep_drewN | apply keep_drew | apply keep_alloc) | exact HK.out)) hk (.inl rfl)); have n2_ := Aside0.mk (hb); have n3_ := Aside0.mk (hi); clear HO218; clear HK; clear HB; clear HI0; have HO218 := n0_; have HK := n1_; have HB := n2_; have HI0 := n3_; clear n0_ n1_ n2_ n3_; (try clear hb); (try clear hb2); (try clear hk); (try clear hi)))
 go_loopg [3, 4] k (fun kq v3 v4 w' => ∃ (x3_1 : List (S26)) (x4_1 : Int) (x1001_1 : Int), v4 = .int .i64 x4_1 ∧ Aside0 (spec_l71Pkgs.l0 kq x3_1 x4_1 s0_0 x1001_1 = some (r1, r2)) ∧ Aside0 (kq ≤ k) ∧ Aside0 (Kd.N k26 26 w' w.heap.size (fun k_ => (w.heap.size ≤ k_) ∧ k_ ≠ g) v3 x3_1) ∧ Aside0 (IsS105 w0 w' g s0_0 x1001_1) ∧ Aside0 (KeepBut w w' g none) ∧ Aside0 (Below w0.heap.size w0 w'))
 case atStart => exact ⟨(y216), (t219), (t220), (by first | rfl | (simp; done) | (simp [*]; done)), H', ⟨Nat.le_refl _⟩, ⟨by exact zN HO218.out⟩, ⟨by repeat (first | (with_reducible first | exact HI0.out | apply IsS105.alloc | apply IsS105.drewN | apply IsS105.drew | apply IsS105.set_1) | exact HI0.out)⟩, ⟨by repeat (first | (with_reducible first | exact HK.out | apply KeepBut.set_ | apply keep_drewN | apply keep_drew | apply keep_alloc) | exact HK.out)⟩, ⟨by exact zB1 HB.out (IsS105.ge HI0.out)⟩⟩
 case round =>
  clear H'
  try clear p2
  try clear c4
  obtain ⟨x3_1, x4_1, x1001_1, rfl, HA, HK1, HO_3, HI0, HK, HB⟩ := hrel
  cases gk with
  | zero => exact absurd HA.out (by simp [spec_l71Pkgs.l0])
  | succ k1 =>
   have H := HA.out
   clear HA
   simp only [spec_l71Pkgs.l0] at H
   by_cases c6 : x4_1 > 0
   ·rw [if_pos c6] at H
    have c6b0 : decide (0 < x4_1) = true := decide_eq_true c6
    clear c6
    replace H := Option.bind_eq_some_iff.mp H
    obtain ⟨⟨t221, t222⟩, A70, H⟩ := H
    replace H : ((spec_l6Rd_pick.f k1 s0_0 t222 3).bind fun bt223 => ((spec_l71Pkg.f k1 s0_0 bt223.2 (wrap64 (1 + t221)) (wrap64 (1 + bt223.1))).bind fun bt225 => ((spec_l12Find.f k1 x3_1 bt225.1 bt225.2.1).bind fun t235 => (if t235 < 0 then ((spec_l12With.f k1 x3_1 bt225.1 bt225.2.1 bt225.2.2.1 bt225.2.2.2.1).bind fun t236 => (spec_l71Pkgs.l0 k1 t236 (wrap64 (x4_1 - 1)) s0_0 bt225.2.2.2.2)) else (spec_l71Pkgs.l0 k1 x3_1 (wrap64 (x4_1 - 1)) s0_0 bt225.2.2.2.2))))) = some (r1, r2) := H
    have A7 := Aside0.mk A70
    clear A70
    replace H := Option.bind_eq_some_iff.mp H
    obtain ⟨⟨t223, t224⟩, A80, H⟩ := H
    replace H : ((spec_l71Pkg.f k1 s0_0 t224 (wrap64 (1 + t221)) (wrap64 (1 + t223))).bind fun bt225 => ((spec_l12Find.f k1 x3_1 bt225.1 bt225.2.1).bind fun t235 => (if t235 < 0 then ((spec_l12With.f k1 x3_1 bt225.1 bt225.2.1 bt225.2.2.1 bt225.2.2.2.1).bind fun t236 => (spec_l71Pkgs.l0 k1 t236 (wrap64 (x4_1 - 1)) s0_0 bt225.2.2.2.2)) else (spec_l71Pkgs.l0 k1 x3_1 (wrap64 (x4_1 - 1)) s0_0 bt225.2.2.2.2)))) = some (r1, r2) := H
    have A8 := Aside0.mk A80
    clear A80
    replace H := Option.bind_eq_some_iff.mp H
    obtain ⟨⟨t225, t226, t227, t230, t233⟩, A90, H⟩ := H
    replace H : ((spec_l12Find.f k1 x3_1 t225 t226).bind fun t235 => (if t235 < 0 then ((spec_l12With.f k1 x3_1 t225 t226 t227 t230).bind fun t236 => (spec_l71Pkgs.l0 k1 t236 (wrap64 (x4_1 - 1)) s0_0 t233)) else (spec_l71Pkgs.l0 k1 x3_1 (wrap64 (x4_1 - 1)) s0_0 t233))) = some (r1, r2) := H
    have A9 := Aside0.mk A90
    clear A90
    replace H := Option.bind_eq_some_iff.mp H
    obtain ⟨t235, A100, H⟩ := H
    replace H : (if t235 < 0 then ((spec_l12With.f k1 x3_1 t225 t226 t227 t230).bind fun t236 => (spec_l71Pkgs.l0 k1 t236 (wrap64 (x4_1 - 1)) s0_0 t233)) else (spec_l71Pkgs.l0 k1 x3_1 (wrap64 (x4_1 - 1)) s0_0 t233)) = some (r1, r2) := H
    have A10 := Aside0.mk A100
    clear A100
    by_cases c11 : t235 < 0
    ·rw [if_pos c11] at H
     have c11b0 : decide (t235 < 0) = true := decide_eq_true c11
     clear c11
     replace H := Option.bind_eq_some_iff.mp H
     obtain ⟨t236, A120, H⟩ := H
     replace H : (spec_l71Pkgs.l0 k1 t236 (wrap64 (x4_1 - 1)) s0_0 t233) = some (r1, r2) := H
     have A12 := Aside0.mk A120
     clear A120
     have H' := Aside0.mk H
     clear H
     go_wp2_with (first | ((with_reducible refine gate_callee (f := 46) rfl ?_); refine goesL_ (some 15) rfl rfl Try.func46 (by kernel_rfl) rfl #[.pointer (some ⟨g, 0, none⟩), .int .i64 4] rfl (by (try simp only [zm1, zm2, zm3]); first | done | rfl | (simp only [List.length_drop, List.length_take]; rfl)) ?_; (with_reducible refine (spec_l6Rd_pick.calls k1 g s0_0 x1001_1 4 t221 t222 w0 _ ?side1 ?side2 A7.out).mono ?_); (case side1 => repeat (first | (with_reducible first | exact HI0.out | apply IsS105.alloc | apply IsS105.drewN | apply IsS105.drew | apply IsS105.set_1) | exact HI0.out)); (case side2 => exact zB1 HB.out (IsS105.ge HI0.out)); rintro e w13 ⟨rfl, hi, hb, hk⟩; refine ⟨_, rfl, ?_⟩; have n0_ := Aside0.mk (Kd.N_mono (Kd.N_keep (Kd.N_mono (ok := fun k_ => (((w.heap.size ≤ k_)) ∧ k_ ≠ g)) (by exact zN HO_3.out) (fun k_ hk_ => (⟨hk_, hk_.2⟩ : _ ∧ k_ ≠ g))) hk (fun _ h => h.2)) (fun _ h => h.1)); have n1_ := Aside0.mk (KeepBut.trans (by repeat (first | (with_reducible first | exact HK.out | apply KeepBut.set_ | apply keep_drewN | apply keep_drew | apply keep_alloc) | exact HK.out)) hk (.inl rfl)); have n2_ := Aside0.mk (hb); have n3_ := Aside0.mk (hi); clear HO_3; clear HK; clear HB; clear HI0; have HO_3 := n0_; have HK := n1_; have HB := n2_; have HI0 := n3_; clear n0_ n1_ n2_ n3_; (try clear hb); (try clear hb2); (try clear hk); (try clear hi)) | ((with_reducible refine gate_callee (f := 46) rfl ?_); refine goesL_ (some 18) rfl rfl Try.func46 (by kernel_rfl) rfl #[.pointer (some ⟨g, 0, none⟩), .int .i64 3] rfl (by (try simp only [zm1, zm2, zm3]); first | done | rfl | (simp only [List.length_drop, List.length_take]; rfl)) ?_; (with_reducible refine (spec_l6Rd_pick.calls k1 g s0_0 t222 3 t223 t224 w0 _ ?side1 ?side2 A8.out).mono ?_); (case side1 => repeat (first | (with_reducible first | exact HI0.out | apply IsS105.alloc | apply IsS105.drewN | apply IsS105.drew | apply IsS105.set_1) | exact HI0.out)); (case side2 => exact zB1 HB.out (IsS105.ge HI0.out)); rintro e w14 ⟨rfl, hi, hb, hk⟩; refine ⟨_, rfl, ?_⟩; have n0_ := Aside0.mk (Kd.N_mono (Kd.N_keep (Kd.N_mono (ok := fun k_ => (((w.heap.size ≤ k_)) ∧ k_ ≠ g)) (by exact zN HO_3.out) (fun k_ hk_ => (⟨hk_, hk_.2⟩ : _ ∧ k_ ≠ g))) hk (fun _ h => h.2)) (fun _ h => h.1)); have n1_ := Aside0.mk (KeepBut.trans (by repeat (first | (with_reducible first | exact HK.out | apply KeepBut.set_ | apply keep_drewN | apply keep_drew | apply keep_alloc) | exact HK.out)) hk (.inl rfl)); have n2_ := Aside0.mk (hb); have n3_ := Aside0.mk (hi); clear HO_3; clear HK; clear HB; clear HI0; have HO_3 := n0_; have HK := n1_; have HB := n2_; have HI0 := n3_; clear n0_ n1_ n2_ n3_; (try clear hb); (try clear hb2); (try clear hk); (try clear hi)) | ((with_reducible refine gate_callee (f := 72) rfl ?_); refine goesL_ (some 20) rfl rfl Try.func72 (by kernel_rfl) rfl #[.pointer (some ⟨g, 0, none⟩), .int .i64 (wrap64 (1 + t221)), .int .i64 (wrap64 (1 + t223))] rfl (by (try simp only [zm1, zm2, zm3]); first | done | rfl | (simp only [List.length_drop, List.length_take]; rfl)) ?_; (with_reducible refine (spec_l71Pkg.calls k1 g s0_0 t224 (wrap64 (1 + t221)) (wrap64 (1 + t223)) t225 t226 t227 t230 t233 w0 _ ?side1 ?side2 A9.out).mono ?_); (case side1 => repeat (first | (with_reducible first | exact HI0.out | apply IsS105.alloc | apply IsS105.drewN | apply IsS105.drew | apply IsS105.set_1) | exact HI0.out)); (case side2 => exact zB1 HB.out (IsS105.ge HI0.out)); rintro e w15 ⟨v228, v231, rfl, ho0, ho1, hi, hb, hk⟩; refine ⟨_, rfl, ?_⟩; have n0_ := Aside0.mk (Kd.N_mono (Kd.N_told (Kd.N_told (Kd.N_oldK (Kd.N_mono (ok := fun k_ => (((w.heap.size ≤ k_)) ∧ k_ ≠ g)) (by exact zN HO_3.out) (fun k_ hk_ => (⟨hk_, hk_.2⟩ : _ ∧ k_ ≠ g))) hk) (Kd.R_base ho0)) (Kd.R_base ho1)) (fun _ h_ => h_.1)); have n1_ := Aside0.mk (Kd.R_lower (Kd.R_newM (M := fun k_ => (w.heap.size ≤ k_)) ho0 (keep_size (w := w) (g := g) (row := none) (by repeat (first | (with_reducible first | exact HK.out | apply KeepBut.set_ | apply keep_drewN | apply keep_drew | apply keep_alloc) | exact HK.out))) (fun k_ h_ => h_)) (keep_size (w := w) (g := g) (row := none) (by repeat (first | (with_reducible first | exact HK.out | apply KeepBut.set_ | apply keep_drewN | apply keep_drew | apply keep_alloc) | exact HK.out)))); have n2_ := Aside0.mk (Kd.R_lower (Kd.R_newM (M := fun k_ => (w.heap.size ≤ k_)) ho1 (keep_size (w := w) (g := g) (row := none) (by repeat (first | (with_reducible first | exact HK.out | apply KeepBut.set_ | apply keep_drewN | apply keep_drew | apply keep_alloc) | exact HK.out))) (fun k_ h_ => h_)) (keep_size (w := w) (g := g) (row := none) (by repeat (first | (with_reducible first | exact HK.out | apply KeepBut.set_ | apply keep_drewN | apply keep_drew | apply keep_alloc) | exact HK.out)))); have n3_ := Aside0.mk (KeepBut.trans (by repeat (first | (with_reducible first | exact HK.out | apply KeepBut.set_ | apply keep_drewN | apply keep_drew | apply keep_alloc) | exact HK.out)) hk (.inl rfl)); have n4_ := Aside0.mk (hb); have n5_ := Aside0.mk (hi); clear HO_3; clear HK; clear HB; clear HI0; have HO_3 := n0_; have HO229 := n1_; have HO232 := n2_; have HK := n3_; have HB := n4_; have HI0 := n5_; clear n0_ n1_ n2_ n3_ n4_ n5_; (try clear hb); (try clear hb2); (try clear hk); (try clear hi); (try clear ho0); (try clear ho1)) | ((with_reducible refine gate_dst (N := 5) rfl ?_); refine box_event ?hg (N := 5) ?hd (cs := #[.int .i64 0, .int .i64 0, .slice none 0 0, .slice none 0 0]) (t := 26) ?hr ?_; (case hd => rfl); (case hg => rfl); (case hr => first | (go_simp; done) | (go_simp; rfl)); intro gb234 hg w16 hbox hb; have n0_ := Aside0.mk (Kd.N_below (Kd.N_elderB (by exact zN HO_3.out) gb234 (Nat.le_of_eq hg.symm)) hb); have n1_ := Aside0.mk (Kd.R_below (by exact zR HO229.out) hb); have n2_ := Aside0.mk (Kd.R_below (by exact zR HO232.out) hb); have n3_ := Aside0.mk (IsS105.below (by repeat (first | (with_reducible first | exact HI0.out | apply IsS105.alloc | apply IsS105.drewN | apply IsS105.drew | apply IsS105.set_1) | exact HI0.out)) hb); have n4_ := Aside0.mk (KeepBut.trans (by repeat (first | (with_reducible first | exact HK.out | apply KeepBut.set_ | apply keep_drewN | apply keep_drew | apply keep_alloc) | exact HK.out)) (KeepBut.of_below hb g none) (.inl rfl)); have n5_ := Aside0.mk (below_step (by exact zB1 HB.out (IsS105.ge HI0.out)) hb); have n6_ := Aside0.mk (hbox); have n7_ := Aside0.mk ((by rw [hg]; exact (keep_size (w := w) (g := g) (row := none) (by repeat (first | (with_reducible first | exact HK.out | apply KeepBut.set_ | apply keep_drewN | apply keep_drew | apply keep_alloc) | exact HK.out))) : w.heap.size ≤ gb234)); have n8_ := Aside0.mk ((Nat.le_trans HW0.out (by rw [hg]; exact (keep_size (w := w) (g := g) (row := none) (by repeat (first | (with_reducible first | exact HK.out | apply KeepBut.set_ | apply keep_drewN | apply keep_drew | apply keep_alloc) | exact HK.out))) : w.heap.size ≤ gb234) : w0.heap.size ≤ gb234)); have n9_ := Aside0.mk ((by rw [hg]; exact Nat.ne_of_lt (IsS105.lt (show IsS105 w0 _ g s0_0 t233 from by repeat (first | (with_reducible first | exact HI0.out | apply IsS105.alloc | apply IsS105.drewN | apply IsS105.drew | apply IsS105.set_1) | exact HI0.out))) : g ≠ gb234)); have n10_ := Aside0.mk ((by rw [hg]; exact Nat.ne_of_gt (IsS105.lt (show IsS105 w0 _ g s0_0 t233 from by repeat (first | (with_reducible first | exact HI0.out | apply IsS105.alloc | apply IsS105.drewN | apply IsS105.drew | apply IsS105.set_1) | exact HI0.out))) : gb234 ≠ g)); clear HO_3; clear HO229; clear HO232; clear HI0; clear HK; clear HB; have HO_3 := n0_; have HO229 := n1_; have HO232 := n2_; have HI0 := n3_; have HK := n4_; have HB := n5_; have BK234 := n6_; have GW234 := n7_; have GE234 := n8_; have NB0_234 := n9_; have NB234_0 := n10_; clear n0_ n1_ n2_ n3_ n4_ n5_ n6_ n7_ n8_ n9_ n10_; clear hb hbox hg; have hnb17 := NB234_0.out; have hnc17 := NB0_234.out; obtain ⟨hcz18_0, hcz18_1, hcz18_2, hcz18_3, hfz18_0, hfz18_1, hfz18_2, hfz18_3⟩ := zc4f BK234.out; obtain ⟨Ao19, co19, eo19⟩ := Kd.R_slice HO229.out; subst eo19; obtain ⟨Ao20, co20, eo20⟩ := Kd.R_slice HO232.out; subst eo20) | ((with_reducible refine gate_store (t := 26) (p := 5) rfl ?_); refine store_event (t := 26) (p := 5) (v := ?vo_w21) (w1 := ((((w16.setCell ⟨gb234, 0, none⟩ (.int .i64 t225)).setCell ⟨gb234, 1, none⟩ (.int .i64 t226)).setCell ⟨gb234, 2, none⟩ (.slice Ao19 t227.length co19)).setCell ⟨gb234, 3, none⟩ (.slice Ao20 t230.length co20))) ?hg ?ho ?hn ?hr ?_; (case ho => rfl); (case hg => rfl); (case hn => rfl); (case hr => first | (go_simp; done) | (go_simp; rfl)); intro w21 hw; have n0_ : Aside0 (Kd.N k26 26 w21 w.heap.size (fun k_ => (w.heap.size ≤ k_) ∧ some k_ ≠ (.slice Ao19 t227.length co19 : Value).ownBlock ∧ some k_ ≠ (.slice Ao20 t230.length co20 : Value).ownBlock ∧ k_ ≠ g ∧ k_ ≠ gb234) u3 x3_1) := ⟨(by rw [hw]; exact (by exact zN (Kd.N_mono (Kd.N_far (p := ⟨gb234, 3, none⟩) (Kd.N_far (p := ⟨gb234, 2, none⟩) (Kd.N_far (p := ⟨gb234, 1, none⟩) (Kd.N_far (p := ⟨gb234, 0, none⟩) (Kd.N_mono HO_3.out (fun k_ hk => (⟨hk, hk.2⟩ : _ ∧ k_ ≠ gb234))) (fun _ hk => hk.2) (.int .i64 t225)) (fun _ hk => hk.2) (.int .i64 t226)) (fun _ hk => hk.2) (.slice Ao19 t227.length co19)) (fun _ hk => hk.2) (.slice Ao20 t230.length co20)) (fun _ hk => ⟨hk.1.1.1.1.1, ⟨hk.1.1.1.2, ⟨hk.1.1.2, ⟨hk.1.1.1.1.2, hk.1.2⟩⟩⟩⟩))))⟩; have n1_ : Aside0 (Kd.R k82 82 w21 w.heap.size (fun k_ => (w.heap.size ≤ k_)) (.slice Ao19 t227.length co19) t227) := ⟨(by rw [hw]; exact (by exact zR (Kd.R_mono (Kd.R_far (p := ⟨gb234, 3, none⟩) (Kd.R_far (p := ⟨gb234, 2, none⟩) (Kd.R_far (p := ⟨gb234, 1, none⟩) (Kd.R_far (p := ⟨gb234, 0, none⟩) (Kd.R_types HO229.out BK234.out (by decide)) (fun _ hk => hk.2) (.int .i64 t225)) (fun _ hk => hk.2) (.int .i64 t226)) (fun _ hk => hk.2) (.slice Ao19 t227.length co19)) (fun _ hk => hk.2) (.slice Ao20 t230.length co20)) (fun _ hk => hk.1.1))))⟩; have n2_ : Aside0 (Kd.R k30 30 w21 w.heap.size (fun k_ => (w.heap.size ≤ k_)) (.slice Ao20 t230.length co20) t230) := ⟨(by rw [hw]; exact (by exact zR (Kd.R_mono (Kd.R_far (p := ⟨gb234, 3, none⟩) (Kd.R_far (p := ⟨gb234, 2, none⟩) (Kd.R_far (p := ⟨gb234, 1, none⟩) (Kd.R_far (p := ⟨gb234, 0, none⟩) (Kd.R_types HO232.out BK234.out (by decide)) (fun _ hk => hk.2) (.int .i64 t225)) (fun _ hk => hk.2) (.int .i64 t226)) (fun _ hk => hk.2) (.slice Ao19 t227.length co19)) (fun _ hk => hk.2) (.slice Ao20 t230.length co20)) (fun _ hk => hk.1.1))))⟩; have n3_ : Aside0 (w21.heap[gb234]? = some (.cells #[.int .i64 t225, .int .i64 t226, .slice Ao19 t227.length co19, .slice Ao20 t230.length co20] 26 (0, 0))) := ⟨(by rw [hw]; exact (by (with_reducible repeat (first | refine blk_drewN ?_ _ | refine blk_drew ?_ | refine blk_alloc ?_ _)); refine blk_put (cs := #[.int .i64 t225, .int .i64 t226, .slice Ao19 t227.length co19, .slice none 0 0]) ?_ 3 _ rfl; (with_reducible repeat (first | refine blk_drewN ?_ _ | refine blk_drew ?_ | refine blk_alloc ?_ _)); refine blk_put (cs := #[.int .i64 t225, .int .i64 t226, .slice none 0 0, .slice none 0 0]) ?_ 2 _ rfl; (with_reducible repeat (first | refine blk_drewN ?_ _ | refine blk_drew ?_ | refine blk_alloc ?_ _)); refine blk_put (cs := #[.int .i64 t225, .int .i64 0, .slice none 0 0, .slice none 0 0]) ?_ 1 _ rfl; (with_reducible repeat (first | refine blk_drewN ?_ _ | refine blk_drew ?_ | refine blk_alloc ?_ _)); refine blk_put (cs := #[.int .i64 0, .int .i64 0, .slice none 0 0, .slice none 0 0]) ?_ 0 _ rfl; exact zK BK234.out))⟩; have n4_ : Aside0 (IsS105 w0 w21 g s0_0 t233) := ⟨(by rw [hw]; exact (by repeat (first | (with_reducible first | exact HI0.out | apply IsS105.alloc | apply IsS105.drewN | apply IsS105.drew | apply IsS105.set_1 | refine IsS105.far ?_ NB0_234.out _) | exact HI0.out)))⟩; have n5_ : Aside0 (KeepBut w w21 g none) := ⟨(by rw [hw]; exact (by repeat (first | (with_reducible first | exact HK.out | apply KeepBut.set_ | apply keep_drewN | apply keep_drew | apply keep_alloc | refine keep_far ?_ GW234.out _) | exact HK.out)))⟩; have n6_ : Aside0 (Below w0.heap.size w0 w21) := ⟨(by rw [hw]; exact (by exact zB2 HB.out (IsS105.ge HI0.out) GE234.out))⟩; clear hw; clear HO_3; clear HO229; clear HO232; clear BK234; clear HI0; clear HK; clear HB; have HO_3 := n0_; have HO229 := n1_; have HO232 := n2_; have BK234 := n3_; have HI0 := n4_; have HK := n5_; have HB := n6_; clear n0_ n1_ n2_ n3_ n4_ n5_ n6_; obtain ⟨hcz22_0, hcz22_1, hcz22_2, hcz22_3, hfz22_0, hfz22_1, hfz22_2, hfz22_3⟩ := zc4f BK234.out; obtain ⟨Ao23, co23, eo23⟩ := Kd.N_slice HO_3.out; subst eo23) | ((with_reducible refine gate_callee (f := 83) rfl ?_); refine goesL_ (some 26) rfl rfl Try.func83 (by kernel_rfl) rfl #[.slice Ao23 x3_1.length co23, .int .i64 t225, .int .i64 t226] rfl (by (try simp only [zm1, zm2, zm3]); first | done | rfl | (simp only [List.length_drop, List.length_take]; rfl)) ?_; (with_reducible refine (spec_l12Find.calls k1 _ _ x3_1 t225 t226 t235 _ ?side1 ?side2 A10.out).mono ?_); (case side1 => exact zC (Kd.N_reads' HO_3.out).2.2); (case side2 => exact (Kd.N_reads' HO_3.out).2.1); rintro e w' ⟨rfl, ⟨nd, rfl⟩⟩; refine ⟨_, rfl, ?_⟩) | ((with_reducible refine gate_callee (f := 84) rfl ?_); refine goesL_ (some 30) rfl rfl Try.func84 (by kernel_rfl) rfl #[.slice Ao23 x3_1.length co23, .agg #[.int .i64 t225, .int .i64 t226, .slice Ao19 t227.length co19, .slice Ao20 t230.length co20]] rfl (by (try simp only [zm1, zm2, zm3]); first | done | rfl | (simp only [List.length_drop, List.length_take]; rfl)) ?_; (with_reducible refine (spec_l12With.calls k1 (fun k_ => ((w.heap.size ≤ k_) ∧ (some k_ ≠ (.slice Ao19 t227.length co19 : Value).ownBlock ∧ (some k_ ≠ (.slice Ao20 t230.length co20 : Value).ownBlock ∧ (k_ ≠ g ∧ k_ ≠ gb234))))) _ _ x3_1 t225 t226 (fun k_ => some k_ = (.slice Ao19 t227.length co19 : Value).ownBlock) _ _ t227 (fun k_ => some k_ = (.slice Ao20 t230.length co20 : Value).ownBlock) _ _ t230 t236 _ ?side1 ?side2 ?side3 A12.out).mono ?_); (case side1 => exact Kd.N_V (HO_3.out)); (case side2 => exact Kd.R_V (Kd.R_tight rfl (IsS105.apart HI0.out (Kd.R_types (Kd.R_apart' (Kd.R_apart' (HO229.out) (Kd.N_typed HO_3.out) (by decide)) (Kd.R_typed HO232.out) (by decide)) BK234.out (by decide)) (by decide)))); (case side3 => exact Kd.R_V (Kd.R_tight rfl (IsS105.apart HI0.out (Kd.R_types (Kd.R_apart' (Kd.R_apart' (HO232.out) (Kd.N_typed HO_3.out) (by decide)) (Kd.R_typed HO229.out) (by decide)) BK234.out (by decide)) (by decide)))); rintro e w24 ⟨v237, rfl, ho0, hb⟩; refine ⟨_, rfl, ?_⟩; have n0_ := Aside0.mk (Kd.N_elder' (by exact zN HO_3.out) (Kd.N_base ho0) hb); have n1_ := Aside0.mk (Kd.R_below (by exact zR HO229.out) hb); have n2_ := Aside0.mk (Kd.R_below (by exact zR HO232.out) hb); have n3_ := Aside0.mk (Kd.N_lower (Kd.N_mono (ok' := fun k_ => (w.heap.size ≤ k_) ∧ k_ ≠ gb234 ∧ k_ ≠ g) ho0 (fun k_ hk_ => ⟨Or.elim hk_ (fun hs_ => Or.elim hs_ (fun hs_ => hs_.1) (fun hs_ => Or.elim hs_ (fun hs_ => ((IsS105.apart HI0.out (Kd.R_types (Kd.R_apart' (Kd.R_apart' (HO229.out) (Kd.N_typed HO_3.out) (by decide)) (Kd.R_typed HO232.out) (by decide)) BK234.out (by decide)) (by decide)).1 k_ hs_.symm).1.1.1.1) (fun hs_ => ((IsS105.apart HI0.out (Kd.R_types (Kd.R_apart' (Kd.R_apart' (HO232.out) (Kd.N_typed HO_3.out) (by decide)) (Kd.R_typed HO229.out) (by decide)) BK234.out (by decide)) (by decide)).1 k_ hs_.symm).1.1.1.1))) (fun hn_ => (Nat.le_trans (keep_size (w := w) (g := g) (row := none) (by repeat (first | (with_reducible first | exact HK.out | apply KeepBut.set_ | apply keep_drewN | apply keep_drew | apply keep_alloc | refine keep_far ?_ GW234.out _) | exact HK.out))) hn_)), Or.elim hk_ (fun hs_ => Or.elim hs_ (fun hs_ => hs_.2.2.2.2) (fun hs_ => Or.elim hs_ (fun hs_ => ((IsS105.apart HI0.out (Kd.R_types (Kd.R_apart' (Kd.R_apart' (HO229.out) (Kd.N_typed HO_3.out) (by decide)) (Kd.R_typed HO232.out) (by decide)) BK234.out (by decide)) (by decide)).1 k_ hs_.symm).1.2) (fun hs_ => ((IsS105.apart HI0.out (Kd.R_types (Kd.R_apart' (Kd.R_apart' (HO232.out) (Kd.N_typed HO_3.out) (by decide)) (Kd.R_typed HO229.out) (by decide)) BK234.out (by decide)) (by decide)).1 k_ hs_.symm).1.2))) (fun hn_ => (Kd.freshB (g := gb234) (o := .cells #[.int .i64 t225, .int .i64 t226, .slice Ao19 t227.length co19, .slice Ao20 t230.length co20] 26 (0, 0)) (by exact zK BK234.out) k_ hn_)), Or.elim hk_ (fun hs_ => Or.elim hs_ (fun hs_ => hs_.2.2.2.1) (fun hs_ => Or.elim hs_ (fun hs_ => ((IsS105.apart HI0.out (Kd.R_types (Kd.R_apart' (Kd.R_apart' (HO229.out) (Kd.N_typed HO_3.out) (by decide)) (Kd.R_typed HO232.out) (by decide)) BK234.out (by decide)) (by decide)).1 k_ hs_.symm).2) (fun hs_ => ((IsS105.apart HI0.out (Kd.R_types (Kd.R_apart' (Kd.R_apart' (HO232.out) (Kd.N_typed HO_3.out) (by decide)) (Kd.R_typed HO229.out) (by decide)) BK234.out (by decide)) (by decide)).1 k_ hs_.symm).2))) (fun hn_ => (IsS105.fresh (by repeat (first | (with_reducible first | exact HI0.out | apply IsS105.alloc | apply IsS105.drewN | apply IsS105.drew | apply IsS105.set_1 | refine IsS105.far ?_ NB0_234.out _) | exact HI0.out)) k_ hn_))⟩)) (keep_size (w := w) (g := g) (row := none) (by repeat (first | (with_reducible first | exact HK.out | apply KeepBut.set_ | apply keep_drewN | apply keep_drew | apply keep_alloc | refine keep_far ?_ GW234.out _) | exact HK.out)))); have n4_ := Aside0.mk (IsS105.below (by repeat (first | (with_reducible first | exact HI0.out | apply IsS105.alloc | apply IsS105.drewN | apply IsS105.drew | apply IsS105.set_1 | refine IsS105.far ?_ NB0_234.out _) | exact HI0.out)) hb); have n5_ := Aside0.mk (blk_below (g := gb234) (o := .cells #[.int .i64 t225, .int .i64 t226, .slice Ao19 t227.length co19, .slice Ao20 t230.length co20] 26 (0, 0)) (by exact zK BK234.out) hb); have n6_ := Aside0.mk (KeepBut.trans (by repeat (first | (with_reducible first | exact HK.out | apply KeepBut.set_ | apply keep_drewN | apply keep_drew | apply keep_alloc | refine keep_far ?_ GW234.out _) | exact HK.out)) (KeepBut.of_below hb g none) (.inl rfl)); have n7_ := Aside0.mk (below_step (by exact zB2 HB.out (IsS105.ge HI0.out) GE234.out) hb); clear HO_3; clear HO229; clear HO232; clear HI0; clear BK234; clear HK; clear HB; have HO_3 := n0_; have HO229 := n1_; have HO232 := n2_; have HO238 := n3_; have HI0 := n4_; have BK234 := n5_; have HK := n6_; have HB := n7_; clear n0_ n1_ n2_ n3_ n4_ n5_ n6_ n7_; (try clear hb); (try clear hb2); (try clear hk); (try clear hi); (try clear ho0)))
     go_roundg k1
     case measure => have := HK1.out; omega
     case rel => exact ⟨(t236), (wrap64 (x4_1 - 1)), (t233), (by first | rfl | (simp; done) | (simp [*]; done)), H', ⟨by have := HK1.out; omega⟩, ⟨by exact zN (Kd.N_mono HO238.out (fun _ hk => ⟨hk.1, hk.2.2⟩))⟩, ⟨by repeat (first | (with_reducible first | exact HI0.out | apply IsS105.alloc | apply IsS105.drewN | apply IsS105.drew | apply IsS105.set_1 | refine IsS105.far ?_ NB0_234.out _) | exact HI0.out)⟩, ⟨by repeat (first | (with_reducible first | exact HK.out | apply KeepBut.set_ | apply keep_drewN | apply keep_drew | apply keep_alloc | refine keep_far ?_ GW234.out _) | exact HK.out)⟩, ⟨by exact zB2 HB.out (IsS105.ge HI0.out) GE234.out⟩⟩
    ·rw [if_neg c11] at H
     have c11b0 : decide (t235 < 0) = false := decide_eq_false c11
     clear c11
     have H' := Aside0.mk H
     clear H
     go_wp2_with (first | ((with_reducible refine gate_callee (f := 46) rfl ?_); refine goesL_ (some 15) rfl rfl Try.func46 (by kernel_rfl) rfl #[.pointer (some ⟨g, 0, none⟩), .int .i64 4] rfl (by (try simp only [zm1, zm2, zm3]); first | done | rfl | (simp only [List.length_drop, List.length_take]; rfl)) ?_; (with_reducible refine (spec_l6Rd_pick.calls k1 g s0_0 x1001_1 4 t221 t222 w0 _ ?side1 ?side2 A7.out).mono ?_); (case side1 => repeat (first | (with_reducible first | exact HI0.out | apply IsS105.alloc | apply IsS105.drewN | apply IsS105.drew | apply IsS105.set_1) | exact HI0.out)); (case side2 => exact zB1 HB.out (IsS105.ge HI0.out)); rintro e w25 ⟨rfl, hi, hb, hk⟩; refine ⟨_, rfl, ?_⟩; have n0_ := Aside0.mk (Kd.N_mono (Kd.N_keep (Kd.N_mono (ok := fun k_ => (((w.heap.size ≤ k_)) ∧ k_ ≠ g)) (by exact zN HO_3.out) (fun k_ hk_ => (⟨hk_, hk_.2⟩ : _ ∧ k_ ≠ g))) hk (fun _ h => h.2)) (fun _ h => h.1)); have n1_ := Aside0.mk (KeepBut.trans (by repeat (first | (with_reducible first | exact HK.out | apply KeepBut.set_ | apply keep_drewN | apply keep_drew | apply keep_alloc) | exact HK.out)) hk (.inl rfl)); have n2_ := Aside0.mk (hb); have n3_ := Aside0.mk (hi); clear HO_3; clear HK; clear HB; clear HI0; have HO_3 := n0_; have HK := n1_; have HB := n2_; have HI0 := n3_; clear n0_ n1_ n2_ n3_; (try clear hb); (try clear hb2); (try clear hk); (try clear hi)) | ((with_reducible refine gate_callee (f := 46) rfl ?_); refine goesL_ (some 18) rfl rfl Try.func46 (by kernel_rfl) rfl #[.pointer (some ⟨g, 0, none⟩), .int .i64 3] rfl (by (try simp only [zm1, zm2, zm3]); first | done | rfl | (simp only [List.length_drop, List.length_take]; rfl)) ?_; (with_reducible refine (spec_l6Rd_pick.calls k1 g s0_0 t222 3 t223 t224 w0 _ ?side1 ?side2 A8.out).mono ?_); (case side1 => repeat (first | (with_reducible first | exact HI0.out | apply IsS105.alloc | apply IsS105.drewN | apply IsS105.drew | apply IsS105.set_1) | exact HI0.out)); (case side2 => exact zB1 HB.out (IsS105.ge HI0.out)); rintro e w26 ⟨rfl, hi, hb, hk⟩; refine ⟨_, rfl, ?_⟩; have n0_ := Aside0.mk (Kd.N_mono (Kd.N_keep (Kd.N_mono (ok := fun k_ => (((w.heap.size ≤ k_)) ∧ k_ ≠ g)) (by exact zN HO_3.out) (fun k_ hk_ => (⟨hk_, hk_.2⟩ : _ ∧ k_ ≠ g))) hk (fun _ h => h.2)) (fun _ h => h.1)); have n1_ := Aside0.mk (KeepBut.trans (by repeat (first | (with_reducible first | exact HK.out | apply KeepBut.set_ | apply keep_drewN | apply keep_drew | apply keep_alloc) | exact HK.out)) hk (.inl rfl)); have n2_ := Aside0.mk (hb); have n3_ := Aside0.mk (hi); clear HO_3; clear HK; clear HB; clear HI0; have HO_3 := n0_; have HK := n1_; have HB := n2_; have HI0 := n3_; clear n0_ n1_ n2_ n3_; (try clear hb); (try clear hb2); (try clear hk); (try clear hi)) | ((with_reducible refine gate_callee (f := 72) rfl ?_); refine goesL_ (some 20) rfl rfl Try.func72 (by kernel_rfl) rfl #[.pointer (some ⟨g, 0, none⟩), .int .i64 (wrap64 (1 + t221)), .int .i64 (wrap64 (1 + t223))] rfl (by (try simp only [zm1, zm2, zm3]); first | done | rfl | (simp only [List.length_drop, List.length_take]; rfl)) ?_; (with_reducible refine (spec_l71Pkg.calls k1 g s0_0 t224 (wrap64 (1 + t221)) (wrap64 (1 + t223)) t225 t226 t227 t230 t233 w0 _ ?side1 ?side2 A9.out).mono ?_); (case side1 => repeat (first | (with_reducible first | exact HI0.out | apply IsS105.alloc | apply IsS105.drewN | apply IsS105.drew | apply IsS105.set_1) | exact HI0.out)); (case side2 => exact zB1 HB.out (IsS105.ge HI0.out)); rintro e w27 ⟨v228, v231, rfl, ho0, ho1, hi, hb, hk⟩; refine ⟨_, rfl, ?_⟩; have n0_ := Aside0.mk (Kd.N_mono (Kd.N_told (Kd.N_told (Kd.N_oldK (Kd.N_mono (ok := fun k_ => (((w.heap.size ≤ k_)) ∧ k_ ≠ g)) (by exact zN HO_3.out) (fun k_ hk_ => (⟨hk_, hk_.2⟩ : _ ∧ k_ ≠ g))) hk) (Kd.R_base ho0)) (Kd.R_base ho1)) (fun _ h_ => h_.1)); have n1_ := Aside0.mk (Kd.R_lower (Kd.R_newM (M := fun k_ => (w.heap.size ≤ k_)) ho0 (keep_size (w := w) (g := g) (row := none) (by repeat (first | (with_reducible first | exact HK.out | apply KeepBut.set_ | apply keep_drewN | apply keep_drew | apply keep_alloc) | exact HK.out))) (fun k_ h_ => h_)) (keep_size (w := w) (g := g) (row := none) (by repeat (first | (with_reducible first | exact HK.out | apply KeepBut.set_ | apply keep_drewN | apply keep_drew | apply keep_alloc) | exact HK.out)))); have n2_ := Aside0.mk (Kd.R_lower (Kd.R_newM (M := fun k_ => (w.heap.size ≤ k_)) ho1 (keep_size (w := w) (g := g) (row := none) (by repeat (first | (with_reducible first | exact HK.out | apply KeepBut.set_ | apply keep_drewN | apply keep_drew | apply keep_alloc) | exact HK.out))) (fun k_ h_ => h_)) (keep_size (w := w) (g := g) (row := none) (by repeat (first | (with_reducible first | exact HK.out | apply KeepBut.set_ | apply keep_drewN | apply keep_drew | apply keep_alloc) | exact HK.out)))); have n3_ := Aside0.mk (KeepBut.trans (by repeat (first | (with_reducible first | exact HK.out | apply KeepBut.set_ | apply keep_drewN | apply keep_drew | apply keep_alloc) | exact HK.out)) hk (.inl rfl)); have n4_ := Aside0.mk (hb); have n5_ := Aside0.mk (hi); clear HO_3; clear HK; clear HB; clear HI0; have HO_3 := n0_; have HO229 := n1_; have HO232 := n2_; have HK := n3_; have HB := n4_; have HI0 := n5_; clear n0_ n1_ n2_ n3_ n4_ n5_; (try clear hb); (try clear hb2); (try clear hk); (try clear hi); (try clear ho0); (try clear ho1)) | ((with_reducible refine gate_dst (N := 5) rfl ?_); refine box_event ?hg (N := 5) ?hd (cs := #[.int .i64 0, .int .i64 0, .slice none 0 0, .slice none 0 0]) (t := 26) ?hr ?_; (case hd => rfl); (case hg => rfl); (case hr => first | (go_simp; done) | (go_simp; rfl)); intro gb234 hg w28 hbox hb; have n0_ := Aside0.mk (Kd.N_below (Kd.N_elderB (by exact zN HO_3.out) gb234 (Nat.le_of_eq hg.symm)) hb); have n1_ := Aside0.mk (Kd.R_below (by exact zR HO229.out) hb); have n2_ := Aside0.mk (Kd.R_below (by exact zR HO232.out) hb); have n3_ := Aside0.mk (IsS105.below (by repeat (first | (with_reducible first | exact HI0.out | apply IsS105.alloc | apply IsS105.drewN | apply IsS105.drew | apply IsS105.set_1) | exact HI0.out)) hb); have n4_ := Aside0.mk (KeepBut.trans (by repeat (first | (with_reducible first | exact HK.out | apply KeepBut.set_ | apply keep_drewN | apply keep_drew | apply keep_alloc) | exact HK.out)) (KeepBut.of_below hb g none) (.inl rfl)); have n5_ := Aside0.mk (below_step (by exact zB1 HB.out (IsS105.ge HI0.out)) hb); have n6_ := Aside0.mk (hbox); have n7_ := Aside0.mk ((by rw [hg]; exact (keep_size (w := w) (g := g) (row := none) (by repeat (first | (with_reducible first | exact HK.out | apply KeepBut.set_ | apply keep_drewN | apply keep_drew | apply keep_alloc) | exact HK.out))) : w.heap.size ≤ gb234)); have n8_ := Aside0.mk ((Nat.le_trans HW0.out (by rw [hg]; exact (keep_size (w := w) (g := g) (row := none) (by repeat (first | (with_reducible first | exact HK.out | apply KeepBut.set_ | apply keep_drewN | apply keep_drew | apply keep_alloc) | exact HK.out))) : w.heap.size ≤ gb234) : w0.heap.size ≤ gb234)); have n9_ := Aside0.mk ((by rw [hg]; exact Nat.ne_of_lt (IsS105.lt (show IsS105 w0 _ g s0_0 t233 from by repeat (first | (with_reducible first | exact HI0.out | apply IsS105.alloc | apply IsS105.drewN | apply IsS105.drew | apply IsS105.set_1) | exact HI0.out))) : g ≠ gb234)); have n10_ := Aside0.mk ((by rw [hg]; exact Nat.ne_of_gt (IsS105.lt (show IsS105 w0 _ g s0_0 t233 from by repeat (first | (with_reducible first | exact HI0.out | apply IsS105.alloc | apply IsS105.drewN | apply IsS105.drew | apply IsS105.set_1) | exact HI0.out))) : gb234 ≠ g)); clear HO_3; clear HO229; clear HO232; clear HI0; clear HK; clear HB; have HO_3 := n0_; have HO229 := n1_; have HO232 := n2_; have HI0 := n3_; have HK := n4_; have HB := n5_; have BK234 := n6_; have GW234 := n7_; have GE234 := n8_; have NB0_234 := n9_; have NB234_0 := n10_; clear n0_ n1_ n2_ n3_ n4_ n5_ n6_ n7_ n8_ n9_ n10_; clear hb hbox hg; have hnb29 := NB234_0.out; have hnc29 := NB0_234.out; obtain ⟨hcz30_0, hcz30_1, hcz30_2, hcz30_3, hfz30_0, hfz30_1, hfz30_2, hfz30_3⟩ := zc4f BK234.out; obtain ⟨Ao31, co31, eo31⟩ := Kd.R_slice HO229.out; subst eo31; obtain ⟨Ao32, co32, eo32⟩ := Kd.R_slice HO232.out; subst eo32; obtain ⟨Ao33, co33, eo33⟩ := Kd.N_slice HO_3.out; subst eo33) | ((with_reducible refine gate_callee (f := 83) rfl ?_); refine goesL_ (some 26) rfl rfl Try.func83 (by kernel_rfl) rfl #[.slice Ao33 x3_1.length co33, .int .i64 t225, .int .i64 t226] rfl (by (try simp only [zm1, zm2, zm3]); first | done | rfl | (simp only [List.length_drop, List.length_take]; rfl)) ?_; (with_reducible refine (spec_l12Find.calls k1 _ _ x3_1 t225 t226 t235 _ ?side1 ?side2 A10.out).mono ?_); (case side1 => refine (Kd.N_reads' (e := 26) (base := w.heap.size) (ok := fun k_ => (((((w.heap.size ≤ k_) ∧ k_ ≠ g) ∧ some k_ ≠ (.slice Ao31 t227.length co31 : Value).ownBlock) ∧ some k_ ≠ (.slice Ao32 t230.length co32 : Value).ownBlock) ∧ k_ ≠ gb234)) (n := x3_1.length) (c := co33) ?_).2.2; exact (by exact zN (Kd.N_mono (Kd.N_far (p := ⟨gb234, 3, none⟩) (Kd.N_far (p := ⟨gb234, 2, none⟩) (Kd.N_far (p := ⟨gb234, 1, none⟩) (Kd.N_far (p := ⟨gb234, 0, none⟩) (Kd.N_mono HO_3.out (fun k_ hk => (⟨hk, hk.2⟩ : _ ∧ k_ ≠ gb234))) (fun _ hk => hk.2) (.int .i64 t225)) (fun _ hk => hk.2) (.int .i64 t226)) (fun _ hk => hk.2) (.slice Ao31 t227.length co31)) (fun _ hk => hk.2) (.slice Ao32 t230.length co32)) (fun _ h_ => h_.1)))); (case side2 => exact (Kd.N_reads' HO_3.out).2.1); rintro e w' ⟨rfl, ⟨nd, rfl⟩⟩; refine ⟨_, rfl, ?_⟩))
     go_roundg k1
     case measure => have := HK1.out; omega
     case rel => exact ⟨(x3_1), (wrap64 (x4_1 - 1)), (t233), (by first | rfl | (simp; done) | (simp [*]; done)), H', ⟨by have := HK1.out; omega⟩, ⟨by exact zN (Kd.N_mono (Kd.N_far (p := ⟨gb234, 3, none⟩) (Kd.N_far (p := ⟨gb234, 2, none⟩) (Kd.N_far (p := ⟨gb234, 1, none⟩) (Kd.N_far (p := ⟨gb234, 0, none⟩) (Kd.N_mono HO_3.out (fun k_ hk => (⟨hk, hk.2⟩ : _ ∧ k_ ≠ gb234))) (fun _ hk => hk.2) (.int .i64 t225)) (fun _ hk => hk.2) (.int .i64 t226)) (fun _ hk => hk.2) (.slice Ao31 t227.length co31)) (fun _ hk => hk.2) (.slice Ao32 t230.length co32)) (fun _ hk => ⟨hk.1.1.1.1.1, hk.1.1.1.1.2⟩))⟩, ⟨by repeat (first | (with_reducible first | exact HI0.out | apply IsS105.alloc | apply IsS105.drewN | apply IsS105.drew | apply IsS105.set_1 | refine IsS105.far ?_ NB0_234.out _) | exact HI0.out)⟩, ⟨by repeat (first | (with_reducible first | exact HK.out | apply KeepBut.set_ | apply keep_drewN | apply keep_drew | apply keep_alloc | refine keep_far ?_ GW234.out _) | exact HK.out)⟩, ⟨by exact zB2 HB.out (IsS105.ge HI0.out) GE234.out⟩⟩
   ·rw [if_neg c6] at H
    have c6b0 : decide (0 < x4_1) = false := decide_eq_false c6
    clear c6
    simp only [Option.some.injEq, Prod.mk.injEq] at H
    obtain ⟨rfl, rfl⟩ := H
    go_wp2
    go_ret
    exact ⟨_, by first | rfl | (simp [errW_none, errW_some] <;> rfl) | (simp [*, errW_none, errW_some] <;> rfl), by exact zN (Kd.N_mono HO_3.out (fun _ hk => hk.1)), by repeat (first | (with_reducible first | exact HI0.out | apply IsS105.alloc | apply IsS105.drewN | apply IsS105.drew | apply IsS105.set_1) | exact HI0.out), by exact zB1 HB.out (IsS105.ge HI0.out), by repeat (first | (with_reducible first | exact HK.out | apply KeepBut.set_ | apply keep_drewN | apply keep_drew | apply keep_alloc) | exact HK.out)⟩

end Go.Proofs.Ytkdmgbolbjedfaa.PFnIndexLess
