-- printed for this claim by a program out of the translation, its tactics shortened by another
import Derived.Test.YtkdmgbolbjedfaaPFnPkgLessx4
namespace Go.Proofs.Ytkdmgbolbjedfaa.PFnPkgLess
open Go.RowKit Go.Proofs.YtkdmgbolbjedfaaW.PrintWords Go.Proofs.YtkdmgbolbjedfaaW.PrintLast Go.Proofs.YtkdmgbolbjedfaaW.PrintMore
attribute [local go_sem] max2_int min2_int max_two min_two max_three min_three max_four min_four   -- for this text's walks alone
set_option linter.unusedVariables false
set_option linter.unusedSimpArgs false

/-! ### laws_FnPkgLess: function 3 -/
mutual
def laws_FnPkgLess.j0 : Nat → List Int → List Int → Bool → Option (Bool)
 | 0, _, _, _ => none
 | k + 1, x0, x1, x18 => if x18 = true then (some true) else ((spec_DrawPkgOk.f k x0).bind fun bt230 => ((impl_PkgOk.f k bt230.1 bt230.2.1 bt230.2.2.1 bt230.2.2.2).bind fun t239 => ((spec_PkgOk.f k bt230.1 bt230.2.1 bt230.2.2.1 bt230.2.2.2).bind fun t240 => (if (t239 != t240) = true then (laws_FnPkgLess.j1 k x1 t239 true bt230.1 bt230.2.1 bt230.2.2.1 bt230.2.2.2) else (laws_FnPkgLess.j1 k x1 t239 (!t239) bt230.1 bt230.2.1 bt230.2.2.1 bt230.2.2.2)))))
def laws_FnPkgLess.j1 : Nat → List Int → Bool → Bool → Int → Int → List (S82) → List (S30) → Option (Bool)
 | 0, _, _, _, _, _, _, _ => none
 | k + 1, x1, x6, x30, x239000, x239001, x239002, x239003 => if x30 = true then ((spec_PkgOk.f k x239000 x239001 x239002 x239003).bind fun t241 => (some (x6 == t241))) else (if (x239002.length : Int) > 0 then (if (x239002.length : Int) = 0 then (none) else ((some (([] : List (S82)) : List (S82))).bind fun y243 => (if 0 ≤ ((x1.length : Int) % (x239002.length : Int)) then (if ((x1.length : Int) % (x239002.length : Int)) ≤ (x239002.length : Int) then ((some (x239002.take (((x1.length : Int) % (x239002.length : Int)) : Int).toNat : List (S82))).bind fun y246 => (if y243.length + y246.length < 8796093022208 then ((some (y243 ++ y246 : List (S82))).bind fun y250 => (if 0 ≤ (wrap64 (((x1.length : Int) % (x239002.length : Int)) + 1)) then (if (wrap64 (((x1.length : Int) % (x239002.length : Int)) + 1)) ≤ (x239002.length : Int) then ((some (x239002.drop ((wrap64 (((x1.length : Int) % (x239002.length : Int)) + 1)) : Int).toNat : List (S82))).bind fun y253 => (if y250.length + y253.length < 8796093022208 then (laws_FnPkgLess.j2 k x239000 x239001 x239002 x239003 x239000 x239001 (y250 ++ y253) x239003) else (none))) else (none)) else (none))) else (none))) else (none)) else (none)))) else (laws_FnPkgLess.j2 k x239000 x239001 x239002 x239003 x239000 x239001 x239002 x239003))
def laws_FnPkgLess.j2 : Nat → Int → Int → List (S82) → List (S30) → Int → Int → List (S82) → List (S30) → Option (Bool)
 | 0, _, _, _, _, _, _, _, _ => none
 | k + 1, x239000, x239001, x239002, x239003, x243000, x243001, x243002, x243003 => (impl_PkgOk.f k x243000 x243001 x243002 x243003).bind fun t265 => (if t265 = true then ((impl_PkgOk.f k x239000 x239001 x239002 ([] : List (S30))).bind fun t266 => (if t266 = true then ((impl_PkgOk.f k x239000 x239001 x239002 (([(⟨x239000, 1⟩ : S30)] : List (S30)))).bind fun t267 => (some (!t267))) else (none))) else (none))
end
def laws_FnPkgLess.f (k : Nat) (l0 : List Int) (l1 : List Int) : Option (Bool) := if (l0.length : Int) > 1048576 then (laws_FnPkgLess.j0 k l0 l1 true) else (laws_FnPkgLess.j0 k l0 l1 (decide ((l1.length : Int) > 1048576)))
theorem laws_FnPkgLess.mono_l : ∀ k, (∀ y0 y1 y2, LeO (laws_FnPkgLess.j0 k y0 y1 y2) (laws_FnPkgLess.j0 (k + 1) y0 y1 y2)) ∧ (∀ y0 y1 y2 y3 y4 y5 y6, LeO (laws_FnPkgLess.j1 k y0 y1 y2 y3 y4 y5 y6) (laws_FnPkgLess.j1 (k + 1) y0 y1 y2 y3 y4 y5 y6)) ∧ (∀ y0 y1 y2 y3 y4 y5 y6 y7, LeO (laws_FnPkgLess.j2 k y0 y1 y2 y3 y4 y5 y6 y7) (laws_FnPkgLess.j2 (k + 1) y0 y1 y2 y3 y4 y5 y6 y7))
 | 0 => ⟨fun _ _ _ r h => by simp [laws_FnPkgLess.j0] at h, fun _ _ _ _ _ _ _ r h => by simp [laws_FnPkgLess.j1] at h, fun _ _ _ _ _ _ _ _ r h => by simp [laws_FnPkgLess.j2] at h⟩
 | k + 1 => by
  obtain ⟨ih0, ih1, ih2⟩ := laws_FnPkgLess.mono_l k
  refine ⟨?_, ?_, ?_⟩
  ·intro y0 y1 y2
   unfold laws_FnPkgLess.j0
   repeat' first
   | (with_reducible exact ih0 _ _ _)
   | (with_reducible exact ih1 _ _ _ _ _ _ _)
   | (with_reducible exact ih2 _ _ _ _ _ _ _ _)
   | (with_reducible exact impl_PkgOk.mono _ _ _ _ _)
   | (with_reducible exact spec_DrawPkgOk.mono _ _)
   | (with_reducible exact spec_PkgOk.mono _ _ _ _ _)
   | (with_reducible exact LeO.refl _)
   | (with_reducible exact LeO.none _)
   | (with_reducible refine LeO.ite ?_ ?_)
   | (with_reducible refine LeO.bind ?_ (fun _ => ?_))
   | exact ih0 _ _ _
   | exact ih1 _ _ _ _ _ _ _
   | exact ih2 _ _ _ _ _ _ _ _
   | exact impl_PkgOk.mono _ _ _ _ _
   | exact spec_DrawPkgOk.mono _ _
   | exact spec_PkgOk.mono _ _ _ _ _
   | exact LeO.none _
   | refine LeO.ite ?_ ?_
   | refine LeO.bind ?_ (fun _ => ?_)
  ·intro y0 y1 y2 y3 y4 y5 y6
   unfold laws_FnPkgLess.j1
   repeat' first
   | (with_reducible exact ih0 _ _ _)
   | (with_reducible exact ih1 _ _ _ _ _ _ _)
   | (with_reducible exact ih2 _ _ _ _ _ _ _ _)
   | (with_reducible exact impl_PkgOk.mono _ _ _ _ _)
   | (with_reducible exact spec_DrawPkgOk.mono _ _)
   | (with_reducible exact spec_PkgOk.mono _ _ _ _ _)
   | (with_reducible exact LeO.refl _)
   | (with_reducible exact LeO.none _)
   | (with_reducible refine LeO.ite ?_ ?_)
   | (with_reducible refine LeO.bind ?_ (fun _ => ?_))
   | exact ih0 _ _ _
   | exact ih1 _ _ _ _ _ _ _
   | exact ih2 _ _ _ _ _ _ _ _
   | exact impl_PkgOk.mono _ _ _ _ _
   | exact spec_DrawPkgOk.mono _ _
   | exact spec_PkgOk.mono _ _ _ _ _
   | exact LeO.none _
   | refine LeO.ite ?_ ?_
   | refine LeO.bind ?_ (fun _ => ?_)
  ·intro y0 y1 y2 y3 y4 y5 y6 y7
   unfold laws_FnPkgLess.j2
   repeat' first
   | (with_reducible exact ih0 _ _ _)
   | (with_reducible exact ih1 _ _ _ _ _ _ _)
   | (with_reducible exact ih2 _ _ _ _ _ _ _ _)
   | (with_reducible exact impl_PkgOk.mono _ _ _ _ _)
   | (with_reducible exact spec_DrawPkgOk.mono _ _)
   | (with_reducible exact spec_PkgOk.mono _ _ _ _ _)
   | (with_reducible exact LeO.refl _)
   | (with_reducible exact LeO.none _)
   | (with_reducible refine LeO.ite ?_ ?_)
   | (with_reducible refine LeO.bind ?_ (fun _ => ?_))
   | exact ih0 _ _ _
   | exact ih1 _ _ _ _ _ _ _
   | exact ih2 _ _ _ _ _ _ _ _
   | exact impl_PkgOk.mono _ _ _ _ _
   | exact spec_DrawPkgOk.mono _ _
   | exact spec_PkgOk.mono _ _ _ _ _
   | exact LeO.none _
   | refine LeO.ite ?_ ?_
   | refine LeO.bind ?_ (fun _ => ?_)
theorem laws_FnPkgLess.mono : ∀ a0 a1 k, LeO (laws_FnPkgLess.f k a0 a1) (laws_FnPkgLess.f (k + 1) a0 a1) := by
 intro a0 a1 k
 obtain ⟨ih0, ih1, ih2⟩ := laws_FnPkgLess.mono_l k
 unfold laws_FnPkgLess.f
 repeat' first
   | (with_reducible exact ih0 _ _ _)
   | (with_reducible exact ih1 _ _ _ _ _ _ _)
   | (with_reducible exact ih2 _ _ _ _ _ _ _ _)
   | (with_reducible exact impl_PkgOk.mono _ _ _ _ _)
   | (with_reducible exact spec_DrawPkgOk.mono _ _)
   | (with_reducible exact spec_PkgOk.mono _ _ _ _ _)
   | (with_reducible exact LeO.refl _)
   | (with_reducible exact LeO.none _)
   | (with_reducible refine LeO.ite ?_ ?_)
   | (with_reducible refine LeO.bind ?_ (fun _ => ?_))
   | exact ih0 _ _ _
   | exact ih1 _ _ _ _ _ _ _
   | exact ih2 _ _ _ _ _ _ _ _
   | exact impl_PkgOk.mono _ _ _ _ _
   | exact spec_DrawPkgOk.mono _ _
   | exact spec_PkgOk.mono _ _ _ _ _
   | exact LeO.none _
   | refine LeO.ite ?_ ?_
   | refine LeO.bind ?_ (fun _ => ?_)
def laws_FnPkgLess.T10 : Bool × List (List Nat × List Nat) := (true, [([], []), ([], []), ([1], [1]), ([], []), ([2, 3], [2, 3]), ([0, 4], [0, 4]), ([], []), ([6], [6]), ([], []), ([8], [8]), ([7, 9], [7, 9]), ([5, 10, 5], [5, 10]), ([0, 1, 2, 3, 4, 5, 6, 7, 8, 9, 10, 11], []), ([12, 11, 11, 0, 1, 2, 3, 4, 5, 6, 7, 8, 9, 10, 11], [11, 12])])
def laws_FnPkgLess.B10 : List Nat := [0, 0, 2, 0, 14, 31, 0, 64, 0, 256, 960, 2047, 4095, 8191]
theorem laws_FnPkgLess.tab10 : rtab .any (opsOf Try.f3 10) = laws_FnPkgLess.T10 := by kernel_rfl
theorem laws_FnPkgLess.bits10 : waitsOk laws_FnPkgLess.T10.2 laws_FnPkgLess.B10 = true := by kernel_rfl
theorem PO_nil (k : Nat) (a0_0 : Int) (a0_1 : Int) (A0_2 : Option Addr) (c0_2 : Nat) (l0_2 : List (S82)) (r : Bool) (w : World) (hr0_2 : Kd.C k82 w A0_2 l0_2.length l0_2) (hc0_2 : l0_2.length ≤ c0_2) (h : impl_PkgOk.f k a0_0 a0_1 l0_2 ([] : List S30) = some r) :
  Calls Try.prog 16 #[.agg #[.int .i64 a0_0, .int .i64 a0_1, .slice A0_2 l0_2.length c0_2, .slice none 0 0]] w fun e w' => e = .returned (.bool r) ∧ Below w.heap.size w w' :=
  impl_PkgOk.calls k a0_0 a0_1 A0_2 c0_2 l0_2 none 0 ([] : List S30) r w hr0_2 hc0_2 (Kd.C_nil _ _) (Nat.le_refl _) h
set_option maxHeartbeats 8000000 in
set_option maxRecDepth 100000 in
theorem laws_FnPkgLess.calls (k : Nat) (A0 : Option Addr) (c0 : Nat) (l0 : List Int) (A1 : Option Addr) (c1 : Nat) (l1 : List Int) (r : Bool) (w : World) (hr0 : Kd.C (Kd.int .u8) w A0 l0.length l0) (hc0 : l0.length ≤ c0) (hr1 : Kd.C (Kd.int .u8) w A1 l1.length l1) (hc1 : l1.length ≤ c1) (h : laws_FnPkgLess.f k l0 l1 = some r) :
  Calls Try.prog 3 #[.slice A0 l0.length c0, .slice A1 l1.length c1] w fun e w' => e = .returned (.bool r) ∧ Below w.heap.size w w' := by
 have hu26 := Try.underlying26
 have hu30 := Try.underlying30
 have HR0 := Aside0.mk hr0
 have HC0 := Aside0.mk hc0
 clear hr0 hc0
 have HR1 := Aside0.mk hr1
 have HC1 := Aside0.mk hc1
 clear hr1 hc1
 have HB := Aside0.mk (Below.refl w.heap.size w)
 have H : (if (l0.length : Int) > 1048576 then (laws_FnPkgLess.j0 k l0 l1 true) else (laws_FnPkgLess.j0 k l0 l1 (decide ((l1.length : Int) > 1048576)))) = some r := h
 clear h
 have HC3 := Aside0.mk H
 clear H
 go_enter Try.func3, Try.ntmps3
 go_upto_region 1 with (fail)
 go_cut [18] (fun v18 wc => ∃ (kq : Nat) (x18_2 : Bool), v18 = .bool x18_2 ∧ Aside0 (laws_FnPkgLess.j0 kq l0 l1 x18_2 = some r) ∧ Aside0 (kq ≤ k) ∧ Aside0 (Below w.heap.size w wc))
 case first =>
  have H := HC3.out
  clear HC3
  by_cases c4 : (l0.length : Int) > 1048576
  ·rw [if_pos c4] at H
   have c4b0 : decide (1048576 < (l0.length : Int)) = true := decide_eq_true c4
   have c4b1 : decide (1048576 < l0.length) = true := decide_eq_true (by omega)
   clear c4
   (first | rw [c4b0] | (simp only [i64_w, i32_w]; rw [c4b0]) | skip)
   have H' := Aside0.mk H
   clear H
   go_wp2
   go_meet
   case rel => exact ⟨_, (true), (by first | rfl | (simp; done) | (simp [*]; done)), H', ⟨by first | omega | exact Nat.le_refl _⟩, ⟨by exact zB HB.out⟩⟩
  ·rw [if_neg c4] at H
   have c4b0 : decide (1048576 < (l0.length : Int)) = false := decide_eq_false c4
   have c4b1 : decide (1048576 < l0.length) = false := decide_eq_false (by omega)
   clear c4
   (first | rw [c4b0] | (simp only [i64_w, i32_w]; rw [c4b0]) | skip)
   have H' := Aside0.mk H
   clear H
   go_wp2
   go_meet
   case rel => exact ⟨_, (decide ((l1.length : Int) > 1048576)), (by first | rfl | (simp; done) | (simp [*]; done)), H', ⟨by first | omega | exact Nat.le_refl _⟩, ⟨by exact zB HB.out⟩⟩
 case rest =>
  clear HC3
  try clear c1
  try clear p2
  try clear c3
  try clear c4
  try clear c4b0
  try clear c4b1
  obtain ⟨kq, x18_2, rfl, HA, HJ2, HB⟩ := hcut
  cases kq with
  | zero => exact absurd HA.out (by simp [laws_FnPkgLess.j0])
  | succ kj2 =>
   have H := HA.out
   clear HA
   simp only [laws_FnPkgLess.j0] at H
   by_cases c5 : x18_2 = true
   ·subst c5
    have H1 : (some true) = some r := by rw [if_pos rfl] at H; exact H
    clear H
    have H := H1
    clear H1
    obtain rfl := Option.some.inj H
    go_wp2
    go_ret
    exact ⟨by first | rfl | (simp [errW_none, errW_some] <;> rfl) | (simp [*, errW_none, errW_some] <;> rfl), by exact zB HB.out⟩
   ·replace c5 := Bool.eq_false_iff.mpr c5
    subst c5
    have H1 : ((spec_DrawPkgOk.f kj2 l0).bind fun bt230 => ((impl_PkgOk.f kj2 bt230.1 bt230.2.1 bt230.2.2.1 bt230.2.2.2).bind fun t239 => ((spec_PkgOk.f kj2 bt230.1 bt230.2.1 bt230.2.2.1 bt230.2.2.2).bind fun t240 => (if (t239 != t240) = true then (laws_FnPkgLess.j1 kj2 l1 t239 true bt230.1 bt230.2.1 bt230.2.2.1 bt230.2.2.2) else (laws_FnPkgLess.j1 kj2 l1 t239 (!t239) bt230.1 bt230.2.1 bt230.2.2.1 bt230.2.2.2))))) = some r := by rw [if_neg (show ¬ (false = true) by decide)] at H; exact H
    clear H
    have H := H1
    clear H1
    replace H := Option.bind_eq_some_iff.mp H
    obtain ⟨⟨t230, t231, t232, t235⟩, A60, H⟩ := H
    replace H : ((impl_PkgOk.f kj2 t230 t231 t232 t235).bind fun t239 => ((spec_PkgOk.f kj2 t230 t231 t232 t235).bind fun t240 => (if (t239 != t240) = true then (laws_FnPkgLess.j1 kj2 l1 t239 true t230 t231 t232 t235) else (laws_FnPkgLess.j1 kj2 l1 t239 (!t239) t230 t231 t232 t235)))) = some r := H
    have A6 := Aside0.mk A60
    clear A60
    replace H := Option.bind_eq_some_iff.mp H
    obtain ⟨t239, A70, H⟩ := H
    replace H : ((spec_PkgOk.f kj2 t230 t231 t232 t235).bind fun t240 => (if (t239 != t240) = true then (laws_FnPkgLess.j1 kj2 l1 t239 true t230 t231 t232 t235) else (laws_FnPkgLess.j1 kj2 l1 t239 (!t239) t230 t231 t232 t235))) = some r := H
    have A7 := Aside0.mk A70
    clear A70
    have HC8 := Aside0.mk H
    clear H
    go_upto_region 5 with (first | ((with_reducible refine gate_callee (f := 15) rfl ?_); refine goesL_ (some 20) rfl rfl Try.func15 (by kernel_rfl) rfl #[.slice A0 l0.length c0] rfl (by (try simp only [zm1, zm2, zm3]); first | done | rfl | (simp only [List.length_drop, List.length_take]; rfl)) ?_; (with_reducible refine (spec_DrawPkgOk.calls kj2 _ _ l0 t230 t231 t232 t235 _ ?side1 ?side2 A6.out).mono ?_); (case side1 => exact zC (Kd.C_below HR0.out HB.out)); (case side2 => exact HC0.out); rintro e w9 ⟨v233, v236, rfl, ho0, ho1, hb⟩; refine ⟨_, rfl, ?_⟩; have n0_ := Aside0.mk (Kd.R_lower ho0 (below_size (by exact zB HB.out))); have n1_ := Aside0.mk (Kd.R_lower ho1 (below_size (by exact zB HB.out))); have n2_ := Aside0.mk (below_step (by exact zB HB.out) hb); clear HB; have HO234 := n0_; have HO237 := n1_; have HB := n2_; clear n0_ n1_ n2_; (try clear hb); (try clear hb2); (try clear hk); (try clear hi); (try clear ho0); (try clear ho1)) | ((with_reducible refine gate_dst (N := 5) rfl ?_); (try (refine gate_guard (by rfl) ?_; dsimp only)); refine box_event ?hg (N := 5) ?hd (cs := #[.int .i64 0, .int .i64 0, .slice none 0 0, .slice none 0 0]) (t := 26) ?hr ?_; (case hd => rfl); (case hg => rfl); (case hr => first | (go_simp; done) | (go_simp; rfl)); intro gb238 hg w10 hbox hb; have n0_ := Aside0.mk (Kd.R_below (by exact zR HO234.out) hb); have n1_ := Aside0.mk (Kd.R_below (by exact zR HO237.out) hb); have n2_ := Aside0.mk (below_step (by exact zB HB.out) hb); have n3_ := Aside0.mk (hbox); have n4_ := Aside0.mk ((by rw [hg]; exact (below_size (by exact zB HB.out)) : w.heap.size ≤ gb238)); have n5_ := Aside0.mk ((by rw [hg]; exact (below_size (by exact zB HB.out)) : w.heap.size ≤ gb238)); clear HO234; clear HO237; clear HB; have HO234 := n0_; have HO237 := n1_; have HB := n2_; have BK238 := n3_; have GW238 := n4_; have GE238 := n5_; clear n0_ n1_ n2_ n3_ n4_ n5_; clear hb hbox hg; obtain ⟨hcz11_0, hcz11_1, hcz11_2, hcz11_3, hfz11_0, hfz11_1, hfz11_2, hfz11_3⟩ := zc4f BK238.out; obtain ⟨Ao12, co12, eo12⟩ := Kd.R_slice HO234.out; subst eo12; obtain ⟨Ao13, co13, eo13⟩ := Kd.R_slice HO237.out; subst eo13) | ((with_reducible refine gate_callee (f := 16) rfl ?_); refine goesL_ (some 22) rfl rfl Try.func16 (by kernel_rfl) rfl #[.agg #[.int .i64 t230, .int .i64 t231, .slice Ao12 t232.length co12, .slice Ao13 t235.length co13]] rfl (by (try simp only [zm1, zm2, zm3]); first | done | rfl | (simp only [List.length_drop, List.length_take]; rfl)) ?_; (with_reducible refine (impl_PkgOk.calls kj2 t230 t231 _ _ t232 _ _ t235 t239 _ ?side1 ?side2 ?side3 ?side4 A7.out).mono ?_); (case side1 => refine (Kd.R_reads' (e := 82) (base := w.heap.size) (ok := fun k_ => True) (n := t232.length) (c := co12) ?_).2.2; exact (by exact zR (Kd.R_mono (Kd.R_far (p := ⟨gb238, 3, none⟩) (Kd.R_far (p := ⟨gb238, 2, none⟩) (Kd.R_far (p := ⟨gb238, 1, none⟩) (Kd.R_far (p := ⟨gb238, 0, none⟩) (Kd.R_types HO234.out BK238.out (by decide)) (fun _ hk => hk.2) (.int .i64 t230)) (fun _ hk => hk.2) (.int .i64 t231)) (fun _ hk => hk.2) (.slice Ao12 t232.length co12)) (fun _ hk => hk.2) (.slice Ao13 t235.length co13)) (fun _ h_ => h_.1)))); (case side2 => exact (Kd.R_reads' HO234.out).2.1); (case side3 => refine (Kd.R_reads' (e := 30) (base := w.heap.size) (ok := fun k_ => True) (n := t235.length) (c := co13) ?_).2.2; exact (by exact zR (Kd.R_mono (Kd.R_far (p := ⟨gb238, 3, none⟩) (Kd.R_far (p := ⟨gb238, 2, none⟩) (Kd.R_far (p := ⟨gb238, 1, none⟩) (Kd.R_far (p := ⟨gb238, 0, none⟩) (Kd.R_types HO237.out BK238.out (by decide)) (fun _ hk => hk.2) (.int .i64 t230)) (fun _ hk => hk.2) (.int .i64 t231)) (fun _ hk => hk.2) (.slice Ao12 t232.length co12)) (fun _ hk => hk.2) (.slice Ao13 t235.length co13)) (fun _ h_ => h_.1)))); (case side4 => exact (Kd.R_reads' HO237.out).2.1); rintro e w14 ⟨rfl, hb⟩; refine ⟨_, rfl, ?_⟩; have n0_ := Aside0.mk (Kd.R_below (by exact zR (Kd.R_mono (Kd.R_far (p := ⟨gb238, 3, none⟩) (Kd.R_far (p := ⟨gb238, 2, none⟩) (Kd.R_far (p := ⟨gb238, 1, none⟩) (Kd.R_far (p := ⟨gb238, 0, none⟩) (Kd.R_types HO234.out BK238.out (by decide)) (fun _ hk => hk.2) (.int .i64 t230)) (fun _ hk => hk.2) (.int .i64 t231)) (fun _ hk => hk.2) (.slice Ao12 t232.length co12)) (fun _ hk => hk.2) (.slice Ao13 t235.length co13)) (fun _ h_ => h_.1))) hb); have n1_ := Aside0.mk (Kd.R_below (by exact zR (Kd.R_mono (Kd.R_far (p := ⟨gb238, 3, none⟩) (Kd.R_far (p := ⟨gb238, 2, none⟩) (Kd.R_far (p := ⟨gb238, 1, none⟩) (Kd.R_far (p := ⟨gb238, 0, none⟩) (Kd.R_types HO237.out BK238.out (by decide)) (fun _ hk => hk.2) (.int .i64 t230)) (fun _ hk => hk.2) (.int .i64 t231)) (fun _ hk => hk.2) (.slice Ao12 t232.length co12)) (fun _ hk => hk.2) (.slice Ao13 t235.length co13)) (fun _ h_ => h_.1))) hb); have n2_ := Aside0.mk (blk_below (g := gb238) (o := .cells #[.int .i64 t230, .int .i64 t231, .slice Ao12 t232.length co12, .slice Ao13 t235.length co13] 26 (0, 0)) (by (with_reducible repeat (first | refine blk_drewN ?_ _ | refine blk_drew ?_ | refine blk_alloc ?_ _)); refine blk_put (cs := #[.int .i64 t230, .int .i64 t231, .slice Ao12 t232.length co12, .slice none 0 0]) ?_ 3 _ rfl; (with_reducible repeat (first | refine blk_drewN ?_ _ | refine blk_drew ?_ | refine blk_alloc ?_ _)); refine blk_put (cs := #[.int .i64 t230, .int .i64 t231, .slice none 0 0, .slice none 0 0]) ?_ 2 _ rfl; (with_reducible repeat (first | refine blk_drewN ?_ _ | refine blk_drew ?_ | refine blk_alloc ?_ _)); refine blk_put (cs := #[.int .i64 t230, .int .i64 0, .slice none 0 0, .slice none 0 0]) ?_ 1 _ rfl; (with_reducible repeat (first | refine blk_drewN ?_ _ | refine blk_drew ?_ | refine blk_alloc ?_ _)); refine blk_put (cs := #[.int .i64 0, .int .i64 0, .slice none 0 0, .slice none 0 0]) ?_ 0 _ rfl; exact zK BK238.out) hb); have n3_ := Aside0.mk (below_step (by exact zB1 HB.out GE238.out) hb); clear HO234; clear HO237; clear BK238; clear HB; have HO234 := n0_; have HO237 := n1_; have BK238 := n2_; have HB := n3_; clear n0_ n1_ n2_ n3_; (try clear hb); (try clear hb2); (try clear hk); (try clear hi)))
    (try simp only [zp0, zp1, zp2, zp3, zp4])
    go_cut [30] (fun v30 wc => ∃ (kq : Nat) (x30_7 : Bool), v30 = .bool x30_7 ∧ Aside0 (laws_FnPkgLess.j1 kq l1 t239 x30_7 t230 t231 t232 t235 = some r) ∧ Aside0 (kq ≤ kj2) ∧ Aside0 (Kd.R k82 82 wc w.heap.size (fun _ => True) (.slice Ao12 t232.length co12) t232) ∧ Aside0 (Kd.R k30 30 wc w.heap.size (fun _ => True) (.slice Ao13 t235.length co13) t235) ∧ Aside0 (wc.heap[gb238]? = some (.cells #[.int .i64 t230, .int .i64 t231, (.slice Ao12 t232.length co12), (.slice Ao13 t235.length co13)] 26 (0, 0))) ∧ Aside0 (Below w.heap.size w wc))
    case first =>
     have H := HC8.out
     clear HC8
     replace H := Option.bind_eq_some_iff.mp H
     obtain ⟨t240, A150, H⟩ := H
     replace H : (if (t239 != t240) = true then (laws_FnPkgLess.j1 kj2 l1 t239 true t230 t231 t232 t235) else (laws_FnPkgLess.j1 kj2 l1 t239 (!t239) t230 t231 t232 t235)) = some r := H
     have A15 := Aside0.mk A150
     clear A150
     by_cases c16 : (t239 != t240) = true
     ·rw [if_pos c16] at H
      have c16b0 : (t239 != t240) = true := c16
      (try (have c16b1 : decide (t239 = t240) = false := by simpa using c16))
      (try (have c16b2 : (t239 == t240) = false := by simpa using c16))
      (try (have c16b3 : ¬ (t239 = t240) := by simpa using c16))
      clear c16
      (first | rw [c16b0] | (simp only [i64_w, i32_w]; rw [c16b0]) | skip)
      have H' := Aside0.mk H
      clear H
      obtain ⟨hcz17_0, hcz17_1, hcz17_2, hcz17_3, hfz17_0, hfz17_1, hfz17_2, hfz17_3⟩ := zc4f BK238.out
      go_wp2_with (first | ((with_reducible refine gate_callee (f := 17) rfl ?_); refine goesL_ (some 25) rfl rfl Try.func17 (by kernel_rfl) rfl #[.agg #[.int .i64 t230, .int .i64 t231, .slice Ao12 t232.length co12, .slice Ao13 t235.length co13]] rfl (by (try simp only [zm1, zm2, zm3]); first | done | rfl | (simp only [List.length_drop, List.length_take]; rfl)) ?_; (with_reducible refine (spec_PkgOk.calls kj2 t230 t231 _ _ t232 _ _ t235 t240 _ ?side1 ?side2 ?side3 ?side4 A15.out).mono ?_); (case side1 => exact zC (Kd.R_reads' HO234.out).2.2); (case side2 => exact (Kd.R_reads' HO234.out).2.1); (case side3 => exact zC (Kd.R_reads' HO237.out).2.2); (case side4 => exact (Kd.R_reads' HO237.out).2.1); rintro e w18 ⟨rfl, hb⟩; refine ⟨_, rfl, ?_⟩; have n0_ := Aside0.mk (Kd.R_below (by exact zR HO234.out) hb); have n1_ := Aside0.mk (Kd.R_below (by exact zR HO237.out) hb); have n2_ := Aside0.mk (blk_below (g := gb238) (o := .cells #[.int .i64 t230, .int .i64 t231, .slice Ao12 t232.length co12, .slice Ao13 t235.length co13] 26 (0, 0)) (by exact zK BK238.out) hb); have n3_ := Aside0.mk (below_step (by exact zB1 HB.out GE238.out) hb); clear HO234; clear HO237; clear BK238; clear HB; have HO234 := n0_; have HO237 := n1_; have BK238 := n2_; have HB := n3_; clear n0_ n1_ n2_ n3_; (try clear hb); (try clear hb2); (try clear hk); (try clear hi)))
      go_meet
      case rel => exact ⟨_, (true), (by first | rfl | (simp; done) | (simp [*]; done)), H', ⟨by have := HJ2.out; first | omega | exact Nat.le_refl _⟩, ⟨by exact zR HO234.out⟩, ⟨by exact zR HO237.out⟩, ⟨by exact zK BK238.out⟩, ⟨by exact zB1 HB.out GE238.out⟩⟩
     ·rw [if_neg c16] at H
      have c16b0 : (t239 != t240) = false := by simpa using c16
      (try (have c16b1 : decide (t239 = t240) = true := by simpa using c16))
      (try (have c16b2 : (t239 == t240) = true := by simpa using c16))
      clear c16
      (first | rw [c16b0] | (simp only [i64_w, i32_w]; rw [c16b0]) | skip)
      have H' := Aside0.mk H
      clear H
      obtain ⟨hcz19_0, hcz19_1, hcz19_2, hcz19_3, hfz19_0, hfz19_1, hfz19_2, hfz19_3⟩ := zc4f BK238.out
      go_wp2_with (first | ((with_reducible refine gate_callee (f := 17) rfl ?_); refine goesL_ (some 25) rfl rfl Try.func17 (by kernel_rfl) rfl #[.agg #[.int .i64 t230, .int .i64 t231, .slice Ao12 t232.length co12, .slice Ao13 t235.length co13]] rfl (by (try simp only [zm1, zm2, zm3]); first | done | rfl | (simp only [List.length_drop, List.length_take]; rfl)) ?_; (with_reducible refine (spec_PkgOk.calls kj2 t230 t231 _ _ t232 _ _ t235 t240 _ ?side1 ?side2 ?side3 ?side4 A15.out).mono ?_); (case side1 => exact zC (Kd.R_reads' HO234.out).2.2); (case side2 => exact (Kd.R_reads' HO234.out).2.1); (case side3 => exact zC (Kd.R_reads' HO237.out).2.2); (case side4 => exact (Kd.R_reads' HO237.out).2.1); rintro e w20 ⟨rfl, hb⟩; refine ⟨_, rfl, ?_⟩; have n0_ := Aside0.mk (Kd.R_below (by exact zR HO234.out) hb); have n1_ := Aside0.mk (Kd.R_below (by exact zR HO237.out) hb); have n2_ := Aside0.mk (blk_below (g := gb238) (o := .cells #[.int .i64 t230, .int .i64 t231, .slice Ao12 t232.length co12, .slice Ao13 t235.length co13] 26 (0, 0)) (by exact zK BK238.out) hb); have n3_ := Aside0.mk (below_step (by exact zB1 HB.out GE238.out) hb); clear HO234; clear HO237; clear BK238; clear HB; have HO234 := n0_; have HO237 := n1_; have BK238 := n2_; have HB := n3_; clear n0_ n1_ n2_ n3_; (try clear hb); (try clear hb2); (try clear hk); (try clear hi)))
      go_meet
      case rel => exact ⟨_, (!t239), (by first | rfl | (simp; done) | (simp [*]; done)), H', ⟨by have := HJ2.out; first | omega | exact Nat.le_refl _⟩, ⟨by exact zR HO234.out⟩, ⟨by exact zR HO237.out⟩, ⟨by exact zK BK238.out⟩, ⟨by exact zB1 HB.out GE238.out⟩⟩
    case rest =>
     clear HC8
     try clear c1
     try clear p2
     try clear c3
     try clear c4
     try clear c4b0
     try clear c4b1
     try clear c5
     try clear c15
     try clear c16
     try clear c16b0
     try clear c16b1
     try clear c16b2
     try clear c17
     try clear hcz11_0
     try clear hcz11_1
     try clear hcz11_2
     try clear hcz11_3
     try clear hcz17_0
     try clear hcz17_1
     try clear hcz17_2
     try clear hcz17_3
     try clear hcz19_0
     try clear hcz19_1
     try clear hcz19_2
     try clear hcz19_3
     try clear hfz11_0
     try clear hfz11_1
     try clear hfz11_2
     try clear hfz11_3
     try clear hfz17_0
     try clear hfz17_1
     try clear hfz17_2
     try clear hfz17_3
     try clear hfz19_0
     try clear hfz19_1
     try clear hfz19_2
     try clear hfz19_3
     try clear p2
     obtain ⟨kq, x30_7, rfl, HA, HJ7, HO_239002, HO_239003, BK238, HB⟩ := hcut
     cases kq with
     | zero => exact absurd HA.out (by simp [laws_FnPkgLess.j1])
     | succ kj7 =>
      have H := HA.out
      clear HA
      simp only [laws_FnPkgLess.j1] at H
      by_cases c21 : x30_7 = true
      ·subst c21
       have H1 : ((spec_PkgOk.f kj7 t230 t231 t232 t235).bind fun t241 => (some (t239 == t241))) = some r := by rw [if_pos rfl] at H; exact H
       clear H
       have H := H1
       clear H1
       replace H := Option.bind_eq_some_iff.mp H
       obtain ⟨t241, A220, H⟩ := H
       replace H : (some (t239 == t241)) = some r := H
       have A22 := Aside0.mk A220
       clear A220
       obtain rfl := Option.some.inj H
       obtain ⟨hcz23_0, hcz23_1, hcz23_2, hcz23_3, hfz23_0, hfz23_1, hfz23_2, hfz23_3⟩ := zc4f BK238.out
       go_wp2_with (first | ((with_reducible refine gate_callee (f := 17) rfl ?_); refine goesL_ (some 33) rfl rfl Try.func17 (by kernel_rfl) rfl #[.agg #[.int .i64 t230, .int .i64 t231, .slice Ao12 t232.length co12, .slice Ao13 t235.length co13]] rfl (by (try simp only [zm1, zm2, zm3]); first | done | rfl | (simp only [List.length_drop, List.length_take]; rfl)) ?_; (with_reducible refine (spec_PkgOk.calls kj7 t230 t231 _ _ t232 _ _ t235 t241 _ ?side1 ?side2 ?side3 ?side4 A22.out).mono ?_); (case side1 => exact zC (Kd.R_reads' HO_239002.out).2.2); (case side2 => exact (Kd.R_reads' HO_239002.out).2.1); (case side3 => exact zC (Kd.R_reads' HO_239003.out).2.2); (case side4 => exact (Kd.R_reads' HO_239003.out).2.1); rintro e w24 ⟨rfl, hb⟩; refine ⟨_, rfl, ?_⟩; have n0_ := Aside0.mk (Kd.R_below (by exact zR HO_239002.out) hb); have n1_ := Aside0.mk (Kd.R_below (by exact zR HO_239003.out) hb); have n2_ := Aside0.mk (blk_below (g := gb238) (o := .cells #[.int .i64 t230, .int .i64 t231, .slice Ao12 t232.length co12, .slice Ao13 t235.length co13] 26 (0, 0)) (by exact zK BK238.out) hb); have n3_ := Aside0.mk (below_step (by exact zB1 HB.out GE238.out) hb); clear HO_239002; clear HO_239003; clear BK238; clear HB; have HO_239002 := n0_; have HO_239003 := n1_; have BK238 := n2_; have HB := n3_; clear n0_ n1_ n2_ n3_; (try clear hb); (try clear hb2); (try clear hk); (try clear hi)))
       go_ret
       exact ⟨by first | rfl | (simp [errW_none, errW_some] <;> rfl) | (simp [*, errW_none, errW_some] <;> rfl), by exact zB1 HB.out GE238.out⟩
      ·replace c21 := Bool.eq_false_iff.mpr c21
       subst c21
       have H1 : (if (t232.length : Int) > 0 then (if (t232.length : Int) = 0 then (none) else ((some (([] : List (S82)) : List (S82))).bind fun y243 => (if 0 ≤ ((l1.length : Int) % (t232.length : Int)) then (if ((l1.length : Int) % (t232.length : Int)) ≤ (t232.length : Int) then ((some (t232.take (((l1.length : Int) % (t232.length : Int)) : Int).toNat : List (S82))).bind fun y246 => (if y243.length + y246.length < 8796093022208 then ((some (y243 ++ y246 : List (S82))).bind fun y250 => (if 0 ≤ (wrap64 (((l1.length : Int) % (t232.length : Int)) + 1)) then (if (wrap64 (((l1.length : Int) % (t232.length : Int)) + 1)) ≤ (t232.length : Int) then ((some (t232.drop ((wrap64 (((l1.length : Int) % (t232.length : Int)) + 1)) : Int).toNat : List (S82))).bind fun y253 => (if y250.length + y253.length < 8796093022208 then (laws_FnPkgLess.j2 kj7 t230 t231 t232 t235 t230 t231 (y250 ++ y253) t235) else (none))) else (none)) else (none))) else (none))) else (none)) else (none)))) else (laws_FnPkgLess.j2 kj7 t230 t231 t232 t235 t230 t231 t232 t235)) = some r := by rw [if_neg (show ¬ (false = true) by decide)] at H; exact H
       clear H
       have H := H1
       clear H1
       have HC25 := Aside0.mk H
       clear H
       obtain ⟨hcz26_0, hcz26_1, hcz26_2, hcz26_3, hfz26_0, hfz26_1, hfz26_2, hfz26_3⟩ := zc4f BK238.out
       go_upto_if 39 with (first | ((with_reducible refine gate_dst (N := 7) rfl ?_); (try (refine gate_guard (by rfl) ?_; dsimp only)); refine box_event ?hg (N := 7) ?hd (cs := #[.int .i64 0, .int .i64 0, .slice none 0 0, .slice none 0 0]) (t := 26) ?hr ?_; (case hd => rfl); (case hg => rfl); (case hr => first | (go_simp; done) | (go_simp; rfl)); intro gb242 hg w27 hbox hb; have n0_ := Aside0.mk (Kd.R_below (by exact zR HO_239002.out) hb); have n1_ := Aside0.mk (Kd.R_below (by exact zR HO_239003.out) hb); have n2_ := Aside0.mk (blk_below (g := gb238) (o := .cells #[.int .i64 t230, .int .i64 t231, .slice Ao12 t232.length co12, .slice Ao13 t235.length co13] 26 (0, 0)) (by exact zK BK238.out) hb); have n3_ := Aside0.mk (below_step (by exact zB1 HB.out GE238.out) hb); have n4_ := Aside0.mk (hbox); have n5_ := Aside0.mk ((by rw [hg]; exact (below_size (by exact zB1 HB.out GE238.out)) : w.heap.size ≤ gb242)); have n6_ := Aside0.mk ((by rw [hg]; exact (below_size (by exact zB1 HB.out GE238.out)) : w.heap.size ≤ gb242)); have n7_ := Aside0.mk ((by rw [hg]; exact Nat.ne_of_lt (blk_lt (g := gb238) (o := .cells #[.int .i64 t230, .int .i64 t231, .slice Ao12 t232.length co12, .slice Ao13 t235.length co13] 26 (0, 0)) (by exact zK BK238.out)) : gb238 ≠ gb242)); have n8_ := Aside0.mk ((by rw [hg]; exact Nat.ne_of_gt (blk_lt (g := gb238) (o := .cells #[.int .i64 t230, .int .i64 t231, .slice Ao12 t232.length co12, .slice Ao13 t235.length co13] 26 (0, 0)) (by exact zK BK238.out)) : gb242 ≠ gb238)); clear HO_239002; clear HO_239003; clear BK238; clear HB; have HO_239002 := n0_; have HO_239003 := n1_; have BK238 := n2_; have HB := n3_; have BK242 := n4_; have GW242 := n5_; have GE242 := n6_; have NB238_242 := n7_; have NB242_238 := n8_; clear n0_ n1_ n2_ n3_ n4_ n5_ n6_ n7_ n8_; clear hb hbox hg; have hnb28 := NB242_238.out; have hnc28 := NB238_242.out; obtain ⟨hcz29_0, hcz29_1, hcz29_2, hcz29_3, hfz29_0, hfz29_1, hfz29_2, hfz29_3⟩ := zc4f BK242.out; obtain ⟨hcz30_0, hcz30_1, hcz30_2, hcz30_3, hfz30_0, hfz30_1, hfz30_2, hfz30_3⟩ := zc4f BK238.out))
       (try simp only [zp0, zp1, zp2, zp3, zp4])
       go_cut [] (fun wc => ∃ (kq : Nat) (x243002_24 : List (S82)) (u243002 : Value), Aside0 (laws_FnPkgLess.j2 kq t230 t231 t232 t235 t230 t231 x243002_24 t235 = some r) ∧ Aside0 (kq ≤ kj7) ∧ Aside0 (Kd.R k82 82 wc w.heap.size (fun _ => True) (.slice Ao12 t232.length co12) t232) ∧ Aside0 (Kd.R k30 30 wc w.heap.size (fun _ => True) (.slice Ao13 t235.length co13) t235) ∧ Aside0 (Kd.R k82 82 wc w.heap.size (fun _ => True) u243002 x243002_24) ∧ Aside0 (Kd.R k30 30 wc w.heap.size (fun _ => True) (.slice Ao13 t235.length co13) t235) ∧ Aside0 (wc.heap[gb238]? = some (.cells #[.int .i64 t230, .int .i64 t231, (.slice Ao12 t232.length co12), (.slice Ao13 t235.length co13)] 26 (0, 0))) ∧ Aside0 (wc.heap[gb242]? = some (.cells #[.int .i64 t230, .int .i64 t231, u243002, (.slice Ao13 t235.length co13)] 26 (0, 0))) ∧ Aside0 (Below w.heap.size w wc))
       case first =>
        have H := HC25.out
        clear HC25
        by_cases c31 : (t232.length : Int) > 0
        ·rw [if_pos c31] at H
         have c31b0 : decide (0 < (t232.length : Int)) = true := decide_eq_true c31
         have c31b1 : decide (0 < t232.length) = true := decide_eq_true (by omega)
         clear c31
         (first | rw [c31b0] | (simp only [i64_w, i32_w]; rw [c31b0]) | skip)
         by_cases c32 : (t232.length : Int) = 0
         ·rw [if_pos c32] at H
          exact absurd H (by simp)
         ·rw [if_neg c32] at H
          have c32b0 : ((t232.length : Int) == 0) = false := beq_eq_false_iff_ne.mpr c32
          have c32b1 : ((t232.length : Int) != 0) = true := bne_iff_ne.mpr c32
          have c32b2 : ¬ (t232 = []) := fun h_ => c32 (by rw [h_]; rfl)
          obtain ⟨y243, hy243⟩ : ∃ y_ : List (S82), y_ = (([] : List (S82))) := ⟨_, rfl⟩
          replace H : (if 0 ≤ ((l1.length : Int) % (t232.length : Int)) then (if ((l1.length : Int) % (t232.length : Int)) ≤ (t232.length : Int) then ((some (t232.take (((l1.length : Int) % (t232.length : Int)) : Int).toNat : List (S82))).bind fun y246 => (if y243.length + y246.length < 8796093022208 then ((some (y243 ++ y246 : List (S82))).bind fun y250 => (if 0 ≤ (wrap64 (((l1.length : Int) % (t232.length : Int)) + 1)) then (if (wrap64 (((l1.length : Int) % (t232.length : Int)) + 1)) ≤ (t232.length : Int) then ((some (t232.drop ((wrap64 (((l1.length : Int) % (t232.length : Int)) + 1)) : Int).toNat : List (S82))).bind fun y253 => (if y250.length + y253.length < 8796093022208 then (laws_FnPkgLess.j2 kj7 t230 t231 t232 t235 t230 t231 (y250 ++ y253) t235) else (none))) else (none)) else (none))) else (none))) else (none)) else (none)) = some r := by first | (rw [hy243]; with_reducible exact H) | (have H2_ := (Option.bind_some _ _).symm.trans H; rw [hy243]; with_reducible exact H2_) | (have H2_ := (Option.bind_some _ _).symm.trans H; with_reducible exact H2_) | with_reducible exact H | (rw [hy243]; exact H) | exact H
          have Ny243 := Aside0.mk hy243
          clear hy243
          obtain ⟨ji33, hji33⟩ : ∃ j_ : Int, ((l1.length : Int) % (t232.length : Int)) = j_ := ⟨_, rfl⟩
          replace H : (if 0 ≤ (ji33) then (if (ji33) ≤ (t232.length : Int) then ((some (t232.take ((ji33) : Int).toNat : List (S82))).bind fun y246 => (if y243.length + y246.length < 8796093022208 then ((some (y243 ++ y246 : List (S82))).bind fun y250 => (if 0 ≤ (wrap64 ((ji33) + 1)) then (if (wrap64 ((ji33) + 1)) ≤ (t232.length : Int) then ((some (t232.drop ((wrap64 ((ji33) + 1)) : Int).toNat : List (S82))).bind fun y253 => (if y250.length + y253.length < 8796093022208 then (laws_FnPkgLess.j2 kj7 t230 t231 t232 t235 t230 t231 (y250 ++ y253) t235) else (none))) else (none)) else (none))) else (none))) else (none)) else (none)) = some r := by first | (rw [hji33] at H; exact H) | (simp only [hji33] at H ⊢; exact H)
          by_cases c34 : 0 ≤ (ji33)
          ·rw [if_pos c34] at H
           have c34b0 := eq_true c34
           have c34b1 : decide (0 ≤ (ji33)) = true := decide_eq_true c34
           clear c34
           by_cases c35 : (ji33) ≤ (t232.length : Int)
           ·rw [if_pos c35] at H
            have c35b0 := eq_true c35
            have c35b1 : decide ((ji33) ≤ (t232.length : Int)) = true := decide_eq_true c35
            clear c35
            obtain ⟨y246, hy246⟩ : ∃ y_ : List (S82), y_ = (t232.take ((ji33) : Int).toNat) := ⟨_, rfl⟩
            replace H : (if y243.length + y246.length < 8796093022208 then ((some (y243 ++ y246 : List (S82))).bind fun y250 => (if 0 ≤ (wrap64 ((ji33) + 1)) then (if (wrap64 ((ji33) + 1)) ≤ (t232.length : Int) then ((some (t232.drop ((wrap64 ((ji33) + 1)) : Int).toNat : List (S82))).bind fun y253 => (if y250.length + y253.length < 8796093022208 then (laws_FnPkgLess.j2 kj7 t230 t231 t232 t235 t230 t231 (y250 ++ y253) t235) else (none))) else (none)) else (none))) else (none)) = some r := by first | (rw [hy246]; with_reducible exact H) | (have H2_ := (Option.bind_some _ _).symm.trans H; rw [hy246]; with_reducible exact H2_) | (have H2_ := (Option.bind_some _ _).symm.trans H; with_reducible exact H2_) | with_reducible exact H | (rw [hy246]; exact H) | exact H
            have Ny246 := Aside0.mk hy246
            clear hy246
            by_cases c36 : y243.length + y246.length < 8796093022208
            ·rw [if_pos c36] at H
             have LMc36 := Aside0.mk c36
             clear c36
             obtain ⟨y250, hy250⟩ : ∃ y_ : List (S82), y_ = (y243 ++ y246) := ⟨_, rfl⟩
             replace H : (if 0 ≤ (wrap64 ((ji33) + 1)) then (if (wrap64 ((ji33) + 1)) ≤ (t232.length : Int) then ((some (t232.drop ((wrap64 ((ji33) + 1)) : Int).toNat : List (S82))).bind fun y253 => (if y250.length + y253.length < 8796093022208 then (laws_FnPkgLess.j2 kj7 t230 t231 t232 t235 t230 t231 (y250 ++ y253) t235) else (none))) else (none)) else (none)) = some r := by first | (rw [hy250]; with_reducible exact H) | (have H2_ := (Option.bind_some _ _).symm.trans H; rw [hy250]; with_reducible exact H2_) | (have H2_ := (Option.bind_some _ _).symm.trans H; with_reducible exact H2_) | with_reducible exact H | (rw [hy250]; exact H) | exact H
             have Ny250 := Aside0.mk hy250
             clear hy250
             obtain ⟨ji37, hji37⟩ : ∃ j_ : Int, (wrap64 ((ji33) + 1)) = j_ := ⟨_, rfl⟩
             replace H : (if 0 ≤ (ji37) then (if (ji37) ≤ (t232.length : Int) then ((some (t232.drop ((ji37) : Int).toNat : List (S82))).bind fun y253 => (if y250.length + y253.length < 8796093022208 then (laws_FnPkgLess.j2 kj7 t230 t231 t232 t235 t230 t231 (y250 ++ y253) t235) else (none))) else (none)) else (none)) = some r := by first | (rw [hji37] at H; exact H) | (simp only [hji37] at H ⊢; exact H)
             have hji37w : (IntKind.i64.wrap ((ji33) + 1)) = ji37 := (i64_w _).trans hji37
             by_cases c38 : 0 ≤ (ji37)
             ·rw [if_pos c38] at H
              have c38b0 := eq_true c38
              have c38b1 : decide (0 ≤ (ji37)) = true := decide_eq_true c38
              clear c38
              by_cases c39 : (ji37) ≤ (t232.length : Int)
              ·rw [if_pos c39] at H
               have c39b0 := eq_true c39
               have c39b1 : decide ((ji37) ≤ (t232.length : Int)) = true := decide_eq_true c39
               clear c39
               obtain ⟨y253, hy253⟩ : ∃ y_ : List (S82), y_ = (t232.drop ((ji37) : Int).toNat) := ⟨_, rfl⟩
               replace H : (if y250.length + y253.length < 8796093022208 then (laws_FnPkgLess.j2 kj7 t230 t231 t232 t235 t230 t231 (y250 ++ y253) t235) else (none)) = some r := by first | (rw [hy253]; with_reducible exact H) | (have H2_ := (Option.bind_some _ _).symm.trans H; rw [hy253]; with_reducible exact H2_) | (have H2_ := (Option.bind_some _ _).symm.trans H; with_reducible exact H2_) | with_reducible exact H | (rw [hy253]; exact H) | exact H
               have Ny253 := Aside0.mk hy253
               clear hy253
               by_cases c40 : y250.length + y253.length < 8796093022208
               ·rw [if_pos c40] at H
                have LMc40 := Aside0.mk c40
                clear c40
                obtain ⟨y257, hy257⟩ : ∃ y_ : List (S82), y_ = (y250 ++ y253) := ⟨_, rfl⟩
                replace H : (laws_FnPkgLess.j2 kj7 t230 t231 t232 t235 t230 t231 y257 t235) = some r := by first | (rw [hy257]; with_reducible exact H) | (have H2_ := (Option.bind_some _ _).symm.trans H; rw [hy257]; with_reducible exact H2_) | (have H2_ := (Option.bind_some _ _).symm.trans H; with_reducible exact H2_) | with_reducible exact H | (rw [hy257]; exact H) | exact H
                have Ny257 := Aside0.mk hy257
                clear hy257
                have H' := Aside0.mk H
                clear H
                have hnb41 := NB238_242.out
                have hnc41 := NB242_238.out
                obtain ⟨hcz42_0, hcz42_1, hcz42_2, hcz42_3, hfz42_0, hfz42_1, hfz42_2, hfz42_3⟩ := zc4f BK238.out
                try go_wp2
                have n0_ : Aside0 (Kd.R k82 82 ((((w27.setCell ⟨gb242, 0, none⟩ (.int .i64 t230)).setCell ⟨gb242, 1, none⟩ (.int .i64 t231)).setCell ⟨gb242, 2, none⟩ (.slice Ao12 t232.length co12)).setCell ⟨gb242, 3, none⟩ (.slice Ao13 t235.length co13)) w.heap.size (fun _ => True) (.slice Ao12 t232.length co12) t232) := ⟨by exact zR (Kd.R_mono (Kd.R_far (p := ⟨gb242, 3, none⟩) (Kd.R_far (p := ⟨gb242, 2, none⟩) (Kd.R_far (p := ⟨gb242, 1, none⟩) (Kd.R_far (p := ⟨gb242, 0, none⟩) (Kd.R_types HO_239002.out BK242.out (by decide)) (fun _ hk => hk.2) (.int .i64 t230)) (fun _ hk => hk.2) (.int .i64 t231)) (fun _ hk => hk.2) (.slice Ao12 t232.length co12)) (fun _ hk => hk.2) (.slice Ao13 t235.length co13)) (fun _ hk => trivial))⟩
                have n1_ : Aside0 (Kd.R k30 30 ((((w27.setCell ⟨gb242, 0, none⟩ (.int .i64 t230)).setCell ⟨gb242, 1, none⟩ (.int .i64 t231)).setCell ⟨gb242, 2, none⟩ (.slice Ao12 t232.length co12)).setCell ⟨gb242, 3, none⟩ (.slice Ao13 t235.length co13)) w.heap.size (fun _ => True) (.slice Ao13 t235.length co13) t235) := ⟨by exact zR (Kd.R_mono (Kd.R_far (p := ⟨gb242, 3, none⟩) (Kd.R_far (p := ⟨gb242, 2, none⟩) (Kd.R_far (p := ⟨gb242, 1, none⟩) (Kd.R_far (p := ⟨gb242, 0, none⟩) (Kd.R_types HO_239003.out BK242.out (by decide)) (fun _ hk => hk.2) (.int .i64 t230)) (fun _ hk => hk.2) (.int .i64 t231)) (fun _ hk => hk.2) (.slice Ao12 t232.length co12)) (fun _ hk => hk.2) (.slice Ao13 t235.length co13)) (fun _ hk => trivial))⟩
                have n2_ : Aside0 (((((w27.setCell ⟨gb242, 0, none⟩ (.int .i64 t230)).setCell ⟨gb242, 1, none⟩ (.int .i64 t231)).setCell ⟨gb242, 2, none⟩ (.slice Ao12 t232.length co12)).setCell ⟨gb242, 3, none⟩ (.slice Ao13 t235.length co13)).heap[gb238]? = some (.cells #[.int .i64 t230, .int .i64 t231, .slice Ao12 t232.length co12, .slice Ao13 t235.length co13] 26 (0, 0))) := ⟨by (with_reducible repeat (first | refine blk_drewN ?_ _ | refine blk_drew ?_ | refine blk_alloc ?_ _)); refine blk_far ?_ NB238_242.out _; (with_reducible repeat (first | refine blk_drewN ?_ _ | refine blk_drew ?_ | refine blk_alloc ?_ _)); refine blk_far ?_ NB238_242.out _; (with_reducible repeat (first | refine blk_drewN ?_ _ | refine blk_drew ?_ | refine blk_alloc ?_ _)); refine blk_far ?_ NB238_242.out _; (with_reducible repeat (first | refine blk_drewN ?_ _ | refine blk_drew ?_ | refine blk_alloc ?_ _)); refine blk_far ?_ NB238_242.out _; exact zK BK238.out⟩
                have n3_ : Aside0 (((((w27.setCell ⟨gb242, 0, none⟩ (.int .i64 t230)).setCell ⟨gb242, 1, none⟩ (.int .i64 t231)).setCell ⟨gb242, 2, none⟩ (.slice Ao12 t232.length co12)).setCell ⟨gb242, 3, none⟩ (.slice Ao13 t235.length co13)).heap[gb242]? = some (.cells #[.int .i64 t230, .int .i64 t231, .slice Ao12 t232.length co12, .slice Ao13 t235.length co13] 26 (0, 0))) := ⟨by (with_reducible repeat (first | refine blk_drewN ?_ _ | refine blk_drew ?_ | refine blk_alloc ?_ _)); refine blk_put (cs := #[.int .i64 t230, .int .i64 t231, .slice Ao12 t232.length co12, .slice none 0 0]) ?_ 3 _ rfl; (with_reducible repeat (first | refine blk_drewN ?_ _ | refine blk_drew ?_ | refine blk_alloc ?_ _)); refine blk_put (cs := #[.int .i64 t230, .int .i64 t231, .slice none 0 0, .slice none 0 0]) ?_ 2 _ rfl; (with_reducible repeat (first | refine blk_drewN ?_ _ | refine blk_drew ?_ | refine blk_alloc ?_ _)); refine blk_put (cs := #[.int .i64 t230, .int .i64 0, .slice none 0 0, .slice none 0 0]) ?_ 1 _ rfl; (with_reducible repeat (first | refine blk_drewN ?_ _ | refine blk_drew ?_ | refine blk_alloc ?_ _)); refine blk_put (cs := #[.int .i64 0, .int .i64 0, .slice none 0 0, .slice none 0 0]) ?_ 0 _ rfl; exact zK BK242.out⟩
                have n4_ : Aside0 (Below w.heap.size w ((((w27.setCell ⟨gb242, 0, none⟩ (.int .i64 t230)).setCell ⟨gb242, 1, none⟩ (.int .i64 t231)).setCell ⟨gb242, 2, none⟩ (.slice Ao12 t232.length co12)).setCell ⟨gb242, 3, none⟩ (.slice Ao13 t235.length co13))) := ⟨by exact zB2 HB.out GE238.out GE242.out⟩
                (try clear HO_239002)
                (try clear HO_239003)
                (try clear BK238)
                (try clear BK242)
                (try clear HB)
                generalize ((((w27.setCell ⟨gb242, 0, none⟩ (.int .i64 t230)).setCell ⟨gb242, 1, none⟩ (.int .i64 t231)).setCell ⟨gb242, 2, none⟩ (.slice Ao12 t232.length co12)).setCell ⟨gb242, 3, none⟩ (.slice Ao13 t235.length co13)) = w43 at n0_ n1_ n2_ n3_ n4_ ⊢
                have HO_239002 := n0_
                have HO_239003 := n1_
                have BK238 := n2_
                have BK242 := n3_
                have HB := n4_
                clear n0_ n1_ n2_ n3_ n4_
                have n0_ := Aside0.mk (Kd.R_drew HO_239002.out)
                have n1_ := Aside0.mk (Kd.R_drew HO_239003.out)
                have n2_ := Aside0.mk (blk_drew BK238.out)
                have n3_ := Aside0.mk (blk_drew BK242.out)
                have n4_ := Aside0.mk (below_drew1 HB.out)
                clear HO_239002
                clear HO_239003
                clear BK238
                clear BK242
                clear HB
                have HO_239002 := n0_
                have HO_239003 := n1_
                have BK238 := n2_
                have BK242 := n3_
                have HB := n4_
                clear n0_ n1_ n2_ n3_ n4_
                have q45 : ((ji33) : Int) ≤ ((t232.length : Int) : Int) := of_decide_eq_true (by first | (with_reducible assumption) | assumption)
                obtain ⟨i045, hi045, _, hsz45, _⟩ := info_parts info82
                have hroom45 : t232.length ≤ co12 := (Kd.R_reads' HO_239002.out).2.1
                have hC45 : Kd.C k82 _ Ao12 t232.length t232 := (Kd.R_reads' HO_239002.out).2.2
                have hcut45 := cut_to (P := Try.prog) 23 82 .i64 Try.underlying23 hi045 Ao12 t232.length co12 (ji33) (of_decide_eq_true (by first | (with_reducible assumption) | assumption)) q45 hroom45
                have hr45 := Kd.C_take (m := ((ji33) : Int).toNat) hC45 (by omega)
                have hy45 : y246.length = ((ji33) : Int).toNat := (by rw [Ny246.out, List.length_take]; omega)
                rw [← Ny246.out] at hr45
                rw [← hy45] at hcut45
                have HR249 := Aside0.mk hr45
                have HC249 := Aside0.mk (show y246.length ≤ co12 from by omega)
                clear hr45 hC45 hroom45 hi045 hsz45
                have KY45 := Aside0.mk hy45
                clear hy45
                have KL45 := Aside0.mk (show ((ji33) : Int).toNat ≤ t232.length from by omega)
                replace q45 := eq_true q45
                have q46 : ((ji37) : Int) ≤ ((t232.length : Int) : Int) := of_decide_eq_true (by first | (with_reducible assumption) | assumption)
                obtain ⟨i046, hi046, _, hsz46, _⟩ := info_parts info82
                have hroom46 : t232.length ≤ co12 := (Kd.R_reads' HO_239002.out).2.1
                have hC46 : Kd.C k82 _ Ao12 t232.length t232 := (Kd.R_reads' HO_239002.out).2.2
                have q046 : (0 : Int) ≤ ((ji37) : Int) := of_decide_eq_true (by first | (with_reducible assumption) | assumption)
                have hcut46 := cut_from (P := Try.prog) 23 82 .i64 Try.underlying23 hi046 2 hsz46 Ao12 t232.length co12 (ji37) q046 q46
                have hr46 := Kd.C_drop (m := ((ji37) : Int).toNat) (c := co12) hC46 (by omega) hroom46
                obtain ⟨A46, hA46⟩ : ∃ A1, A1 = (if co12 = ((ji37) : Int).toNat then Ao12 else (Ao12 : Option Addr).map (·.add (((ji37) : Int).toNat * 2))) := ⟨_, rfl⟩
                obtain ⟨c46, hc46⟩ : ∃ c1, c1 = co12 - ((ji37) : Int).toNat := ⟨_, rfl⟩
                have hy46 : y253.length = t232.length - ((ji37) : Int).toNat := (by rw [Ny253.out, List.length_drop] <;> omega)
                rw [show (t232).drop ((ji37) : Int).toNat = y253 from Ny253.out.symm] at hr46
                replace hr46 : Kd.C k82 _ A46 y253.length y253 := (by rw [hA46]; exact hr46)
                rw [← hy46, ← hA46, ← hc46] at hcut46
                have HR256 := Aside0.mk hr46
                have HC256 := Aside0.mk (show y253.length ≤ c46 from by rw [hy46, hc46]; exact Nat.sub_le_sub_right hroom46 _)
                clear hr46 hC46 hroom46 hi046 hsz46 hc46
                have KY46 := Aside0.mk hy46
                have KA46 := Aside0.mk hA46
                clear hy46 hA46
                have KL46 := Aside0.mk (show ((ji37) : Int).toNat ≤ t232.length from by omega)
                replace q46 := eq_true q46
                refine start_ (n := 14) (S := fun w' => w'.cell? ⟨gb238, 0, none⟩ = some (.int .i64 t230) ∧ w'.cell? ⟨gb238, 1, none⟩ = some (.int .i64 t231) ∧ w'.cell? ⟨gb238, 2, none⟩ = some (.slice Ao12 t232.length co12) ∧ w'.cell? ⟨gb238, 3, none⟩ = some (.slice Ao13 t235.length co13)) (ds := []) #[false, false, false, false, false, false, false, false, false, false, false, false, false, false] (by kernel_rfl) rfl rfl ⟨(blk_cell BK238.out 0).trans rfl, (blk_cell BK238.out 1).trans rfl, (blk_cell BK238.out 2).trans rfl, (blk_cell BK238.out 3).trans rfl⟩ (fun hHeld => ?_); refine with_tabW laws_FnPkgLess.tab10 laws_FnPkgLess.bits10 (fun HT_ HW_ => ?_)
                generalize w43.drew = w44 at HO_239002 HO_239003 BK238 BK242 HB HR249 HR256 hHeld ⊢
                refine pure_ (i := 1) (N := some 47) (v := ?_) (a' := ?_) #[false, true, false, false, false, false, false, false, false, false, false, false, false, false] rfl rfl (any_of HT_.out (by kernel_rfl)) (fun _ _ _ h => h) (Or.inl ⟨by rfl, ?_⟩) ?_ ?_
                rotate_left
                ·intro w'
                 go_simp
                 with_reducible rfl
                rotate_left
                ·simp only [zp0, zp1, zp2, zp3, zp4, i64_w, i32_w]
                 rfl
                refine pure_ (i := 3) (N := some 49) (v := ?_) (a' := ?_) #[false, true, false, true, false, false, false, false, false, false, false, false, false, false] rfl rfl (any_of HT_.out (by kernel_rfl)) (fun _ _ _ h => h) (Or.inl ⟨by rfl, ?_⟩) ?_ ?_
                rotate_left
                ·intro w'
                 go_simp
                 with_reducible rfl
                rotate_left
                ·simp only [zp0, zp1, zp2, zp3, zp4, i64_w, i32_w]
                 rfl
                refine pure_ (i := 6) (N := some 52) (v := ?_) (a' := ?_) #[false, true, false, true, false, false, true, false, false, false, false, false, false, false] rfl rfl (any_of HT_.out (by kernel_rfl)) (fun _ _ _ h => h) (Or.inl ⟨by rfl, ?_⟩) ?_ ?_
                rotate_left
                ·intro w'
                 go_simp
                 with_reducible rfl
                rotate_left
                ·simp only [zp0, zp1, zp2, zp3, zp4, i64_w, i32_w]
                 rfl
                refine pure_ (i := 8) (N := some 54) (v := ?_) (a' := ?_) #[false, true, false, true, false, false, true, false, true, false, false, false, false, false] rfl rfl (any_of HT_.out (by kernel_rfl)) (fun _ _ _ h => h) (Or.inl ⟨by rfl, ?_⟩) ?_ ?_
                rotate_left
                ·intro w'
                 go_simp
                 with_reducible rfl
                rotate_left
                ·simp only [zp0, zp1, zp2, zp3, zp4, i64_w, i32_w]
                 rfl
                refine pure_ (i := 9) (N := some 55) (v := ?_) (a' := ?_) #[false, true, false, true, false, false, true, false, true, true, false, false, false, false] rfl rfl (any_of HT_.out (by kernel_rfl)) (fun _ _ _ h => h) (Or.inl ⟨by rfl, ?_⟩) ?_ ?_
                rotate_left
                ·intro w'
                 go_simp
                 with_reducible rfl
                rotate_left
                ·simp only [zp0, zp1, zp2, zp3, zp4, i64_w, i32_w]
                 rfl
                refine take_ (i := 2) (N := some 48) (v := ?_) (a' := ?_) #[false, true, true, true, false, false, true, false, true, true, false, false, false, false] rfl rfl (take_ofW HT_.out HW_.out (by kernel_rfl)) (fun _ _ _ h => h) (Or.inl ⟨by rfl, ?_⟩) hHeld ?_ ?_
                rotate_left
                ·rintro w' ⟨s0, s1, s2, s3⟩
                 go_simp
                 with_reducible rfl
                rotate_left
                ·simp only [zp0, zp1, zp2, zp3, zp4, i64_w, i32_w]
                 rfl
                refine pure_ (i := 4) (N := some 50) (v := ?_) (a' := ?_) #[false, true, true, true, true, false, true, false, true, true, false, false, false, false] rfl rfl (any_of HT_.out (by kernel_rfl)) (fun _ _ _ h => h) (Or.inl ⟨by rfl, ?_⟩) ?_ ?_
                rotate_left
                ·intro w'
                 go_simp
                 with_reducible rfl
                rotate_left
                ·simp only [zp0, zp1, zp2, zp3, zp4, i64_w, i32_w]
                 rfl
                refine take_ (i := 7) (N := some 53) (v := ?_) (a' := ?_) #[false, true, true, true, true, false, true, true, true, true, false, false, false, false] rfl rfl (take_ofW HT_.out HW_.out (by kernel_rfl)) (fun _ _ _ h => h) (Or.inl ⟨by rfl, ?_⟩) hHeld ?_ ?_
                rotate_left
                ·rintro w' ⟨s0, s1, s2, s3⟩
                 go_simp
                 with_reducible rfl
                rotate_left
                ·simp only [zp0, zp1, zp2, zp3, zp4, i64_w, i32_w]
                 rfl
                refine pure_ (i := 10) (N := some 56) (v := ?_) (a' := ?_) #[false, true, true, true, true, false, true, true, true, true, true, false, false, false] rfl rfl (any_of HT_.out (by kernel_rfl)) (fun _ _ _ h => h) (Or.inl ⟨by rfl, ?_⟩) ?_ ?_
                rotate_left
                ·intro w'
                 go_simp
                 with_reducible rfl
                rotate_left
                ·simp only [zp0, zp1, zp2, zp3, zp4, i64_w, i32_w]
                 rfl
                refine one_ (i := 0) (N := some 46) #[true, true, true, true, true, false, true, true, true, true, true, false, false, false] rfl rfl (one_of HT_.out (by kernel_rfl)) (by decide) (fun K hK => ?_)
                refine Kd.R_lit_step k82 _ 82 ?hg (N := 46) ?hd (xs := ([] : List (S82))) (inner := []) (ok := fun _ => True) (okp := fun _ => True) ?hr ?hp (fun _ hk => hk) trivial (Below.refl _ _) (Nat.le_refl _) (by simp) ?_; (case hd => rfl); (case hg => rfl); (case hr => first | (go_simp; done) | (go_simp; rfl)); (case hp => exact (Reps.none _ _))
                intro v244 w47 ho48 hb hg_ hnew_
                clear hg_ hnew_
                (first | rw [← Ny243.out] at ho48 | (simp only [Int.reduceToNat] at ho48; rw [← Ny243.out] at ho48))
                have n0_ := Aside0.mk (Kd.R_elder' (by exact zR HO_239002.out) (Kd.R_base ho48) hb)
                have n1_ := Aside0.mk (Kd.R_below (by exact zR HO_239003.out) hb)
                have n2_ := Aside0.mk (Kd.R_lower (Kd.R_new' ho48 (Kd.R_lt (by exact zR HO_239002.out))) (below_size (by exact zB2 HB.out GE238.out GE242.out)))
                have n3_ := Aside0.mk (blk_below (g := gb238) (o := .cells #[.int .i64 t230, .int .i64 t231, .slice Ao12 t232.length co12, .slice Ao13 t235.length co13] 26 (0, 0)) (by exact zK BK238.out) hb)
                have n4_ := Aside0.mk (blk_below (g := gb242) (o := .cells #[.int .i64 t230, .int .i64 t231, .slice Ao12 t232.length co12, .slice Ao13 t235.length co13] 26 (0, 0)) (by exact zK BK242.out) hb)
                have n5_ := Aside0.mk (Kd.C_below (by repeat (first | (with_reducible exact HR249.out) | (with_reducible refine Kd.C_alloc ?_ _) | (with_reducible refine Kd.C_drewN ?_ _) | (with_reducible refine Kd.C_drew ?_) | exact HR249.out)) hb)
                have n6_ := Aside0.mk (Kd.C_below (by repeat (first | (with_reducible exact HR256.out) | (with_reducible refine Kd.C_alloc ?_ _) | (with_reducible refine Kd.C_drewN ?_ _) | (with_reducible refine Kd.C_drew ?_) | exact HR256.out)) hb)
                have n7_ := Aside0.mk (below_step (by exact zB2 HB.out GE238.out GE242.out) hb)
                clear HO_239002
                clear HO_239003
                clear BK238
                clear BK242
                clear HR249
                clear HR256
                clear HB
                have HO_239002 := n0_
                have HO_239003 := n1_
                have HO245 := n2_
                have BK238 := n3_
                have BK242 := n4_
                have HR249 := n5_
                have HR256 := n6_
                have HB := n7_
                clear n0_ n1_ n2_ n3_ n4_ n5_ n6_ n7_
                clear hb ho48
                refine hK.out _ _ ⟨(blk_cell BK238.out 0).trans rfl, (blk_cell BK238.out 1).trans rfl, (blk_cell BK238.out 2).trans rfl, (blk_cell BK238.out 3).trans rfl⟩ (fun hHeld => ?_)
                clear hK K
                refine norm_ (a' := ?_) ?_ ?_
                rotate_left
                ·show Act.put _ (some 46) _ = _
                 simp only [zp0, zp1, zp2, zp3, zp4, i64_w, i32_w]
                 rfl
                refine one_ (i := 5) (N := some 51) #[true, true, true, true, true, true, true, true, true, true, true, false, false, false] rfl rfl (one_of HT_.out (by kernel_rfl)) (by decide) (fun K hK => ?_)
                refine Kd.R_append_rows_step k82 (w0 := w) w.heap.size (by rfl) (.tmp 46) (.tmp 50) 23 82 (.agg #[(.int .i64 0), (.int .i64 0)]) 16 rfl Try.underlying23 info82 rfl (by decide) (by omega) v244 y243 y246 _ _ _ (fun k_ => some k_ ≠ (.slice Ao12 t232.length co12 : Value).ownBlock) (fun _ => False) rfl rfl ?aO ?aR (fun _ _ h => h) (fun _ h => h.elim) ?aF ?aB ?aS ?aL ?_
                (case aR => repeat (first | exact (by repeat (first | (with_reducible exact HR249.out) | (with_reducible refine Kd.C_alloc ?_ _) | (with_reducible refine Kd.C_drewN ?_ _) | (with_reducible refine Kd.C_drew ?_) | exact HR249.out)) | (with_reducible refine Kd.C_alloc ?_ _) | (with_reducible refine Kd.C_drewN ?_ _) | (with_reducible refine Kd.C_drew ?_)))
                (case aB => exact (by exact zB2 HB.out GE238.out GE242.out))
                (case aF => exact (fun k_ hk => Kd.fresh' (Kd.R_lt (by exact zR HO_239002.out)) k_ hk))
                (case aO => exact (by exact zR (Kd.R_mono HO245.out (fun _ hk => hk.2))))
                (case aS => exact (below_size (by exact zB2 HB.out GE238.out GE242.out)))
                (case aL => have := LMc36.out; omega)
                intro v251 w49 ho hb hg hat
                rw [← Ny250.out] at ho
                have n0_ := Aside0.mk (Kd.R_after (ok := (fun _ => True)) (by exact zR HO_239002.out) hg hat)
                have n1_ := Aside0.mk (Kd.R_over' (by exact zR HO_239003.out) (Kd.R_typed (by exact zR HO245.out)) (by decide) hg)
                have n2_ := Aside0.mk (blk_grown (g := gb238) (o := .cells #[.int .i64 t230, .int .i64 t231, .slice Ao12 t232.length co12, .slice Ao13 t235.length co13] 26 (0, 0)) (by exact zK BK238.out) hg (Kd.R_ne HO245.out BK238.out (by decide)))
                have n3_ := Aside0.mk (blk_grown (g := gb242) (o := .cells #[.int .i64 t230, .int .i64 t231, .slice Ao12 t232.length co12, .slice Ao13 t235.length co13] 26 (0, 0)) (by exact zK BK242.out) hg (Kd.R_ne HO245.out BK242.out (by decide)))
                have n4_ := Aside0.mk (hb)
                have n5_ := Aside0.mk ((show Kd.C k82 w49 Ao12 y246.length y246 from by rw [Ny246.out]; exact Kd.C_take (m := ((ji33) : Int).toNat) ((Kd.R_reads' (Kd.R_after (ok := (fun _ => True)) (by exact zR HO_239002.out) hg hat)).2.2) KL45.out))
                have n6_ := Aside0.mk ((show Kd.C k82 w49 A46 y253.length y253 from by rw [Ny253.out, KA46.out]; exact Kd.C_drop (m := ((ji37) : Int).toNat) (c := co12) ((Kd.R_reads' (Kd.R_after (ok := (fun _ => True)) (by exact zR HO_239002.out) hg hat)).2.2) KL46.out ((Kd.R_reads' (Kd.R_after (ok := (fun _ => True)) (by exact zR HO_239002.out) hg hat)).2.1)))
                have n7_ := Aside0.mk (ho)
                clear HO_239002
                clear HO_239003
                clear BK238
                clear BK242
                clear HB
                clear HR249
                clear HR256
                clear HO245
                have HO_239002 := n0_
                have HO_239003 := n1_
                have BK238 := n2_
                have BK242 := n3_
                have HB := n4_
                have HR249 := n5_
                have HR256 := n6_
                have HO252 := n7_
                clear n0_ n1_ n2_ n3_ n4_ n5_ n6_ n7_
                clear ho hb hg hat
                refine hK.out _ _ ⟨(blk_cell BK238.out 0).trans rfl, (blk_cell BK238.out 1).trans rfl, (blk_cell BK238.out 2).trans rfl, (blk_cell BK238.out 3).trans rfl⟩ (fun hHeld => ?_)
                clear hK K
                refine norm_ (a' := ?_) ?_ ?_
                rotate_left
                ·show Act.put _ (some 51) _ = _
                 simp only [zp0, zp1, zp2, zp3, zp4, i64_w, i32_w]
                 rfl
                refine one_ (i := 11) (N := some 57) #[true, true, true, true, true, true, true, true, true, true, true, true, false, false] rfl rfl (one_of HT_.out (by kernel_rfl)) (by decide) (fun K hK => ?_)
                refine Kd.R_append_rows_step k82 (w0 := w) w.heap.size (by rfl) (.tmp 51) (.tmp 56) 23 82 (.agg #[(.int .i64 0), (.int .i64 0)]) 16 rfl Try.underlying23 info82 rfl (by decide) (by omega) v251 y250 y253 _ _ _ (fun k_ => some k_ ≠ (.slice Ao12 t232.length co12 : Value).ownBlock) (fun _ => False) rfl rfl ?aO ?aR (fun _ _ h => h) (fun _ h => h.elim) ?aF ?aB ?aS ?aL ?_
                (case aR => repeat (first | exact (by repeat (first | (with_reducible exact HR256.out) | (with_reducible refine Kd.C_alloc ?_ _) | (with_reducible refine Kd.C_drewN ?_ _) | (with_reducible refine Kd.C_drew ?_) | exact HR256.out)) | (with_reducible refine Kd.C_alloc ?_ _) | (with_reducible refine Kd.C_drewN ?_ _) | (with_reducible refine Kd.C_drew ?_)))
                (case aB => exact (by exact zB2 HB.out GE238.out GE242.out))
                (case aF => exact (fun k_ hk => Kd.fresh' (Kd.R_lt (by exact zR HO_239002.out)) k_ hk))
                (case aO => exact (by exact zR HO252.out))
                (case aS => exact (below_size (by exact zB2 HB.out GE238.out GE242.out)))
                (case aL => have := LMc40.out; omega)
                intro v258 w50 ho hb hg hat
                rw [← Ny257.out] at ho
                have n0_ := Aside0.mk (Kd.R_after (ok := (fun _ => True)) (by exact zR HO_239002.out) hg hat)
                have n1_ := Aside0.mk (Kd.R_over' (by exact zR HO_239003.out) (Kd.R_typed (by exact zR HO252.out)) (by decide) hg)
                have n2_ := Aside0.mk (blk_grown (g := gb238) (o := .cells #[.int .i64 t230, .int .i64 t231, .slice Ao12 t232.length co12, .slice Ao13 t235.length co13] 26 (0, 0)) (by exact zK BK238.out) hg (Kd.R_ne HO252.out BK238.out (by decide)))
                have n3_ := Aside0.mk (blk_grown (g := gb242) (o := .cells #[.int .i64 t230, .int .i64 t231, .slice Ao12 t232.length co12, .slice Ao13 t235.length co13] 26 (0, 0)) (by exact zK BK242.out) hg (Kd.R_ne HO252.out BK242.out (by decide)))
                have n4_ := Aside0.mk (hb)
                have n5_ := Aside0.mk ((show Kd.C k82 w50 Ao12 y246.length y246 from by rw [Ny246.out]; exact Kd.C_take (m := ((ji33) : Int).toNat) ((Kd.R_reads' (Kd.R_after (ok := (fun _ => True)) (by exact zR HO_239002.out) hg hat)).2.2) KL45.out))
                have n6_ := Aside0.mk ((show Kd.C k82 w50 A46 y253.length y253 from by rw [Ny253.out, KA46.out]; exact Kd.C_drop (m := ((ji37) : Int).toNat) (c := co12) ((Kd.R_reads' (Kd.R_after (ok := (fun _ => True)) (by exact zR HO_239002.out) hg hat)).2.2) KL46.out ((Kd.R_reads' (Kd.R_after (ok := (fun _ => True)) (by exact zR HO_239002.out) hg hat)).2.1)))
                have n7_ := Aside0.mk (ho)
                clear HO_239002
                clear HO_239003
                clear BK238
                clear BK242
                clear HB
                clear HR249
                clear HR256
                clear HO252
                have HO_239002 := n0_
                have HO_239003 := n1_
                have BK238 := n2_
                have BK242 := n3_
                have HB := n4_
                have HR249 := n5_
                have HR256 := n6_
                have HO259 := n7_
                clear n0_ n1_ n2_ n3_ n4_ n5_ n6_ n7_
                clear ho hb hg hat
                obtain ⟨Ao51, co51, eo51⟩ := Kd.R_slice HO259.out
                (first | subst eo51 | (injection eo51 with f1_ f2_ f3_; have f4_ := f1_.symm; have f5_ := f3_.symm; clear f1_ f2_ f3_; subst f4_; subst f5_))
                refine hK.out _ _ ⟨(blk_cell BK238.out 0).trans rfl, (blk_cell BK238.out 1).trans rfl, (blk_cell BK238.out 2).trans rfl, (blk_cell BK238.out 3).trans rfl⟩ (fun hHeld => ?_)
                clear hK K
                refine norm_ (a' := ?_) ?_ ?_
                rotate_left
                ·show Act.put _ (some 57) _ = _
                 simp only [zp0, zp1, zp2, zp3, zp4, i64_w, i32_w]
                 rfl
                refine pure_ (i := 12) (N := some 58) (v := ?_) (a' := ?_) #[true, true, true, true, true, true, true, true, true, true, true, true, true, false] rfl rfl (any_of HT_.out (by kernel_rfl)) (fun _ _ _ h => h) (Or.inl ⟨by rfl, ?_⟩) ?_ ?_
                rotate_left
                ·intro w'
                 go_simp
                 with_reducible rfl
                rotate_left
                ·simp only [zp0, zp1, zp2, zp3, zp4, i64_w, i32_w]
                 rfl
                refine one_ (i := 13) (N := none) #[true, true, true, true, true, true, true, true, true, true, true, true, true, true] rfl rfl (one_of HT_.out (by kernel_rfl)) (by decide) (fun K hK => ?_)
                have hs52 : w50.cell? ⟨gb242, 2, none⟩ = some (.slice Ao12 t232.length co12) := (blk_cell BK242.out 2).trans rfl
                have hfs52 := blk_frozen BK242.out 2
                have hns52_0 := NB238_242.out
                have hms52_0 := NB242_238.out
                refine skip_ (w1 := ?_) (by rfl) rfl ?_ ?_
                rotate_left
                ·go_simp
                 rfl
                refine hK.out _ _ ⟨((cell_far (p := ⟨gb242, _, none⟩) NB238_242.out _).trans (hHeld.1)), ((cell_far (p := ⟨gb242, _, none⟩) NB238_242.out _).trans (hHeld.2.1)), ((cell_far (p := ⟨gb242, _, none⟩) NB238_242.out _).trans (hHeld.2.2.1)), ((cell_far (p := ⟨gb242, _, none⟩) NB238_242.out _).trans (hHeld.2.2.2))⟩ (fun hHeld => ?_)
                clear hK K
                refine done_ (done_of HT_.out (by kernel_rfl)) ?_
                try go_wp2
                go_meet
                case rel => exact ⟨_, (y257), (.slice Ao51 y257.length co51), H', ⟨by have := HJ2.out; have := HJ7.out; first | omega | exact Nat.le_refl _⟩, ⟨by exact zR (Kd.R_mono (Kd.R_far (p := ⟨gb242, 2, none⟩) (Kd.R_types HO_239002.out BK242.out (by decide)) (fun _ hk => hk.2) (.slice Ao51 y257.length co51)) (fun _ _ => trivial))⟩, ⟨by exact zR (Kd.R_mono (Kd.R_far (p := ⟨gb242, 2, none⟩) (Kd.R_types HO_239003.out BK242.out (by decide)) (fun _ hk => hk.2) (.slice Ao51 y257.length co51)) (fun _ hk => trivial))⟩, ⟨by exact zR (Kd.R_mono (Kd.R_far (p := ⟨gb242, 2, none⟩) (Kd.R_types HO259.out BK242.out (by decide)) (fun _ hk => hk.2) (.slice Ao51 y257.length co51)) (fun _ _ => trivial))⟩, ⟨by exact zR (Kd.R_mono (Kd.R_far (p := ⟨gb242, 2, none⟩) (Kd.R_types HO_239003.out BK242.out (by decide)) (fun _ hk => hk.2) (.slice Ao51 y257.length co51)) (fun _ hk => trivial))⟩, ⟨by (with_reducible repeat (first | refine blk_drewN ?_ _ | refine blk_drew ?_ | refine blk_alloc ?_ _)); refine blk_far ?_ NB238_242.out _; exact zK BK238.out⟩, ⟨by (with_reducible repeat (first | refine blk_drewN ?_ _ | refine blk_drew ?_ | refine blk_alloc ?_ _)); refine blk_put (cs := #[.int .i64 t230, .int .i64 t231, .slice Ao12 t232.length co12, .slice Ao13 t235.length co13]) ?_ 2 _ rfl; exact zK BK242.out⟩, ⟨by exact zB2 HB.out GE238.out GE242.out⟩⟩
               ·rw [if_neg c40] at H
                exact absurd H (by simp)
              ·rw [if_neg c39] at H
               exact absurd H (by simp)
             ·rw [if_neg c38] at H
              exact absurd H (by simp)
            ·rw [if_neg c36] at H
             exact absurd H (by simp)
           ·rw [if_neg c35] at H
            exact absurd H (by simp)
          ·rw [if_neg c34] at H
           exact absurd H (by simp)
        ·rw [if_neg c31] at H
         have c31b0 : decide (0 < (t232.length : Int)) = false := decide_eq_false c31
         have c31b1 : decide (0 < t232.length) = false := decide_eq_false (by omega)
         clear c31
         (first | rw [c31b0] | (simp only [i64_w, i32_w]; rw [c31b0]) | skip)
         have H' := Aside0.mk H
         clear H
         go_wp2
         · exact absurd (by assumption) (of_decide_eq_false c31b1)
         go_meet
         case rel => exact ⟨_, (t232), (.slice Ao12 t232.length co12), H', ⟨by have := HJ2.out; have := HJ7.out; first | omega | exact Nat.le_refl _⟩, ⟨by exact zR (Kd.R_mono (Kd.R_far (p := ⟨gb242, 3, none⟩) (Kd.R_far (p := ⟨gb242, 2, none⟩) (Kd.R_far (p := ⟨gb242, 1, none⟩) (Kd.R_far (p := ⟨gb242, 0, none⟩) (Kd.R_types HO_239002.out BK242.out (by decide)) (fun _ hk => hk.2) (.int .i64 t230)) (fun _ hk => hk.2) (.int .i64 t231)) (fun _ hk => hk.2) (.slice Ao12 t232.length co12)) (fun _ hk => hk.2) (.slice Ao13 t235.length co13)) (fun _ hk => trivial))⟩, ⟨by exact zR (Kd.R_mono (Kd.R_far (p := ⟨gb242, 3, none⟩) (Kd.R_far (p := ⟨gb242, 2, none⟩) (Kd.R_far (p := ⟨gb242, 1, none⟩) (Kd.R_far (p := ⟨gb242, 0, none⟩) (Kd.R_types HO_239003.out BK242.out (by decide)) (fun _ hk => hk.2) (.int .i64 t230)) (fun _ hk => hk.2) (.int .i64 t231)) (fun _ hk => hk.2) (.slice Ao12 t232.length co12)) (fun _ hk => hk.2) (.slice Ao13 t235.length co13)) (fun _ hk => trivial))⟩, ⟨by exact zR (Kd.R_mono (Kd.R_far (p := ⟨gb242, 3, none⟩) (Kd.R_far (p := ⟨gb242, 2, none⟩) (Kd.R_far (p := ⟨gb242, 1, none⟩) (Kd.R_far (p := ⟨gb242, 0, none⟩) (Kd.R_types HO_239002.out BK242.out (by decide)) (fun _ hk => hk.2) (.int .i64 t230)) (fun _ hk => hk.2) (.int .i64 t231)) (fun _ hk => hk.2) (.slice Ao12 t232.length co12)) (fun _ hk => hk.2) (.slice Ao13 t235.length co13)) (fun _ hk => trivial))⟩, ⟨by exact zR (Kd.R_mono (Kd.R_far (p := ⟨gb242, 3, none⟩) (Kd.R_far (p := ⟨gb242, 2, none⟩) (Kd.R_far (p := ⟨gb242, 1, none⟩) (Kd.R_far (p := ⟨gb242, 0, none⟩) (Kd.R_types HO_239003.out BK242.out (by decide)) (fun _ hk => hk.2) (.int .i64 t230)) (fun _ hk => hk.2) (.int .i64 t231)) (fun _ hk => hk.2) (.slice Ao12 t232.length co12)) (fun _ hk => hk.2) (.slice Ao13 t235.length co13)) (fun _ hk => trivial))⟩, ⟨by (with_reducible repeat (first | refine blk_drewN ?_ _ | refine blk_drew ?_ | refine blk_alloc ?_ _)); refine blk_far ?_ NB238_242.out _; (with_reducible repeat (first | refine blk_drewN ?_ _ | refine blk_drew ?_ | refine blk_alloc ?_ _)); refine blk_far ?_ NB238_242.out _; (with_reducible repeat (first | refine blk_drewN ?_ _ | refine blk_drew ?_ | refine blk_alloc ?_ _)); refine blk_far ?_ NB238_242.out _; (with_reducible repeat (first | refine blk_drewN ?_ _ | refine blk_drew ?_ | refine blk_alloc ?_ _)); refine blk_far ?_ NB238_242.out _; exact zK BK238.out⟩, ⟨by (with_reducible repeat (first | refine blk_drewN ?_ _ | refine blk_drew ?_ | refine blk_alloc ?_ _)); refine blk_put (cs := #[.int .i64 t230, .int .i64 t231, .slice Ao12 t232.length co12, .slice none 0 0]) ?_ 3 _ rfl; (with_reducible repeat (first | refine blk_drewN ?_ _ | refine blk_drew ?_ | refine blk_alloc ?_ _)); refine blk_put (cs := #[.int .i64 t230, .int .i64 t231, .slice none 0 0, .slice none 0 0]) ?_ 2 _ rfl; (with_reducible repeat (first | refine blk_drewN ?_ _ | refine blk_drew ?_ | refine blk_alloc ?_ _)); refine blk_put (cs := #[.int .i64 t230, .int .i64 0, .slice none 0 0, .slice none 0 0]) ?_ 1 _ rfl; (with_reducible repeat (first | refine blk_drewN ?_ _ | refine blk_drew ?_ | refine blk_alloc ?_ _)); refine blk_put (cs := #[.int .i64 0, .int .i64 0, .slice none 0 0, .slice none 0 0]) ?_ 0 _ rfl; exact zK BK242.out⟩, ⟨by exact zB2 HB.out GE238.out GE242.out⟩⟩
       case rest =>
        clear HC25
        try clear c1
        try clear c2
        try clear p2
        try clear c3
        try clear c4
        try clear c4b0
        try clear c4b1
        try clear q4
        try clear c5
        try clear p6
        try clear c15
        try clear c16
        try clear c16b0
        try clear c16b1
        try clear c16b2
        try clear c17
        try clear c21
        try clear c28
        try clear c31
        try clear c31b0
        try clear c31b1
        try clear c32
        try clear c32b0
        try clear c32b1
        try clear c32b2
        try clear c34
        try clear c34b0
        try clear c34b1
        try clear c35
        try clear c35b0
        try clear c35b1
        try clear c36
        try clear c38
        try clear c38b0
        try clear c38b1
        try clear c39
        try clear c39b0
        try clear c39b1
        try clear c40
        try clear c41
        try clear q45
        try clear c46
        try clear q46
        try clear hcz11_0
        try clear hcz11_1
        try clear hcz11_2
        try clear hcz11_3
        try clear hcz17_0
        try clear hcz17_1
        try clear hcz17_2
        try clear hcz17_3
        try clear hcz19_0
        try clear hcz19_1
        try clear hcz19_2
        try clear hcz19_3
        try clear hcz23_0
        try clear hcz23_1
        try clear hcz23_2
        try clear hcz23_3
        try clear hcz26_0
        try clear hcz26_1
        try clear hcz26_2
        try clear hcz26_3
        try clear hcz29_0
        try clear hcz29_1
        try clear hcz29_2
        try clear hcz29_3
        try clear hcz30_0
        try clear hcz30_1
        try clear hcz30_2
        try clear hcz30_3
        try clear hcz42_0
        try clear hcz42_1
        try clear hcz42_2
        try clear hcz42_3
        try clear hfz11_0
        try clear hfz11_1
        try clear hfz11_2
        try clear hfz11_3
        try clear hfz17_0
        try clear hfz17_1
        try clear hfz17_2
        try clear hfz17_3
        try clear hfz19_0
        try clear hfz19_1
        try clear hfz19_2
        try clear hfz19_3
        try clear hfz23_0
        try clear hfz23_1
        try clear hfz23_2
        try clear hfz23_3
        try clear hfz26_0
        try clear hfz26_1
        try clear hfz26_2
        try clear hfz26_3
        try clear hfz29_0
        try clear hfz29_1
        try clear hfz29_2
        try clear hfz29_3
        try clear hfz30_0
        try clear hfz30_1
        try clear hfz30_2
        try clear hfz30_3
        try clear hfz42_0
        try clear hfz42_1
        try clear hfz42_2
        try clear hfz42_3
        try clear p2
        try clear q046
        try clear q45
        try clear q46
        obtain ⟨kq, x243002_24, u243002, HA, HJ24, HO_239002, HO_239003, HO_243002, HO_243003, BK238, BK242, HB⟩ := hcut
        cases kq with
        | zero => exact absurd HA.out (by simp [laws_FnPkgLess.j2])
        | succ kj24 =>
         have H := HA.out
         clear HA
         simp only [laws_FnPkgLess.j2] at H
         obtain ⟨y262, hy262⟩ : ∃ y_ : List (S30), y_ = (([(⟨t230, 1⟩ : S30)] : List (S30))) := ⟨_, rfl⟩
         replace H : ((impl_PkgOk.f kj24 t230 t231 x243002_24 t235).bind fun t265 => (if t265 = true then ((impl_PkgOk.f kj24 t230 t231 t232 ([] : List (S30))).bind fun t266 => (if t266 = true then ((impl_PkgOk.f kj24 t230 t231 t232 y262).bind fun t267 => (some (!t267))) else (none))) else (none))) = some r := by first | (rw [hy262]; with_reducible exact H) | (have H2_ := (Option.bind_some _ _).symm.trans H; rw [hy262]; with_reducible exact H2_) | (have H2_ := (Option.bind_some _ _).symm.trans H; with_reducible exact H2_) | with_reducible exact H | (rw [hy262]; exact H) | exact H
         have Ny262 := Aside0.mk hy262
         clear hy262
         replace H := Option.bind_eq_some_iff.mp H
         obtain ⟨t265, A530, H⟩ := H
         replace H : (if t265 = true then ((impl_PkgOk.f kj24 t230 t231 t232 ([] : List (S30))).bind fun t266 => (if t266 = true then ((impl_PkgOk.f kj24 t230 t231 t232 y262).bind fun t267 => (some (!t267))) else (none))) else (none)) = some r := H
         have A53 := Aside0.mk A530
         clear A530
         by_cases c54 : t265 = true
         ·subst c54
          have H1 : ((impl_PkgOk.f kj24 t230 t231 t232 ([] : List (S30))).bind fun t266 => (if t266 = true then ((impl_PkgOk.f kj24 t230 t231 t232 y262).bind fun t267 => (some (!t267))) else (none))) = some r := by rw [if_pos rfl] at H; exact H
          clear H
          have H := H1
          clear H1
          replace H := Option.bind_eq_some_iff.mp H
          obtain ⟨t266, A550, H⟩ := H
          replace H : (if t266 = true then ((impl_PkgOk.f kj24 t230 t231 t232 y262).bind fun t267 => (some (!t267))) else (none)) = some r := H
          have A55 := Aside0.mk A550
          clear A550
          by_cases c56 : t266 = true
          ·subst c56
           have H1 : ((impl_PkgOk.f kj24 t230 t231 t232 y262).bind fun t267 => (some (!t267))) = some r := by rw [if_pos rfl] at H; exact H
           clear H
           have H := H1
           clear H1
           replace H := Option.bind_eq_some_iff.mp H
           obtain ⟨t267, A570, H⟩ := H
           replace H : (some (!t267)) = some r := H
           have A57 := Aside0.mk A570
           clear A570
           obtain rfl := Option.some.inj H
           have hnb58 := NB238_242.out
           have hnc58 := NB242_238.out
           obtain ⟨hcz59_0, hcz59_1, hcz59_2, hcz59_3, hfz59_0, hfz59_1, hfz59_2, hfz59_3⟩ := zc4f BK238.out
           go_wp2_with (first | ((with_reducible refine gate_dst (N := 9) rfl ?_); (try (refine gate_guard (by rfl) ?_; dsimp only)); refine box_event ?hg (N := 9) ?hd (cs := #[.int .i64 0, .int .i64 0, .slice none 0 0, .slice none 0 0]) (t := 26) ?hr ?_; (case hd => rfl); (case hg => rfl); (case hr => first | (go_simp; done) | (go_simp; rfl)); intro gb260 hg w60 hbox hb; have n0_ := Aside0.mk (Kd.R_below (by exact zR HO_239002.out) hb); have n1_ := Aside0.mk (Kd.R_below (by exact zR HO_239003.out) hb); have n2_ := Aside0.mk (Kd.R_below (by exact zR HO_243002.out) hb); have n3_ := Aside0.mk (Kd.R_below (by exact zR HO_243003.out) hb); have n4_ := Aside0.mk (blk_below (g := gb238) (o := .cells #[.int .i64 t230, .int .i64 t231, .slice Ao12 t232.length co12, .slice Ao13 t235.length co13] 26 (0, 0)) (by exact zK BK238.out) hb); have n5_ := Aside0.mk (blk_below (g := gb242) (o := .cells #[.int .i64 t230, .int .i64 t231, u243002, .slice Ao13 t235.length co13] 26 (0, 0)) (by exact zK BK242.out) hb); have n6_ := Aside0.mk (below_step (by exact zB2 HB.out GE238.out GE242.out) hb); have n7_ := Aside0.mk (hbox); have n8_ := Aside0.mk ((by rw [hg]; exact (below_size (by exact zB2 HB.out GE238.out GE242.out)) : w.heap.size ≤ gb260)); have n9_ := Aside0.mk ((by rw [hg]; exact (below_size (by exact zB2 HB.out GE238.out GE242.out)) : w.heap.size ≤ gb260)); have n10_ := Aside0.mk ((by rw [hg]; exact Nat.ne_of_lt (blk_lt (g := gb238) (o := .cells #[.int .i64 t230, .int .i64 t231, .slice Ao12 t232.length co12, .slice Ao13 t235.length co13] 26 (0, 0)) (by exact zK BK238.out)) : gb238 ≠ gb260)); have n11_ := Aside0.mk ((by rw [hg]; exact Nat.ne_of_gt (blk_lt (g := gb238) (o := .cells #[.int .i64 t230, .int .i64 t231, .slice Ao12 t232.length co12, .slice Ao13 t235.length co13] 26 (0, 0)) (by exact zK BK238.out)) : gb260 ≠ gb238)); have n12_ := Aside0.mk ((by rw [hg]; exact Nat.ne_of_lt (blk_lt (g := gb242) (o := .cells #[.int .i64 t230, .int .i64 t231, u243002, .slice Ao13 t235.length co13] 26 (0, 0)) (by exact zK BK242.out)) : gb242 ≠ gb260)); have n13_ := Aside0.mk ((by rw [hg]; exact Nat.ne_of_gt (blk_lt (g := gb242) (o := .cells #[.int .i64 t230, .int .i64 t231, u243002, .slice Ao13 t235.length co13] 26 (0, 0)) (by exact zK BK242.out)) : gb260 ≠ gb242)); clear HO_239002; clear HO_239003; clear HO_243002; clear HO_243003; clear BK238; clear BK242; clear HB; have HO_239002 := n0_; have HO_239003 := n1_; have HO_243002 := n2_; have HO_243003 := n3_; have BK238 := n4_; have BK242 := n5_; have HB := n6_; have BK260 := n7_; have GW260 := n8_; have GE260 := n9_; have NB238_260 := n10_; have NB260_238 := n11_; have NB242_260 := n12_; have NB260_242 := n13_; clear n0_ n1_ n2_ n3_ n4_ n5_ n6_ n7_ n8_ n9_ n10_ n11_ n12_ n13_; clear hb hbox hg; have hnb61 := NB260_238.out; have hnc61 := NB238_260.out; have hnb62 := NB260_242.out; have hnc62 := NB242_260.out; obtain ⟨hcz63_0, hcz63_1, hcz63_2, hcz63_3, hfz63_0, hfz63_1, hfz63_2, hfz63_3⟩ := zc4f BK260.out; obtain ⟨hcz64_0, hcz64_1, hcz64_2, hcz64_3, hfz64_0, hfz64_1, hfz64_2, hfz64_3⟩ := zc4f BK238.out) | ((with_reducible refine gate_dst (N := 10) rfl ?_); (try (refine gate_guard (by rfl) ?_; dsimp only)); refine box_event ?hg (N := 10) ?hd (cs := #[.int .i64 0, .int .i64 0, .slice none 0 0, .slice none 0 0]) (t := 26) ?hr ?_; (case hd => rfl); (case hg => rfl); (case hr => first | (go_simp; done) | (go_simp; rfl)); intro gb261 hg w65 hbox hb; have n0_ := Aside0.mk (Kd.R_below (by exact zR (Kd.R_mono (Kd.R_far (p := ⟨gb260, 3, none⟩) (Kd.R_far (p := ⟨gb260, 3, none⟩) (Kd.R_far (p := ⟨gb260, 2, none⟩) (Kd.R_far (p := ⟨gb260, 1, none⟩) (Kd.R_far (p := ⟨gb260, 0, none⟩) (Kd.R_types HO_239002.out BK260.out (by decide)) (fun _ hk => hk.2) (.int .i64 t230)) (fun _ hk => hk.2) (.int .i64 t231)) (fun _ hk => hk.2) (.slice Ao12 t232.length co12)) (fun _ hk => hk.2) (.slice Ao13 t235.length co13)) (fun _ hk => hk.2) (.slice none 0 0)) (fun _ h_ => h_.1))) hb); have n1_ := Aside0.mk (Kd.R_below (by exact zR (Kd.R_mono (Kd.R_far (p := ⟨gb260, 3, none⟩) (Kd.R_far (p := ⟨gb260, 3, none⟩) (Kd.R_far (p := ⟨gb260, 2, none⟩) (Kd.R_far (p := ⟨gb260, 1, none⟩) (Kd.R_far (p := ⟨gb260, 0, none⟩) (Kd.R_types HO_239003.out BK260.out (by decide)) (fun _ hk => hk.2) (.int .i64 t230)) (fun _ hk => hk.2) (.int .i64 t231)) (fun _ hk => hk.2) (.slice Ao12 t232.length co12)) (fun _ hk => hk.2) (.slice Ao13 t235.length co13)) (fun _ hk => hk.2) (.slice none 0 0)) (fun _ h_ => h_.1))) hb); have n2_ := Aside0.mk (Kd.R_below (by exact zR (Kd.R_mono (Kd.R_far (p := ⟨gb260, 3, none⟩) (Kd.R_far (p := ⟨gb260, 3, none⟩) (Kd.R_far (p := ⟨gb260, 2, none⟩) (Kd.R_far (p := ⟨gb260, 1, none⟩) (Kd.R_far (p := ⟨gb260, 0, none⟩) (Kd.R_types HO_243002.out BK260.out (by decide)) (fun _ hk => hk.2) (.int .i64 t230)) (fun _ hk => hk.2) (.int .i64 t231)) (fun _ hk => hk.2) (.slice Ao12 t232.length co12)) (fun _ hk => hk.2) (.slice Ao13 t235.length co13)) (fun _ hk => hk.2) (.slice none 0 0)) (fun _ h_ => h_.1))) hb); have n3_ := Aside0.mk (Kd.R_below (by exact zR (Kd.R_mono (Kd.R_far (p := ⟨gb260, 3, none⟩) (Kd.R_far (p := ⟨gb260, 3, none⟩) (Kd.R_far (p := ⟨gb260, 2, none⟩) (Kd.R_far (p := ⟨gb260, 1, none⟩) (Kd.R_far (p := ⟨gb260, 0, none⟩) (Kd.R_types HO_243003.out BK260.out (by decide)) (fun _ hk => hk.2) (.int .i64 t230)) (fun _ hk => hk.2) (.int .i64 t231)) (fun _ hk => hk.2) (.slice Ao12 t232.length co12)) (fun _ hk => hk.2) (.slice Ao13 t235.length co13)) (fun _ hk => hk.2) (.slice none 0 0)) (fun _ h_ => h_.1))) hb); have n4_ := Aside0.mk (blk_below (g := gb238) (o := .cells #[.int .i64 t230, .int .i64 t231, .slice Ao12 t232.length co12, .slice Ao13 t235.length co13] 26 (0, 0)) (by (with_reducible repeat (first | refine blk_drewN ?_ _ | refine blk_drew ?_ | refine blk_alloc ?_ _)); refine blk_far ?_ NB238_260.out _; (with_reducible repeat (first | refine blk_drewN ?_ _ | refine blk_drew ?_ | refine blk_alloc ?_ _)); refine blk_far ?_ NB238_260.out _; (with_reducible repeat (first | refine blk_drewN ?_ _ | refine blk_drew ?_ | refine blk_alloc ?_ _)); refine blk_far ?_ NB238_260.out _; (with_reducible repeat (first | refine blk_drewN ?_ _ | refine blk_drew ?_ | refine blk_alloc ?_ _)); refine blk_far ?_ NB238_260.out _; (with_reducible repeat (first | refine blk_drewN ?_ _ | refine blk_drew ?_ | refine blk_alloc ?_ _)); refine blk_far ?_ NB238_260.out _; exact zK BK238.out) hb); have n5_ := Aside0.mk (blk_below (g := gb242) (o := .cells #[.int .i64 t230, .int .i64 t231, u243002, .slice Ao13 t235.length co13] 26 (0, 0)) (by (with_reducible repeat (first | refine blk_drewN ?_ _ | refine blk_drew ?_ | refine blk_alloc ?_ _)); refine blk_far ?_ NB242_260.out _; (with_reducible repeat (first | refine blk_drewN ?_ _ | refine blk_drew ?_ | refine blk_alloc ?_ _)); refine blk_far ?_ NB242_260.out _; (with_reducible repeat (first | refine blk_drewN ?_ _ | refine blk_drew ?_ | refine blk_alloc ?_ _)); refine blk_far ?_ NB242_260.out _; (with_reducible repeat (first | refine blk_drewN ?_ _ | refine blk_drew ?_ | refine blk_alloc ?_ _)); refine blk_far ?_ NB242_260.out _; (with_reducible repeat (first | refine blk_drewN ?_ _ | refine blk_drew ?_ | refine blk_alloc ?_ _)); refine blk_far ?_ NB242_260.out _; exact zK BK242.out) hb); have n6_ := Aside0.mk (blk_below (g := gb260) (o := .cells #[.int .i64 t230, .int .i64 t231, .slice Ao12 t232.length co12, .slice none 0 0] 26 (0, 0)) (by (with_reducible repeat (first | refine blk_drewN ?_ _ | refine blk_drew ?_ | refine blk_alloc ?_ _)); refine blk_put (cs := #[.int .i64 t230, .int .i64 t231, .slice Ao12 t232.length co12, .slice Ao13 t235.length co13]) ?_ 3 _ rfl; (with_reducible repeat (first | refine blk_drewN ?_ _ | refine blk_drew ?_ | refine blk_alloc ?_ _)); refine blk_put (cs := #[.int .i64 t230, .int .i64 t231, .slice Ao12 t232.length co12, .slice none 0 0]) ?_ 3 _ rfl; (with_reducible repeat (first | refine blk_drewN ?_ _ | refine blk_drew ?_ | refine blk_alloc ?_ _)); refine blk_put (cs := #[.int .i64 t230, .int .i64 t231, .slice none 0 0, .slice none 0 0]) ?_ 2 _ rfl; (with_reducible repeat (first | refine blk_drewN ?_ _ | refine blk_drew ?_ | refine blk_alloc ?_ _)); refine blk_put (cs := #[.int .i64 t230, .int .i64 0, .slice none 0 0, .slice none 0 0]) ?_ 1 _ rfl; (with_reducible repeat (first | refine blk_drewN ?_ _ | refine blk_drew ?_ | refine blk_alloc ?_ _)); refine blk_put (cs := #[.int .i64 0, .int .i64 0, .slice none 0 0, .slice none 0 0]) ?_ 0 _ rfl; exact zK BK260.out) hb); have n7_ := Aside0.mk (below_step (by exact zB3 HB.out GE238.out GE242.out GE260.out) hb); have n8_ := Aside0.mk (hbox); have n9_ := Aside0.mk ((by rw [hg]; exact (below_size (by exact zB3 HB.out GE238.out GE242.out GE260.out)) : w.heap.size ≤ gb261)); have n10_ := Aside0.mk ((by rw [hg]; exact (below_size (by exact zB3 HB.out GE238.out GE242.out GE260.out)) : w.heap.size ≤ gb261)); have n11_ := Aside0.mk ((by rw [hg]; exact Nat.ne_of_lt (blk_lt (g := gb238) (o := .cells #[.int .i64 t230, .int .i64 t231, .slice Ao12 t232.length co12, .slice Ao13 t235.length co13] 26 (0, 0)) (by (with_reducible repeat (first | refine blk_drewN ?_ _ | refine blk_drew ?_ | refine blk_alloc ?_ _)); refine blk_far ?_ NB238_260.out _; (with_reducible repeat (first | refine blk_drewN ?_ _ | refine blk_drew ?_ | refine blk_alloc ?_ _)); refine blk_far ?_ NB238_260.out _; (with_reducible repeat (first | refine blk_drewN ?_ _ | refine blk_drew ?_ | refine blk_alloc ?_ _)); refine blk_far ?_ NB238_260.out _; (with_reducible repeat (first | refine blk_drewN ?_ _ | refine blk_drew ?_ | refine blk_alloc ?_ _)); refine blk_far ?_ NB238_260.out _; (with_reducible repeat (first | refine blk_drewN ?_ _ | refine blk_drew ?_ | refine blk_alloc ?_ _)); refine blk_far ?_ NB238_260.out _; exact zK BK238.out)) : gb238 ≠ gb261)); have n12_ := Aside0.mk ((by rw [hg]; exact Nat.ne_of_gt (blk_lt (g := gb238) (o := .cells #[.int .i64 t230, .int .i64 t231, .slice Ao12 t232.length co12, .slice Ao13 t235.length co13] 26 (0, 0)) (by (with_reducible repeat (first | refine blk_drewN ?_ _ | refine blk_drew ?_ | refine blk_alloc ?_ _)); refine blk_far ?_ NB238_260.out _; (with_reducible repeat (first | refine blk_drewN ?_ _ | refine blk_drew ?_ | refine blk_alloc ?_ _)); refine blk_far ?_ NB238_260.out _; (with_reducible repeat (first | refine blk_drewN ?_ _ | refine blk_drew ?_ | refine blk_alloc ?_ _)); refine blk_far ?_ NB238_260.out _; (with_reducible repeat (first | refine blk_drewN ?_ _ | refine blk_drew ?_ | refine blk_alloc ?_ _)); refine blk_far ?_ NB238_260.out _; (with_reducible repeat (first | refine blk_drewN ?_ _ | refine blk_drew ?_ | refine blk_alloc ?_ _)); refine blk_far ?_ NB238_260.out _; exact zK BK238.out)) : gb261 ≠ gb238)); have n13_ := Aside0.mk ((by rw [hg]; exact Nat.ne_of_lt (blk_lt (g := gb242) (o := .cells #[.int .i64 t230, .int .i64 t231, u243002, .slice Ao13 t235.length co13] 26 (0, 0)) (by (with_reducible repeat (first | refine blk_drewN ?_ _ | refine blk_drew ?_ | refine blk_alloc ?_ _)); refine blk_far ?_ NB242_260.out _; (with_reducible repeat (first | refine blk_drewN ?_ _ | refine blk_drew ?_ | refine blk_alloc ?_ _)); refine blk_far ?_ NB242_260.out _; (with_reducible repeat (first | refine blk_drewN ?_ _ | refine blk_drew ?_ | refine blk_alloc ?_ _)); refine blk_far ?_ NB242_260.out _; (with_reducible repeat (first | refine blk_drewN ?_ _ | refine blk_drew ?_ | refine blk_alloc ?_ _)); refine blk_far ?_ NB242_260.out _; (with_reducible repeat (first | refine blk_drewN ?_ _ | refine blk_drew ?_ | refine blk_alloc ?_ _)); refine blk_far ?_ NB242_260.out _; exact zK BK242.out)) : gb242 ≠ gb261)); have n14_ := Aside0.mk ((by rw [hg]; exact Nat.ne_of_gt (blk_lt (g := gb242) (o := .cells #[.int .i64 t230, .int .i64 t231, u243002, .slice Ao13 t235.length co13] 26 (0, 0)) (by (with_reducible repeat (first | refine blk_drewN ?_ _ | refine blk_drew ?_ | refine blk_alloc ?_ _)); refine blk_far ?_ NB242_260.out _; (with_reducible repeat (first | refine blk_drewN ?_ _ | refine blk_drew ?_ | refine blk_alloc ?_ _)); refine blk_far ?_ NB242_260.out _; (with_reducible repeat (first | refine blk_drewN ?_ _ | refine blk_drew ?_ | refine blk_alloc ?_ _)); refine blk_far ?_ NB242_260.out _; (with_reducible repeat (first | refine blk_drewN ?_ _ | refine blk_drew ?_ | refine blk_alloc ?_ _)); refine blk_far ?_ NB242_260.out _; (with_reducible repeat (first | refine blk_drewN ?_ _ | refine blk_drew ?_ | refine blk_alloc ?_ _)); refine blk_far ?_ NB242_260.out _; exact zK BK242.out)) : gb261 ≠ gb242)); have n15_ := Aside0.mk ((by rw [hg]; exact Nat.ne_of_lt (blk_lt (g := gb260) (o := .cells #[.int .i64 t230, .int .i64 t231, .slice Ao12 t232.length co12, .slice none 0 0] 26 (0, 0)) (by (with_reducible repeat (first | refine blk_drewN ?_ _ | refine blk_drew ?_ | refine blk_alloc ?_ _)); refine blk_put (cs := #[.int .i64 t230, .int .i64 t231, .slice Ao12 t232.length co12, .slice Ao13 t235.length co13]) ?_ 3 _ rfl; (with_reducible repeat (first | refine blk_drewN ?_ _ | refine blk_drew ?_ | refine blk_alloc ?_ _)); refine blk_put (cs := #[.int .i64 t230, .int .i64 t231, .slice Ao12 t232.length co12, .slice none 0 0]) ?_ 3 _ rfl; (with_reducible repeat (first | refine blk_drewN ?_ _ | refine blk_drew ?_ | refine blk_alloc ?_ _)); refine blk_put (cs := #[.int .i64 t230, .int .i64 t231, .slice none 0 0, .slice none 0 0]) ?_ 2 _ rfl; (with_reducible repeat (first | refine blk_drewN ?_ _ | refine blk_drew ?_ | refine blk_alloc ?_ _)); refine blk_put (cs := #[.int .i64 t230, .int .i64 0, .slice none 0 0, .slice none 0 0]) ?_ 1 _ rfl; (with_reducible repeat (first | refine blk_drewN ?_ _ | refine blk_drew ?_ | refine blk_alloc ?_ _)); refine blk_put (cs := #[.int .i64 0, .int .i64 0, .slice none 0 0, .slice none 0 0]) ?_ 0 _ rfl; exact zK BK260.out)) : gb260 ≠ gb261)); have n16_ := Aside0.mk ((by rw [hg]; exact Nat.ne_of_gt (blk_lt (g := gb260) (o := .cells #[.int .i64 t230, .int .i64 t231, .slice Ao12 t232.length co12, .slice none 0 0] 26 (0, 0)) (by (with_reducible repeat (first | refine blk_drewN ?_ _ | refine blk_drew ?_ | refine blk_alloc ?_ _)); refine blk_put (cs := #[.int .i64 t230, .int .i64 t231, .slice Ao12 t232.length co12, .slice Ao13 t235.length co13]) ?_ 3 _ rfl; (with_reducible repeat (first | refine blk_drewN ?_ _ | refine blk_drew ?_ | refine blk_alloc ?_ _)); refine blk_put (cs := #[.int .i64 t230, .int .i64 t231, .slice Ao12 t232.length co12, .slice none 0 0]) ?_ 3 _ rfl; (with_reducible repeat (first | refine blk_drewN ?_ _ | refine blk_drew ?_ | refine blk_alloc ?_ _)); refine blk_put (cs := #[.int .i64 t230, .int .i64 t231, .slice none 0 0, .slice none 0 0]) ?_ 2 _ rfl; (with_reducible repeat (first | refine blk_drewN ?_ _ | refine blk_drew ?_ | refine blk_alloc ?_ _)); refine blk_put (cs := #[.int .i64 t230, .int .i64 0, .slice none 0 0, .slice none 0 0]) ?_ 1 _ rfl; (with_reducible repeat (first | refine blk_drewN ?_ _ | refine blk_drew ?_ | refine blk_alloc ?_ _)); refine blk_put (cs := #[.int .i64 0, .int .i64 0, .slice none 0 0, .slice none 0 0]) ?_ 0 _ rfl; exact zK BK260.out)) : gb261 ≠ gb260)); clear HO_239002; clear HO_239003; clear HO_243002; clear HO_243003; clear BK238; clear BK242; clear BK260; clear HB; have HO_239002 := n0_; have HO_239003 := n1_; have HO_243002 := n2_; have HO_243003 := n3_; have BK238 := n4_; have BK242 := n5_; have BK260 := n6_; have HB := n7_; have BK261 := n8_; have GW261 := n9_; have GE261 := n10_; have NB238_261 := n11_; have NB261_238 := n12_; have NB242_261 := n13_; have NB261_242 := n14_; have NB260_261 := n15_; have NB261_260 := n16_; clear n0_ n1_ n2_ n3_ n4_ n5_ n6_ n7_ n8_ n9_ n10_ n11_ n12_ n13_ n14_ n15_ n16_; clear hb hbox hg; have hnb66 := NB261_238.out; have hnc66 := NB238_261.out; have hnb67 := NB261_242.out; have hnc67 := NB242_261.out; have hnb68 := NB261_260.out; have hnc68 := NB260_261.out; obtain ⟨hcz69_0, hcz69_1, hcz69_2, hcz69_3, hfz69_0, hfz69_1, hfz69_2, hfz69_3⟩ := zc4f BK261.out; obtain ⟨hcz70_0, hcz70_1, hcz70_2, hcz70_3, hfz70_0, hfz70_1, hfz70_2, hfz70_3⟩ := zc4f BK238.out) | ((with_reducible refine gate_dst (N := 65) rfl ?_); (try (refine gate_guard (by rfl) ?_; dsimp only)); refine Kd.R_lit k30 _ 30 ?hg (N := 65) ?hd (xs := ([(⟨t230, 1⟩ : S30)] : List (S30))) (inner := [.int .i64 t230, .int .i64 1]) (ok := fun _ => True) (okp := fun _ => True) ?hr ?hp (fun _ hk => hk) trivial (Below.refl _ _) (Nat.le_refl _) (by simp) ?_; (case hd => rfl); (case hg => rfl); (case hr => first | (go_simp; done) | (go_simp; rfl)); (case hp => exact (Reps.c2 (show Kd.M k30 _ _ _ (⟨t230, 1⟩ : S30) [.int .i64 t230, .int .i64 1] from (k30_mkM _ _ _ (⟨t230, 1⟩ : S30) )) (Reps.none _ _))); intro v263 w71 ho72 hb hg_ hnew_; clear hg_ hnew_; (first | rw [← Ny262.out] at ho72 | (simp only [Int.reduceToNat] at ho72; rw [← Ny262.out] at ho72)); have n0_ := Aside0.mk (Kd.R_below (by exact zR (Kd.R_mono (Kd.R_far (p := ⟨gb261, 3, none⟩) (Kd.R_far (p := ⟨gb261, 2, none⟩) (Kd.R_far (p := ⟨gb261, 1, none⟩) (Kd.R_far (p := ⟨gb261, 0, none⟩) (Kd.R_types HO_239002.out BK261.out (by decide)) (fun _ hk => hk.2) (.int .i64 t230)) (fun _ hk => hk.2) (.int .i64 t231)) (fun _ hk => hk.2) (.slice Ao12 t232.length co12)) (fun _ hk => hk.2) (.slice Ao13 t235.length co13)) (fun _ h_ => h_.1))) hb); have n1_ := Aside0.mk (Kd.R_elder' (by exact zR (Kd.R_mono (Kd.R_far (p := ⟨gb261, 3, none⟩) (Kd.R_far (p := ⟨gb261, 2, none⟩) (Kd.R_far (p := ⟨gb261, 1, none⟩) (Kd.R_far (p := ⟨gb261, 0, none⟩) (Kd.R_types HO_239003.out BK261.out (by decide)) (fun _ hk => hk.2) (.int .i64 t230)) (fun _ hk => hk.2) (.int .i64 t231)) (fun _ hk => hk.2) (.slice Ao12 t232.length co12)) (fun _ hk => hk.2) (.slice Ao13 t235.length co13)) (fun _ h_ => h_.1))) (Kd.R_base ho72) hb); have n2_ := Aside0.mk (Kd.R_below (by exact zR (Kd.R_mono (Kd.R_far (p := ⟨gb261, 3, none⟩) (Kd.R_far (p := ⟨gb261, 2, none⟩) (Kd.R_far (p := ⟨gb261, 1, none⟩) (Kd.R_far (p := ⟨gb261, 0, none⟩) (Kd.R_types HO_243002.out BK261.out (by decide)) (fun _ hk => hk.2) (.int .i64 t230)) (fun _ hk => hk.2) (.int .i64 t231)) (fun _ hk => hk.2) (.slice Ao12 t232.length co12)) (fun _ hk => hk.2) (.slice Ao13 t235.length co13)) (fun _ h_ => h_.1))) hb); have n3_ := Aside0.mk (Kd.R_elder' (by exact zR (Kd.R_mono (Kd.R_far (p := ⟨gb261, 3, none⟩) (Kd.R_far (p := ⟨gb261, 2, none⟩) (Kd.R_far (p := ⟨gb261, 1, none⟩) (Kd.R_far (p := ⟨gb261, 0, none⟩) (Kd.R_types HO_243003.out BK261.out (by decide)) (fun _ hk => hk.2) (.int .i64 t230)) (fun _ hk => hk.2) (.int .i64 t231)) (fun _ hk => hk.2) (.slice Ao12 t232.length co12)) (fun _ hk => hk.2) (.slice Ao13 t235.length co13)) (fun _ h_ => h_.1))) (Kd.R_base ho72) hb); have n4_ := Aside0.mk (Kd.R_lower (Kd.R_new' (Kd.R_new' ho72 (Kd.R_lt (by exact zR (Kd.R_mono (Kd.R_far (p := ⟨gb261, 3, none⟩) (Kd.R_far (p := ⟨gb261, 2, none⟩) (Kd.R_far (p := ⟨gb261, 1, none⟩) (Kd.R_far (p := ⟨gb261, 0, none⟩) (Kd.R_types HO_239003.out BK261.out (by decide)) (fun _ hk => hk.2) (.int .i64 t230)) (fun _ hk => hk.2) (.int .i64 t231)) (fun _ hk => hk.2) (.slice Ao12 t232.length co12)) (fun _ hk => hk.2) (.slice Ao13 t235.length co13)) (fun _ h_ => h_.1))))) (Kd.R_lt (by exact zR (Kd.R_mono (Kd.R_far (p := ⟨gb261, 3, none⟩) (Kd.R_far (p := ⟨gb261, 2, none⟩) (Kd.R_far (p := ⟨gb261, 1, none⟩) (Kd.R_far (p := ⟨gb261, 0, none⟩) (Kd.R_types HO_243003.out BK261.out (by decide)) (fun _ hk => hk.2) (.int .i64 t230)) (fun _ hk => hk.2) (.int .i64 t231)) (fun _ hk => hk.2) (.slice Ao12 t232.length co12)) (fun _ hk => hk.2) (.slice Ao13 t235.length co13)) (fun _ h_ => h_.1))))) (below_size (by exact zB4 HB.out GE238.out GE242.out GE260.out GE261.out))); have n5_ := Aside0.mk (blk_below (g := gb238) (o := .cells #[.int .i64 t230, .int .i64 t231, .slice Ao12 t232.length co12, .slice Ao13 t235.length co13] 26 (0, 0)) (by (with_reducible repeat (first | refine blk_drewN ?_ _ | refine blk_drew ?_ | refine blk_alloc ?_ _)); refine blk_far ?_ NB238_261.out _; (with_reducible repeat (first | refine blk_drewN ?_ _ | refine blk_drew ?_ | refine blk_alloc ?_ _)); refine blk_far ?_ NB238_261.out _; (with_reducible repeat (first | refine blk_drewN ?_ _ | refine blk_drew ?_ | refine blk_alloc ?_ _)); refine blk_far ?_ NB238_261.out _; (with_reducible repeat (first | refine blk_drewN ?_ _ | refine blk_drew ?_ | refine blk_alloc ?_ _)); refine blk_far ?_ NB238_261.out _; exact zK BK238.out) hb); have n6_ := Aside0.mk (blk_below (g := gb242) (o := .cells #[.int .i64 t230, .int .i64 t231, u243002, .slice Ao13 t235.length co13] 26 (0, 0)) (by (with_reducible repeat (first | refine blk_drewN ?_ _ | refine blk_drew ?_ | refine blk_alloc ?_ _)); refine blk_far ?_ NB242_261.out _; (with_reducible repeat (first | refine blk_drewN ?_ _ | refine blk_drew ?_ | refine blk_alloc ?_ _)); refine blk_far ?_ NB242_261.out _; (with_reducible repeat (first | refine blk_drewN ?_ _ | refine blk_drew ?_ | refine blk_alloc ?_ _)); refine blk_far ?_ NB242_261.out _; (with_reducible repeat (first | refine blk_drewN ?_ _ | refine blk_drew ?_ | refine blk_alloc ?_ _)); refine blk_far ?_ NB242_261.out _; exact zK BK242.out) hb); have n7_ := Aside0.mk (blk_below (g := gb260) (o := .cells #[.int .i64 t230, .int .i64 t231, .slice Ao12 t232.length co12, .slice none 0 0] 26 (0, 0)) (by (with_reducible repeat (first | refine blk_drewN ?_ _ | refine blk_drew ?_ | refine blk_alloc ?_ _)); refine blk_far ?_ NB260_261.out _; (with_reducible repeat (first | refine blk_drewN ?_ _ | refine blk_drew ?_ | refine blk_alloc ?_ _)); refine blk_far ?_ NB260_261.out _; (with_reducible repeat (first | refine blk_drewN ?_ _ | refine blk_drew ?_ | refine blk_alloc ?_ _)); refine blk_far ?_ NB260_261.out _; (with_reducible repeat (first | refine blk_drewN ?_ _ | refine blk_drew ?_ | refine blk_alloc ?_ _)); refine blk_far ?_ NB260_261.out _; exact zK BK260.out) hb); have n8_ := Aside0.mk (blk_below (g := gb261) (o := .cells #[.int .i64 t230, .int .i64 t231, .slice Ao12 t232.length co12, .slice Ao13 t235.length co13] 26 (0, 0)) (by (with_reducible repeat (first | refine blk_drewN ?_ _ | refine blk_drew ?_ | refine blk_alloc ?_ _)); refine blk_put (cs := #[.int .i64 t230, .int .i64 t231, .slice Ao12 t232.length co12, .slice none 0 0]) ?_ 3 _ rfl; (with_reducible repeat (first | refine blk_drewN ?_ _ | refine blk_drew ?_ | refine blk_alloc ?_ _)); refine blk_put (cs := #[.int .i64 t230, .int .i64 t231, .slice none 0 0, .slice none 0 0]) ?_ 2 _ rfl; (with_reducible repeat (first | refine blk_drewN ?_ _ | refine blk_drew ?_ | refine blk_alloc ?_ _)); refine blk_put (cs := #[.int .i64 t230, .int .i64 0, .slice none 0 0, .slice none 0 0]) ?_ 1 _ rfl; (with_reducible repeat (first | refine blk_drewN ?_ _ | refine blk_drew ?_ | refine blk_alloc ?_ _)); refine blk_put (cs := #[.int .i64 0, .int .i64 0, .slice none 0 0, .slice none 0 0]) ?_ 0 _ rfl; exact zK BK261.out) hb); have n9_ := Aside0.mk (below_step (by exact zB4 HB.out GE238.out GE242.out GE260.out GE261.out) hb); clear HO_239002; clear HO_239003; clear HO_243002; clear HO_243003; clear BK238; clear BK242; clear BK260; clear BK261; clear HB; have HO_239002 := n0_; have HO_239003 := n1_; have HO_243002 := n2_; have HO_243003 := n3_; have HO264 := n4_; have BK238 := n5_; have BK242 := n6_; have BK260 := n7_; have BK261 := n8_; have HB := n9_; clear n0_ n1_ n2_ n3_ n4_ n5_ n6_ n7_ n8_ n9_; clear hb ho72; obtain ⟨Ao73, co73, eo73⟩ := Kd.R_slice HO264.out; subst eo73; obtain ⟨hcz74_0, hcz74_1, hcz74_2, hcz74_3, hfz74_0, hfz74_1, hfz74_2, hfz74_3⟩ := zc4f BK261.out; obtain ⟨hcz75_0, hcz75_1, hcz75_2, hcz75_3, hfz75_0, hfz75_1, hfz75_2, hfz75_3⟩ := zc4f BK242.out; obtain ⟨Ao76, co76, eo76⟩ := Kd.R_slice HO_243002.out; subst eo76) | ((with_reducible refine gate_callee (f := 16) rfl ?_); refine goesL_ (some 68) rfl rfl Try.func16 (by kernel_rfl) rfl #[.agg #[.int .i64 t230, .int .i64 t231, .slice Ao76 x243002_24.length co76, .slice Ao13 t235.length co13]] rfl (by (try simp only [zm1, zm2, zm3]); first | done | rfl | (simp only [List.length_drop, List.length_take]; rfl)) ?_; (with_reducible refine (impl_PkgOk.calls kj24 t230 t231 _ _ x243002_24 _ _ t235 true _ ?side1 ?side2 ?side3 ?side4 A53.out).mono ?_); (case side1 => refine (Kd.R_reads' (e := 82) (base := w.heap.size) (ok := fun k_ => True) (n := x243002_24.length) (c := co76) ?_).2.2; exact (by exact zR (Kd.R_mono (Kd.R_far (p := ⟨gb261, 3, none⟩) (Kd.R_types HO_243002.out BK261.out (by decide)) (fun _ hk => hk.2) (.slice Ao73 y262.length co73)) (fun _ h_ => h_.1)))); (case side2 => exact (Kd.R_reads' HO_243002.out).2.1); (case side3 => refine (Kd.R_reads' (e := 30) (base := w.heap.size) (ok := fun k_ => (True ∧ some k_ ≠ (.slice Ao73 y262.length co73 : Value).ownBlock)) (n := t235.length) (c := co13) ?_).2.2; exact (by exact zR (Kd.R_mono (Kd.R_far (p := ⟨gb261, 3, none⟩) (Kd.R_types HO_243003.out BK261.out (by decide)) (fun _ hk => hk.2) (.slice Ao73 y262.length co73)) (fun _ h_ => h_.1)))); (case side4 => exact (Kd.R_reads' HO_243003.out).2.1); rintro e w77 ⟨rfl, hb⟩; refine ⟨_, rfl, ?_⟩; have n0_ := Aside0.mk (Kd.R_below (by exact zR (Kd.R_mono (Kd.R_far (p := ⟨gb261, 3, none⟩) (Kd.R_types HO_239002.out BK261.out (by decide)) (fun _ hk => hk.2) (.slice Ao73 y262.length co73)) (fun _ h_ => h_.1))) hb); have n1_ := Aside0.mk (Kd.R_below (by exact zR (Kd.R_mono (Kd.R_far (p := ⟨gb261, 3, none⟩) (Kd.R_types HO_239003.out BK261.out (by decide)) (fun _ hk => hk.2) (.slice Ao73 y262.length co73)) (fun _ h_ => h_.1))) hb); have n2_ := Aside0.mk (Kd.R_below (by exact zR (Kd.R_mono (Kd.R_far (p := ⟨gb261, 3, none⟩) (Kd.R_types HO_243002.out BK261.out (by decide)) (fun _ hk => hk.2) (.slice Ao73 y262.length co73)) (fun _ h_ => h_.1))) hb); have n3_ := Aside0.mk (Kd.R_below (by exact zR (Kd.R_mono (Kd.R_far (p := ⟨gb261, 3, none⟩) (Kd.R_types HO_243003.out BK261.out (by decide)) (fun _ hk => hk.2) (.slice Ao73 y262.length co73)) (fun _ h_ => h_.1))) hb); have n4_ := Aside0.mk (Kd.R_below (by exact zR (Kd.R_mono (Kd.R_far (p := ⟨gb261, 3, none⟩) (Kd.R_types HO264.out BK261.out (by decide)) (fun _ hk => hk.2) (.slice Ao73 y262.length co73)) (fun _ h_ => h_.1))) hb); have n5_ := Aside0.mk (blk_below (g := gb238) (o := .cells #[.int .i64 t230, .int .i64 t231, .slice Ao12 t232.length co12, .slice Ao13 t235.length co13] 26 (0, 0)) (by (with_reducible repeat (first | refine blk_drewN ?_ _ | refine blk_drew ?_ | refine blk_alloc ?_ _)); refine blk_far ?_ NB238_261.out _; exact zK BK238.out) hb); have n6_ := Aside0.mk (blk_below (g := gb242) (o := .cells #[.int .i64 t230, .int .i64 t231, .slice Ao76 x243002_24.length co76, .slice Ao13 t235.length co13] 26 (0, 0)) (by (with_reducible repeat (first | refine blk_drewN ?_ _ | refine blk_drew ?_ | refine blk_alloc ?_ _)); refine blk_far ?_ NB242_261.out _; exact zK BK242.out) hb); have n7_ := Aside0.mk (blk_below (g := gb260) (o := .cells #[.int .i64 t230, .int .i64 t231, .slice Ao12 t232.length co12, .slice none 0 0] 26 (0, 0)) (by (with_reducible repeat (first | refine blk_drewN ?_ _ | refine blk_drew ?_ | refine blk_alloc ?_ _)); refine blk_far ?_ NB260_261.out _; exact zK BK260.out) hb); have n8_ := Aside0.mk (blk_below (g := gb261) (o := .cells #[.int .i64 t230, .int .i64 t231, .slice Ao12 t232.length co12, .slice Ao73 y262.length co73] 26 (0, 0)) (by (with_reducible repeat (first | refine blk_drewN ?_ _ | refine blk_drew ?_ | refine blk_alloc ?_ _)); refine blk_put (cs := #[.int .i64 t230, .int .i64 t231, .slice Ao12 t232.length co12, .slice Ao13 t235.length co13]) ?_ 3 _ rfl; exact zK BK261.out) hb); have n9_ := Aside0.mk (below_step (by exact zB4 HB.out GE238.out GE242.out GE260.out GE261.out) hb); clear HO_239002; clear HO_239003; clear HO_243002; clear HO_243003; clear HO264; clear BK238; clear BK242; clear BK260; clear BK261; clear HB; have HO_239002 := n0_; have HO_239003 := n1_; have HO_243002 := n2_; have HO_243003 := n3_; have HO264 := n4_; have BK238 := n5_; have BK242 := n6_; have BK260 := n7_; have BK261 := n8_; have HB := n9_; clear n0_ n1_ n2_ n3_ n4_ n5_ n6_ n7_ n8_ n9_; (try clear hb); (try clear hb2); (try clear hk); (try clear hi); obtain ⟨hcz78_0, hcz78_1, hcz78_2, hcz78_3, hfz78_0, hfz78_1, hfz78_2, hfz78_3⟩ := zc4f BK260.out) | (go_at_call 16; (with_reducible refine (PO_nil kj24 t230 t231 _ _ t232 true _ ?side1 ?side2 A55.out).mono ?_); (case side1 => exact zC (Kd.R_reads' HO_239002.out).2.2); (case side2 => exact (Kd.R_reads' HO_239002.out).2.1); rintro e w79 ⟨rfl, hb⟩; have n0_ := Aside0.mk (Kd.R_below (by exact zR HO_239002.out) hb); have n1_ := Aside0.mk (Kd.R_below (by exact zR HO_239003.out) hb); have n2_ := Aside0.mk (Kd.R_below (by exact zR HO_243002.out) hb); have n3_ := Aside0.mk (Kd.R_below (by exact zR HO_243003.out) hb); have n4_ := Aside0.mk (Kd.R_below (by exact zR HO264.out) hb); have n5_ := Aside0.mk (blk_below (g := gb238) (o := .cells #[.int .i64 t230, .int .i64 t231, .slice Ao12 t232.length co12, .slice Ao13 t235.length co13] 26 (0, 0)) (by exact zK BK238.out) hb); have n6_ := Aside0.mk (blk_below (g := gb242) (o := .cells #[.int .i64 t230, .int .i64 t231, .slice Ao76 x243002_24.length co76, .slice Ao13 t235.length co13] 26 (0, 0)) (by exact zK BK242.out) hb); have n7_ := Aside0.mk (blk_below (g := gb260) (o := .cells #[.int .i64 t230, .int .i64 t231, .slice Ao12 t232.length co12, .slice none 0 0] 26 (0, 0)) (by exact zK BK260.out) hb); have n8_ := Aside0.mk (blk_below (g := gb261) (o := .cells #[.int .i64 t230, .int .i64 t231, .slice Ao12 t232.length co12, .slice Ao73 y262.length co73] 26 (0, 0)) (by exact zK BK261.out) hb); have n9_ := Aside0.mk (below_step (by exact zB4 HB.out GE238.out GE242.out GE260.out GE261.out) hb); clear HO_239002; clear HO_239003; clear HO_243002; clear HO_243003; clear HO264; clear BK238; clear BK242; clear BK260; clear BK261; clear HB; have HO_239002 := n0_; have HO_239003 := n1_; have HO_243002 := n2_; have HO_243003 := n3_; have HO264 := n4_; have BK238 := n5_; have BK242 := n6_; have BK260 := n7_; have BK261 := n8_; have HB := n9_; clear n0_ n1_ n2_ n3_ n4_ n5_ n6_ n7_ n8_ n9_; (try clear hb); (try clear hb2); (try clear hk); (try clear hi); obtain ⟨hcz80_0, hcz80_1, hcz80_2, hcz80_3, hfz80_0, hfz80_1, hfz80_2, hfz80_3⟩ := zc4f BK261.out) | (go_at_call 16; (with_reducible refine (impl_PkgOk.calls kj24 t230 t231 _ _ t232 _ _ y262 t267 _ ?side1 ?side2 ?side3 ?side4 A57.out).mono ?_); (case side1 => exact zC (Kd.R_reads' HO_239002.out).2.2); (case side2 => exact (Kd.R_reads' HO_239002.out).2.1); (case side3 => exact zC (Kd.R_reads' HO264.out).2.2); (case side4 => exact (Kd.R_reads' HO264.out).2.1); rintro e w81 ⟨rfl, hb⟩; have n0_ := Aside0.mk (Kd.R_below (by exact zR HO_239002.out) hb); have n1_ := Aside0.mk (Kd.R_below (by exact zR HO_239003.out) hb); have n2_ := Aside0.mk (Kd.R_below (by exact zR HO_243002.out) hb); have n3_ := Aside0.mk (Kd.R_below (by exact zR HO_243003.out) hb); have n4_ := Aside0.mk (Kd.R_below (by exact zR HO264.out) hb); have n5_ := Aside0.mk (blk_below (g := gb238) (o := .cells #[.int .i64 t230, .int .i64 t231, .slice Ao12 t232.length co12, .slice Ao13 t235.length co13] 26 (0, 0)) (by exact zK BK238.out) hb); have n6_ := Aside0.mk (blk_below (g := gb242) (o := .cells #[.int .i64 t230, .int .i64 t231, .slice Ao76 x243002_24.length co76, .slice Ao13 t235.length co13] 26 (0, 0)) (by exact zK BK242.out) hb); have n7_ := Aside0.mk (blk_below (g := gb260) (o := .cells #[.int .i64 t230, .int .i64 t231, .slice Ao12 t232.length co12, .slice none 0 0] 26 (0, 0)) (by exact zK BK260.out) hb); have n8_ := Aside0.mk (blk_below (g := gb261) (o := .cells #[.int .i64 t230, .int .i64 t231, .slice Ao12 t232.length co12, .slice Ao73 y262.length co73] 26 (0, 0)) (by exact zK BK261.out) hb); have n9_ := Aside0.mk (below_step (by exact zB4 HB.out GE238.out GE242.out GE260.out GE261.out) hb); clear HO_239002; clear HO_239003; clear HO_243002; clear HO_243003; clear HO264; clear BK238; clear BK242; clear BK260; clear BK261; clear HB; have HO_239002 := n0_; have HO_239003 := n1_; have HO_243002 := n2_; have HO_243003 := n3_; have HO264 := n4_; have BK238 := n5_; have BK242 := n6_; have BK260 := n7_; have BK261 := n8_; have HB := n9_; clear n0_ n1_ n2_ n3_ n4_ n5_ n6_ n7_ n8_ n9_; (try clear hb); (try clear hb2); (try clear hk); (try clear hi)))
           go_ret
           exact ⟨by first | rfl | (simp [errW_none, errW_some] <;> rfl) | (simp [*, errW_none, errW_some] <;> rfl), by exact zB4 HB.out GE238.out GE242.out GE260.out GE261.out⟩
          ·replace c56 := Bool.eq_false_iff.mpr c56
           subst c56
           have H1 : (none) = some r := by rw [if_neg (show ¬ (false = true) by decide)] at H; exact H
           clear H
           have H := H1
           clear H1
           exact absurd H (by simp)
         ·replace c54 := Bool.eq_false_iff.mpr c54
          subst c54
          have H1 : (none) = some r := by rw [if_neg (show ¬ (false = true) by decide)] at H; exact H
          clear H
          have H := H1
          clear H1
          exact absurd H (by simp)

/-- THE ONE PURE STATEMENT of laws_FnPkgLess: yours. -/
def laws_FnPkgLess.Pure : Prop := ∀ (l0 : List Int) (l1 : List Int), l0.length ≤ maxLen → l0.length * 1 ≤ 140737488351232 → (∀ x ∈ l0, (Lit.int .u8 x).wf = true) → l1.length ≤ maxLen → l1.length * 1 ≤ 140737488351232 → (∀ x ∈ l1, (Lit.int .u8 x).wf = true) → ∃ k, laws_FnPkgLess.f k l0 l1 = some true
theorem laws_FnPkgLess.walk (P : laws_FnPkgLess.Pure) (a0 : Option Addr) (len0 cap0 : Nat) (z0 : List Int) (a1 : Option Addr) (len1 cap1 : Nat) (z1 : List Int) (w : World) (w0 : (a0 = none ∧ len0 = 0 ∧ cap0 = 0 ∧ z0 = []) ∨ ∃ x, a0 = some x ∧ len0 ≤ cap0 ∧ cap0 ≤ maxLen ∧ z0.length = cap0 ∧ (∀ i, i < z0.length → w.cell? (x.add i) = some (.int .u8 (z0.getD i 0))) ∧ ∀ n ∈ z0, (Lit.int .u8 n).wf = true) (y0 : len0 * 1 ≤ 140737488351232) (w1 : (a1 = none ∧ len1 = 0 ∧ cap1 = 0 ∧ z1 = []) ∨ ∃ x, a1 = some x ∧ len1 ≤ cap1 ∧ cap1 ≤ maxLen ∧ z1.length = cap1 ∧ (∀ i, i < z1.length → w.cell? (x.add i) = some (.int .u8 (z1.getD i 0))) ∧ ∀ n ∈ z1, (Lit.int .u8 n).wf = true) (y1 : len1 * 1 ≤ 140737488351232) :
  Calls Try.prog 3 #[.slice a0 len0 cap0, .slice a1 len1 cap1] w fun e w' => e = .returned (.bool true) ∧ Below w.heap.size w w' := by
 obtain ⟨l0, rfl, hr0, hm0, hw0, hc0⟩ := ReadsInt.ofRowC w0
 obtain ⟨l1, rfl, hr1, hm1, hw1, hc1⟩ := ReadsInt.ofRowC w1
 obtain ⟨k, h⟩ := P l0 l1 hm0 y0 hw0 hm1 y1 hw1
 refine (laws_FnPkgLess.calls k _ _ l0 _ _ l1 true w (Kd.C_of_reads (d := (0 : Int)) (h1 := fun _ => rfl) hr0) hc0 (Kd.C_of_reads (d := (0 : Int)) (h1 := fun _ => rfl) hr1) hc1 h).mono ?_
 rintro e w' ⟨rfl, hd⟩
 exact ⟨rfl, hd⟩

end Go.Proofs.Ytkdmgbolbjedfaa.PFnPkgLess
