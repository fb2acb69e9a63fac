-- printed for this claim by a program out of the translation, its tactics shortened by another
import Derived.Test.YtlmgnnpmcdeclaaPFnTrustFreshx2
namespace Go.Proofs.Ytlmgnnpmcdeclaa.PFnTrustFresh
open Go.RowKit Go.Proofs.YtlmgnnpmcdeclaaW.PrintWords Go.Proofs.YtlmgnnpmcdeclaaW.PrintLast Go.Proofs.YtlmgnnpmcdeclaaW.PrintMore
attribute [local go_sem] max2_int min2_int max_two min_two max_three min_three max_four min_four   -- for this text's walks alone
set_option linter.unusedVariables false
set_option linter.unusedSimpArgs false

/-! ### spec_l71Root: function 69 -/
def spec_l71Root.j0 : Nat → List Int → List Int → Int → Option (Int × List Int × Int × Int)
 | 0, _, _, _ => none
 | k + 1, x3, x1000, x1001 => (spec_l6Rd_pick.f k x1000 x1001 3).bind fun bt252 => ((spec_l6Rd_pick.f k x1000 bt252.2 (x3.length : Int)).bind fun bt254 => ((spec_l6Rd_pick.f k x1000 bt254.2 20).bind fun bt257 => (if bt257.1 = 0 then ((some (([0, 9, 10] : List Int) : List Int)).bind fun y259 => ((spec_l6Rd_pick.f k x1000 bt257.2 3).bind fun bt262 => (if 0 ≤ bt262.1 then (if bt262.1 < (y259.length : Int) then (some (rd y259 bt262.1, x3, wrap64 (1 + bt254.1), bt262.2)) else (none)) else (none)))) else (if bt257.1 = 1 then ((some (([0, wrap64 ((x3.length : Int) + 1)] : List Int) : List Int)).bind fun y265 => ((spec_l6Rd_pick.f k x1000 bt257.2 2).bind fun bt268 => (if 0 ≤ bt268.1 then (if bt268.1 < (y265.length : Int) then (some (wrap64 (1 + bt252.1), x3, rd y265 bt268.1, bt268.2)) else (none)) else (none)))) else (some (wrap64 (1 + bt252.1), x3, wrap64 (1 + bt254.1), bt257.2))))))
def spec_l71Root.f (k : Nat) (s0_0 : List Int) (s0_1 : Int) : Option (Int × List Int × Int × Int) := (spec_l71Keys.f k s0_0 s0_1).bind fun bt243 => (if (bt243.1.length : Int) = 0 then ((spec_l6Rd_pick.f k s0_0 bt243.2 6).bind fun bt247 => (spec_l71Root.j0 k (([wrap64 (1 + bt247.1)] : List Int)) s0_0 bt247.2)) else (spec_l71Root.j0 k bt243.1 s0_0 bt243.2))
theorem spec_l71Root.mono_l : ∀ k, (∀ y0 y1 y2, LeO (spec_l71Root.j0 k y0 y1 y2) (spec_l71Root.j0 (k + 1) y0 y1 y2))
 | 0 => fun _ _ _ r h => by simp [spec_l71Root.j0] at h
 | k + 1 => by
  have ih0 := spec_l71Root.mono_l k
  ·intro y0 y1 y2
   unfold spec_l71Root.j0
   repeat' first
   | (with_reducible exact ih0 _ _ _)
   | (with_reducible exact spec_l6Rd_pick.mono _ _ _ _)
   | (with_reducible exact spec_l71Keys.mono _ _ _)
   | (with_reducible exact LeO.refl _)
   | (with_reducible exact LeO.none _)
   | (with_reducible refine LeO.ite ?_ ?_)
   | (with_reducible refine LeO.bind ?_ (fun _ => ?_))
   | exact ih0 _ _ _
   | exact spec_l6Rd_pick.mono _ _ _ _
   | exact spec_l71Keys.mono _ _ _
   | exact LeO.none _
   | refine LeO.ite ?_ ?_
   | refine LeO.bind ?_ (fun _ => ?_)
theorem spec_l71Root.mono : ∀ a0 a1 k, LeO (spec_l71Root.f k a0 a1) (spec_l71Root.f (k + 1) a0 a1) := by
 intro a0 a1 k
 have ih0 := spec_l71Root.mono_l k
 unfold spec_l71Root.f
 repeat' with_reducible first | apply ih0 | apply spec_l6Rd_pick.mono | apply spec_l71Keys.mono | exact LeO.refl _ | exact LeO.none _ | refine LeO.ite ?_ ?_ | refine LeO.bind ?_ (fun _ => ?_)
set_option maxHeartbeats 8000000 in
set_option maxRecDepth 100000 in
theorem spec_l71Root.calls (k : Nat) (g : Nat) (s0_0 : List Int) (s0_1 : Int) (r1 : Int) (r2 : List Int) (r3 : Int) (r4 : Int) (w0 w : World) (hI : IsS86 w0 w g s0_0 s0_1) (hB : Below w0.heap.size w0 w) (h : spec_l71Root.f k s0_0 s0_1 = some (r1, r2, r3, r4)) :
  Calls Try.prog 69 #[.pointer (some ⟨g, 0, none⟩)] w fun e w' => ∃ v1_ : Value, e = .returned (.agg #[.int .i64 r1, v1_, .int .i64 r3]) ∧ Kd.R (Kd.int .i64) 3 w' w.heap.size (fun _ => True) v1_ r2 ∧ IsS86 w0 w' g s0_0 r4 ∧ Below w0.heap.size w0 w' ∧ KeepBut w w' g none := by
 have hu41 := Try.underlying41; have HI0 := aM hI; have HK := aM (KeepBut.refl w g none); have HL := aM hB.size; clear hI; have HW0 := aM hB.size; have HB := aM hB; clear hB; have H : ((spec_l71Keys.f k s0_0 s0_1).bind fun bt243 => (if (bt243.1.length : Int) = 0 then ((spec_l6Rd_pick.f k s0_0 bt243.2 6).bind fun bt247 => (spec_l71Root.j0 k (([wrap64 (1 + bt247.1)] : List Int)) s0_0 bt247.2)) else (spec_l71Root.j0 k bt243.1 s0_0 bt243.2))) = some (r1, r2, r3, r4) := h; clear h; replace H := Option.bind_eq_some_iff.mp H; obtain ⟨⟨t243, t246⟩, A20, H⟩ := H; (try dsimp only at H); have A2 := aM A20; clear A20; have HC3 := aM H; clear H
 go_enter Try.func69, Try.ntmps69
 go_upto_if 9 with (first | ((with_reducible refine gate_dst (N := 2) rfl ?_); refine zbx 2 #[.int .i64 0, .slice none 0 0, .int .i64 0] 41 ?_; intro gb242 hg w4 hbox hb; have _ := aM (IsS86.below (by exact IsS86.z0 HI0.1) hb); have _ := aM (KeepBut.trans (zQ0 HK.1) (KeepBut.of_below hb g none) (.inl rfl)); have _ := aM (below_step (zB1 HB.1 (IsS86.ge HI0.1)) hb); have _ := aM (hbox); have _ := aM (zgk hg (zQ0 HK.1)); have _ := aM ((Nat.le_trans HW0.1 (by rw [hg]; exact (keep_size (w := w) (g := g) (row := none) (zQ0 HK.1)) : w.heap.size ≤ gb242) : w0.heap.size ≤ gb242)); have _ := aM ((by rw [hg]; exact Nat.ne_of_lt (IsS86.lt (show IsS86 w0 _ g s0_0 s0_1 from by exact IsS86.z0 HI0.1)) : g ≠ gb242)); have _ := aM ((by rw [hg]; exact Nat.ne_of_gt (IsS86.lt (show IsS86 w0 _ g s0_0 s0_1 from by exact IsS86.z0 HI0.1)) : gb242 ≠ g)); clear HI0 HK HB; rename_i HI0 HK HB BK242 GW242 GE242 NB0_242 NB242_0; clear hb hbox hg) | ((with_reducible refine gate_callee (f := 83) rfl ?_); refine zgL (some 6) Try.func83 #[.pointer (some ⟨g, 0, none⟩)] ?_; (with_reducible refine (spec_l71Keys.calls k g s0_0 s0_1 t243 t246 w0 _ ?side1 ?side2 A2.1).mono ?_); (case side1 => exact IsS86.z1 HI0.1 NB0_242.1); (case side2 => exact zB2 HB.1 (IsS86.ge HI0.1) GE242.1); rintro e w5 ⟨v244, rfl, ho0, hi, hb, hk⟩; refine ⟨_, rfl, ?_⟩; have _ := aM (KeepBut.blk hk (zK BK242.1) NB242_0.1 (by simp)); have _ := aM (Kd.R_lower ho0 (keep_size (w := w) (g := g) (row := none) (zQ1 HK.1 GW242.1))); have _ := aM (KeepBut.trans (zQ1 HK.1 GW242.1) hk (.inl rfl)); have _ := aM (hb); have _ := aM (hi); clear BK242 HK HB HI0; rename_i BK242 HO245 HK HB HI0; (try clear hb); (try clear hb2); (try clear hk); (try clear hi); (try clear ho0); obtain ⟨Ao6, co6, eo6⟩ := Kd.R_slice HO245.1; subst eo6))
 (try simp only [zp0, zp1, zp2, zp3, zp4])
 go_cut [3] (fun v3 wc => ∃ (kq : Nat) (x3_2 : List Int) (x1001_2 : Int), Aside0 (spec_l71Root.j0 kq x3_2 s0_0 x1001_2 = some (r1, r2, r3, r4)) ∧ Aside0 (kq ≤ k) ∧ Aside0 (Kd.R (Kd.int .i64) 3 wc w.heap.size (fun _ => True) v3 x3_2) ∧ Aside0 (wc.heap[gb242]? = some (.cells #[.int .i64 0, (.slice none 0 0), .int .i64 0] 41 (0, 0))) ∧ Aside0 (IsS86 w0 wc g s0_0 x1001_2) ∧ Aside0 (KeepBut w wc g none) ∧ Aside0 (Below w0.heap.size w0 wc))
 case first =>
  have H := HC3.1; clear HC3
  by_cases c7 : (t243.length : Int) = 0
  ·rw [if_pos c7] at H; have c7b0 : ((t243.length : Int) == 0) = true := beq_iff_eq.mpr c7; have c7b1 : ((t243.length : Int) != 0) = false := bne_eq_false_iff_eq.mpr c7; clear c7; (first | rw [c7b0] | (simp only [i64_w, i32_w]; rw [c7b0]) | skip); replace H := Option.bind_eq_some_iff.mp H; obtain ⟨⟨t247, t248⟩, A80, H⟩ := H; (try dsimp only at H); have A8 := aM A80; clear A80; obtain ⟨y249, hy249⟩ : ∃ y_ : List Int, y_ = (([wrap64 (1 + t247)] : List Int)) := ⟨_, rfl⟩; (first | (replace H := zbs hy249 H; try dsimp only at H) | rw [← hy249] at H); have Ny249 := aM hy249; clear hy249; have H' := aM H; clear H
   go_wp2_with (first | ((with_reducible refine gate_callee (f := 24) rfl ?_); refine zgL (some 11) Try.func24 #[.pointer (some ⟨g, 0, none⟩), .int .i64 6] ?_; (with_reducible refine (spec_l6Rd_pick.calls k g s0_0 t246 6 t247 t248 w0 _ ?side1 ?side2 A8.1).mono ?_); (case side1 => exact IsS86.z1 HI0.1 NB0_242.1); (case side2 => exact zB2 HB.1 (IsS86.ge HI0.1) GE242.1); rintro e w9 ⟨rfl, hi, hb, hk⟩; refine ⟨_, rfl, ?_⟩; have _ := aM (KeepBut.blk hk (zK BK242.1) NB242_0.1 (by simp)); have _ := aM (Kd.R_mono (Kd.R_keep (IsS86.apart (show IsS86 w0 _ g s0_0 t246 from by exact IsS86.z1 HI0.1 NB0_242.1) (zR HO245.1) (by decide)) hk (fun _ h => h.2)) (fun _ h => h.1)); have _ := aM (KeepBut.trans (zQ1 HK.1 GW242.1) hk (.inl rfl)); have _ := aM (hb); have _ := aM (hi); clear BK242 HO245 HK HB HI0; rename_i BK242 HO245 HK HB HI0; (try clear hb); (try clear hb2); (try clear hk); (try clear hi)) | ((with_reducible refine gate_dst (N := 13) rfl ?_); refine Kd.R_lit (Kd.int .i64) _ 3 ?hg (N := 13) ?hd (xs := ([wrap64 (1 + t247)] : List Int)) (inner := [.int .i64 (wrap64 (1 + t247))]) (ok := fun _ => True) (okp := fun _ => True) ?hr ?hp (fun _ hk => hk) trivial (Below.refl _ _) (Nat.le_refl _) (by simp) ?_; (case hd => rfl); (case hg => rfl); (case hr => first | (go_simp; done) | (go_simp; rfl)); (case hp => exact (Reps.one (show Kd.M (Kd.int .i64) _ _ _ (wrap64 (1 + t247)) [.int .i64 (wrap64 (1 + t247))] from rfl) (Reps.none _ _))); intro v250 w10 ho11 hb hg_ hnew_; clear hg_ hnew_; (first | rw [← Ny249.1] at ho11 | (simp only [Int.reduceToNat] at ho11; rw [← Ny249.1] at ho11)); have _ := aM (Kd.R_elder' (zR HO245.1) (Kd.R_base ho11) hb); have _ := aM (Kd.R_lower (Kd.R_new' ho11 (Kd.R_lt (zR HO245.1))) (keep_size (w := w) (g := g) (row := none) (zQ1 HK.1 GW242.1))); have _ := aM (IsS86.below (by exact IsS86.z1 HI0.1 NB0_242.1) hb); have _ := aM (blk_below (zK BK242.1) hb); have _ := aM (KeepBut.trans (zQ1 HK.1 GW242.1) (KeepBut.of_below hb g none) (.inl rfl)); have _ := aM (below_step (zB2 HB.1 (IsS86.ge HI0.1) GE242.1) hb); clear HO245 HI0 BK242 HK HB; rename_i HO245 HO251 HI0 BK242 HK HB; clear hb ho11))
   go_meet
   case rel => exact ⟨_, (y249), (t248), H', ⟨by first | omega | exact Nat.le_refl _⟩, ⟨by exact zR (Kd.R_mono HO251.1 (fun _ hk => trivial))⟩, ⟨zK BK242.1⟩, ⟨by exact IsS86.z1 HI0.1 NB0_242.1⟩, ⟨zQ1 HK.1 GW242.1⟩, ⟨zB2 HB.1 (IsS86.ge HI0.1) GE242.1⟩⟩
  ·rw [if_neg c7] at H; have c7b0 : ((t243.length : Int) == 0) = false := beq_eq_false_iff_ne.mpr c7; have c7b1 : ((t243.length : Int) != 0) = true := bne_iff_ne.mpr c7
   have c7b2 : ¬ (t243 = []) := fun h_ => c7 (by rw [h_]; rfl)
   (first | rw [c7b0] | (simp only [i64_w, i32_w]; rw [c7b0]) | skip); have H' := aM H; clear H
   go_wp2
   go_meet
   case rel => exact ⟨_, (t243), (t246), H', ⟨by first | omega | exact Nat.le_refl _⟩, ⟨zR HO245.1⟩, ⟨zK BK242.1⟩, ⟨by exact IsS86.z1 HI0.1 NB0_242.1⟩, ⟨zQ1 HK.1 GW242.1⟩, ⟨zB2 HB.1 (IsS86.ge HI0.1) GE242.1⟩⟩
 case rest =>
  clear HC3
  try clear c2
  try clear p2
  try clear c6
  try clear p6
  try clear c7
  try clear c7b0
  try clear c7b1
  try clear c7b2
  try clear c8
  obtain ⟨kq, x3_2, x1001_2, HA, HJ2, HO_3, BK242, HI0, HK, HB⟩ := hcut; cases kq with
  | zero => exact absurd HA.1 (by simp [spec_l71Root.j0])
  | succ kj2 =>
   have H := HA.1; clear HA; simp only [spec_l71Root.j0] at H; replace H := Option.bind_eq_some_iff.mp H; obtain ⟨⟨t252, t253⟩, A120, H⟩ := H; (try dsimp only at H); have A12 := aM A120; clear A120; replace H := Option.bind_eq_some_iff.mp H; obtain ⟨⟨t254, t255⟩, A130, H⟩ := H; (try dsimp only at H); have A13 := aM A130; clear A130; replace H := Option.bind_eq_some_iff.mp H; obtain ⟨⟨t257, t258⟩, A140, H⟩ := H; (try dsimp only at H); have A14 := aM A140; clear A140
   by_cases c15 : t257 = 0
   ·rw [if_pos c15] at H; have c15b0 : (t257 == 0) = true := beq_iff_eq.mpr c15; have c15b1 : (t257 != 0) = false := bne_eq_false_iff_eq.mpr c15; clear c15; obtain ⟨y259, hy259⟩ : ∃ y_ : List Int, y_ = (([0, 9, 10] : List Int)) := ⟨_, rfl⟩; (first | (replace H := zbs hy259 H; try dsimp only at H) | rw [← hy259] at H); have Ny259 := aM hy259; clear hy259; replace H := Option.bind_eq_some_iff.mp H; obtain ⟨⟨t262, t263⟩, A160, H⟩ := H; (try dsimp only at H); have A16 := aM A160; clear A160; replace H := zif H; obtain ⟨c17, H⟩ := H; have c17b0 : decide (0 ≤ t262) = true := decide_eq_true c17; clear c17; replace H := zif H; obtain ⟨c18, H⟩ := H; have c18b0 : decide (t262 < (y259.length : Int)) = true := decide_eq_true c18; clear c18; simp only [Option.some.injEq, Prod.mk.injEq] at H; obtain ⟨rfl, rfl, rfl, rfl⟩ := H
    go_wp2_with (first | ((with_reducible refine gate_callee (f := 24) rfl ?_); refine zgL (some 15) Try.func24 #[.pointer (some ⟨g, 0, none⟩), .int .i64 3] ?_; (with_reducible refine (spec_l6Rd_pick.calls kj2 g s0_0 x1001_2 3 t252 t253 w0 _ ?side1 ?side2 A12.1).mono ?_); (case side1 => exact IsS86.z1 HI0.1 NB0_242.1); (case side2 => exact zB2 HB.1 (IsS86.ge HI0.1) GE242.1); rintro e w19 ⟨rfl, hi, hb, hk⟩; refine ⟨_, rfl, ?_⟩; have _ := aM (Kd.R_mono (Kd.R_keep (IsS86.apart (show IsS86 w0 _ g s0_0 x1001_2 from by exact IsS86.z1 HI0.1 NB0_242.1) (zR HO_3.1) (by decide)) hk (fun _ h => h.2)) (fun _ h => h.1)); have _ := aM (KeepBut.blk hk (zK BK242.1) NB242_0.1 (by simp)); have _ := aM (KeepBut.trans (zQ1 HK.1 GW242.1) hk (.inl rfl)); have _ := aM (hb); have _ := aM (hi); clear HO_3 BK242 HK HB HI0; rename_i HO_3 BK242 HK HB HI0; (try clear hb); (try clear hb2); (try clear hk); (try clear hi); obtain ⟨Ao20, co20, eo20⟩ := Kd.R_slice HO_3.1; subst eo20) | ((with_reducible refine gate_callee (f := 24) rfl ?_); refine zgL (some 21) Try.func24 #[.pointer (some ⟨g, 0, none⟩), .int .i64 (x3_2.length : Int)] ?_; (with_reducible refine (spec_l6Rd_pick.calls kj2 g s0_0 t253 (x3_2.length : Int) t254 t255 w0 _ ?side1 ?side2 A13.1).mono ?_); (case side1 => exact IsS86.z1 HI0.1 NB0_242.1); (case side2 => exact zB2 HB.1 (IsS86.ge HI0.1) GE242.1); rintro e w21 ⟨rfl, hi, hb, hk⟩; refine ⟨_, rfl, ?_⟩; have _ := aM (Kd.R_mono (Kd.R_keep (IsS86.apart (show IsS86 w0 _ g s0_0 t253 from by exact IsS86.z1 HI0.1 NB0_242.1) (zR HO_3.1) (by decide)) hk (fun _ h => h.2)) (fun _ h => h.1)); have _ := aM (KeepBut.blk hk (zK BK242.1) NB242_0.1 (by simp)); have _ := aM (KeepBut.trans (zQ1 HK.1 GW242.1) hk (.inl rfl)); have _ := aM (hb); have _ := aM (hi); clear HO_3 BK242 HK HB HI0; rename_i HO_3 BK242 HK HB HI0; (try clear hb); (try clear hb2); (try clear hk); (try clear hi)) | ((with_reducible refine gate_dst (N := 4) rfl ?_); refine zbx 4 #[.int .i64 0, .slice none 0 0, .int .i64 0] 41 ?_; intro gb256 hg w22 hbox hb; have _ := aM (Kd.R_below (zR HO_3.1) hb); have _ := aM (blk_below (zK BK242.1) hb); have _ := aM (IsS86.below (by exact IsS86.z1 HI0.1 NB0_242.1) hb); have _ := aM (KeepBut.trans (zQ1 HK.1 GW242.1) (KeepBut.of_below hb g none) (.inl rfl)); have _ := aM (below_step (zB2 HB.1 (IsS86.ge HI0.1) GE242.1) hb); have _ := aM (hbox); have _ := aM (zgk hg (zQ1 HK.1 GW242.1)); have _ := aM ((Nat.le_trans HW0.1 (by rw [hg]; exact (keep_size (w := w) (g := g) (row := none) (zQ1 HK.1 GW242.1)) : w.heap.size ≤ gb256) : w0.heap.size ≤ gb256)); have _ := aM (znl hg (zK BK242.1)); have _ := aM (zng hg (zK BK242.1)); have _ := aM ((by rw [hg]; exact Nat.ne_of_lt (IsS86.lt (show IsS86 w0 _ g s0_0 t255 from by exact IsS86.z1 HI0.1 NB0_242.1)) : g ≠ gb256)); have _ := aM ((by rw [hg]; exact Nat.ne_of_gt (IsS86.lt (show IsS86 w0 _ g s0_0 t255 from by exact IsS86.z1 HI0.1 NB0_242.1)) : gb256 ≠ g)); clear HO_3 BK242 HI0 HK HB; rename_i HO_3 BK242 HI0 HK HB BK256 GW256 GE256 NB242_256 NB256_242 NB0_256 NB256_0; clear hb hbox hg; have hnb23 := NB256_242.1; have hnc23 := NB242_256.1; have hnb24 := NB256_0.1; have hnc24 := NB0_256.1; obtain ⟨hcz25_0, hcz25_1, hcz25_2, hfz25_0, hfz25_1, hfz25_2⟩ := zc3f BK256.1) | ((with_reducible refine gate_callee (f := 24) rfl ?_); refine zgL (some 25) Try.func24 #[.pointer (some ⟨g, 0, none⟩), .int .i64 20] ?_; (with_reducible refine (spec_l6Rd_pick.calls kj2 g s0_0 t255 20 t257 t258 w0 _ ?side1 ?side2 A14.1).mono ?_); (case side1 => exact IsS86.z2 HI0.1 NB0_242.1 NB0_256.1); (case side2 => exact zB3 HB.1 (IsS86.ge HI0.1) GE242.1 GE256.1); rintro e w26 ⟨rfl, hi, hb, hk⟩; refine ⟨_, rfl, ?_⟩; have _ := aM (Kd.R_mono (Kd.R_keep (IsS86.apart (show IsS86 w0 _ g s0_0 t255 from by exact IsS86.z2 HI0.1 NB0_242.1 NB0_256.1) (zT HO_3.1 BK256.1 (by decide)) (by decide)) hk (fun _ h => h.2)) (fun _ h => h.1)); have _ := aM (KeepBut.blk hk (zK1 BK242.1 NB242_256.1) NB242_0.1 (by simp)); have _ := aM (KeepBut.blk hk (g' := gb256) (o := .cells #[.int .i64 (wrap64 (1 + t252)), .slice Ao20 x3_2.length co20, .int .i64 (wrap64 (1 + t254))] 41 (0, 0)) (by exact zP BK256.1 (by rfl)) NB256_0.1 (by simp)); have _ := aM (KeepBut.trans (zQ2 HK.1 GW242.1 GW256.1) hk (.inl rfl)); have _ := aM (hb); have _ := aM (hi); clear HO_3 BK242 BK256 HK HB HI0; rename_i HO_3 BK242 BK256 HK HB HI0; (try clear hb); (try clear hb2); (try clear hk); (try clear hi)) | ((with_reducible refine gate_dst (N := 28) rfl ?_); refine Kd.R_lit (Kd.int .i64) _ 3 ?hg (N := 28) ?hd (xs := ([0, 9, 10] : List Int)) (inner := [.int .i64 0, .int .i64 9, .int .i64 10]) (ok := fun _ => True) (okp := fun _ => True) ?hr ?hp (fun _ hk => hk) trivial (Below.refl _ _) (Nat.le_refl _) (by simp) ?_; (case hd => rfl); (case hg => rfl); (case hr => first | (go_simp; done) | (go_simp; rfl)); (case hp => exact (Reps.one (show Kd.M (Kd.int .i64) _ _ _ 0 [.int .i64 0] from rfl) (Reps.one (show Kd.M (Kd.int .i64) _ _ _ 9 [.int .i64 9] from rfl) (Reps.one (show Kd.M (Kd.int .i64) _ _ _ 10 [.int .i64 10] from rfl) (Reps.none _ _))))); intro v260 w27 ho28 hb hg_ hnew_; clear hg_ hnew_; (first | rw [← Ny259.1] at ho28 | (simp only [Int.reduceToNat] at ho28; rw [← Ny259.1] at ho28)); have _ := aM (Kd.R_elder' (zR HO_3.1) (Kd.R_base ho28) hb); have _ := aM (Kd.R_lower (Kd.R_new' ho28 (Kd.R_lt (zR HO_3.1))) (keep_size (w := w) (g := g) (row := none) (zQ2 HK.1 GW242.1 GW256.1))); have _ := aM (blk_below (zK BK242.1) hb); have _ := aM (IsS86.below (by exact IsS86.z2 HI0.1 NB0_242.1 NB0_256.1) hb); have _ := aM (blk_below (zK BK256.1) hb); have _ := aM (KeepBut.trans (zQ2 HK.1 GW242.1 GW256.1) (KeepBut.of_below hb g none) (.inl rfl)); have _ := aM (below_step (zB3 HB.1 (IsS86.ge HI0.1) GE242.1 GE256.1) hb); clear HO_3 BK242 HI0 BK256 HK HB; rename_i HO_3 HO261 BK242 HI0 BK256 HK HB; clear hb ho28) | ((with_reducible refine gate_callee (f := 24) rfl ?_); refine zgL (some 30) Try.func24 #[.pointer (some ⟨g, 0, none⟩), .int .i64 3] ?_; (with_reducible refine (spec_l6Rd_pick.calls kj2 g s0_0 t258 3 t262 t263 w0 _ ?side1 ?side2 A16.1).mono ?_); (case side1 => exact IsS86.z2 HI0.1 NB0_242.1 NB0_256.1); (case side2 => exact zB3 HB.1 (IsS86.ge HI0.1) GE242.1 GE256.1); rintro e w29 ⟨rfl, hi, hb, hk⟩; refine ⟨_, rfl, ?_⟩; have _ := aM (Kd.R_mono (Kd.R_keep (IsS86.apart (show IsS86 w0 _ g s0_0 t258 from by exact IsS86.z2 HI0.1 NB0_242.1 NB0_256.1) (zR HO_3.1) (by decide)) hk (fun _ h => h.2)) (fun _ h => h.1)); have _ := aM (KeepBut.blk hk (zK BK242.1) NB242_0.1 (by simp)); have _ := aM (KeepBut.blk hk (zK BK256.1) NB256_0.1 (by simp)); have _ := aM (Kd.R_mono (Kd.R_keep (IsS86.apart (show IsS86 w0 _ g s0_0 t258 from by exact IsS86.z2 HI0.1 NB0_242.1 NB0_256.1) (zR HO261.1) (by decide)) hk (fun _ h => h.2)) (fun _ h => h.1)); have _ := aM (KeepBut.trans (zQ2 HK.1 GW242.1 GW256.1) hk (.inl rfl)); have _ := aM (hb); have _ := aM (hi); clear HO_3 BK242 BK256 HO261 HK HB HI0; rename_i HO_3 BK242 BK256 HO261 HK HB HI0; (try clear hb); (try clear hb2); (try clear hk); (try clear hi); obtain ⟨Ao30, co30, eo30⟩ := Kd.R_slice HO261.1; subst eo30; have p264 : 0 ≤ (t262 : Int) := zd; have q264 : t262 < (y259.length : Int) := zd; obtain ⟨ad264, e264, hx264_0⟩ := Kd.at_int (Kd.R_reads' HO261.1).2.2 t262 p264 q264; cases e264; replace p264 := eq_true p264; replace q264 := eq_true q264; obtain ⟨hcz31_0, hcz31_1, hcz31_2, hfz31_0, hfz31_1, hfz31_2⟩ := zc3f BK256.1; have hnb32 := NB242_0.1; have hnc32 := NB0_242.1; obtain ⟨hcz33_0, hcz33_1, hcz33_2, hfz33_0, hfz33_1, hfz33_2⟩ := zc3f BK242.1))
    refine bodyPost_ret (results_cell_row rfl _ _ gb242 41 #[.int .i64 (rd y259 t262), .slice Ao20 x3_2.length co20, .int .i64 (wrap64 (1 + t254))] (0, 0) _ rfl (by (with_reducible repeat (first | refine blk_drewN ?_ _ | refine blk_drew ?_ | refine blk_alloc ?_ _)); refine blk_put (cs := #[.int .i64 (rd y259 t262), .slice Ao20 x3_2.length co20, .int .i64 0]) ?_ 2 _ rfl; (with_reducible repeat (first | refine blk_drewN ?_ _ | refine blk_drew ?_ | refine blk_alloc ?_ _)); refine blk_put (cs := #[.int .i64 (rd y259 t262), .slice none 0 0, .int .i64 0]) ?_ 1 _ rfl; (with_reducible repeat (first | refine blk_drewN ?_ _ | refine blk_drew ?_ | refine blk_alloc ?_ _)); refine blk_put (cs := #[.int .i64 0, .slice none 0 0, .int .i64 0]) ?_ 0 _ rfl; exact zK1 BK242.1 NB242_256.1) Try.underlying41 rfl (by kernel_rfl)) rfl ?_; exact ⟨_, by first | rfl | (simp [errW_none, errW_some] <;> rfl) | (simp [*, errW_none, errW_some] <;> rfl), by exact (Kd.R_mono (zFR (g := gb242) (Kd.R_far (p := ⟨gb256, 0, none⟩) (Kd.R_types (Kd.R_types HO_3.1 BK256.1 (by decide)) BK242.1 (by decide)) (fun _ hk => hk.1.2) (.int .i64 (rd y259 t262))) (fun _ hk => hk.2)) (fun _ hk => trivial)), by exact IsS86.z2 HI0.1 NB0_242.1 NB0_256.1, by exact zB3 HB.1 (IsS86.ge HI0.1) GE242.1 GE256.1, by exact zQ2 HK.1 GW242.1 GW256.1⟩
   ·rw [if_neg c15] at H; have c15b0 : (t257 == 0) = false := beq_eq_false_iff_ne.mpr c15; have c15b1 : (t257 != 0) = true := bne_iff_ne.mpr c15
    by_cases c34 : t257 = 1
    ·rw [if_pos c34] at H; have c34b0 : (t257 == 1) = true := beq_iff_eq.mpr c34; have c34b1 : (t257 != 1) = false := bne_eq_false_iff_eq.mpr c34; clear c34; obtain ⟨y265, hy265⟩ : ∃ y_ : List Int, y_ = (([0, wrap64 ((x3_2.length : Int) + 1)] : List Int)) := ⟨_, rfl⟩; (first | (replace H := zbs hy265 H; try dsimp only at H) | rw [← hy265] at H); have Ny265 := aM hy265; clear hy265; replace H := Option.bind_eq_some_iff.mp H; obtain ⟨⟨t268, t269⟩, A350, H⟩ := H; (try dsimp only at H); have A35 := aM A350; clear A350; replace H := zif H; obtain ⟨c36, H⟩ := H; have c36b0 : decide (0 ≤ t268) = true := decide_eq_true c36; clear c36; replace H := zif H; obtain ⟨c37, H⟩ := H; have c37b0 : decide (t268 < (y265.length : Int)) = true := decide_eq_true c37; clear c37; simp only [Option.some.injEq, Prod.mk.injEq] at H; obtain ⟨rfl, rfl, rfl, rfl⟩ := H
     go_wp2_with (first | ((with_reducible refine gate_callee (f := 24) rfl ?_); refine zgL (some 15) Try.func24 #[.pointer (some ⟨g, 0, none⟩), .int .i64 3] ?_; (with_reducible refine (spec_l6Rd_pick.calls kj2 g s0_0 x1001_2 3 t252 t253 w0 _ ?side1 ?side2 A12.1).mono ?_); (case side1 => exact IsS86.z1 HI0.1 NB0_242.1); (case side2 => exact zB2 HB.1 (IsS86.ge HI0.1) GE242.1); rintro e w38 ⟨rfl, hi, hb, hk⟩; refine ⟨_, rfl, ?_⟩; have _ := aM (Kd.R_mono (Kd.R_keep (IsS86.apart (show IsS86 w0 _ g s0_0 x1001_2 from by exact IsS86.z1 HI0.1 NB0_242.1) (zR HO_3.1) (by decide)) hk (fun _ h => h.2)) (fun _ h => h.1)); have _ := aM (KeepBut.blk hk (zK BK242.1) NB242_0.1 (by simp)); have _ := aM (KeepBut.trans (zQ1 HK.1 GW242.1) hk (.inl rfl)); have _ := aM (hb); have _ := aM (hi); clear HO_3 BK242 HK HB HI0; rename_i HO_3 BK242 HK HB HI0; (try clear hb); (try clear hb2); (try clear hk); (try clear hi); obtain ⟨Ao39, co39, eo39⟩ := Kd.R_slice HO_3.1; subst eo39) | ((with_reducible refine gate_callee (f := 24) rfl ?_); refine zgL (some 21) Try.func24 #[.pointer (some ⟨g, 0, none⟩), .int .i64 (x3_2.length : Int)] ?_; (with_reducible refine (spec_l6Rd_pick.calls kj2 g s0_0 t253 (x3_2.length : Int) t254 t255 w0 _ ?side1 ?side2 A13.1).mono ?_); (case side1 => exact IsS86.z1 HI0.1 NB0_242.1); (case side2 => exact zB2 HB.1 (IsS86.ge HI0.1) GE242.1); rintro e w40 ⟨rfl, hi, hb, hk⟩; refine ⟨_, rfl, ?_⟩; have _ := aM (Kd.R_mono (Kd.R_keep (IsS86.apart (show IsS86 w0 _ g s0_0 t253 from by exact IsS86.z1 HI0.1 NB0_242.1) (zR HO_3.1) (by decide)) hk (fun _ h => h.2)) (fun _ h => h.1)); have _ := aM (KeepBut.blk hk (zK BK242.1) NB242_0.1 (by simp)); have _ := aM (KeepBut.trans (zQ1 HK.1 GW242.1) hk (.inl rfl)); have _ := aM (hb); have _ := aM (hi); clear HO_3 BK242 HK HB HI0; rename_i HO_3 BK242 HK HB HI0; (try clear hb); (try clear hb2); (try clear hk); (try clear hi)) | ((with_reducible refine gate_dst (N := 4) rfl ?_); refine zbx 4 #[.int .i64 0, .slice none 0 0, .int .i64 0] 41 ?_; intro gb256 hg w41 hbox hb; have _ := aM (Kd.R_below (zR HO_3.1) hb); have _ := aM (blk_below (zK BK242.1) hb); have _ := aM (IsS86.below (by exact IsS86.z1 HI0.1 NB0_242.1) hb); have _ := aM (KeepBut.trans (zQ1 HK.1 GW242.1) (KeepBut.of_below hb g none) (.inl rfl)); have _ := aM (below_step (zB2 HB.1 (IsS86.ge HI0.1) GE242.1) hb); have _ := aM (hbox); have _ := aM (zgk hg (zQ1 HK.1 GW242.1)); have _ := aM ((Nat.le_trans HW0.1 (by rw [hg]; exact (keep_size (w := w) (g := g) (row := none) (zQ1 HK.1 GW242.1)) : w.heap.size ≤ gb256) : w0.heap.size ≤ gb256)); have _ := aM (znl hg (zK BK242.1)); have _ := aM (zng hg (zK BK242.1)); have _ := aM ((by rw [hg]; exact Nat.ne_of_lt (IsS86.lt (show IsS86 w0 _ g s0_0 t255 from by exact IsS86.z1 HI0.1 NB0_242.1)) : g ≠ gb256)); have _ := aM ((by rw [hg]; exact Nat.ne_of_gt (IsS86.lt (show IsS86 w0 _ g s0_0 t255 from by exact IsS86.z1 HI0.1 NB0_242.1)) : gb256 ≠ g)); clear HO_3 BK242 HI0 HK HB; rename_i HO_3 BK242 HI0 HK HB BK256 GW256 GE256 NB242_256 NB256_242 NB0_256 NB256_0; clear hb hbox hg; have hnb42 := NB256_242.1; have hnc42 := NB242_256.1; have hnb43 := NB256_0.1; have hnc43 := NB0_256.1; obtain ⟨hcz44_0, hcz44_1, hcz44_2, hfz44_0, hfz44_1, hfz44_2⟩ := zc3f BK256.1) | ((with_reducible refine gate_callee (f := 24) rfl ?_); refine zgL (some 25) Try.func24 #[.pointer (some ⟨g, 0, none⟩), .int .i64 20] ?_; (with_reducible refine (spec_l6Rd_pick.calls kj2 g s0_0 t255 20 t257 t258 w0 _ ?side1 ?side2 A14.1).mono ?_); (case side1 => exact IsS86.z2 HI0.1 NB0_242.1 NB0_256.1); (case side2 => exact zB3 HB.1 (IsS86.ge HI0.1) GE242.1 GE256.1); rintro e w45 ⟨rfl, hi, hb, hk⟩; refine ⟨_, rfl, ?_⟩; have _ := aM (Kd.R_mono (Kd.R_keep (IsS86.apart (show IsS86 w0 _ g s0_0 t255 from by exact IsS86.z2 HI0.1 NB0_242.1 NB0_256.1) (zT HO_3.1 BK256.1 (by decide)) (by decide)) hk (fun _ h => h.2)) (fun _ h => h.1)); have _ := aM (KeepBut.blk hk (zK1 BK242.1 NB242_256.1) NB242_0.1 (by simp)); have _ := aM (KeepBut.blk hk (g' := gb256) (o := .cells #[.int .i64 (wrap64 (1 + t252)), .slice Ao39 x3_2.length co39, .int .i64 (wrap64 (1 + t254))] 41 (0, 0)) (by exact zP BK256.1 (by rfl)) NB256_0.1 (by simp)); have _ := aM (KeepBut.trans (zQ2 HK.1 GW242.1 GW256.1) hk (.inl rfl)); have _ := aM (hb); have _ := aM (hi); clear HO_3 BK242 BK256 HK HB HI0; rename_i HO_3 BK242 BK256 HK HB HI0; (try clear hb); (try clear hb2); (try clear hk); (try clear hi)) | ((with_reducible refine gate_dst (N := 39) rfl ?_); refine Kd.R_lit (Kd.int .i64) _ 3 ?hg (N := 39) ?hd (xs := ([0, wrap64 ((x3_2.length : Int) + 1)] : List Int)) (inner := [.int .i64 0, .int .i64 (wrap64 ((x3_2.length : Int) + 1))]) (ok := fun _ => True) (okp := fun _ => True) ?hr ?hp (fun _ hk => hk) trivial (Below.refl _ _) (Nat.le_refl _) (by simp) ?_; (case hd => rfl); (case hg => rfl); (case hr => first | (go_simp; done) | (go_simp; rfl)); (case hp => exact (Reps.one (show Kd.M (Kd.int .i64) _ _ _ 0 [.int .i64 0] from rfl) (Reps.one (show Kd.M (Kd.int .i64) _ _ _ (wrap64 ((x3_2.length : Int) + 1)) [.int .i64 (wrap64 ((x3_2.length : Int) + 1))] from rfl) (Reps.none _ _)))); intro v266 w46 ho47 hb hg_ hnew_; clear hg_ hnew_; (first | rw [← Ny265.1] at ho47 | (simp only [Int.reduceToNat] at ho47; rw [← Ny265.1] at ho47)); have _ := aM (Kd.R_elder' (zR HO_3.1) (Kd.R_base ho47) hb); have _ := aM (Kd.R_lower (Kd.R_new' ho47 (Kd.R_lt (zR HO_3.1))) (keep_size (w := w) (g := g) (row := none) (zQ2 HK.1 GW242.1 GW256.1))); have _ := aM (blk_below (zK BK242.1) hb); have _ := aM (IsS86.below (by exact IsS86.z2 HI0.1 NB0_242.1 NB0_256.1) hb); have _ := aM (blk_below (zK BK256.1) hb); have _ := aM (KeepBut.trans (zQ2 HK.1 GW242.1 GW256.1) (KeepBut.of_below hb g none) (.inl rfl)); have _ := aM (below_step (zB3 HB.1 (IsS86.ge HI0.1) GE242.1 GE256.1) hb); clear HO_3 BK242 HI0 BK256 HK HB; rename_i HO_3 HO267 BK242 HI0 BK256 HK HB; clear hb ho47) | ((with_reducible refine gate_callee (f := 24) rfl ?_); refine zgL (some 41) Try.func24 #[.pointer (some ⟨g, 0, none⟩), .int .i64 2] ?_; (with_reducible refine (spec_l6Rd_pick.calls kj2 g s0_0 t258 2 t268 t269 w0 _ ?side1 ?side2 A35.1).mono ?_); (case side1 => exact IsS86.z2 HI0.1 NB0_242.1 NB0_256.1); (case side2 => exact zB3 HB.1 (IsS86.ge HI0.1) GE242.1 GE256.1); rintro e w48 ⟨rfl, hi, hb, hk⟩; refine ⟨_, rfl, ?_⟩; have _ := aM (Kd.R_mono (Kd.R_keep (IsS86.apart (show IsS86 w0 _ g s0_0 t258 from by exact IsS86.z2 HI0.1 NB0_242.1 NB0_256.1) (zR HO_3.1) (by decide)) hk (fun _ h => h.2)) (fun _ h => h.1)); have _ := aM (KeepBut.blk hk (zK BK242.1) NB242_0.1 (by simp)); have _ := aM (KeepBut.blk hk (zK BK256.1) NB256_0.1 (by simp)); have _ := aM (Kd.R_mono (Kd.R_keep (IsS86.apart (show IsS86 w0 _ g s0_0 t258 from by exact IsS86.z2 HI0.1 NB0_242.1 NB0_256.1) (zR HO267.1) (by decide)) hk (fun _ h => h.2)) (fun _ h => h.1)); have _ := aM (KeepBut.trans (zQ2 HK.1 GW242.1 GW256.1) hk (.inl rfl)); have _ := aM (hb); have _ := aM (hi); clear HO_3 BK242 BK256 HO267 HK HB HI0; rename_i HO_3 BK242 BK256 HO267 HK HB HI0; (try clear hb); (try clear hb2); (try clear hk); (try clear hi); obtain ⟨Ao49, co49, eo49⟩ := Kd.R_slice HO267.1; subst eo49; have p270 : 0 ≤ (t268 : Int) := zd; have q270 : t268 < (y265.length : Int) := zd; obtain ⟨ad270, e270, hx270_0⟩ := Kd.at_int (Kd.R_reads' HO267.1).2.2 t268 p270 q270; cases e270; replace p270 := eq_true p270; replace q270 := eq_true q270; obtain ⟨hcz50_0, hcz50_1, hcz50_2, hfz50_0, hfz50_1, hfz50_2⟩ := zc3f BK256.1; have hnb51 := NB242_0.1; have hnc51 := NB0_242.1; obtain ⟨hcz52_0, hcz52_1, hcz52_2, hfz52_0, hfz52_1, hfz52_2⟩ := zc3f BK242.1))
     refine bodyPost_ret (results_cell_row rfl _ _ gb242 41 #[.int .i64 (wrap64 (1 + t252)), .slice Ao39 x3_2.length co39, .int .i64 (rd y265 t268)] (0, 0) _ rfl (by (with_reducible repeat (first | refine blk_drewN ?_ _ | refine blk_drew ?_ | refine blk_alloc ?_ _)); refine blk_put (cs := #[.int .i64 (wrap64 (1 + t252)), .slice Ao39 x3_2.length co39, .int .i64 0]) ?_ 2 _ rfl; (with_reducible repeat (first | refine blk_drewN ?_ _ | refine blk_drew ?_ | refine blk_alloc ?_ _)); refine blk_put (cs := #[.int .i64 (wrap64 (1 + t252)), .slice none 0 0, .int .i64 0]) ?_ 1 _ rfl; (with_reducible repeat (first | refine blk_drewN ?_ _ | refine blk_drew ?_ | refine blk_alloc ?_ _)); refine blk_put (cs := #[.int .i64 0, .slice none 0 0, .int .i64 0]) ?_ 0 _ rfl; exact zK1 BK242.1 NB242_256.1) Try.underlying41 rfl (by kernel_rfl)) rfl ?_; exact ⟨_, by first | rfl | (simp [errW_none, errW_some] <;> rfl) | (simp [*, errW_none, errW_some] <;> rfl), by exact (Kd.R_mono (zFR (g := gb242) (Kd.R_far (p := ⟨gb256, 2, none⟩) (Kd.R_types (Kd.R_types HO_3.1 BK256.1 (by decide)) BK242.1 (by decide)) (fun _ hk => hk.1.2) (.int .i64 (rd y265 t268))) (fun _ hk => hk.2)) (fun _ hk => trivial)), by exact IsS86.z2 HI0.1 NB0_242.1 NB0_256.1, by exact zB3 HB.1 (IsS86.ge HI0.1) GE242.1 GE256.1, by exact zQ2 HK.1 GW242.1 GW256.1⟩
    ·rw [if_neg c34] at H; have c34b0 : (t257 == 1) = false := beq_eq_false_iff_ne.mpr c34; have c34b1 : (t257 != 1) = true := bne_iff_ne.mpr c34; simp only [Option.some.injEq, Prod.mk.injEq] at H; obtain ⟨rfl, rfl, rfl, rfl⟩ := H
     go_wp2_with (first | ((with_reducible refine gate_callee (f := 24) rfl ?_); refine zgL (some 15) Try.func24 #[.pointer (some ⟨g, 0, none⟩), .int .i64 3] ?_; (with_reducible refine (spec_l6Rd_pick.calls kj2 g s0_0 x1001_2 3 t252 t253 w0 _ ?side1 ?side2 A12.1).mono ?_); (case side1 => exact IsS86.z1 HI0.1 NB0_242.1); (case side2 => exact zB2 HB.1 (IsS86.ge HI0.1) GE242.1); rintro e w53 ⟨rfl, hi, hb, hk⟩; refine ⟨_, rfl, ?_⟩; have _ := aM (Kd.R_mono (Kd.R_keep (IsS86.apart (show IsS86 w0 _ g s0_0 x1001_2 from by exact IsS86.z1 HI0.1 NB0_242.1) (zR HO_3.1) (by decide)) hk (fun _ h => h.2)) (fun _ h => h.1)); have _ := aM (KeepBut.blk hk (zK BK242.1) NB242_0.1 (by simp)); have _ := aM (KeepBut.trans (zQ1 HK.1 GW242.1) hk (.inl rfl)); have _ := aM (hb); have _ := aM (hi); clear HO_3 BK242 HK HB HI0; rename_i HO_3 BK242 HK HB HI0; (try clear hb); (try clear hb2); (try clear hk); (try clear hi); obtain ⟨Ao54, co54, eo54⟩ := Kd.R_slice HO_3.1; subst eo54) | ((with_reducible refine gate_callee (f := 24) rfl ?_); refine zgL (some 21) Try.func24 #[.pointer (some ⟨g, 0, none⟩), .int .i64 (x3_2.length : Int)] ?_; (with_reducible refine (spec_l6Rd_pick.calls kj2 g s0_0 t253 (x3_2.length : Int) t254 t255 w0 _ ?side1 ?side2 A13.1).mono ?_); (case side1 => exact IsS86.z1 HI0.1 NB0_242.1); (case side2 => exact zB2 HB.1 (IsS86.ge HI0.1) GE242.1); rintro e w55 ⟨rfl, hi, hb, hk⟩; refine ⟨_, rfl, ?_⟩; have _ := aM (Kd.R_mono (Kd.R_keep (IsS86.apart (show IsS86 w0 _ g s0_0 t253 from by exact IsS86.z1 HI0.1 NB0_242.1) (zR HO_3.1) (by decide)) hk (fun _ h => h.2)) (fun _ h => h.1)); have _ := aM (KeepBut.blk hk (zK BK242.1) NB242_0.1 (by simp)); have _ := aM (KeepBut.trans (zQ1 HK.1 GW242.1) hk (.inl rfl)); have _ := aM (hb); have _ := aM (hi); clear HO_3 BK242 HK HB HI0; rename_i HO_3 BK242 HK HB HI0; (try clear hb); (try clear hb2); (try clear hk); (try clear hi)) | ((with_reducible refine gate_dst (N := 4) rfl ?_); refine zbx 4 #[.int .i64 0, .slice none 0 0, .int .i64 0] 41 ?_; intro gb256 hg w56 hbox hb; have _ := aM (Kd.R_below (zR HO_3.1) hb); have _ := aM (blk_below (zK BK242.1) hb); have _ := aM (IsS86.below (by exact IsS86.z1 HI0.1 NB0_242.1) hb); have _ := aM (KeepBut.trans (zQ1 HK.1 GW242.1) (KeepBut.of_below hb g none) (.inl rfl)); have _ := aM (below_step (zB2 HB.1 (IsS86.ge HI0.1) GE242.1) hb); have _ := aM (hbox); have _ := aM (zgk hg (zQ1 HK.1 GW242.1)); have _ := aM ((Nat.le_trans HW0.1 (by rw [hg]; exact (keep_size (w := w) (g := g) (row := none) (zQ1 HK.1 GW242.1)) : w.heap.size ≤ gb256) : w0.heap.size ≤ gb256)); have _ := aM (znl hg (zK BK242.1)); have _ := aM (zng hg (zK BK242.1)); have _ := aM ((by rw [hg]; exact Nat.ne_of_lt (IsS86.lt (show IsS86 w0 _ g s0_0 t255 from by exact IsS86.z1 HI0.1 NB0_242.1)) : g ≠ gb256)); have _ := aM ((by rw [hg]; exact Nat.ne_of_gt (IsS86.lt (show IsS86 w0 _ g s0_0 t255 from by exact IsS86.z1 HI0.1 NB0_242.1)) : gb256 ≠ g)); clear HO_3 BK242 HI0 HK HB; rename_i HO_3 BK242 HI0 HK HB BK256 GW256 GE256 NB242_256 NB256_242 NB0_256 NB256_0; clear hb hbox hg; have hnb57 := NB256_242.1; have hnc57 := NB242_256.1; have hnb58 := NB256_0.1; have hnc58 := NB0_256.1; obtain ⟨hcz59_0, hcz59_1, hcz59_2, hfz59_0, hfz59_1, hfz59_2⟩ := zc3f BK256.1) | ((with_reducible refine gate_callee (f := 24) rfl ?_); refine zgL (some 25) Try.func24 #[.pointer (some ⟨g, 0, none⟩), .int .i64 20] ?_; (with_reducible refine (spec_l6Rd_pick.calls kj2 g s0_0 t255 20 t257 t258 w0 _ ?side1 ?side2 A14.1).mono ?_); (case side1 => exact IsS86.z2 HI0.1 NB0_242.1 NB0_256.1); (case side2 => exact zB3 HB.1 (IsS86.ge HI0.1) GE242.1 GE256.1); rintro e w60 ⟨rfl, hi, hb, hk⟩; refine ⟨_, rfl, ?_⟩; have _ := aM (Kd.R_mono (Kd.R_keep (IsS86.apart (show IsS86 w0 _ g s0_0 t255 from by exact IsS86.z2 HI0.1 NB0_242.1 NB0_256.1) (zT HO_3.1 BK256.1 (by decide)) (by decide)) hk (fun _ h => h.2)) (fun _ h => h.1)); have _ := aM (KeepBut.blk hk (zK1 BK242.1 NB242_256.1) NB242_0.1 (by simp)); have _ := aM (KeepBut.blk hk (g' := gb256) (o := .cells #[.int .i64 (wrap64 (1 + t252)), .slice Ao54 x3_2.length co54, .int .i64 (wrap64 (1 + t254))] 41 (0, 0)) (by exact zP BK256.1 (by rfl)) NB256_0.1 (by simp)); have _ := aM (KeepBut.trans (zQ2 HK.1 GW242.1 GW256.1) hk (.inl rfl)); have _ := aM (hb); have _ := aM (hi); clear HO_3 BK242 BK256 HK HB HI0; rename_i HO_3 BK242 BK256 HK HB HI0; (try clear hb); (try clear hb2); (try clear hk); (try clear hi); obtain ⟨hcz61_0, hcz61_1, hcz61_2, hfz61_0, hfz61_1, hfz61_2⟩ := zc3f BK256.1; have hnb62 := NB242_0.1; have hnc62 := NB0_242.1; obtain ⟨hcz63_0, hcz63_1, hcz63_2, hfz63_0, hfz63_1, hfz63_2⟩ := zc3f BK242.1))
     refine bodyPost_ret (results_cell_row rfl _ _ gb242 41 #[.int .i64 (wrap64 (1 + t252)), .slice Ao54 x3_2.length co54, .int .i64 (wrap64 (1 + t254))] (0, 0) _ rfl (by exact zP BK242.1 (by rfl)) Try.underlying41 rfl (by kernel_rfl)) rfl ?_; exact ⟨_, by first | rfl | (simp [errW_none, errW_some] <;> rfl) | (simp [*, errW_none, errW_some] <;> rfl), by exact (Kd.R_mono (zFR (g := gb242) (Kd.R_types HO_3.1 BK242.1 (by decide)) (fun _ hk => hk.2)) (fun _ hk => trivial)), by exact IsS86.z2 HI0.1 NB0_242.1 NB0_256.1, by exact zB3 HB.1 (IsS86.ge HI0.1) GE242.1 GE256.1, by exact zQ2 HK.1 GW242.1 GW256.1⟩

/-! ### spec_l1Files: function 75 -/
def file1 (l : List S89) (i : Nat) : Bool := inB_ (l.getD i z89).f0 0 5 && (inB_ (l.getD i z89).f1 0 9 && (i == 0 || decide ((l.getD (i - 1) z89).f0 < (l.getD i z89).f0)))
def l1f (l : List S89) : Bool := okFrom (file1 l) l.length 0 && decide (l.length ≤ 2)
set_option maxHeartbeats 8000000 in
set_option maxRecDepth 100000 in
theorem l1f_calls (A0 : Option Addr) (c0 : Nat) (l0 : List S89) (w : World) (hr0 : Kd.C k89 w A0 l0.length l0) (hc0 : l0.length ≤ c0) :
  Calls Try.prog 75 #[.slice A0 l0.length c0] w fun e w' => e = .returned (.bool (l1f l0)) ∧ Drawn0 w w' := by
 have HR := Aside0.mk hr0
 have HC := Aside0.mk hc0
 have HL := Aside0.mk hr0.2.1
 clear hr0 hc0
 go_enter Try.func75, Try.ntmps75
 go_wp2
 go_loopw [3] (fun v3 w' => ∃ x : Int, 0 ≤ x ∧ x ≤ (l0.length : Int) ∧ v3 = .int .i64 x ∧ Aside0 (l1f l0 = (okFrom (file1 l0) (l0.length - x.toNat) x.toNat && decide (l0.length ≤ 2))) ∧ Drawn0 w w') (fun v3 _ => l0.length - (intOf v3).toNat)
 case atStart => exact ⟨0, by omega, by omega, rfl, ⟨rfl⟩, Drawn0.refl _⟩
 case round =>
  obtain ⟨x, hx0, hx1, rfl, HE, ⟨m1, rfl⟩⟩ := hrel
  by_cases hlt : x < (l0.length : Int)
  ·obtain ⟨ad, e, c0, c1⟩ := at_T89 HR.out x hx0 hlt
   cases e
   obtain ⟨F0, hF0⟩ : ∃ F0, F0 = (rd_T89 l0 x).f0 := ⟨_, rfl⟩
   obtain ⟨F1, hF1⟩ : ∃ F1, F1 = (rd_T89 l0 x).f1 := ⟨_, rfl⟩
   rw [← hF0] at c0
   rw [← hF1] at c1
   have HF := Aside0.mk (And.intro hF0 hF1)
   clear hF0 hF1
   obtain ⟨b1, hb1⟩ : ∃ b, inB_ F0 0 5 = b := ⟨_, rfl⟩
   obtain ⟨b2, hb2⟩ : ∃ b, inB_ F1 0 9 = b := ⟨_, rfl⟩
   have C1 := Aside0.mk (fun W => spec_l6In_b W F0 0 5 b1 hb1)
   have C2 := Aside0.mk (fun W => spec_l6In_b W F1 0 9 b2 hb2)
   have B1 := Aside0.mk hb1
   have B2 := Aside0.mk hb2
   clear hb1 hb2
   have q1 : decide (x < (l0.length : Int)) = true := decide_eq_true hlt
   have q2 : 0 ≤ x := hx0
   have HN := Aside0.mk (okFrom_at (p := file1 l0) hx0 hlt)
   have no : Aside0 (file1 l0 x.toNat = false → l1f l0 = false) := ⟨fun h_ => by rw [HE.out, HN.out, h_]; rfl⟩
   have yes : Aside0 (file1 l0 x.toNat = true → l1f l0 = (okFrom (file1 l0) (l0.length - (x + 1).toNat) (x + 1).toNat && decide (l0.length ≤ 2))) := ⟨fun h_ => by rw [HE.out, HN.out, h_]; rfl⟩
   clear HE HN
   have hb2 : b2 = true ∨ b2 = false := by cases b2 <;> simp
   have HL2 := HL.out
   cases b1 with
   | false =>
    go_wp2
    go_quiet ((go_at_call 43; (first | with_reducible refine (C1.out _).mono ?_ | with_reducible refine (C2.out _).mono ?_); exact fun _ _ h_ => ⟨h_.1, _, h_.2⟩))
    go_wp2
    go_ret
    rw [no.out (by unfold file1; rw [← show _ = (l0.getD x.toNat z89).f0 from HF.out.1, B1.out]; rfl)]
    exact ⟨by first | rfl | simp [*], by repeat (first | exact Drawn0.refl _ | apply Drawn0.step)⟩
   | true =>
    cases b2 with
    | false =>
     go_wp2
     go_quiet ((go_at_call 43; (first | with_reducible refine (C1.out _).mono ?_ | with_reducible refine (C2.out _).mono ?_); exact fun _ _ h_ => ⟨h_.1, _, h_.2⟩))
     go_wp2
     go_ret
     rw [no.out (by unfold file1; rw [← show _ = (l0.getD x.toNat z89).f0 from HF.out.1, ← show _ = (l0.getD x.toNat z89).f1 from HF.out.2, B1.out, B2.out]; rfl)]
     exact ⟨by first | rfl | simp [*], by repeat (first | exact Drawn0.refl _ | apply Drawn0.step)⟩
    | true =>
     by_cases hz : x ≤ 0
     ·have hx4 : decide (0 < x) = false := decide_eq_false (by omega)
      have Y := Aside0.mk (yes.out (by unfold file1; rw [← show _ = (l0.getD x.toNat z89).f0 from HF.out.1, ← show _ = (l0.getD x.toNat z89).f1 from HF.out.2, B1.out, B2.out, show (x.toNat == 0) = true by rw [beq_iff_eq]; omega]; rfl))
      clear yes no hz
      go_wp2
      go_quiet ((go_at_call 43; (first | with_reducible refine (C1.out _).mono ?_ | with_reducible refine (C2.out _).mono ?_); exact fun _ _ h_ => ⟨h_.1, _, h_.2⟩))
      go_wp2
      go_roundw
      case rel => exact ⟨x + 1, by omega, by omega, by first | rfl | simp, Y, by repeat (first | exact Drawn0.refl _ | apply Drawn0.step)⟩
      case measure => simp [intOf]; omega
     ·have g0 : 0 < x := by omega
      clear hz
      obtain ⟨y, hy⟩ : ∃ y, y = x - 1 := ⟨_, rfl⟩
      have hw : IntKind.i64.wrap (x - 1) = y := by rw [i64_w, hy]; unfold wrap64; omega
      obtain ⟨ad2, e2, d0, d1⟩ := at_T89 HR.out y (by omega) (by omega)
      obtain ⟨G0, hG0⟩ : ∃ G0, G0 = (rd_T89 l0 y).f0 := ⟨_, rfl⟩
      rw [← hG0] at d0
      cases e2
      have HG := Aside0.mk hG0
      clear hG0 d1
      have hx2 : 0 ≤ y := by omega
      have hx3 : decide (y < (l0.length : Int)) = true := decide_eq_true (by omega)
      have hx4 : decide (0 < x) = true := decide_eq_true g0
      have hx5 : y < (l0.length : Int) := by omega
      have HY := Aside0.mk hy
      clear hy
      have FD : Aside0 (file1 l0 x.toNat = decide (G0 < F0)) := ⟨by
       unfold file1
       rw [← show _ = (l0.getD x.toNat z89).f0 from HF.out.1, ← show _ = (l0.getD x.toNat z89).f1 from HF.out.2, B1.out, B2.out, show (x.toNat == 0) = false by rw [beq_eq_false_iff_ne]; omega, show x.toNat - 1 = y.toNat by have := HY.out; omega, ← show _ = (l0.getD y.toNat z89).f0 from HG.out]; rfl⟩
      by_cases hc : F0 ≤ G0
      ·have cb : decide (F0 ≤ G0) = true := decide_eq_true hc
       have N := Aside0.mk (no.out (by rw [FD.out, decide_eq_false (by omega)]))
       clear yes no hc
       go_wp2
       go_quiet ((go_at_call 43; (first | with_reducible refine (C1.out _).mono ?_ | with_reducible refine (C2.out _).mono ?_); exact fun _ _ h_ => ⟨h_.1, _, h_.2⟩))
       go_wp2
       go_ret
       rw [N.out]
       exact ⟨by first | rfl | simp [*], by repeat (first | exact Drawn0.refl _ | apply Drawn0.step)⟩
      ·have cb : decide (F0 ≤ G0) = false := decide_eq_false hc
       have Y := Aside0.mk (yes.out (by rw [FD.out, decide_eq_true (by omega)]))
       clear yes no hc
       go_wp2
       go_quiet ((go_at_call 43; (first | with_reducible refine (C1.out _).mono ?_ | with_reducible refine (C2.out _).mono ?_); exact fun _ _ h_ => ⟨h_.1, _, h_.2⟩))
       go_wp2
       go_roundw
       case rel => exact ⟨x + 1, by omega, by omega, by first | rfl | simp, Y, by repeat (first | exact Drawn0.refl _ | apply Drawn0.step)⟩
       case measure => simp [intOf]; omega
  ·have hxe : x = (l0.length : Int) := by omega
   have q1 : decide (x < (l0.length : Int)) = false := decide_eq_false hlt
   have E := Aside0.mk (show l1f l0 = decide ((l0.length : Int) ≤ 2) by
    rw [HE.out, hxe, Int.toNat_natCast, Nat.sub_self]
    simp only [okFrom, Bool.true_and]
    rw [Bool.eq_iff_iff, decide_eq_true_eq, decide_eq_true_eq]; omega)
   clear hxe HE
   go_wp2
   go_ret
   rw [E.out]
   exact ⟨by first | rfl | simp [*], by repeat (first | exact Drawn0.refl _ | apply Drawn0.step)⟩
def spec_l1Files.f (_k : Nat) (l0 : List S89) : Option Bool := some (l1f l0)
theorem spec_l1Files.mono : ∀ a0 k, LeO (spec_l1Files.f k a0) (spec_l1Files.f (k + 1) a0) := fun _ _ _ h => h
theorem spec_l1Files.calls (k : Nat) (A0 : Option Addr) (c0 : Nat) (l0 : List S89) (r : Bool) (w : World) (hr0 : Kd.C k89 w A0 l0.length l0) (hc0 : l0.length ≤ c0) (h : spec_l1Files.f k l0 = some r) :
  Calls Try.prog 75 #[.slice A0 l0.length c0] w fun e w' => e = .returned (.bool r) ∧ Below w.heap.size w w' := by
 obtain rfl := Option.some.inj h; refine (l1f_calls A0 c0 l0 w hr0 hc0).mono ?_; rintro e w' ⟨h1, n, rfl⟩; refine ⟨h1, ?_⟩; apply pw_below_drewN; exact Below.refl _ _

/-! ### spec_l1Deps: function 76 -/
def dep1 (name : Int) (l : List S91) (i : Nat) : Bool := inB_ (l.getD i z91).f0 1 4 && (!decide ((l.getD i z91).f0 = name) && (inB_ (l.getD i z91).f1 1 5 && (i == 0 || decide ((l.getD (i - 1) z91).f0 < (l.getD i z91).f0))))
def l1d (name : Int) (l : List S91) : Bool := okFrom (dep1 name l) l.length 0 && decide (l.length ≤ 2)
set_option maxHeartbeats 8000000 in
set_option maxRecDepth 100000 in
theorem l1d_calls (a0 : Int) (A0 : Option Addr) (c0 : Nat) (l0 : List S91) (w : World) (hr0 : Kd.C k91 w A0 l0.length l0) (hc0 : l0.length ≤ c0) :
  Calls Try.prog 76 #[.int .i64 a0, .slice A0 l0.length c0] w fun e w' => e = .returned (.bool (l1d a0 l0)) ∧ Below w.heap.size w w' := by
 have HR := Aside0.mk hr0
 have HC := Aside0.mk hc0
 have HL := Aside0.mk hr0.2.1
 have HB := Aside0.mk (Below.refl w.heap.size w)
 clear hr0 hc0
 go_enter Try.func76, Try.ntmps76
 go_wp2
 go_loopw [5] (fun v5 w' => ∃ x : Int, 0 ≤ x ∧ x ≤ (l0.length : Int) ∧ v5 = .int .i64 x ∧ Aside0 (l1d a0 l0 = (okFrom (dep1 a0 l0) (l0.length - x.toNat) x.toNat && decide (l0.length ≤ 2))) ∧ Aside0 (Below w.heap.size w w')) (fun v5 _ => l0.length - (intOf v5).toNat)
 case atStart => exact ⟨0, by omega, by omega, rfl, ⟨rfl⟩, HB⟩
 case round =>
  clear HB
  obtain ⟨x, hx0, hx1, rfl, HE, HB⟩ := hrel
  by_cases hlt : x < (l0.length : Int)
  ·obtain ⟨ad, e, c0, c1⟩ := at_T91 HR.out x hx0 hlt
   cases e
   replace c0 := (HB.out.cell (World.block_lt_of_cell? w _ c0)).trans c0
   replace c1 := (HB.out.cell (World.block_lt_of_cell? w _ c1)).trans c1
   obtain ⟨F0, hF0⟩ : ∃ F0, F0 = (rd_T91 l0 x).f0 := ⟨_, rfl⟩
   obtain ⟨F1, hF1⟩ : ∃ F1, F1 = (rd_T91 l0 x).f1 := ⟨_, rfl⟩
   rw [← hF0] at c0
   rw [← hF1] at c1
   have HF := Aside0.mk (And.intro hF0 hF1)
   clear hF0 hF1
   have q1 : decide (x < (l0.length : Int)) = true := decide_eq_true hlt
   have q2 : 0 ≤ x := hx0
   obtain ⟨b1, hb1⟩ : ∃ b, inB_ F0 1 4 = b := ⟨_, rfl⟩
   obtain ⟨b2, hb2⟩ : ∃ b, inB_ F1 1 5 = b := ⟨_, rfl⟩
   have C1 := Aside0.mk (fun W => spec_l6In_b W F0 1 4 b1 hb1)
   have C2 := Aside0.mk (fun W => spec_l6In_b W F1 1 5 b2 hb2)
   have B1 := Aside0.mk hb1
   have B2 := Aside0.mk hb2
   clear hb1 hb2
   have HN := Aside0.mk (okFrom_at (p := dep1 a0 l0) hx0 hlt)
   have no : Aside0 (dep1 a0 l0 x.toNat = false → l1d a0 l0 = false) := ⟨fun h_ => by rw [HE.out, HN.out, h_]; rfl⟩
   have yes : Aside0 (dep1 a0 l0 x.toNat = true → l1d a0 l0 = (okFrom (dep1 a0 l0) (l0.length - (x + 1).toNat) (x + 1).toNat && decide (l0.length ≤ 2))) := ⟨fun h_ => by rw [HE.out, HN.out, h_]; rfl⟩
   have D : Aside0 (dep1 a0 l0 x.toNat = (b1 && (!decide (F0 = a0) && (b2 && (x.toNat == 0 || decide ((l0.getD (x.toNat - 1) z91).f0 < F0)))))) := ⟨by
    unfold dep1
    rw [← show _ = (l0.getD x.toNat z91).f0 from HF.out.1, ← show _ = (l0.getD x.toNat z91).f1 from HF.out.2, B1.out, B2.out]⟩
   clear HE HN HF B1 B2
   have HL2 := HL.out
   go_wp2
   have n0_ := Aside0.mk (below_alloc HB.out (Obj.cells #[.int .i64 F0, .int .i64 F1] 91))
   have n1_ := (below_alloc (Below.refl wr.heap.size wr) (Obj.cells #[.int .i64 F0, .int .i64 F1] 91))
   have k0 : (wr.alloc (Obj.cells #[.int .i64 F0, .int .i64 F1] 91)).cell? ⟨wr.heap.size, 0, none⟩ = some (.int .i64 F0) := by simp
   have k1 : (wr.alloc (Obj.cells #[.int .i64 F0, .int .i64 F1] 91)).cell? ⟨wr.heap.size, 1, none⟩ = some (.int .i64 F1) := by simp
   clear HB c0 c1 n1_
   generalize wr.alloc (Obj.cells #[.int .i64 F0, .int .i64 F1] 91) = W at n0_ k0 k1 ⊢
   generalize wr.heap.size = gb at k0 k1 ⊢
   have HB := n0_
   clear n0_
   cases b1 with
   | false =>
    go_quiet ((go_at_call 43; (first | with_reducible refine (C1.out _).mono ?_ | with_reducible refine (C2.out _).mono ?_); exact fun _ _ h_ => ⟨h_.1, _, h_.2⟩))
    go_wp2
    go_ret
    rw [no.out (by rw [D.out]; rfl)]
    exact ⟨by first | rfl | simp [*], by repeat (first | exact HB.out | apply pw_below_drewN)⟩
   | true =>
    by_cases he : F0 = a0
    ·have N := Aside0.mk (no.out (by rw [D.out, decide_eq_true he]; rfl))
     have e1 : (F0 == a0) = true := beq_iff_eq.mpr he
     clear yes no D he
     go_quiet ((go_at_call 43; (first | with_reducible refine (C1.out _).mono ?_ | with_reducible refine (C2.out _).mono ?_); exact fun _ _ h_ => ⟨h_.1, _, h_.2⟩))
     go_wp2
     go_ret
     rw [N.out]
     exact ⟨by first | rfl | simp [*], by repeat (first | exact HB.out | apply pw_below_drewN)⟩
    ·have e1 : (F0 == a0) = false := beq_eq_false_iff_ne.mpr he
     replace D := Aside0.mk (D.out.trans (by rw [decide_eq_false he]))
     clear he
     cases b2 with
     | false =>
      go_quiet ((go_at_call 43; (first | with_reducible refine (C1.out _).mono ?_ | with_reducible refine (C2.out _).mono ?_); exact fun _ _ h_ => ⟨h_.1, _, h_.2⟩))
      go_wp2
      go_ret
      rw [no.out (by rw [D.out]; rfl)]
      exact ⟨by first | rfl | simp [*], by repeat (first | exact HB.out | apply pw_below_drewN)⟩
     | true =>
      by_cases hz : x ≤ 0
      ·have hx4 : decide (0 < x) = false := decide_eq_false (by omega)
       have Y := Aside0.mk (yes.out (by rw [D.out, show (x.toNat == 0) = true by rw [beq_iff_eq]; omega]; rfl))
       clear yes no D hz
       go_quiet ((go_at_call 43; (first | with_reducible refine (C1.out _).mono ?_ | with_reducible refine (C2.out _).mono ?_); exact fun _ _ h_ => ⟨h_.1, _, h_.2⟩))
       go_wp2
       go_roundw
       case rel => exact ⟨x + 1, by omega, by omega, by first | rfl | simp, Y, ⟨by repeat (first | exact HB.out | apply pw_below_drewN)⟩⟩
       case measure => simp [intOf]; omega
      ·have g0 : 0 < x := by omega
       clear hz
       obtain ⟨y, hy⟩ : ∃ y, y = x - 1 := ⟨_, rfl⟩
       have hw : IntKind.i64.wrap (x - 1) = y := by rw [i64_w, hy]; unfold wrap64; omega
       obtain ⟨ad2, e2, d0, d1⟩ := at_T91 HR.out y (by omega) (by omega)
       obtain ⟨G0, hG0⟩ : ∃ G0, G0 = (rd_T91 l0 y).f0 := ⟨_, rfl⟩
       obtain ⟨G1, hG1⟩ : ∃ G1, G1 = (rd_T91 l0 y).f1 := ⟨_, rfl⟩
       rw [← hG0] at d0
       rw [← hG1] at d1
       cases e2
       replace d0 := (HB.out.cell (World.block_lt_of_cell? w _ d0)).trans d0
       replace d1 := (HB.out.cell (World.block_lt_of_cell? w _ d1)).trans d1
       have HG := Aside0.mk hG0
       clear hG0 hG1
       have hx2 : 0 ≤ y := by omega
       have hx3 : decide (y < (l0.length : Int)) = true := decide_eq_true (by omega)
       have hx4 : decide (0 < x) = true := decide_eq_true g0
       have hx5 : y < (l0.length : Int) := by omega
       have HY := Aside0.mk hy
       clear hy
       have FD : Aside0 (dep1 a0 l0 x.toNat = decide (G0 < F0)) := ⟨by
        rw [D.out, show (x.toNat == 0) = false by rw [beq_eq_false_iff_ne]; omega, show x.toNat - 1 = y.toNat by have := HY.out; omega, ← show _ = (l0.getD y.toNat z91).f0 from HG.out]; rfl⟩
       by_cases hc : F0 ≤ G0
       ·have cb : decide (F0 ≤ G0) = true := decide_eq_true hc
        have N := Aside0.mk (no.out (by rw [FD.out, decide_eq_false (by omega)]))
        clear yes no hc D
        go_quiet ((go_at_call 43; (first | with_reducible refine (C1.out _).mono ?_ | with_reducible refine (C2.out _).mono ?_); exact fun _ _ h_ => ⟨h_.1, _, h_.2⟩))
        go_wp2
        go_ret
        rw [N.out]
        exact ⟨by first | rfl | simp [*], by repeat (first | exact HB.out | apply pw_below_drewN)⟩
       ·have cb : decide (F0 ≤ G0) = false := decide_eq_false hc
        have Y := Aside0.mk (yes.out (by rw [FD.out, decide_eq_true (by omega)]))
        clear yes no hc D
        go_quiet ((go_at_call 43; (first | with_reducible refine (C1.out _).mono ?_ | with_reducible refine (C2.out _).mono ?_); exact fun _ _ h_ => ⟨h_.1, _, h_.2⟩))
        go_wp2
        go_roundw
        case rel => exact ⟨x + 1, by omega, by omega, by first | rfl | simp, Y, ⟨by repeat (first | exact HB.out | apply pw_below_drewN)⟩⟩
        case measure => simp [intOf]; omega
  ·have hxe : x = (l0.length : Int) := by omega
   have q1 : decide (x < (l0.length : Int)) = false := decide_eq_false hlt
   have E := Aside0.mk (show l1d a0 l0 = decide ((l0.length : Int) ≤ 2) by
    rw [HE.out, hxe, Int.toNat_natCast, Nat.sub_self]
    simp only [okFrom, Bool.true_and]
    rw [Bool.eq_iff_iff, decide_eq_true_eq, decide_eq_true_eq]; omega)
   clear hxe HE
   go_wp2
   go_ret
   rw [E.out]
   exact ⟨by first | rfl | simp [*], by repeat (first | exact HB.out | apply pw_below_drewN)⟩
def spec_l1Deps.f (_k : Nat) (a0 : Int) (l1 : List S91) : Option Bool := some (l1d a0 l1)
theorem spec_l1Deps.mono : ∀ a0 a1 k, LeO (spec_l1Deps.f k a0 a1) (spec_l1Deps.f (k + 1) a0 a1) := fun _ _ _ _ h => h
theorem spec_l1Deps.calls (k : Nat) (a0 : Int) (A1 : Option Addr) (c1 : Nat) (l1 : List S91) (r : Bool) (w : World) (hr1 : Kd.C k91 w A1 l1.length l1) (hc1 : l1.length ≤ c1) (h : spec_l1Deps.f k a0 l1 = some r) :
  Calls Try.prog 76 #[.int .i64 a0, .slice A1 l1.length c1] w fun e w' => e = .returned (.bool r) ∧ Below w.heap.size w w' := by
 obtain rfl := Option.some.inj h; exact l1d_calls a0 A1 c1 l1 w hr1 hc1

/-! ### spec_PkgOk: function 52 -/
def spec_PkgOk.f (k : Nat) (a0_0 : Int) (a0_1 : Int) (l0_2 : List (S89)) (l0_3 : List (S91)) : Option (Bool) := (spec_l6In.f a0_0 1 4).bind fun t272 => (if t272 = true then ((spec_l6In.f a0_1 1 5).bind fun t273 => (if t273 = true then ((spec_l1Files.f k l0_2).bind fun t274 => (if t274 = true then ((spec_l1Deps.f k a0_0 l0_3).bind fun t275 => (some t275)) else (some false))) else (some false))) else (some false))
theorem spec_PkgOk.mono : ∀ a0 a1 a2 a3 k, LeO (spec_PkgOk.f k a0 a1 a2 a3) (spec_PkgOk.f (k + 1) a0 a1 a2 a3) := by
 intro a0 a1 a2 a3 k
 unfold spec_PkgOk.f
 repeat' with_reducible first | apply spec_l1Deps.mono | apply spec_l1Files.mono | exact LeO.refl _ | exact LeO.none _ | refine LeO.ite ?_ ?_ | refine LeO.bind ?_ (fun _ => ?_)
set_option maxHeartbeats 8000000 in
set_option maxRecDepth 100000 in
theorem spec_PkgOk.calls (k : Nat) (a0_0 : Int) (a0_1 : Int) (A0_2 : Option Addr) (c0_2 : Nat) (l0_2 : List (S89)) (A0_3 : Option Addr) (c0_3 : Nat) (l0_3 : List (S91)) (r : Bool) (w : World) (hr0_2 : Kd.C k89 w A0_2 l0_2.length l0_2) (hc0_2 : l0_2.length ≤ c0_2) (hr0_3 : Kd.C k91 w A0_3 l0_3.length l0_3) (hc0_3 : l0_3.length ≤ c0_3) (h : spec_PkgOk.f k a0_0 a0_1 l0_2 l0_3 = some r) :
  Calls Try.prog 52 #[.agg #[.int .i64 a0_0, .int .i64 a0_1, .slice A0_2 l0_2.length c0_2, .slice A0_3 l0_3.length c0_3]] w fun e w' => e = .returned (.bool r) ∧ Below w.heap.size w w' := by
 have hu29 := Try.underlying29; have HR0_2 := aM hr0_2; have HC0_2 := aM hc0_2; clear hr0_2 hc0_2; have HR0_3 := aM hr0_3; have HC0_3 := aM hc0_3; clear hr0_3 hc0_3; have HB := aM (Below.refl w.heap.size w); have H : ((spec_l6In.f a0_0 1 4).bind fun t272 => (if t272 = true then ((spec_l6In.f a0_1 1 5).bind fun t273 => (if t273 = true then ((spec_l1Files.f k l0_2).bind fun t274 => (if t274 = true then ((spec_l1Deps.f k a0_0 l0_3).bind fun t275 => (some t275)) else (some false))) else (some false))) else (some false))) = some r := h; clear h; replace H := Option.bind_eq_some_iff.mp H; obtain ⟨t272, A20, H⟩ := H; (try dsimp only at H); have A2 := aM A20; clear A20
 by_cases c3 : t272 = true
 ·subst c3; replace H := zy1 H; replace H := Option.bind_eq_some_iff.mp H; obtain ⟨t273, A40, H⟩ := H; (try dsimp only at H); have A4 := aM A40; clear A40
  by_cases c5 : t273 = true
  ·subst c5; replace H := zy1 H; replace H := Option.bind_eq_some_iff.mp H; obtain ⟨t274, A60, H⟩ := H; (try dsimp only at H); have A6 := aM A60; clear A60
   by_cases c7 : t274 = true
   ·subst c7; replace H := zy1 H; replace H := Option.bind_eq_some_iff.mp H; obtain ⟨t275, A80, H⟩ := H; (try dsimp only at H); have A8 := aM A80; clear A80; obtain rfl := Option.some.inj H
    go_enter Try.func52, Try.ntmps52
    go_wp2_with (first | ((with_reducible refine gate_dst (N := 1) rfl ?_); refine zbx 1 #[.int .i64 a0_0, .int .i64 a0_1, .slice A0_2 l0_2.length c0_2, .slice A0_3 l0_3.length c0_3] 29 ?_; intro gb271 hg w9 hbox hb; have _ := aM (below_step (zB HB.1) hb); have _ := aM (hbox); have _ := aM (zge hg (zB HB.1)); have _ := aM (zge hg (zB HB.1)); clear HB; rename_i HB BK271 GW271 GE271; clear hb hbox hg; obtain ⟨hcz10_0, hcz10_1, hcz10_2, hcz10_3, hfz10_0, hfz10_1, hfz10_2, hfz10_3⟩ := zc4f BK271.1) | ((with_reducible refine gate_callee (f := 43) rfl ?_); refine zgL (some 5) Try.func43 #[.int .i64 a0_0, .int .i64 1, .int .i64 4] ?_; (with_reducible refine (spec_l6In.calls a0_0 1 4 true _ A2.1).mono ?_); rintro e w' ⟨rfl, ⟨nd, rfl⟩⟩; refine ⟨_, rfl, ?_⟩) | (go_at_call 43; (with_reducible refine (spec_l6In.calls a0_1 1 5 true _ A4.1).mono ?_); rintro e w' ⟨rfl, ⟨nd, rfl⟩⟩) | (go_at_call 75; (with_reducible refine (spec_l1Files.calls k _ _ l0_2 true _ ?side1 ?side2 A6.1).mono ?_); (case side1 => exact (Kd.C_below HR0_2.1 (zB1 HB.1 GE271.1))); (case side2 => exact HC0_2.1); rintro e w11 ⟨rfl, hb⟩; have _ := aM (blk_below (zK BK271.1) hb); have _ := aM (below_step (zB1 HB.1 GE271.1) hb); clear BK271 HB; rename_i BK271 HB; (try clear hb); (try clear hb2); (try clear hk); (try clear hi); obtain ⟨hcz12_0, hcz12_1, hcz12_2, hcz12_3, hfz12_0, hfz12_1, hfz12_2, hfz12_3⟩ := zc4f BK271.1) | (go_at_call 76; (with_reducible refine (spec_l1Deps.calls k a0_0 _ _ l0_3 t275 _ ?side1 ?side2 A8.1).mono ?_); (case side1 => exact zC (Kd.C_below HR0_3.1 HB.1)); (case side2 => exact HC0_3.1); rintro e w13 ⟨rfl, hb⟩; have _ := aM (blk_below (zK BK271.1) hb); have _ := aM (below_step (zB1 HB.1 GE271.1) hb); clear BK271 HB; rename_i BK271 HB; (try clear hb); (try clear hb2); (try clear hk); (try clear hi)))
    go_ret
    exact ⟨by first | rfl | (simp [errW_none, errW_some] <;> rfl) | (simp [*, errW_none, errW_some] <;> rfl), by exact zB1 HB.1 GE271.1⟩
   ·replace c7 := Bool.eq_false_iff.mpr c7; subst c7; replace H := zy0 H; obtain rfl := Option.some.inj H
    go_enter Try.func52, Try.ntmps52
    go_wp2_with (first | ((with_reducible refine gate_dst (N := 1) rfl ?_); refine zbx 1 #[.int .i64 a0_0, .int .i64 a0_1, .slice A0_2 l0_2.length c0_2, .slice A0_3 l0_3.length c0_3] 29 ?_; intro gb271 hg w14 hbox hb; have _ := aM (below_step (zB HB.1) hb); have _ := aM (hbox); have _ := aM (zge hg (zB HB.1)); have _ := aM (zge hg (zB HB.1)); clear HB; rename_i HB BK271 GW271 GE271; clear hb hbox hg; obtain ⟨hcz15_0, hcz15_1, hcz15_2, hcz15_3, hfz15_0, hfz15_1, hfz15_2, hfz15_3⟩ := zc4f BK271.1) | ((with_reducible refine gate_callee (f := 43) rfl ?_); refine zgL (some 5) Try.func43 #[.int .i64 a0_0, .int .i64 1, .int .i64 4] ?_; (with_reducible refine (spec_l6In.calls a0_0 1 4 true _ A2.1).mono ?_); rintro e w' ⟨rfl, ⟨nd, rfl⟩⟩; refine ⟨_, rfl, ?_⟩) | (go_at_call 43; (with_reducible refine (spec_l6In.calls a0_1 1 5 true _ A4.1).mono ?_); rintro e w' ⟨rfl, ⟨nd, rfl⟩⟩) | (go_at_call 75; (with_reducible refine (spec_l1Files.calls k _ _ l0_2 false _ ?side1 ?side2 A6.1).mono ?_); (case side1 => exact (Kd.C_below HR0_2.1 (zB1 HB.1 GE271.1))); (case side2 => exact HC0_2.1); rintro e w16 ⟨rfl, hb⟩; have _ := aM (blk_below (zK BK271.1) hb); have _ := aM (below_step (zB1 HB.1 GE271.1) hb); clear BK271 HB; rename_i BK271 HB; (try clear hb); (try clear hb2); (try clear hk); (try clear hi)))
    go_ret
    exact ⟨by first | rfl | (simp [errW_none, errW_some] <;> rfl) | (simp [*, errW_none, errW_some] <;> rfl), by exact zB1 HB.1 GE271.1⟩
  ·replace c5 := Bool.eq_false_iff.mpr c5; subst c5; replace H := zy0 H; obtain rfl := Option.some.inj H
   go_enter Try.func52, Try.ntmps52
   go_wp2_with (first | ((with_reducible refine gate_dst (N := 1) rfl ?_); refine zbx 1 #[.int .i64 a0_0, .int .i64 a0_1, .slice A0_2 l0_2.length c0_2, .slice A0_3 l0_3.length c0_3] 29 ?_; intro gb271 hg w17 hbox hb; have _ := aM (below_step (zB HB.1) hb); have _ := aM (hbox); have _ := aM (zge hg (zB HB.1)); have _ := aM (zge hg (zB HB.1)); clear HB; rename_i HB BK271 GW271 GE271; clear hb hbox hg; obtain ⟨hcz18_0, hcz18_1, hcz18_2, hcz18_3, hfz18_0, hfz18_1, hfz18_2, hfz18_3⟩ := zc4f BK271.1) | ((with_reducible refine gate_callee (f := 43) rfl ?_); refine zgL (some 5) Try.func43 #[.int .i64 a0_0, .int .i64 1, .int .i64 4] ?_; (with_reducible refine (spec_l6In.calls a0_0 1 4 true _ A2.1).mono ?_); rintro e w' ⟨rfl, ⟨nd, rfl⟩⟩; refine ⟨_, rfl, ?_⟩) | (go_at_call 43; (with_reducible refine (spec_l6In.calls a0_1 1 5 false _ A4.1).mono ?_); rintro e w' ⟨rfl, ⟨nd, rfl⟩⟩))
   go_ret
   exact ⟨by first | rfl | (simp [errW_none, errW_some] <;> rfl) | (simp [*, errW_none, errW_some] <;> rfl), by exact zB1 HB.1 GE271.1⟩
 ·replace c3 := Bool.eq_false_iff.mpr c3; subst c3; replace H := zy0 H; obtain rfl := Option.some.inj H
  go_enter Try.func52, Try.ntmps52
  go_wp2_with (first | ((with_reducible refine gate_dst (N := 1) rfl ?_); refine zbx 1 #[.int .i64 a0_0, .int .i64 a0_1, .slice A0_2 l0_2.length c0_2, .slice A0_3 l0_3.length c0_3] 29 ?_; intro gb271 hg w19 hbox hb; have _ := aM (below_step (zB HB.1) hb); have _ := aM (hbox); have _ := aM (zge hg (zB HB.1)); have _ := aM (zge hg (zB HB.1)); clear HB; rename_i HB BK271 GW271 GE271; clear hb hbox hg; obtain ⟨hcz20_0, hcz20_1, hcz20_2, hcz20_3, hfz20_0, hfz20_1, hfz20_2, hfz20_3⟩ := zc4f BK271.1) | ((with_reducible refine gate_callee (f := 43) rfl ?_); refine zgL (some 5) Try.func43 #[.int .i64 a0_0, .int .i64 1, .int .i64 4] ?_; (with_reducible refine (spec_l6In.calls a0_0 1 4 false _ A2.1).mono ?_); rintro e w' ⟨rfl, ⟨nd, rfl⟩⟩; refine ⟨_, rfl, ?_⟩))
  go_ret
  exact ⟨by first | rfl | (simp [errW_none, errW_some] <;> rfl) | (simp [*, errW_none, errW_some] <;> rfl), by exact zB1 HB.1 GE271.1⟩

/-! ### spec_l3Pkgs: function 28 -/
mutual
def spec_l3Pkgs.l0 : Nat → List (S29) → Int → Option (Bool)
 | 0, _, _ => none
 | k + 1, x0, x3 => if x3 < (x0.length : Int) then (if 0 ≤ x3 then ((spec_PkgOk.f k ((rd_T29 x0 x3).f0) ((rd_T29 x0 x3).f1) ((rd_T29 x0 x3).f2) ((rd_T29 x0 x3).f3)).bind fun t277 => (if t277 = true then (if x3 > 0 then (if 0 ≤ (wrap64 (x3 - 1)) then (if (wrap64 (x3 - 1)) < (x0.length : Int) then ((spec_l3Less.f ((rd_T29 x0 (wrap64 (x3 - 1))).f0) ((rd_T29 x0 (wrap64 (x3 - 1))).f1) ((rd_T29 x0 x3).f0) ((rd_T29 x0 x3).f1)).bind fun t282 => (spec_l3Pkgs.j1 k x0 x3 (!t282))) else (none)) else (none)) else (spec_l3Pkgs.j1 k x0 x3 false)) else (spec_l3Pkgs.j1 k x0 x3 true))) else (none)) else (some true)
def spec_l3Pkgs.j1 : Nat → List (S29) → Int → Bool → Option (Bool)
 | 0, _, _, _ => none
 | k + 1, x0, x3, x45 => if x45 = true then (some false) else (spec_l3Pkgs.l0 k x0 (wrap64 (x3 + 1)))
end
def spec_l3Pkgs.f (k : Nat) (l0 : List (S29)) : Option (Bool) := spec_l3Pkgs.l0 k l0 0
theorem spec_l3Pkgs.mono_l : ∀ k, (∀ y0 y1, LeO (spec_l3Pkgs.l0 k y0 y1) (spec_l3Pkgs.l0 (k + 1) y0 y1)) ∧ (∀ y0 y1 y2, LeO (spec_l3Pkgs.j1 k y0 y1 y2) (spec_l3Pkgs.j1 (k + 1) y0 y1 y2))
 | 0 => ⟨fun _ _ r h => by simp [spec_l3Pkgs.l0] at h, fun _ _ _ r h => by simp [spec_l3Pkgs.j1] at h⟩
 | k + 1 => by
  obtain ⟨ih0, ih1⟩ := spec_l3Pkgs.mono_l k
  refine ⟨?_, ?_⟩
  ·intro y0 y1
   unfold spec_l3Pkgs.l0
   repeat' first
   | (with_reducible exact ih0 _ _)
   | (with_reducible exact ih1 _ _ _)
   | (with_reducible exact spec_PkgOk.mono _ _ _ _ _)
   | (with_reducible exact LeO.refl _)
   | (with_reducible exact LeO.none _)
   | (with_reducible refine LeO.ite ?_ ?_)
   | (with_reducible refine LeO.bind ?_ (fun _ => ?_))
   | exact ih0 _ _
   | exact ih1 _ _ _
   | exact spec_PkgOk.mono _ _ _ _ _
   | exact LeO.none _
   | refine LeO.ite ?_ ?_
   | refine LeO.bind ?_ (fun _ => ?_)
  ·intro y0 y1 y2
   unfold spec_l3Pkgs.j1
   repeat' first
   | (with_reducible exact ih0 _ _)
   | (with_reducible exact ih1 _ _ _)
   | (with_reducible exact spec_PkgOk.mono _ _ _ _ _)
   | (with_reducible exact LeO.refl _)
   | (with_reducible exact LeO.none _)
   | (with_reducible refine LeO.ite ?_ ?_)
   | (with_reducible refine LeO.bind ?_ (fun _ => ?_))
   | exact ih0 _ _
   | exact ih1 _ _ _
   | exact spec_PkgOk.mono _ _ _ _ _
   | exact LeO.none _
   | refine LeO.ite ?_ ?_
   | refine LeO.bind ?_ (fun _ => ?_)
theorem spec_l3Pkgs.mono : ∀ a0 k, LeO (spec_l3Pkgs.f k a0) (spec_l3Pkgs.f (k + 1) a0) := by
 intro a0 k
 obtain ⟨ih0, ih1⟩ := spec_l3Pkgs.mono_l k
 unfold spec_l3Pkgs.f
 repeat' with_reducible first | apply ih0 | apply ih1 | apply spec_PkgOk.mono | exact LeO.refl _ | exact LeO.none _ | refine LeO.ite ?_ ?_ | refine LeO.bind ?_ (fun _ => ?_)
def spec_l3Pkgs.T4 : Bool × List (List Nat × List Nat) := (true, [([], []), ([], []), ([0, 1], [0, 1]), ([2], [2]), ([3], [3]), ([4], [4]), ([5, 4], [5]), ([6], [6]), ([7, 6], [6, 7]), ([8, 6, 6], [6, 8]), ([9], [9]), ([9], [9]), ([11, 9], [9, 11]), ([10, 12, 9], [9, 10, 12]), ([13, 9], [9, 13]), ([14, 9], [9, 14]), ([9], [9]), ([9], [9]), ([17, 9], [9, 17]), ([16, 18, 9], [9, 16, 18]), ([19, 9], [9, 19]), ([20, 9], [9, 20]), ([9], [9]), ([9], [9]), ([22, 23, 9], [9, 22, 23]), ([24, 9], [9, 24]), ([25, 9], [9, 25]), ([9], [9]), ([9], [9]), ([27, 28, 9], [9, 27, 28]), ([29, 9], [9, 29]), ([30, 9], [9, 30]), ([15, 21, 26, 31, 9, 9], [9, 15, 21, 26, 31]), ([32, 9], [9, 32]), ([9, 33, 6], [6, 9, 33]), ([6, 34], [6, 34])])
def spec_l3Pkgs.B4 : List Nat := [0, 0, 3, 7, 15, 31, 63, 127, 255, 511, 1023, 1023, 3071, 8191, 16383, 32767, 1023, 1023, 132095, 459775, 984063, 2032639, 1023, 1023, 12583935, 29361151, 62915583, 1023, 1023, 402654207, 939525119, 2013266943, 4294967295, 8589934591, 17179869183, 34359738367]
theorem spec_l3Pkgs.tab4 : rtab .any (opsOf Try.f28 4) = spec_l3Pkgs.T4 := by kernel_rfl
theorem spec_l3Pkgs.bits4 : waitsOk spec_l3Pkgs.T4.2 spec_l3Pkgs.B4 = true := by kernel_rfl
set_option maxHeartbeats 8000000 in
set_option maxRecDepth 100000 in
theorem spec_l3Pkgs.calls (k : Nat) (A0 : Option Addr) (c0 : Nat) (l0 : List (S29)) (r : Bool) (w : World) (hr0 : Kd.C k29 w A0 l0.length l0) (hc0 : l0.length ≤ c0) (h : spec_l3Pkgs.f k l0 = some r) :
  Calls Try.prog 28 #[.slice A0 l0.length c0] w fun e w' => e = .returned (.bool r) ∧ Below w.heap.size w w' := by
 have hu29 := Try.underlying29; have HR0 := aM hr0; have HC0 := aM hc0; clear hr0 hc0; have HB := aM (Below.refl w.heap.size w); have H : (spec_l3Pkgs.l0 k l0 0) = some r := h; clear h; have H' := aM H; clear H
 go_enter Try.func28, Try.ntmps28
 go_wp2
 go_loopg [3] k (fun kq v3 w' => ∃ (x3_1 : Int), v3 = .int .i64 x3_1 ∧ Aside0 (spec_l3Pkgs.l0 kq l0 x3_1 = some r) ∧ Aside0 (kq ≤ k) ∧ Aside0 (Below w.heap.size w w'))
 case atStart => exact ⟨(0), (by first | rfl | (simp; done) | (simp [*]; done)), H', ⟨Nat.le_refl _⟩, ⟨zB HB.1⟩⟩
 case round =>
  clear H'; obtain ⟨x3_1, rfl, HA, HK1, HB⟩ := hrel; cases gk with
  | zero => exact absurd HA.1 (by simp [spec_l3Pkgs.l0])
  | succ k1 =>
   have H := HA.1; clear HA; simp only [spec_l3Pkgs.l0] at H
   by_cases c2 : x3_1 < (l0.length : Int)
   ·rw [if_pos c2] at H; have c2b0 : decide (x3_1 < (l0.length : Int)) = true := decide_eq_true c2; clear c2; have HC3 := aM H; clear H
    go_upto_region 4 with (fail)
    go_cut [45] (fun v45 wc => ∃ (kq : Nat) (x45_2 : Bool), v45 = .bool x45_2 ∧ Aside0 (spec_l3Pkgs.j1 kq l0 x3_1 x45_2 = some r) ∧ Aside0 (kq ≤ k1) ∧ Aside0 (Below w.heap.size w wc))
    case first =>
     have H := HC3.1; clear HC3; replace H := zif H; obtain ⟨c4, H⟩ := H; have c4b0 : decide (0 ≤ x3_1) = true := decide_eq_true c4; clear c4; (first | rw [c4b0] | (simp only [i64_w, i32_w]; rw [c4b0]) | skip); replace H := Option.bind_eq_some_iff.mp H; obtain ⟨t277, A50, H⟩ := H; (try dsimp only at H); have A5 := aM A50; clear A50
     by_cases c6 : t277 = true
     ·subst c6; replace H := zy1 H
      by_cases c7 : x3_1 > 0
      ·rw [if_pos c7] at H; have c7b0 : decide (0 < x3_1) = true := decide_eq_true c7; clear c7; obtain ⟨ji8, hji8⟩ : ∃ j_ : Int, (wrap64 (x3_1 - 1)) = j_ := ⟨_, rfl⟩
       replace H : (if 0 ≤ (ji8) then (if (ji8) < (l0.length : Int) then ((spec_l3Less.f ((rd_T29 l0 (ji8)).f0) ((rd_T29 l0 (ji8)).f1) ((rd_T29 l0 x3_1).f0) ((rd_T29 l0 x3_1).f1)).bind fun t282 => (spec_l3Pkgs.j1 k1 l0 x3_1 (!t282))) else (none)) else (none)) = some r := by first | (rw [hji8] at H; exact H) | (simp only [hji8] at H ⊢; exact H)
       (try rw [hji8] at A5); have hji8w : (IntKind.i64.wrap (x3_1 - 1)) = ji8 := (i64_w _).trans hji8; replace H := zif H; obtain ⟨c9, H⟩ := H; have c9b0 : decide (0 ≤ (ji8)) = true := decide_eq_true c9; clear c9; replace H := zif H; obtain ⟨c10, H⟩ := H; have c10b0 : decide ((ji8) < (l0.length : Int)) = true := decide_eq_true c10; clear c10; replace H := Option.bind_eq_some_iff.mp H; obtain ⟨t282, A110, H⟩ := H; (try dsimp only at H); have A11 := aM A110; clear A110; have H' := aM H; clear H
       try go_wp2
       have _ := aM (below_drew1 HB.1); clear HB; rename_i HB; have p276 : 0 ≤ (x3_1 : Int) := zd; have q276 : x3_1 < (l0.length : Int) := zd; obtain ⟨ad276, A276_2, c276_2, A276_3, c276_3, e276, hx276_0, hx276_1, hx276_2, hx276_3, hl276_2, hi276_2, hl276_3, hi276_3⟩ := at_T29 HR0.1 x3_1 p276 q276; have hw276_3 := hx276_3; have hw276_2 := hx276_2; have hw276_1 := hx276_1; have hw276_0 := hx276_0; cases e276; replace hx276_0 := (HB.1.cell (World.block_lt_of_cell? w _ hx276_0)).trans hx276_0; replace hx276_1 := (HB.1.cell (World.block_lt_of_cell? w _ hx276_1)).trans hx276_1; replace hx276_2 := (HB.1.cell (World.block_lt_of_cell? w _ hx276_2)).trans hx276_2; replace hx276_3 := (HB.1.cell (World.block_lt_of_cell? w _ hx276_3)).trans hx276_3; have HR276_2 := aM hi276_2; have HC276_2 := aM hl276_2; clear hi276_2 hl276_2; have HR276_3 := aM hi276_3; have HC276_3 := aM hl276_3; clear hi276_3 hl276_3; replace p276 := eq_true p276; replace q276 := eq_true q276; have p278 : 0 ≤ ((ji8) : Int) := zd; have q278 : (ji8) < (l0.length : Int) := zd; obtain ⟨ad278, A278_2, c278_2, A278_3, c278_3, e278, hx278_0, hx278_1, hx278_2, hx278_3, hl278_2, hi278_2, hl278_3, hi278_3⟩ := at_T29 HR0.1 (ji8) p278 q278; have hw278_3 := hx278_3; have hw278_2 := hx278_2; have hw278_1 := hx278_1; have hw278_0 := hx278_0; obtain rfl : ad276 = ad278 := (by injection e278); replace hx278_0 := (HB.1.cell (World.block_lt_of_cell? w _ hx278_0)).trans hx278_0; replace hx278_1 := (HB.1.cell (World.block_lt_of_cell? w _ hx278_1)).trans hx278_1; replace hx278_2 := (HB.1.cell (World.block_lt_of_cell? w _ hx278_2)).trans hx278_2; replace hx278_3 := (HB.1.cell (World.block_lt_of_cell? w _ hx278_3)).trans hx278_3; have HR278_2 := aM hi278_2; have HC278_2 := aM hl278_2; clear hi278_2 hl278_2; have HR278_3 := aM hi278_3; have HC278_3 := aM hl278_3; clear hi278_3 hl278_3; replace p278 := eq_true p278; replace q278 := eq_true q278; have p279 : 0 ≤ ((ji8) : Int) := zd; have q279 : (ji8) < (l0.length : Int) := zd; obtain ⟨ad279, A279_2, c279_2, A279_3, c279_3, e279, hx279_0, hx279_1, hx279_2, hx279_3, hl279_2, hi279_2, hl279_3, hi279_3⟩ := at_T29 HR0.1 (ji8) p279 q279; have hw279_3 := hx279_3; have hw279_2 := hx279_2; have hw279_1 := hx279_1; have hw279_0 := hx279_0; obtain rfl : ad276 = ad279 := (by injection e279); replace hx279_0 := (HB.1.cell (World.block_lt_of_cell? w _ hx279_0)).trans hx279_0; replace hx279_1 := (HB.1.cell (World.block_lt_of_cell? w _ hx279_1)).trans hx279_1; replace hx279_2 := (HB.1.cell (World.block_lt_of_cell? w _ hx279_2)).trans hx279_2; replace hx279_3 := (HB.1.cell (World.block_lt_of_cell? w _ hx279_3)).trans hx279_3; have HR279_2 := aM hi279_2; have HC279_2 := aM hl279_2; clear hi279_2 hl279_2; have HR279_3 := aM hi279_3; have HC279_3 := aM hl279_3; clear hi279_3 hl279_3; replace p279 := eq_true p279; replace q279 := eq_true q279; have ea_ := Option.some.inj (hx278_2.symm.trans hx279_2); injection ea_ with ea_ en_ ec_; subst ea_; subst ec_; clear en_; have ea_ := Option.some.inj (hx278_3.symm.trans hx279_3); injection ea_ with ea_ en_ ec_; subst ea_; subst ec_; clear en_; have p280 : 0 ≤ (x3_1 : Int) := zd; have q280 : x3_1 < (l0.length : Int) := zd; obtain ⟨ad280, A280_2, c280_2, A280_3, c280_3, e280, hx280_0, hx280_1, hx280_2, hx280_3, hl280_2, hi280_2, hl280_3, hi280_3⟩ := at_T29 HR0.1 x3_1 p280 q280; have hw280_3 := hx280_3; have hw280_2 := hx280_2; have hw280_1 := hx280_1; have hw280_0 := hx280_0; obtain rfl : ad276 = ad280 := (by injection e280); replace hx280_0 := (HB.1.cell (World.block_lt_of_cell? w _ hx280_0)).trans hx280_0; replace hx280_1 := (HB.1.cell (World.block_lt_of_cell? w _ hx280_1)).trans hx280_1; replace hx280_2 := (HB.1.cell (World.block_lt_of_cell? w _ hx280_2)).trans hx280_2; replace hx280_3 := (HB.1.cell (World.block_lt_of_cell? w _ hx280_3)).trans hx280_3; have HR280_2 := aM hi280_2; have HC280_2 := aM hl280_2; clear hi280_2 hl280_2; have HR280_3 := aM hi280_3; have HC280_3 := aM hl280_3; clear hi280_3 hl280_3; replace p280 := eq_true p280; replace q280 := eq_true q280; have p281 : 0 ≤ (x3_1 : Int) := zd; have q281 : x3_1 < (l0.length : Int) := zd; obtain ⟨ad281, A281_2, c281_2, A281_3, c281_3, e281, hx281_0, hx281_1, hx281_2, hx281_3, hl281_2, hi281_2, hl281_3, hi281_3⟩ := at_T29 HR0.1 x3_1 p281 q281; have hw281_3 := hx281_3; have hw281_2 := hx281_2; have hw281_1 := hx281_1; have hw281_0 := hx281_0; obtain rfl : ad276 = ad281 := (by injection e281); replace hx281_0 := (HB.1.cell (World.block_lt_of_cell? w _ hx281_0)).trans hx281_0; replace hx281_1 := (HB.1.cell (World.block_lt_of_cell? w _ hx281_1)).trans hx281_1; replace hx281_2 := (HB.1.cell (World.block_lt_of_cell? w _ hx281_2)).trans hx281_2; replace hx281_3 := (HB.1.cell (World.block_lt_of_cell? w _ hx281_3)).trans hx281_3; have HR281_2 := aM hi281_2; have HC281_2 := aM hl281_2; clear hi281_2 hl281_2; have HR281_3 := aM hi281_3; have HC281_3 := aM hl281_3; clear hi281_3 hl281_3; replace p281 := eq_true p281; replace q281 := eq_true q281; have ea_ := Option.some.inj (hx280_2.symm.trans hx281_2); injection ea_ with ea_ en_ ec_; subst ea_; subst ec_; clear en_; have ea_ := Option.some.inj (hx280_3.symm.trans hx281_3); injection ea_ with ea_ en_ ec_; subst ea_; subst ec_; clear en_
       refine start_ (n := 36) (S := fun w' => w'.cell? (ad276.add ((x3_1).toNat * 4)) = some (.int .i64 ((rd_T29 l0 x3_1).f0)) ∧ w'.cell? ⟨(ad276.add ((x3_1).toNat * 4)).block, (ad276.add ((x3_1).toNat * 4)).off + 1, none⟩ = some (.int .i64 ((rd_T29 l0 x3_1).f1)) ∧ w'.cell? ⟨(ad276.add ((x3_1).toNat * 4)).block, (ad276.add ((x3_1).toNat * 4)).off + 2, none⟩ = some (.slice A276_2 ((rd_T29 l0 x3_1).f2).length c276_2) ∧ w'.cell? ⟨(ad276.add ((x3_1).toNat * 4)).block, (ad276.add ((x3_1).toNat * 4)).off + 3, none⟩ = some (.slice A276_3 ((rd_T29 l0 x3_1).f3).length c276_3) ∧ w'.cell? (ad276.add (((ji8)).toNat * 4)) = some (.int .i64 ((rd_T29 l0 (ji8)).f0)) ∧ w'.cell? ⟨(ad276.add (((ji8)).toNat * 4)).block, (ad276.add (((ji8)).toNat * 4)).off + 1, none⟩ = some (.int .i64 ((rd_T29 l0 (ji8)).f1)) ∧ w'.cell? ⟨(ad276.add (((ji8)).toNat * 4)).block, (ad276.add (((ji8)).toNat * 4)).off + 2, none⟩ = some (.slice A278_2 ((rd_T29 l0 (ji8)).f2).length c278_2) ∧ w'.cell? ⟨(ad276.add (((ji8)).toNat * 4)).block, (ad276.add (((ji8)).toNat * 4)).off + 3, none⟩ = some (.slice A278_3 ((rd_T29 l0 (ji8)).f3).length c278_3) ∧ w'.cell? (ad276.add (((ji8)).toNat * 4)) = some (.int .i64 ((rd_T29 l0 (ji8)).f0)) ∧ w'.cell? ⟨(ad276.add (((ji8)).toNat * 4)).block, (ad276.add (((ji8)).toNat * 4)).off + 1, none⟩ = some (.int .i64 ((rd_T29 l0 (ji8)).f1)) ∧ w'.cell? ⟨(ad276.add (((ji8)).toNat * 4)).block, (ad276.add (((ji8)).toNat * 4)).off + 2, none⟩ = some (.slice A278_2 ((rd_T29 l0 (ji8)).f2).length c278_2) ∧ w'.cell? ⟨(ad276.add (((ji8)).toNat * 4)).block, (ad276.add (((ji8)).toNat * 4)).off + 3, none⟩ = some (.slice A278_3 ((rd_T29 l0 (ji8)).f3).length c278_3) ∧ w'.cell? (ad276.add ((x3_1).toNat * 4)) = some (.int .i64 ((rd_T29 l0 x3_1).f0)) ∧ w'.cell? ⟨(ad276.add ((x3_1).toNat * 4)).block, (ad276.add ((x3_1).toNat * 4)).off + 1, none⟩ = some (.int .i64 ((rd_T29 l0 x3_1).f1)) ∧ w'.cell? ⟨(ad276.add ((x3_1).toNat * 4)).block, (ad276.add ((x3_1).toNat * 4)).off + 2, none⟩ = some (.slice A280_2 ((rd_T29 l0 x3_1).f2).length c280_2) ∧ w'.cell? ⟨(ad276.add ((x3_1).toNat * 4)).block, (ad276.add ((x3_1).toNat * 4)).off + 3, none⟩ = some (.slice A280_3 ((rd_T29 l0 x3_1).f3).length c280_3) ∧ w'.cell? (ad276.add ((x3_1).toNat * 4)) = some (.int .i64 ((rd_T29 l0 x3_1).f0)) ∧ w'.cell? ⟨(ad276.add ((x3_1).toNat * 4)).block, (ad276.add ((x3_1).toNat * 4)).off + 1, none⟩ = some (.int .i64 ((rd_T29 l0 x3_1).f1)) ∧ w'.cell? ⟨(ad276.add ((x3_1).toNat * 4)).block, (ad276.add ((x3_1).toNat * 4)).off + 2, none⟩ = some (.slice A280_2 ((rd_T29 l0 x3_1).f2).length c280_2) ∧ w'.cell? ⟨(ad276.add ((x3_1).toNat * 4)).block, (ad276.add ((x3_1).toNat * 4)).off + 3, none⟩ = some (.slice A280_3 ((rd_T29 l0 x3_1).f3).length c280_3)) (ds := []) (zA 36 0) (by kernel_rfl) rfl rfl ⟨((HB.1.cell (World.block_lt_of_cell? w _ hw276_0)).trans hw276_0), ((HB.1.cell (World.block_lt_of_cell? w _ hw276_1)).trans hw276_1), ((HB.1.cell (World.block_lt_of_cell? w _ hw276_2)).trans hw276_2), ((HB.1.cell (World.block_lt_of_cell? w _ hw276_3)).trans hw276_3), ((HB.1.cell (World.block_lt_of_cell? w _ hw278_0)).trans hw278_0), ((HB.1.cell (World.block_lt_of_cell? w _ hw278_1)).trans hw278_1), ((HB.1.cell (World.block_lt_of_cell? w _ hw278_2)).trans hw278_2), ((HB.1.cell (World.block_lt_of_cell? w _ hw278_3)).trans hw278_3), ((HB.1.cell (World.block_lt_of_cell? w _ hw279_0)).trans hw279_0), ((HB.1.cell (World.block_lt_of_cell? w _ hw279_1)).trans hw279_1), ((HB.1.cell (World.block_lt_of_cell? w _ hw279_2)).trans hw279_2), ((HB.1.cell (World.block_lt_of_cell? w _ hw279_3)).trans hw279_3), ((HB.1.cell (World.block_lt_of_cell? w _ hw280_0)).trans hw280_0), ((HB.1.cell (World.block_lt_of_cell? w _ hw280_1)).trans hw280_1), ((HB.1.cell (World.block_lt_of_cell? w _ hw280_2)).trans hw280_2), ((HB.1.cell (World.block_lt_of_cell? w _ hw280_3)).trans hw280_3), ((HB.1.cell (World.block_lt_of_cell? w _ hw281_0)).trans hw281_0), ((HB.1.cell (World.block_lt_of_cell? w _ hw281_1)).trans hw281_1), ((HB.1.cell (World.block_lt_of_cell? w _ hw281_2)).trans hw281_2), ((HB.1.cell (World.block_lt_of_cell? w _ hw281_3)).trans hw281_3)⟩ (fun hHeld => ?_); refine with_tabW spec_l3Pkgs.tab4 spec_l3Pkgs.bits4 (fun HT_ HW_ => ?_)
       generalize wr.drew = w12 at HB HR276_2 HR276_3 HR278_2 HR278_3 HR279_2 HR279_3 HR280_2 HR280_3 HR281_2 HR281_3 hx276_0 hx276_1 hx276_2 hx276_3 hx278_0 hx278_1 hx278_2 hx278_3 hx279_0 hx279_1 hx279_2 hx279_3 hx280_0 hx280_1 hx280_2 hx280_3 hx281_0 hx281_1 hx281_2 hx281_3 hHeld ⊢; refine zu HT_ 0 (some 10) (zA 36 1) ?_; refine zu HT_ 1 (some 11) (zA 36 3) ?_; refine zu HT_ 2 (some 12) (zA 36 7) ?_; refine take_ (i := 3) (N := some 13) (v := ?_) (a' := ?_) (zA 36 15) rfl rfl (take_ofW HT_.1 HW_.1 (by kernel_rfl)) (fun _ _ _ h => h) (Or.inl ⟨by rfl, ?_⟩) hHeld ?_ ?_; rotate_left
       ·rintro w' ⟨s0, s1, s2, s3, s4, s5, s6, s7, s8, s9, s10, s11, s12, s13, s14, s15, s16, s17, s18, s19⟩
        go_simp
        (with_reducible rfl)
       rotate_left
       ·simp only [zp0, zp1, zp2, zp3, zp4, i64_w, i32_w]; rfl
       refine zo HT_ 4 (some 14) (zA 36 31) (fun K hK => ?_); refine zg Try.func52 #[.agg #[.int .i64 ((rd_T29 l0 x3_1).f0), .int .i64 ((rd_T29 l0 x3_1).f1), .slice A276_2 ((rd_T29 l0 x3_1).f2).length c276_2, .slice A276_3 ((rd_T29 l0 x3_1).f3).length c276_3]] ?_; (with_reducible refine (spec_PkgOk.calls k1 ((rd_T29 l0 x3_1).f0) ((rd_T29 l0 x3_1).f1) _ _ ((rd_T29 l0 x3_1).f2) _ _ ((rd_T29 l0 x3_1).f3) true _ ?side1 ?side2 ?side3 ?side4 A5.1).mono ?_); (case side1 => exact zC (Kd.C_below HR276_2.1 HB.1)); (case side2 => exact HC276_2.1); (case side3 => exact zC (Kd.C_below HR276_3.1 HB.1)); (case side4 => exact HC276_3.1); rintro e w13 ⟨rfl, hb⟩; refine ⟨_, rfl, ?_⟩; have _ := aM (below_step (zB HB.1) hb); clear HB; rename_i HB; (try clear hb); (try clear hb2); (try clear hk); (try clear hi); refine hK.out _ _ ⟨((HB.1.cell (World.block_lt_of_cell? w _ hw276_0)).trans hw276_0), ((HB.1.cell (World.block_lt_of_cell? w _ hw276_1)).trans hw276_1), ((HB.1.cell (World.block_lt_of_cell? w _ hw276_2)).trans hw276_2), ((HB.1.cell (World.block_lt_of_cell? w _ hw276_3)).trans hw276_3), ((HB.1.cell (World.block_lt_of_cell? w _ hw278_0)).trans hw278_0), ((HB.1.cell (World.block_lt_of_cell? w _ hw278_1)).trans hw278_1), ((HB.1.cell (World.block_lt_of_cell? w _ hw278_2)).trans hw278_2), ((HB.1.cell (World.block_lt_of_cell? w _ hw278_3)).trans hw278_3), ((HB.1.cell (World.block_lt_of_cell? w _ hw279_0)).trans hw279_0), ((HB.1.cell (World.block_lt_of_cell? w _ hw279_1)).trans hw279_1), ((HB.1.cell (World.block_lt_of_cell? w _ hw279_2)).trans hw279_2), ((HB.1.cell (World.block_lt_of_cell? w _ hw279_3)).trans hw279_3), ((HB.1.cell (World.block_lt_of_cell? w _ hw280_0)).trans hw280_0), ((HB.1.cell (World.block_lt_of_cell? w _ hw280_1)).trans hw280_1), ((HB.1.cell (World.block_lt_of_cell? w _ hw280_2)).trans hw280_2), ((HB.1.cell (World.block_lt_of_cell? w _ hw280_3)).trans hw280_3), ((HB.1.cell (World.block_lt_of_cell? w _ hw281_0)).trans hw281_0), ((HB.1.cell (World.block_lt_of_cell? w _ hw281_1)).trans hw281_1), ((HB.1.cell (World.block_lt_of_cell? w _ hw281_2)).trans hw281_2), ((HB.1.cell (World.block_lt_of_cell? w _ hw281_3)).trans hw281_3)⟩ (fun hHeld => ?_); clear hK K; refine zn (some 14) ?_; refine zu HT_ 5 (some 15) (zA 36 63) ?_; refine zu HT_ 6 (some 16) (zA 36 127) ?_; refine zu HT_ 7 (some 17) (zA 36 255) ?_; refine zu HT_ 8 (some 18) (zA 36 511) ?_; refine zu HT_ 9 (some 19) (zA 36 1023) ?_; refine zu HT_ 10 (some 20) (zA 36 2047) ?_; refine zu HT_ 11 (some 21) (zA 36 4095) ?_; refine zu HT_ 12 (some 22) (zA 36 8191) ?_; refine zu HT_ 13 (some 23) (zA 36 16383) ?_; refine zu HT_ 14 (some 24) (zA 36 32767) ?_; refine zu HT_ 16 (some 26) (zA 36 98303) ?_; refine zu HT_ 17 (some 27) (zA 36 229375) ?_; refine zu HT_ 18 (some 28) (zA 36 491519) ?_; refine zu HT_ 19 (some 29) (zA 36 1015807) ?_; refine zu HT_ 20 (some 30) (zA 36 2064383) ?_; refine zu HT_ 22 (some 32) (zA 36 6258687) ?_; refine zu HT_ 23 (some 33) (zA 36 14647295) ?_; refine zu HT_ 24 (some 34) (zA 36 31424511) ?_; refine zu HT_ 25 (some 35) (zA 36 64978943) ?_; refine zu HT_ 27 (some 37) (zA 36 199196671) ?_; refine zu HT_ 28 (some 38) (zA 36 467632127) ?_; refine zu HT_ 29 (some 39) (zA 36 1004503039) ?_; refine zu HT_ 30 (some 40) (zA 36 2078244863) ?_; refine take_ (i := 15) (N := some 25) (v := ?_) (a' := ?_) (zA 36 2078277631) rfl rfl (take_ofW HT_.1 HW_.1 (by kernel_rfl)) (fun _ _ _ h => h) (Or.inl ⟨by rfl, ?_⟩) hHeld ?_ ?_; rotate_left
       ·rintro w' ⟨s0, s1, s2, s3, s4, s5, s6, s7, s8, s9, s10, s11, s12, s13, s14, s15, s16, s17, s18, s19⟩
        go_simp
        (with_reducible rfl)
       rotate_left
       ·simp only [zp0, zp1, zp2, zp3, zp4, i64_w, i32_w]; rfl
       refine take_ (i := 21) (N := some 31) (v := ?_) (a' := ?_) (zA 36 2080374783) rfl rfl (take_ofW HT_.1 HW_.1 (by kernel_rfl)) (fun _ _ _ h => h) (Or.inl ⟨by rfl, ?_⟩) hHeld ?_ ?_; rotate_left
       ·rintro w' ⟨s0, s1, s2, s3, s4, s5, s6, s7, s8, s9, s10, s11, s12, s13, s14, s15, s16, s17, s18, s19⟩
        go_simp
        (with_reducible rfl)
       rotate_left
       ·simp only [zp0, zp1, zp2, zp3, zp4, i64_w, i32_w]; rfl
       refine take_ (i := 26) (N := some 36) (v := ?_) (a' := ?_) (zA 36 2147483647) rfl rfl (take_ofW HT_.1 HW_.1 (by kernel_rfl)) (fun _ _ _ h => h) (Or.inl ⟨by rfl, ?_⟩) hHeld ?_ ?_; rotate_left
       ·rintro w' ⟨s0, s1, s2, s3, s4, s5, s6, s7, s8, s9, s10, s11, s12, s13, s14, s15, s16, s17, s18, s19⟩
        go_simp
        (with_reducible rfl)
       rotate_left
       ·simp only [zp0, zp1, zp2, zp3, zp4, i64_w, i32_w]; rfl
       refine take_ (i := 31) (N := some 41) (v := ?_) (a' := ?_) (zA 36 4294967295) rfl rfl (take_ofW HT_.1 HW_.1 (by kernel_rfl)) (fun _ _ _ h => h) (Or.inl ⟨by rfl, ?_⟩) hHeld ?_ ?_; rotate_left
       ·rintro w' ⟨s0, s1, s2, s3, s4, s5, s6, s7, s8, s9, s10, s11, s12, s13, s14, s15, s16, s17, s18, s19⟩
        go_simp
        (with_reducible rfl)
       rotate_left
       ·simp only [zp0, zp1, zp2, zp3, zp4, i64_w, i32_w]; rfl
       refine zo HT_ 32 (some 42) (zA 36 8589934591) (fun K hK => ?_); refine goes_ Try.func53 (by kernel_rfl) rfl #[.int .i64 ((rd_T29 l0 (ji8)).f0), .int .i64 ((rd_T29 l0 (ji8)).f1), .int .i64 ((rd_T29 l0 x3_1).f0), .int .i64 ((rd_T29 l0 x3_1).f1)] (by rfl) rfl rfl (by (try simp only [zm1, zm2, zm3]); first | done | (simp only [hji8]; rfl) | rfl | (simp only [List.length_drop, List.length_take]; rfl)) ?_; (with_reducible refine (spec_l3Less.calls ((rd_T29 l0 (ji8)).f0) ((rd_T29 l0 (ji8)).f1) ((rd_T29 l0 x3_1).f0) ((rd_T29 l0 x3_1).f1) t282 _ A11.1).mono ?_); rintro e w' ⟨rfl, ⟨nd, rfl⟩⟩; refine ⟨_, rfl, ?_⟩; refine hK.out _ _ ⟨((HB.1.cell (World.block_lt_of_cell? w _ hw276_0)).trans hw276_0), ((HB.1.cell (World.block_lt_of_cell? w _ hw276_1)).trans hw276_1), ((HB.1.cell (World.block_lt_of_cell? w _ hw276_2)).trans hw276_2), ((HB.1.cell (World.block_lt_of_cell? w _ hw276_3)).trans hw276_3), ((HB.1.cell (World.block_lt_of_cell? w _ hw278_0)).trans hw278_0), ((HB.1.cell (World.block_lt_of_cell? w _ hw278_1)).trans hw278_1), ((HB.1.cell (World.block_lt_of_cell? w _ hw278_2)).trans hw278_2), ((HB.1.cell (World.block_lt_of_cell? w _ hw278_3)).trans hw278_3), ((HB.1.cell (World.block_lt_of_cell? w _ hw279_0)).trans hw279_0), ((HB.1.cell (World.block_lt_of_cell? w _ hw279_1)).trans hw279_1), ((HB.1.cell (World.block_lt_of_cell? w _ hw279_2)).trans hw279_2), ((HB.1.cell (World.block_lt_of_cell? w _ hw279_3)).trans hw279_3), ((HB.1.cell (World.block_lt_of_cell? w _ hw280_0)).trans hw280_0), ((HB.1.cell (World.block_lt_of_cell? w _ hw280_1)).trans hw280_1), ((HB.1.cell (World.block_lt_of_cell? w _ hw280_2)).trans hw280_2), ((HB.1.cell (World.block_lt_of_cell? w _ hw280_3)).trans hw280_3), ((HB.1.cell (World.block_lt_of_cell? w _ hw281_0)).trans hw281_0), ((HB.1.cell (World.block_lt_of_cell? w _ hw281_1)).trans hw281_1), ((HB.1.cell (World.block_lt_of_cell? w _ hw281_2)).trans hw281_2), ((HB.1.cell (World.block_lt_of_cell? w _ hw281_3)).trans hw281_3)⟩ (fun hHeld => ?_); clear hK K; refine zn (some 42) ?_; refine zu HT_ 33 (some 43) (zA 36 17179869183) ?_; refine zu HT_ 34 (some 44) (zA 36 34359738367) ?_; refine zu HT_ 35 (some 45) (zA 36 68719476735) ?_; refine done_ (done_of HT_.1 (by kernel_rfl)) ?_
       try go_wp2
       go_meet
       case rel => exact ⟨_, (!t282), (by first | rfl | (simp; done) | (simp [*]; done)), H', ⟨by have := HK1.1; first | omega | exact Nat.le_refl _⟩, ⟨zB HB.1⟩⟩
      ·rw [if_neg c7] at H; have c7b0 : decide (0 < x3_1) = false := decide_eq_false c7; clear c7; have H' := aM H; clear H
       try go_wp2
       have _ := aM (below_drew1 HB.1); clear HB; rename_i HB; have p276 : 0 ≤ (x3_1 : Int) := zd; have q276 : x3_1 < (l0.length : Int) := zd; obtain ⟨ad276, A276_2, c276_2, A276_3, c276_3, e276, hx276_0, hx276_1, hx276_2, hx276_3, hl276_2, hi276_2, hl276_3, hi276_3⟩ := at_T29 HR0.1 x3_1 p276 q276; have hw276_3 := hx276_3; have hw276_2 := hx276_2; have hw276_1 := hx276_1; have hw276_0 := hx276_0; cases e276; replace hx276_0 := (HB.1.cell (World.block_lt_of_cell? w _ hx276_0)).trans hx276_0; replace hx276_1 := (HB.1.cell (World.block_lt_of_cell? w _ hx276_1)).trans hx276_1; replace hx276_2 := (HB.1.cell (World.block_lt_of_cell? w _ hx276_2)).trans hx276_2; replace hx276_3 := (HB.1.cell (World.block_lt_of_cell? w _ hx276_3)).trans hx276_3; have HR276_2 := aM hi276_2; have HC276_2 := aM hl276_2; clear hi276_2 hl276_2; have HR276_3 := aM hi276_3; have HC276_3 := aM hl276_3; clear hi276_3 hl276_3; replace p276 := eq_true p276; replace q276 := eq_true q276
       refine start_ (n := 36) (S := fun w' => w'.cell? (ad276.add ((x3_1).toNat * 4)) = some (.int .i64 ((rd_T29 l0 x3_1).f0)) ∧ w'.cell? ⟨(ad276.add ((x3_1).toNat * 4)).block, (ad276.add ((x3_1).toNat * 4)).off + 1, none⟩ = some (.int .i64 ((rd_T29 l0 x3_1).f1)) ∧ w'.cell? ⟨(ad276.add ((x3_1).toNat * 4)).block, (ad276.add ((x3_1).toNat * 4)).off + 2, none⟩ = some (.slice A276_2 ((rd_T29 l0 x3_1).f2).length c276_2) ∧ w'.cell? ⟨(ad276.add ((x3_1).toNat * 4)).block, (ad276.add ((x3_1).toNat * 4)).off + 3, none⟩ = some (.slice A276_3 ((rd_T29 l0 x3_1).f3).length c276_3)) (ds := []) (zA 36 0) (by kernel_rfl) rfl rfl ⟨((HB.1.cell (World.block_lt_of_cell? w _ hw276_0)).trans hw276_0), ((HB.1.cell (World.block_lt_of_cell? w _ hw276_1)).trans hw276_1), ((HB.1.cell (World.block_lt_of_cell? w _ hw276_2)).trans hw276_2), ((HB.1.cell (World.block_lt_of_cell? w _ hw276_3)).trans hw276_3)⟩ (fun hHeld => ?_); refine with_tabW spec_l3Pkgs.tab4 spec_l3Pkgs.bits4 (fun HT_ HW_ => ?_)
       generalize wr.drew = w14 at HB HR276_2 HR276_3 hx276_0 hx276_1 hx276_2 hx276_3 hHeld ⊢; refine zu HT_ 0 (some 10) (zA 36 1) ?_; refine zu HT_ 1 (some 11) (zA 36 3) ?_; refine zu HT_ 2 (some 12) (zA 36 7) ?_; refine take_ (i := 3) (N := some 13) (v := ?_) (a' := ?_) (zA 36 15) rfl rfl (take_ofW HT_.1 HW_.1 (by kernel_rfl)) (fun _ _ _ h => h) (Or.inl ⟨by rfl, ?_⟩) hHeld ?_ ?_; rotate_left
       ·rintro w' ⟨s0, s1, s2, s3⟩
        go_simp
        (with_reducible rfl)
       rotate_left
       ·simp only [zp0, zp1, zp2, zp3, zp4, i64_w, i32_w]; rfl
       refine zo HT_ 4 (some 14) (zA 36 31) (fun K hK => ?_); refine zg Try.func52 #[.agg #[.int .i64 ((rd_T29 l0 x3_1).f0), .int .i64 ((rd_T29 l0 x3_1).f1), .slice A276_2 ((rd_T29 l0 x3_1).f2).length c276_2, .slice A276_3 ((rd_T29 l0 x3_1).f3).length c276_3]] ?_; (with_reducible refine (spec_PkgOk.calls k1 ((rd_T29 l0 x3_1).f0) ((rd_T29 l0 x3_1).f1) _ _ ((rd_T29 l0 x3_1).f2) _ _ ((rd_T29 l0 x3_1).f3) true _ ?side1 ?side2 ?side3 ?side4 A5.1).mono ?_); (case side1 => exact zC (Kd.C_below HR276_2.1 HB.1)); (case side2 => exact HC276_2.1); (case side3 => exact zC (Kd.C_below HR276_3.1 HB.1)); (case side4 => exact HC276_3.1); rintro e w15 ⟨rfl, hb⟩; refine ⟨_, rfl, ?_⟩; have _ := aM (below_step (zB HB.1) hb); clear HB; rename_i HB; (try clear hb); (try clear hb2); (try clear hk); (try clear hi); refine hK.out _ _ ⟨((HB.1.cell (World.block_lt_of_cell? w _ hw276_0)).trans hw276_0), ((HB.1.cell (World.block_lt_of_cell? w _ hw276_1)).trans hw276_1), ((HB.1.cell (World.block_lt_of_cell? w _ hw276_2)).trans hw276_2), ((HB.1.cell (World.block_lt_of_cell? w _ hw276_3)).trans hw276_3)⟩ (fun hHeld => ?_); clear hK K; refine zn (some 14) ?_; refine zu HT_ 5 (some 15) (zA 36 63) ?_; refine zu HT_ 6 (some 16) (zA 36 127) ?_; refine zu HT_ 7 (some 17) (zA 36 255) ?_; refine zu HT_ 8 (some 18) (zA 36 511) ?_; refine zu HT_ 9 (some 19) (zA 36 1023) ?_; refine zu0 HT_ 10 (some 20) (zA 36 2047) ?_; refine zu0 HT_ 11 (some 21) (zA 36 4095) ?_; refine zu0 HT_ 12 (some 22) (zA 36 8191) ?_; refine zu0 HT_ 13 (some 23) (zA 36 16383) ?_; refine zu0 HT_ 14 (some 24) (zA 36 32767) ?_; refine zu0 HT_ 15 (some 25) (zA 36 65535) ?_; refine zu0 HT_ 16 (some 26) (zA 36 131071) ?_; refine zu0 HT_ 17 (some 27) (zA 36 262143) ?_; refine zu0 HT_ 18 (some 28) (zA 36 524287) ?_; refine zu0 HT_ 19 (some 29) (zA 36 1048575) ?_; refine zu0 HT_ 20 (some 30) (zA 36 2097151) ?_; refine zu0 HT_ 21 (some 31) (zA 36 4194303) ?_; refine zu0 HT_ 22 (some 32) (zA 36 8388607) ?_; refine zu0 HT_ 23 (some 33) (zA 36 16777215) ?_; refine zu0 HT_ 24 (some 34) (zA 36 33554431) ?_; refine zu0 HT_ 25 (some 35) (zA 36 67108863) ?_; refine zu0 HT_ 26 (some 36) (zA 36 134217727) ?_; refine zu0 HT_ 27 (some 37) (zA 36 268435455) ?_; refine zu0 HT_ 28 (some 38) (zA 36 536870911) ?_; refine zu0 HT_ 29 (some 39) (zA 36 1073741823) ?_; refine zu0 HT_ 30 (some 40) (zA 36 2147483647) ?_; refine zu0 HT_ 31 (some 41) (zA 36 4294967295) ?_; refine zu0 HT_ 32 (some 42) (zA 36 8589934591) ?_; refine zu0 HT_ 33 (some 43) (zA 36 17179869183) ?_; refine zu HT_ 34 (some 44) (zA 36 34359738367) ?_; refine zu HT_ 35 (some 45) (zA 36 68719476735) ?_; refine done_ (done_of HT_.1 (by kernel_rfl)) ?_
       try go_wp2
       go_meet
       case rel => exact ⟨_, (false), (by first | rfl | (simp; done) | (simp [*]; done)), H', ⟨by have := HK1.1; first | omega | exact Nat.le_refl _⟩, ⟨zB HB.1⟩⟩
     ·replace c6 := Bool.eq_false_iff.mpr c6; subst c6; replace H := zy0 H; have H' := aM H; clear H
      try go_wp2
      have _ := aM (below_drew1 HB.1); clear HB; rename_i HB; have p276 : 0 ≤ (x3_1 : Int) := zd; have q276 : x3_1 < (l0.length : Int) := zd; obtain ⟨ad276, A276_2, c276_2, A276_3, c276_3, e276, hx276_0, hx276_1, hx276_2, hx276_3, hl276_2, hi276_2, hl276_3, hi276_3⟩ := at_T29 HR0.1 x3_1 p276 q276; have hw276_3 := hx276_3; have hw276_2 := hx276_2; have hw276_1 := hx276_1; have hw276_0 := hx276_0; cases e276; replace hx276_0 := (HB.1.cell (World.block_lt_of_cell? w _ hx276_0)).trans hx276_0; replace hx276_1 := (HB.1.cell (World.block_lt_of_cell? w _ hx276_1)).trans hx276_1; replace hx276_2 := (HB.1.cell (World.block_lt_of_cell? w _ hx276_2)).trans hx276_2; replace hx276_3 := (HB.1.cell (World.block_lt_of_cell? w _ hx276_3)).trans hx276_3; have HR276_2 := aM hi276_2; have HC276_2 := aM hl276_2; clear hi276_2 hl276_2; have HR276_3 := aM hi276_3; have HC276_3 := aM hl276_3; clear hi276_3 hl276_3; replace p276 := eq_true p276; replace q276 := eq_true q276
      refine start_ (n := 36) (S := fun w' => w'.cell? (ad276.add ((x3_1).toNat * 4)) = some (.int .i64 ((rd_T29 l0 x3_1).f0)) ∧ w'.cell? ⟨(ad276.add ((x3_1).toNat * 4)).block, (ad276.add ((x3_1).toNat * 4)).off + 1, none⟩ = some (.int .i64 ((rd_T29 l0 x3_1).f1)) ∧ w'.cell? ⟨(ad276.add ((x3_1).toNat * 4)).block, (ad276.add ((x3_1).toNat * 4)).off + 2, none⟩ = some (.slice A276_2 ((rd_T29 l0 x3_1).f2).length c276_2) ∧ w'.cell? ⟨(ad276.add ((x3_1).toNat * 4)).block, (ad276.add ((x3_1).toNat * 4)).off + 3, none⟩ = some (.slice A276_3 ((rd_T29 l0 x3_1).f3).length c276_3)) (ds := []) (zA 36 0) (by kernel_rfl) rfl rfl ⟨((HB.1.cell (World.block_lt_of_cell? w _ hw276_0)).trans hw276_0), ((HB.1.cell (World.block_lt_of_cell? w _ hw276_1)).trans hw276_1), ((HB.1.cell (World.block_lt_of_cell? w _ hw276_2)).trans hw276_2), ((HB.1.cell (World.block_lt_of_cell? w _ hw276_3)).trans hw276_3)⟩ (fun hHeld => ?_); refine with_tabW spec_l3Pkgs.tab4 spec_l3Pkgs.bits4 (fun HT_ HW_ => ?_)
      generalize wr.drew = w16 at HB HR276_2 HR276_3 hx276_0 hx276_1 hx276_2 hx276_3 hHeld ⊢; refine zu HT_ 0 (some 10) (zA 36 1) ?_; refine zu HT_ 1 (some 11) (zA 36 3) ?_; refine zu HT_ 2 (some 12) (zA 36 7) ?_; refine take_ (i := 3) (N := some 13) (v := ?_) (a' := ?_) (zA 36 15) rfl rfl (take_ofW HT_.1 HW_.1 (by kernel_rfl)) (fun _ _ _ h => h) (Or.inl ⟨by rfl, ?_⟩) hHeld ?_ ?_; rotate_left
      ·rintro w' ⟨s0, s1, s2, s3⟩
       go_simp
       (with_reducible rfl)
      rotate_left
      ·simp only [zp0, zp1, zp2, zp3, zp4, i64_w, i32_w]; rfl
      refine zo HT_ 4 (some 14) (zA 36 31) (fun K hK => ?_); refine zg Try.func52 #[.agg #[.int .i64 ((rd_T29 l0 x3_1).f0), .int .i64 ((rd_T29 l0 x3_1).f1), .slice A276_2 ((rd_T29 l0 x3_1).f2).length c276_2, .slice A276_3 ((rd_T29 l0 x3_1).f3).length c276_3]] ?_; (with_reducible refine (spec_PkgOk.calls k1 ((rd_T29 l0 x3_1).f0) ((rd_T29 l0 x3_1).f1) _ _ ((rd_T29 l0 x3_1).f2) _ _ ((rd_T29 l0 x3_1).f3) false _ ?side1 ?side2 ?side3 ?side4 A5.1).mono ?_); (case side1 => exact zC (Kd.C_below HR276_2.1 HB.1)); (case side2 => exact HC276_2.1); (case side3 => exact zC (Kd.C_below HR276_3.1 HB.1)); (case side4 => exact HC276_3.1); rintro e w17 ⟨rfl, hb⟩; refine ⟨_, rfl, ?_⟩; have _ := aM (below_step (zB HB.1) hb); clear HB; rename_i HB; (try clear hb); (try clear hb2); (try clear hk); (try clear hi); refine hK.out _ _ ⟨((HB.1.cell (World.block_lt_of_cell? w _ hw276_0)).trans hw276_0), ((HB.1.cell (World.block_lt_of_cell? w _ hw276_1)).trans hw276_1), ((HB.1.cell (World.block_lt_of_cell? w _ hw276_2)).trans hw276_2), ((HB.1.cell (World.block_lt_of_cell? w _ hw276_3)).trans hw276_3)⟩ (fun hHeld => ?_); clear hK K; refine zn (some 14) ?_; refine zu HT_ 5 (some 15) (zA 36 63) ?_; refine zu HT_ 6 (some 16) (zA 36 127) ?_; refine zu0 HT_ 7 (some 17) (zA 36 255) ?_; refine zu0 HT_ 8 (some 18) (zA 36 511) ?_; refine zu0 HT_ 9 (some 19) (zA 36 1023) ?_; refine zu0 HT_ 10 (some 20) (zA 36 2047) ?_; refine zu0 HT_ 11 (some 21) (zA 36 4095) ?_; refine zu0 HT_ 12 (some 22) (zA 36 8191) ?_; refine zu0 HT_ 13 (some 23) (zA 36 16383) ?_; refine zu0 HT_ 14 (some 24) (zA 36 32767) ?_; refine zu0 HT_ 15 (some 25) (zA 36 65535) ?_; refine zu0 HT_ 16 (some 26) (zA 36 131071) ?_; refine zu0 HT_ 17 (some 27) (zA 36 262143) ?_; refine zu0 HT_ 18 (some 28) (zA 36 524287) ?_; refine zu0 HT_ 19 (some 29) (zA 36 1048575) ?_; refine zu0 HT_ 20 (some 30) (zA 36 2097151) ?_; refine zu0 HT_ 21 (some 31) (zA 36 4194303) ?_; refine zu0 HT_ 22 (some 32) (zA 36 8388607) ?_; refine zu0 HT_ 23 (some 33) (zA 36 16777215) ?_; refine zu0 HT_ 24 (some 34) (zA 36 33554431) ?_; refine zu0 HT_ 25 (some 35) (zA 36 67108863) ?_; refine zu0 HT_ 26 (some 36) (zA 36 134217727) ?_; refine zu0 HT_ 27 (some 37) (zA 36 268435455) ?_; refine zu0 HT_ 28 (some 38) (zA 36 536870911) ?_; refine zu0 HT_ 29 (some 39) (zA 36 1073741823) ?_; refine zu0 HT_ 30 (some 40) (zA 36 2147483647) ?_; refine zu0 HT_ 31 (some 41) (zA 36 4294967295) ?_; refine zu0 HT_ 32 (some 42) (zA 36 8589934591) ?_; refine zu0 HT_ 33 (some 43) (zA 36 17179869183) ?_; refine zu0 HT_ 34 (some 44) (zA 36 34359738367) ?_; refine zu HT_ 35 (some 45) (zA 36 68719476735) ?_; refine done_ (done_of HT_.1 (by kernel_rfl)) ?_
      try go_wp2
      go_meet
      case rel => exact ⟨_, (true), (by first | rfl | (simp; done) | (simp [*]; done)), H', ⟨by have := HK1.1; first | omega | exact Nat.le_refl _⟩, ⟨zB HB.1⟩⟩
    case rest =>
     clear HC3
     try clear c1
     try clear c2
     try clear p2
     try clear q2
     try clear hx2
     try clear c4
     try clear c5
     try clear c6
     try clear c7
     try clear c7b0
     try clear c9
     try clear c10
     try clear hx276_0
     try clear hx276_1
     try clear hx276_2
     try clear hx276_3
     try clear p276
     try clear q276
     obtain ⟨kq, x45_2, rfl, HA, HJ2, HB⟩ := hcut; cases kq with
     | zero => exact absurd HA.1 (by simp [spec_l3Pkgs.j1])
     | succ kj2 =>
      have H := HA.1; clear HA; simp only [spec_l3Pkgs.j1] at H
      by_cases c18 : x45_2 = true
      ·subst c18; replace H := zy1 H; obtain rfl := Option.some.inj H
       go_wp2
       go_ret
       exact ⟨by first | rfl | (simp [errW_none, errW_some] <;> rfl) | (simp [*, errW_none, errW_some] <;> rfl), by exact zB HB.1⟩
      ·replace c18 := Bool.eq_false_iff.mpr c18; subst c18; replace H := zy0 H; have H' := aM H; clear H
       go_wp2
       go_roundg kj2
       case measure => have := HK1.1; have := HJ2.1; omega
       case rel => exact ⟨(wrap64 (x3_1 + 1)), (by first | rfl | (simp; done) | (simp [*]; done)), H', ⟨by have := HK1.1; have := HJ2.1; omega⟩, ⟨zB HB.1⟩⟩
   ·rw [if_neg c2] at H; have c2b0 : decide (x3_1 < (l0.length : Int)) = false := decide_eq_false c2; clear c2; obtain rfl := Option.some.inj H
    go_wp2
    go_ret
    exact ⟨by first | rfl | (simp [errW_none, errW_some] <;> rfl) | (simp [*, errW_none, errW_some] <;> rfl), by exact zB HB.1⟩

/-! ### spec_SumOf: function 84 -/
def spec_SumOf.l0 : Nat → ByteArray → Int → Int → Option (Int)
 | 0, _, _, _ => none
 | k + 1, x0, x3, x4 => if x4 < (x0.size : Int) then (if 0 ≤ x4 then (spec_SumOf.l0 k x0 (Int.tmod (wrap64 ((wrap64 ((wrap64 (31 * x3)) + (wrap64 (bt x0 x4)))) + 1)) 9973) (wrap64 (x4 + 1))) else (none)) else (some x3)
def spec_SumOf.f (k : Nat) (a0 : ByteArray) : Option (Int) := spec_SumOf.l0 k a0 7 0
theorem spec_SumOf.mono_l : ∀ k, (∀ y0 y1 y2, LeO (spec_SumOf.l0 k y0 y1 y2) (spec_SumOf.l0 (k + 1) y0 y1 y2))
 | 0 => fun _ _ _ r h => by simp [spec_SumOf.l0] at h
 | k + 1 => by
  have ih0 := spec_SumOf.mono_l k
  ·intro y0 y1 y2
   unfold spec_SumOf.l0
   repeat' first
   | (with_reducible exact ih0 _ _ _)
   | (with_reducible exact LeO.refl _)
   | (with_reducible exact LeO.none _)
   | (with_reducible refine LeO.ite ?_ ?_)
   | (with_reducible refine LeO.bind ?_ (fun _ => ?_))
   | exact ih0 _ _ _
   | exact LeO.none _
   | refine LeO.ite ?_ ?_
   | refine LeO.bind ?_ (fun _ => ?_)
theorem spec_SumOf.mono : ∀ a0 k, LeO (spec_SumOf.f k a0) (spec_SumOf.f (k + 1) a0) := by
 intro a0 k
 have ih0 := spec_SumOf.mono_l k
 unfold spec_SumOf.f
 repeat' with_reducible first | apply ih0 | exact LeO.refl _ | exact LeO.none _ | refine LeO.ite ?_ ?_ | refine LeO.bind ?_ (fun _ => ?_)
set_option maxHeartbeats 8000000 in
set_option maxRecDepth 100000 in
theorem spec_SumOf.calls (k : Nat) (a0 : ByteArray) (r : Int) (w : World) (h : spec_SumOf.f k a0 = some r) :
  Calls Try.prog 84 #[.string a0] w fun e w' => e = .returned (.int .i64 r) ∧ Drawn0 w w' := by
 have H : (spec_SumOf.l0 k a0 7 0) = some r := h; clear h; have H' := aM H; clear H
 go_enter Try.func84, Try.ntmps84
 go_wp2
 go_loopg [3, 4] k (fun kq v3 v4 w' => ∃ (x3_1 : Int) (x4_1 : Int), v3 = .int .i64 x3_1 ∧ v4 = .int .i64 x4_1 ∧ Aside0 (spec_SumOf.l0 kq a0 x3_1 x4_1 = some r) ∧ Aside0 (kq ≤ k) ∧ Drawn0 w w')
 case atStart => exact ⟨(7), (0), (by first | rfl | (simp; done) | (simp [*]; done)), (by first | rfl | (simp; done) | (simp [*]; done)), H', ⟨Nat.le_refl _⟩, by repeat (first | exact Drawn0.refl _ | apply Drawn0.step)⟩
 case round =>
  clear H'; obtain ⟨x3_1, x4_1, rfl, rfl, HA, HK1, ⟨m1, rfl⟩⟩ := hrel; cases gk with
  | zero => exact absurd HA.1 (by simp [spec_SumOf.l0])
  | succ k1 =>
   have H := HA.1; clear HA; simp only [spec_SumOf.l0] at H
   by_cases c2 : x4_1 < (a0.size : Int)
   ·rw [if_pos c2] at H; have c2b0 : decide (x4_1 < (a0.size : Int)) = true := decide_eq_true c2; clear c2; replace H := zif H; obtain ⟨c3, H⟩ := H; have c3b0 : decide (0 ≤ x4_1) = true := decide_eq_true c3; clear c3; have H' := aM H; clear H; have p4 : 0 ≤ (x4_1 : Int) := zd; have q4 : x4_1 < (a0.size : Int) := zd; have hx4 := bt_at a0 x4_1; replace p4 := eq_true p4; replace q4 := eq_true q4
    go_wp2
    go_roundg k1
    case measure => have := HK1.1; omega
    case rel => exact ⟨(Int.tmod (wrap64 ((wrap64 ((wrap64 (31 * x3_1)) + (wrap64 (bt a0 x4_1)))) + 1)) 9973), (wrap64 (x4_1 + 1)), (by first | rfl | (simp; done) | (simp [*]; done)), (by first | rfl | (simp; done) | (simp [*]; done)), H', ⟨by have := HK1.1; omega⟩, by repeat (first | exact Drawn0.refl _ | apply Drawn0.step)⟩
   ·rw [if_neg c2] at H; have c2b0 : decide (x4_1 < (a0.size : Int)) = false := decide_eq_false c2; clear c2; obtain rfl := Option.some.inj H
    go_wp2
    go_ret
    exact ⟨by first | rfl | (simp; done) | (simp [*]; done), by repeat (first | exact Drawn0.refl _ | apply Drawn0.step)⟩

/-! ### spec_l6Dec: function 87 -/
def spec_l6Dec.f : Nat → Int → Option (ByteArray)
 | 0, _ => none
 | k + 1, a0 => if a0 < (-9223372036854775807) then (some (⟨#[45, 57, 50, 50, 51, 51, 55, 50, 48, 51, 54, 56, 53, 52, 55, 55, 53, 56, 48, 56]⟩ : ByteArray)) else (if a0 < 0 then ((spec_l6Dec.f k (wrap64 (-a0))).bind fun t283 => (if 1 + t283.size ≤ 9223372036854775807 then (some ((⟨#[45]⟩ : ByteArray) ++ t283)) else (none))) else (if a0 < 10 then (some (strOfNums (([(wrap64 (48 + a0)) % 256] : List Int)))) else ((spec_l6Dec.f k (wrap64 (Int.tdiv a0 10))).bind fun t287 => ((some (([(wrap64 (48 + (Int.tmod a0 10))) % 256] : List Int) : List Int)).bind fun y288 => (if t287.size + (strOfNums y288).size ≤ 9223372036854775807 then (some (t287 ++ (strOfNums y288))) else (none))))))
theorem spec_l6Dec.mono_l : ∀ k, (∀ y0, LeO (spec_l6Dec.f k y0) (spec_l6Dec.f (k + 1) y0))
 | 0 => fun _ r h => by simp [spec_l6Dec.f] at h
 | k + 1 => by
  have ih0 := spec_l6Dec.mono_l k
  ·intro y0
   unfold spec_l6Dec.f
   repeat' first
   | (with_reducible exact ih0 _)
   | (with_reducible exact LeO.refl _)
   | (with_reducible exact LeO.none _)
   | (with_reducible refine LeO.ite ?_ ?_)
   | (with_reducible refine LeO.bind ?_ (fun _ => ?_))
   | exact ih0 _
   | exact LeO.none _
   | refine LeO.ite ?_ ?_
   | refine LeO.bind ?_ (fun _ => ?_)
theorem spec_l6Dec.mono : ∀ a0 k, LeO (spec_l6Dec.f k a0) (spec_l6Dec.f (k + 1) a0) := by
 intro a0 k
 have ih0 := spec_l6Dec.mono_l k
 exact ih0 a0
def spec_l6Dec.T7 : Bool × List (List Nat × List Nat) := (true, [([], []), ([0], [0]), ([1], [1]), ([], []), ([3], [3]), ([4], [4]), ([5], [5]), ([6], [6]), ([7], [7]), ([2, 8], [2, 8]), ([9, 2, 0, 1, 2, 3, 4, 5, 6, 7, 8, 9], [9])])
def spec_l6Dec.B7 : List Nat := [0, 1, 3, 0, 8, 24, 56, 120, 248, 511, 1023]
theorem spec_l6Dec.tab7 : rtab .any (opsOf Try.f87 7) = spec_l6Dec.T7 := by kernel_rfl
theorem spec_l6Dec.bits7 : waitsOk spec_l6Dec.T7.2 spec_l6Dec.B7 = true := by kernel_rfl
set_option maxHeartbeats 8000000 in
set_option maxRecDepth 100000 in
theorem spec_l6Dec.calls (k : Nat) : ∀ (a0 : Int) (r : ByteArray) (w : World) (h : spec_l6Dec.f k a0 = some r),
  Calls Try.prog 87 #[.int .i64 a0] w fun e w' => e = .returned (.string r) ∧ Below w.heap.size w w' := by
 induction k using Nat.strongRecOn with
 | _ k ih =>
 intro a0 r w h; cases k with
 | zero => exact absurd h (by simp [spec_l6Dec.f])
 | succ k =>
 simp only [spec_l6Dec.f] at h; have HB := aM (Below.refl w.heap.size w); have H : (if a0 < (-9223372036854775807) then (some (⟨#[45, 57, 50, 50, 51, 51, 55, 50, 48, 51, 54, 56, 53, 52, 55, 55, 53, 56, 48, 56]⟩ : ByteArray)) else (if a0 < 0 then ((spec_l6Dec.f k (wrap64 (-a0))).bind fun t283 => (if 1 + t283.size ≤ 9223372036854775807 then (some ((⟨#[45]⟩ : ByteArray) ++ t283)) else (none))) else (if a0 < 10 then (some (strOfNums (([(wrap64 (48 + a0)) % 256] : List Int)))) else ((spec_l6Dec.f k (wrap64 (Int.tdiv a0 10))).bind fun t287 => ((some (([(wrap64 (48 + (Int.tmod a0 10))) % 256] : List Int) : List Int)).bind fun y288 => (if t287.size + (strOfNums y288).size ≤ 9223372036854775807 then (some (t287 ++ (strOfNums y288))) else (none))))))) = some r := h; clear h
 by_cases c2 : a0 < (-9223372036854775807)
 ·rw [if_pos c2] at H; have c2b0 : decide (a0 < (-9223372036854775807)) = true := decide_eq_true c2; clear c2; obtain rfl := Option.some.inj H
  go_enter Try.func87, Try.ntmps87
  go_wp2
  go_ret
  exact ⟨by first | rfl | (simp [errW_none, errW_some] <;> rfl) | (simp [*, errW_none, errW_some] <;> rfl), by exact zB HB.1⟩
 ·rw [if_neg c2] at H; have c2b0 : decide (a0 < (-9223372036854775807)) = false := decide_eq_false c2; clear c2
  by_cases c3 : a0 < 0
  ·rw [if_pos c3] at H; have c3b0 : decide (a0 < 0) = true := decide_eq_true c3; clear c3; replace H := Option.bind_eq_some_iff.mp H; obtain ⟨t283, A40, H⟩ := H; (try dsimp only at H); have A4 := aM A40; clear A40; replace H := zif H; obtain ⟨c5, H⟩ := H; have c5b0 := eq_true c5; have c5b1 : decide (1 + t283.size ≤ 9223372036854775807) = true := decide_eq_true c5
   try have c5b2 : (9223372036854775807 < 1 + t283.size) = False := eq_false (Nat.not_lt.2 c5)
   obtain rfl := Option.some.inj H
   go_enter Try.func87, Try.ntmps87
   go_wp2_with (first | ((with_reducible refine gate_callee (f := 87) rfl ?_); refine zgL (some 9) Try.func87 #[.int .i64 (wrap64 (-a0))] ?_; (with_reducible refine (ih k (by omega) (wrap64 (-a0)) t283 _ A4.1).mono ?_); rintro e w6 ⟨rfl, hb⟩; refine ⟨_, rfl, ?_⟩; have _ := aM (below_step (zB HB.1) hb); clear HB; rename_i HB; (try clear hb); (try clear hb2); (try clear hk); (try clear hi)))
   go_ret
   exact ⟨by first | rfl | (simp [errW_none, errW_some] <;> rfl) | (simp [*, errW_none, errW_some] <;> rfl), by exact zB HB.1⟩
  ·rw [if_neg c3] at H; have c3b0 : decide (a0 < 0) = false := decide_eq_false c3; clear c3
   by_cases c7 : a0 < 10
   ·rw [if_pos c7] at H; have c7b0 : decide (a0 < 10) = true := decide_eq_true c7; clear c7; obtain ⟨y284, hy284⟩ : ∃ y_ : List Int, y_ = (([(wrap64 (48 + a0)) % 256] : List Int)) := ⟨_, rfl⟩; (first | (replace H := zbs hy284 H; try dsimp only at H) | rw [← hy284] at H); have Ny284 := aM hy284; clear hy284; obtain rfl := Option.some.inj H
    go_enter Try.func87, Try.ntmps87
    go_wp2_with (first | ((with_reducible refine gate_dst (N := 16) rfl ?_); refine Kd.R_lit (Kd.int .u8) _ 5 ?hg (N := 16) ?hd (xs := ([(wrap64 (48 + a0)) % 256] : List Int)) (inner := [.int .u8 ((wrap64 (48 + a0)) % 256)]) (ok := fun _ => True) (okp := fun _ => True) ?hr ?hp (fun _ hk => hk) trivial (Below.refl _ _) (Nat.le_refl _) (by simp) ?_; (case hd => rfl); (case hg => rfl); (case hr => first | (go_simp; done) | (go_simp; rfl)); (case hp => exact (Reps.one (show Kd.M (Kd.int .u8) _ _ _ ((wrap64 (48 + a0)) % 256) [.int .u8 ((wrap64 (48 + a0)) % 256)] from rfl) (Reps.none _ _))); intro v285 w8 ho9 hb hg_ hnew_; clear hg_ hnew_; (first | rw [← Ny284.1] at ho9 | (simp only [Int.reduceToNat] at ho9; rw [← Ny284.1] at ho9)); have _ := aM (Kd.R_lower ho9 (below_size (zB HB.1))); have _ := aM (below_step (zB HB.1) hb); clear HB; rename_i HO286 HB; clear hb ho9; have hcv10 := own_string (P := Try.prog) Try.underlying22 Try.underlying5 Try.underlying9 (Kd.own_of_R HO286.1)))
    go_ret
    exact ⟨by first | rfl | (simp [errW_none, errW_some] <;> rfl) | (simp [*, errW_none, errW_some] <;> rfl), by exact zB HB.1⟩
   ·rw [if_neg c7] at H; have c7b0 : decide (a0 < 10) = false := decide_eq_false c7; clear c7; replace H := Option.bind_eq_some_iff.mp H; obtain ⟨t287, A110, H⟩ := H; (try dsimp only at H); have A11 := aM A110; clear A110; obtain ⟨y288, hy288⟩ : ∃ y_ : List Int, y_ = (([(wrap64 (48 + (Int.tmod a0 10))) % 256] : List Int)) := ⟨_, rfl⟩; (first | (replace H := zbs hy288 H; try dsimp only at H) | rw [← hy288] at H); have Ny288 := aM hy288; clear hy288; replace H := zif H; obtain ⟨c12, H⟩ := H; have c12b0 := eq_true c12; have c12b1 : decide (t287.size + (strOfNums y288).size ≤ 9223372036854775807) = true := decide_eq_true c12
    try have c12b2 : (9223372036854775807 < t287.size + (strOfNums y288).size) = False := eq_false (Nat.not_lt.2 c12)
    obtain rfl := Option.some.inj H
    go_enter Try.func87, Try.ntmps87
    try go_wp2
    have _ := aM (below_drew1 HB.1); clear HB; rename_i HB
    refine start_ (n := 11) (S := fun w' => True) (ds := []) (zA 11 0) (by kernel_rfl) rfl rfl trivial (fun hHeld => ?_); refine with_tabW spec_l6Dec.tab7 spec_l6Dec.bits7 (fun HT_ HW_ => ?_)
    generalize w.drew = w13 at HB hHeld ⊢; refine zu HT_ 0 (some 18) (zA 11 1) ?_; refine zu HT_ 1 (some 19) (zA 11 3) ?_; refine zu HT_ 3 (some 21) (zA 11 11) ?_; refine zu HT_ 4 (some 22) (zA 11 27) ?_; refine zu HT_ 5 (some 23) (zA 11 59) ?_; refine zu HT_ 6 (some 24) (zA 11 123) ?_; refine join_ (σ := Value) 2 (zA 11 511) (fun s_ => [(20, .string t287), (25, s_), (26, .string (strOfNums y288))]) (fun s_ w' => (Kd.R (Kd.int .u8) 5 w' w.heap.size (fun _ => True) s_ y288) ∧ (Below w.heap.size w w')) ?_ ?_; rotate_left
    ·intro hCont; refine two_ (i := 2) (j := 7) (Ni := some 20) (Nj := some 25) (zA 11 127) (zA 11 251) rfl rfl rfl rfl (two_of HT_.1 (by kernel_rfl)) (by decide) (by decide) (fun K hK => ?_) (fun K hK => ?_)
     ·skip
      refine zg Try.func87 #[.int .i64 (wrap64 (Int.tdiv a0 10))] ?_; (with_reducible refine (ih k (by omega) (wrap64 (Int.tdiv a0 10)) t287 _ A11.1).mono ?_); rintro e w14 ⟨rfl, hb⟩; refine ⟨_, rfl, ?_⟩; have _ := aM (below_step (zB HB.1) hb); clear HB; rename_i HB; (try clear hb); (try clear hb2); (try clear hk); (try clear hi); refine hK.out _ _ trivial (fun hHeld => ?_); clear hK K; refine zn (some 20) ?_; refine zo HT_ 7 (some 25) (zA 11 255) (fun K hK => ?_)
      refine Kd.R_lit_step (Kd.int .u8) _ 5 ?hg (N := 25) ?hd (xs := ([(wrap64 (48 + (Int.tmod a0 10))) % 256] : List Int)) (inner := [.int .u8 ((wrap64 (48 + (Int.tmod a0 10))) % 256)]) (ok := fun _ => True) (okp := fun _ => True) ?hr ?hp (fun _ hk => hk) trivial (Below.refl _ _) (Nat.le_refl _) (by simp) ?_; (case hd => rfl); (case hg => rfl); (case hr => first | (go_simp; done) | (go_simp; rfl)); (case hp => exact (Reps.one (show Kd.M (Kd.int .u8) _ _ _ ((wrap64 (48 + (Int.tmod a0 10))) % 256) [.int .u8 ((wrap64 (48 + (Int.tmod a0 10))) % 256)] from rfl) (Reps.none _ _)))
      intro v289 w15 ho16 hb hg_ hnew_; clear hg_ hnew_; (first | rw [← Ny288.1] at ho16 | (simp only [Int.reduceToNat] at ho16; rw [← Ny288.1] at ho16)); have _ := aM (Kd.R_lower ho16 (below_size (zB HB.1))); have _ := aM (below_step (zB HB.1) hb); clear HB; rename_i HO290 HB; clear hb ho16; refine hK.out _ _ trivial (fun hHeld => ?_); clear hK K; refine zn (some 25) ?_; refine zo HT_ 8 (some 26) (zA 11 511) (fun K hK => ?_); have hcv17 := own_string (P := Try.prog) Try.underlying22 Try.underlying5 Try.underlying9 (Kd.own_of_R HO290.1); refine value_ (w1 := ?_) (v := ?_) (by rfl) rfl ?_ ?_; rotate_left 2
      ·go_simp
       constructor
       ·rfl
       ·rfl
      clear hcv17; refine hK.out _ _ trivial (fun hHeld => ?_); clear hK K; refine zn (some 26) ?_; exact norm_ (by simp only [putAll, zp0, zp1, zp2, zp3, zp4]) (hCont (v289) _ ⟨(zR HO290.1), (zB HB.1)⟩)
     ·skip
      refine Kd.R_lit_step (Kd.int .u8) _ 5 ?hg (N := 25) ?hd (xs := ([(wrap64 (48 + (Int.tmod a0 10))) % 256] : List Int)) (inner := [.int .u8 ((wrap64 (48 + (Int.tmod a0 10))) % 256)]) (ok := fun _ => True) (okp := fun _ => True) ?hr ?hp (fun _ hk => hk) trivial (Below.refl _ _) (Nat.le_refl _) (by simp) ?_; (case hd => rfl); (case hg => rfl); (case hr => first | (go_simp; done) | (go_simp; rfl)); (case hp => exact (Reps.one (show Kd.M (Kd.int .u8) _ _ _ ((wrap64 (48 + (Int.tmod a0 10))) % 256) [.int .u8 ((wrap64 (48 + (Int.tmod a0 10))) % 256)] from rfl) (Reps.none _ _)))
      intro v289 w14 ho15 hb hg_ hnew_; clear hg_ hnew_; (first | rw [← Ny288.1] at ho15 | (simp only [Int.reduceToNat] at ho15; rw [← Ny288.1] at ho15)); have _ := aM (Kd.R_lower ho15 (below_size (zB HB.1))); have _ := aM (below_step (zB HB.1) hb); clear HB; rename_i HO290 HB; clear hb ho15; refine hK.out _ _ trivial (fun hHeld => ?_); clear hK K; refine zn (some 25) ?_; refine two_ (i := 2) (j := 8) (Ni := some 20) (Nj := some 26) (zA 11 255) (zA 11 507) rfl rfl rfl rfl (two_of HT_.1 (by kernel_rfl)) (by decide) (by decide) (fun K hK => ?_) (fun K hK => ?_)
      ·skip
       refine zg Try.func87 #[.int .i64 (wrap64 (Int.tdiv a0 10))] ?_; (with_reducible refine (ih k (by omega) (wrap64 (Int.tdiv a0 10)) t287 _ A11.1).mono ?_); rintro e w16 ⟨rfl, hb⟩; refine ⟨_, rfl, ?_⟩; have _ := aM (Kd.R_below (zR HO290.1) hb); have _ := aM (below_step (zB HB.1) hb); clear HO290 HB; rename_i HO290 HB; (try clear hb); (try clear hb2); (try clear hk); (try clear hi); refine hK.out _ _ trivial (fun hHeld => ?_); clear hK K; refine zn (some 20) ?_; refine zo HT_ 8 (some 26) (zA 11 511) (fun K hK => ?_); have hcv17 := own_string (P := Try.prog) Try.underlying22 Try.underlying5 Try.underlying9 (Kd.own_of_R HO290.1); refine value_ (w1 := ?_) (v := ?_) (by rfl) rfl ?_ ?_; rotate_left 2
       ·go_simp
        constructor
        ·rfl
        ·rfl
       clear hcv17; refine hK.out _ _ trivial (fun hHeld => ?_); clear hK K; refine zn (some 26) ?_; exact norm_ (by simp only [putAll, zp0, zp1, zp2, zp3, zp4]) (hCont (v289) _ ⟨(zR HO290.1), (zB HB.1)⟩)
      ·skip
       have hcv16 := own_string (P := Try.prog) Try.underlying22 Try.underlying5 Try.underlying9 (Kd.own_of_R HO290.1); refine value_ (w1 := ?_) (v := ?_) (by rfl) rfl ?_ ?_; rotate_left 2
       ·go_simp
        constructor
        ·rfl
        ·rfl
       clear hcv16; refine hK.out _ _ trivial (fun hHeld => ?_); clear hK K; refine zn (some 26) ?_; refine zo HT_ 2 (some 20) (zA 11 511) (fun K hK => ?_); refine zg Try.func87 #[.int .i64 (wrap64 (Int.tdiv a0 10))] ?_; (with_reducible refine (ih k (by omega) (wrap64 (Int.tdiv a0 10)) t287 _ A11.1).mono ?_); rintro e w17 ⟨rfl, hb⟩; refine ⟨_, rfl, ?_⟩; have _ := aM (Kd.R_below (zR HO290.1) hb); have _ := aM (below_step (zB HB.1) hb); clear HO290 HB; rename_i HO290 HB; (try clear hb); (try clear hb2); (try clear hk); (try clear hi); refine hK.out _ _ trivial (fun hHeld => ?_); clear hK K; refine zn (some 20) ?_; exact norm_ (by simp only [putAll, zp0, zp1, zp2, zp3, zp4]) (hCont (v289) _ ⟨(zR HO290.1), (zB HB.1)⟩)
    rintro v289 w18 ⟨h0_, h1_⟩; have n0_ : Aside0 (Kd.R (Kd.int .u8) 5 w18 w.heap.size (fun _ => True) v289 y288) := ⟨h0_⟩; have n1_ : Aside0 (Below w.heap.size w w18) := ⟨h1_⟩; clear HB h0_ h1_; have HO290 := n0_; have HB := n1_; clear n0_ n1_; have hHeld := trivial; refine norm_ (a' := ?_) ?_ ?_; rotate_left
    ·simp only [putAll, zp0, zp1, zp2, zp3, zp4]; rfl
    refine zu HT_ 9 (some 27) (zA 11 1023) ?_; refine zu HT_ 10 (some 2) (zA 11 2047) ?_; refine done_ (done_of HT_.1 (by kernel_rfl)) ?_
    try go_wp2
    go_ret
    exact ⟨by first | rfl | (simp [errW_none, errW_some] <;> rfl) | (simp [*, errW_none, errW_some] <;> rfl), by exact zB HB.1⟩

/-! ### spec_l1Name: function 86 -/
def spec_l1Name.f (k : Nat) (a0 : Int) (a1 : Int) : Option (ByteArray) := (some (([(wrap64 ((wrap64 (97 + a0)) - 1)) % 256] : List Int) : List Int)).bind fun y291 => ((spec_l6Dec.f k a1).bind fun t294 => (if (strOfNums y291).size + t294.size ≤ 9223372036854775807 then (some ((strOfNums y291) ++ t294)) else (none)))
theorem spec_l1Name.mono : ∀ a0 a1 k, LeO (spec_l1Name.f k a0 a1) (spec_l1Name.f (k + 1) a0 a1) := by
 intro a0 a1 k
 unfold spec_l1Name.f
 repeat' with_reducible first | apply spec_l6Dec.mono | exact LeO.refl _ | exact LeO.none _ | refine LeO.ite ?_ ?_ | refine LeO.bind ?_ (fun _ => ?_)
def spec_l1Name.T1 : Bool × List (List Nat × List Nat) := (true, [([], []), ([0], [0]), ([1], [1]), ([2], [2]), ([3], [3]), ([4], [4]), ([], []), ([6], [6]), ([5, 7], [5, 7]), ([8, 7, 0, 1, 2, 3, 4, 5, 6, 7, 8], [8])])
def spec_l1Name.B1 : List Nat := [0, 1, 3, 7, 15, 31, 0, 64, 255, 511]
theorem spec_l1Name.tab1 : rtab .any (opsOf Try.f86 1) = spec_l1Name.T1 := by kernel_rfl
theorem spec_l1Name.bits1 : waitsOk spec_l1Name.T1.2 spec_l1Name.B1 = true := by kernel_rfl
set_option maxHeartbeats 8000000 in
set_option maxRecDepth 100000 in
theorem spec_l1Name.calls (k : Nat) (a0 : Int) (a1 : Int) (r : ByteArray) (w : World) (h : spec_l1Name.f k a0 a1 = some r) :
  Calls Try.prog 86 #[.int .i64 a0, .int .i64 a1] w fun e w' => e = .returned (.string r) ∧ Below w.heap.size w w' := by
 have HB := aM (Below.refl w.heap.size w); have H : ((some (([(wrap64 ((wrap64 (97 + a0)) - 1)) % 256] : List Int) : List Int)).bind fun y291 => ((spec_l6Dec.f k a1).bind fun t294 => (if (strOfNums y291).size + t294.size ≤ 9223372036854775807 then (some ((strOfNums y291) ++ t294)) else (none)))) = some r := h; clear h; obtain ⟨y291, hy291⟩ : ∃ y_ : List Int, y_ = (([(wrap64 ((wrap64 (97 + a0)) - 1)) % 256] : List Int)) := ⟨_, rfl⟩; (first | (replace H := zbs hy291 H; try dsimp only at H) | rw [← hy291] at H); have Ny291 := aM hy291; clear hy291; replace H := Option.bind_eq_some_iff.mp H; obtain ⟨t294, A30, H⟩ := H; (try dsimp only at H); have A3 := aM A30; clear A30; replace H := zif H; obtain ⟨c4, H⟩ := H; have c4b0 := eq_true c4; have c4b1 : decide ((strOfNums y291).size + t294.size ≤ 9223372036854775807) = true := decide_eq_true c4
 try have c4b2 : (9223372036854775807 < (strOfNums y291).size + t294.size) = False := eq_false (Nat.not_lt.2 c4)
 obtain rfl := Option.some.inj H
 go_enter Try.func86, Try.ntmps86
 try go_wp2
 have _ := aM (below_drew1 HB.1); clear HB; rename_i HB
 refine start_ (n := 10) (S := fun w' => True) (ds := []) (zA 10 0) (by kernel_rfl) rfl rfl trivial (fun hHeld => ?_); refine with_tabW spec_l1Name.tab1 spec_l1Name.bits1 (fun HT_ HW_ => ?_)
 generalize w.drew = w5 at HB hHeld ⊢; refine zu HT_ 0 (some 5) (zA 10 1) ?_; refine zu HT_ 1 (some 6) (zA 10 3) ?_; refine zu HT_ 2 (some 7) (zA 10 7) ?_; refine zu HT_ 3 (some 8) (zA 10 15) ?_; refine zu HT_ 6 (some 11) (zA 10 79) ?_; refine join_ (σ := Value) 2 (zA 10 255) (fun s_ => [(9, s_), (10, .string (strOfNums y291)), (12, .string t294)]) (fun s_ w' => (Kd.R (Kd.int .u8) 5 w' w.heap.size (fun _ => True) s_ y291) ∧ (Below w.heap.size w w')) ?_ ?_; rotate_left
 ·intro hCont; refine two_ (i := 4) (j := 7) (Ni := some 9) (Nj := some 12) (zA 10 95) (zA 10 207) rfl rfl rfl rfl (two_of HT_.1 (by kernel_rfl)) (by decide) (by decide) (fun K hK => ?_) (fun K hK => ?_)
  ·skip
   refine Kd.R_lit_step (Kd.int .u8) _ 5 ?hg (N := 9) ?hd (xs := ([(wrap64 ((wrap64 (97 + a0)) - 1)) % 256] : List Int)) (inner := [.int .u8 ((wrap64 ((wrap64 (97 + a0)) - 1)) % 256)]) (ok := fun _ => True) (okp := fun _ => True) ?hr ?hp (fun _ hk => hk) trivial (Below.refl _ _) (Nat.le_refl _) (by simp) ?_; (case hd => rfl); (case hg => rfl); (case hr => first | (go_simp; done) | (go_simp; rfl)); (case hp => exact (Reps.one (show Kd.M (Kd.int .u8) _ _ _ ((wrap64 ((wrap64 (97 + a0)) - 1)) % 256) [.int .u8 ((wrap64 ((wrap64 (97 + a0)) - 1)) % 256)] from rfl) (Reps.none _ _)))
   intro v292 w6 ho7 hb hg_ hnew_; clear hg_ hnew_; (first | rw [← Ny291.1] at ho7 | (simp only [Int.reduceToNat] at ho7; rw [← Ny291.1] at ho7)); have _ := aM (Kd.R_lower ho7 (below_size (zB HB.1))); have _ := aM (below_step (zB HB.1) hb); clear HB; rename_i HO293 HB; clear hb ho7; refine hK.out _ _ trivial (fun hHeld => ?_); clear hK K; refine zn (some 9) ?_; refine two_ (i := 5) (j := 7) (Ni := some 10) (Nj := some 12) (zA 10 127) (zA 10 223) rfl rfl rfl rfl (two_of HT_.1 (by kernel_rfl)) (by decide) (by decide) (fun K hK => ?_) (fun K hK => ?_)
   ·skip
    have hcv8 := own_string (P := Try.prog) Try.underlying22 Try.underlying5 Try.underlying9 (Kd.own_of_R HO293.1); refine value_ (w1 := ?_) (v := ?_) (by rfl) rfl ?_ ?_; rotate_left 2
    ·go_simp
     constructor
     ·rfl
     ·rfl
    clear hcv8; refine hK.out _ _ trivial (fun hHeld => ?_); clear hK K; refine zn (some 10) ?_; refine zo HT_ 7 (some 12) (zA 10 255) (fun K hK => ?_); refine zg Try.func87 #[.int .i64 a1] ?_; (with_reducible refine (spec_l6Dec.calls k a1 t294 _ A3.1).mono ?_); rintro e w9 ⟨rfl, hb⟩; refine ⟨_, rfl, ?_⟩; have _ := aM (Kd.R_below (zR HO293.1) hb); have _ := aM (below_step (zB HB.1) hb); clear HO293 HB; rename_i HO293 HB; (try clear hb); (try clear hb2); (try clear hk); (try clear hi); refine hK.out _ _ trivial (fun hHeld => ?_); clear hK K; refine zn (some 12) ?_; exact norm_ (by simp only [putAll, zp0, zp1, zp2, zp3, zp4]) (hCont (v292) _ ⟨(zR HO293.1), (zB HB.1)⟩)
   ·skip
    refine zg Try.func87 #[.int .i64 a1] ?_; (with_reducible refine (spec_l6Dec.calls k a1 t294 _ A3.1).mono ?_); rintro e w8 ⟨rfl, hb⟩; refine ⟨_, rfl, ?_⟩; have _ := aM (Kd.R_below (zR HO293.1) hb); have _ := aM (below_step (zB HB.1) hb); clear HO293 HB; rename_i HO293 HB; (try clear hb); (try clear hb2); (try clear hk); (try clear hi); refine hK.out _ _ trivial (fun hHeld => ?_); clear hK K; refine zn (some 12) ?_; refine zo HT_ 5 (some 10) (zA 10 255) (fun K hK => ?_); have hcv9 := own_string (P := Try.prog) Try.underlying22 Try.underlying5 Try.underlying9 (Kd.own_of_R HO293.1); refine value_ (w1 := ?_) (v := ?_) (by rfl) rfl ?_ ?_; rotate_left 2
    ·go_simp
     constructor
     ·rfl
     ·rfl
    clear hcv9; refine hK.out _ _ trivial (fun hHeld => ?_); clear hK K; refine zn (some 10) ?_; exact norm_ (by simp only [putAll, zp0, zp1, zp2, zp3, zp4]) (hCont (v292) _ ⟨(zR HO293.1), (zB HB.1)⟩)
  ·skip
   refine zg Try.func87 #[.int .i64 a1] ?_; (with_reducible refine (spec_l6Dec.calls k a1 t294 _ A3.1).mono ?_); rintro e w6 ⟨rfl, hb⟩; refine ⟨_, rfl, ?_⟩; have _ := aM (below_step (zB HB.1) hb); clear HB; rename_i HB; (try clear hb); (try clear hb2); (try clear hk); (try clear hi); refine hK.out _ _ trivial (fun hHeld => ?_); clear hK K; refine zn (some 12) ?_; refine zo HT_ 4 (some 9) (zA 10 223) (fun K hK => ?_)
   refine Kd.R_lit_step (Kd.int .u8) _ 5 ?hg (N := 9) ?hd (xs := ([(wrap64 ((wrap64 (97 + a0)) - 1)) % 256] : List Int)) (inner := [.int .u8 ((wrap64 ((wrap64 (97 + a0)) - 1)) % 256)]) (ok := fun _ => True) (okp := fun _ => True) ?hr ?hp (fun _ hk => hk) trivial (Below.refl _ _) (Nat.le_refl _) (by simp) ?_; (case hd => rfl); (case hg => rfl); (case hr => first | (go_simp; done) | (go_simp; rfl)); (case hp => exact (Reps.one (show Kd.M (Kd.int .u8) _ _ _ ((wrap64 ((wrap64 (97 + a0)) - 1)) % 256) [.int .u8 ((wrap64 ((wrap64 (97 + a0)) - 1)) % 256)] from rfl) (Reps.none _ _)))
   intro v292 w7 ho8 hb hg_ hnew_; clear hg_ hnew_; (first | rw [← Ny291.1] at ho8 | (simp only [Int.reduceToNat] at ho8; rw [← Ny291.1] at ho8)); have _ := aM (Kd.R_lower ho8 (below_size (zB HB.1))); have _ := aM (below_step (zB HB.1) hb); clear HB; rename_i HO293 HB; clear hb ho8; refine hK.out _ _ trivial (fun hHeld => ?_); clear hK K; refine zn (some 9) ?_; refine zo HT_ 5 (some 10) (zA 10 255) (fun K hK => ?_); have hcv9 := own_string (P := Try.prog) Try.underlying22 Try.underlying5 Try.underlying9 (Kd.own_of_R HO293.1); refine value_ (w1 := ?_) (v := ?_) (by rfl) rfl ?_ ?_; rotate_left 2
   ·go_simp
    constructor
    ·rfl
    ·rfl
   clear hcv9; refine hK.out _ _ trivial (fun hHeld => ?_); clear hK K; refine zn (some 10) ?_; exact norm_ (by simp only [putAll, zp0, zp1, zp2, zp3, zp4]) (hCont (v292) _ ⟨(zR HO293.1), (zB HB.1)⟩)
 rintro v292 w10 ⟨h0_, h1_⟩; have n0_ : Aside0 (Kd.R (Kd.int .u8) 5 w10 w.heap.size (fun _ => True) v292 y291) := ⟨h0_⟩; have n1_ : Aside0 (Below w.heap.size w w10) := ⟨h1_⟩; clear HB h0_ h1_; have HO293 := n0_; have HB := n1_; clear n0_ n1_; have hHeld := trivial; refine norm_ (a' := ?_) ?_ ?_; rotate_left
 ·simp only [putAll, zp0, zp1, zp2, zp3, zp4]; rfl
 refine zu HT_ 8 (some 13) (zA 10 511) ?_; refine zu HT_ 9 (some 4) (zA 10 1023) ?_; refine done_ (done_of HT_.1 (by kernel_rfl)) ?_
 try go_wp2
 go_ret
 exact ⟨by first | rfl | (simp [errW_none, errW_some] <;> rfl) | (simp [*, errW_none, errW_some] <;> rfl), by exact zB HB.1⟩

end Go.Proofs.Ytlmgnnpmcdeclaa.PFnTrustFresh
