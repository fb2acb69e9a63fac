-- printed for this claim by a program out of the translation, its tactics shortened by another
import Derived.Test.YtlmgnnpmcdeclaaDoorPFnIndexOnex0
namespace Go.Proofs.YtlmgnnpmcdeclaaDoor.PFnIndexOne
open Go.RowKit Go.Proofs.YtlmgnnpmcdeclaaDoorW.PrintWords Go.Proofs.YtlmgnnpmcdeclaaDoorW.PrintLast Go.Proofs.YtlmgnnpmcdeclaaDoorW.PrintMore
attribute [local go_sem] max2_int min2_int max_two min_two max_three min_three max_four min_four   -- for this text's walks alone
set_option linter.unusedVariables false
set_option linter.unusedSimpArgs false

theorem eqA73 (d : Nat) (w : World) (x0 y0 : Int) (x1 y1 : Int) (x2 y2 : Int) :
  (Op.equalIn (d + 2) 73 (.agg #[.int .i64 x0, .int .i64 x1, .int .i64 x2]) (.agg #[.int .i64 y0, .int .i64 y1, .int .i64 y2])).run Tryd.prog w = .ok (x0 == y0 && (x1 == y1 && (x2 == y2))) w := by
 refine eqA_of Tryd.underlying73 (by kernel_rfl) ?_
 refine eqf_cons (by rfl) (by go_simp; rfl) (by go_simp; rfl) (by go_simp) ?_
 refine eqf_cons (by rfl) (by go_simp; rfl) (by go_simp; rfl) (by go_simp) ?_
 exact eqf_last (by rfl) (by go_simp; rfl) (by go_simp; rfl) (by go_simp)

/-! ### spec_l6Dec: function 31 -/
def spec_l6Dec.f : Nat → Int → Option (ByteArray)
 | 0, _ => none
 | k + 1, a0 => if a0 < (-9223372036854775807) then (some (⟨#[45, 57, 50, 50, 51, 51, 55, 50, 48, 51, 54, 56, 53, 52, 55, 55, 53, 56, 48, 56]⟩ : ByteArray)) else (if a0 < 0 then ((spec_l6Dec.f k (wrap64 (-a0))).bind fun t101 => (if 1 + t101.size ≤ 9223372036854775807 then (some ((⟨#[45]⟩ : ByteArray) ++ t101)) else (none))) else (if a0 < 10 then (some (strOfNums (([(wrap64 (48 + a0)) % 256] : List Int)))) else ((spec_l6Dec.f k (wrap64 (Int.tdiv a0 10))).bind fun t105 => ((some (([(wrap64 (48 + (Int.tmod a0 10))) % 256] : List Int) : List Int)).bind fun y106 => (if t105.size + (strOfNums y106).size ≤ 9223372036854775807 then (some (t105 ++ (strOfNums y106))) else (none))))))
theorem spec_l6Dec.mono_l : ∀ k, (∀ y0, LeO (spec_l6Dec.f k y0) (spec_l6Dec.f (k + 1) y0))
 | 0 => fun _ r h => by simp [spec_l6Dec.f] at h
 | k + 1 => by
  have ih0 := spec_l6Dec.mono_l k
  ·intro y0
   unfold spec_l6Dec.f
   repeat' first
   | (with_reducible exact ih0 _)
   | (with_reducible exact LeO.refl _)
   | (with_reducible exact LeO.none _)
   | (with_reducible refine LeO.ite ?_ ?_)
   | (with_reducible refine LeO.bind ?_ (fun _ => ?_))
   | exact ih0 _
   | exact LeO.none _
   | refine LeO.ite ?_ ?_
   | refine LeO.bind ?_ (fun _ => ?_)
theorem spec_l6Dec.mono : ∀ a0 k, LeO (spec_l6Dec.f k a0) (spec_l6Dec.f (k + 1) a0) := by
 intro a0 k
 have ih0 := spec_l6Dec.mono_l k
 exact ih0 a0
def spec_l6Dec.T7 : Bool × List (List Nat × List Nat) := (true, [([], []), ([0], [0]), ([1], [1]), ([], []), ([3], [3]), ([4], [4]), ([5], [5]), ([6], [6]), ([7], [7]), ([2, 8], [2, 8]), ([9, 2, 0, 1, 2, 3, 4, 5, 6, 7, 8, 9], [9])])
def spec_l6Dec.B7 : List Nat := [0, 1, 3, 0, 8, 24, 56, 120, 248, 511, 1023]
theorem spec_l6Dec.tab7 : rtab .any (opsOf Tryd.f31 7) = spec_l6Dec.T7 := by kernel_rfl
theorem spec_l6Dec.bits7 : waitsOk spec_l6Dec.T7.2 spec_l6Dec.B7 = true := by kernel_rfl
set_option maxHeartbeats 8000000 in
set_option maxRecDepth 100000 in
theorem spec_l6Dec.calls (k : Nat) : ∀ (a0 : Int) (r : ByteArray) (w : World) (h : spec_l6Dec.f k a0 = some r),
  Calls Tryd.prog 31 #[.int .i64 a0] w fun e w' => e = .returned (.string r) ∧ Below w.heap.size w w' := by
 induction k using Nat.strongRecOn with
 | _ k ih =>
 intro a0 r w h
 cases k with
 | zero => exact absurd h (by simp [spec_l6Dec.f])
 | succ k =>
 simp only [spec_l6Dec.f] at h
 have HB := Aside0.mk (Below.refl w.heap.size w)
 have H : (if a0 < (-9223372036854775807) then (some (⟨#[45, 57, 50, 50, 51, 51, 55, 50, 48, 51, 54, 56, 53, 52, 55, 55, 53, 56, 48, 56]⟩ : ByteArray)) else (if a0 < 0 then ((spec_l6Dec.f k (wrap64 (-a0))).bind fun t101 => (if 1 + t101.size ≤ 9223372036854775807 then (some ((⟨#[45]⟩ : ByteArray) ++ t101)) else (none))) else (if a0 < 10 then (some (strOfNums (([(wrap64 (48 + a0)) % 256] : List Int)))) else ((spec_l6Dec.f k (wrap64 (Int.tdiv a0 10))).bind fun t105 => ((some (([(wrap64 (48 + (Int.tmod a0 10))) % 256] : List Int) : List Int)).bind fun y106 => (if t105.size + (strOfNums y106).size ≤ 9223372036854775807 then (some (t105 ++ (strOfNums y106))) else (none))))))) = some r := h
 clear h
 by_cases c2 : a0 < (-9223372036854775807)
 ·rw [if_pos c2] at H
  have c2b0 : decide (a0 < (-9223372036854775807)) = true := decide_eq_true c2
  clear c2
  obtain rfl := Option.some.inj H
  go_enter Tryd.func31, Tryd.ntmps31
  go_wp2
  go_ret
  exact ⟨by first | rfl | (simp [errW_none, errW_some] <;> rfl) | (simp [*, errW_none, errW_some] <;> rfl), by exact zB HB.out⟩
 ·rw [if_neg c2] at H
  have c2b0 : decide (a0 < (-9223372036854775807)) = false := decide_eq_false c2
  clear c2
  by_cases c3 : a0 < 0
  ·rw [if_pos c3] at H
   have c3b0 : decide (a0 < 0) = true := decide_eq_true c3
   clear c3
   replace H := Option.bind_eq_some_iff.mp H
   obtain ⟨t101, A40, H⟩ := H
   replace H : (if 1 + t101.size ≤ 9223372036854775807 then (some ((⟨#[45]⟩ : ByteArray) ++ t101)) else (none)) = some r := H
   have A4 := Aside0.mk A40
   clear A40
   by_cases c5 : 1 + t101.size ≤ 9223372036854775807
   ·rw [if_pos c5] at H
    have c5b0 := eq_true c5
    have c5b1 : decide (1 + t101.size ≤ 9223372036854775807) = true := decide_eq_true c5
    try have c5b2 : (9223372036854775807 < 1 + t101.size) = False := eq_false (Nat.not_lt.2 c5)
    obtain rfl := Option.some.inj H
    go_enter Tryd.func31, Tryd.ntmps31
    go_wp2_with (first | ((with_reducible refine gate_callee (f := 31) rfl ?_); refine goesL_ (some 9) rfl rfl Tryd.func31 (by kernel_rfl) rfl #[.int .i64 (wrap64 (-a0))] rfl (by (try simp only [zm1, zm2, zm3]); first | done | rfl | (simp only [List.length_drop, List.length_take]; rfl)) ?_; (with_reducible refine (ih k (by omega) (wrap64 (-a0)) t101 _ A4.out).mono ?_); rintro e w6 ⟨rfl, hb⟩; refine ⟨_, rfl, ?_⟩; have n0_ := Aside0.mk (below_step (by exact zB HB.out) hb); clear HB; have HB := n0_; clear n0_; (try clear hb); (try clear hb2); (try clear hk); (try clear hi)))
    go_ret
    exact ⟨by first | rfl | (simp [errW_none, errW_some] <;> rfl) | (simp [*, errW_none, errW_some] <;> rfl), by exact zB HB.out⟩
   ·rw [if_neg c5] at H
    exact absurd H (by simp)
  ·rw [if_neg c3] at H
   have c3b0 : decide (a0 < 0) = false := decide_eq_false c3
   clear c3
   by_cases c7 : a0 < 10
   ·rw [if_pos c7] at H
    have c7b0 : decide (a0 < 10) = true := decide_eq_true c7
    clear c7
    obtain ⟨y102, hy102⟩ : ∃ y_ : List Int, y_ = (([(wrap64 (48 + a0)) % 256] : List Int)) := ⟨_, rfl⟩
    replace H : (some (strOfNums y102)) = some r := by first | (rw [hy102]; with_reducible exact H) | (have H2_ := (Option.bind_some _ _).symm.trans H; rw [hy102]; with_reducible exact H2_) | (have H2_ := (Option.bind_some _ _).symm.trans H; with_reducible exact H2_) | with_reducible exact H | (rw [hy102]; exact H) | exact H
    have Ny102 := Aside0.mk hy102
    clear hy102
    obtain rfl := Option.some.inj H
    go_enter Tryd.func31, Tryd.ntmps31
    go_wp2_with (first | ((with_reducible refine gate_dst (N := 16) rfl ?_); refine Kd.R_lit (Kd.int .u8) _ 5 ?hg (N := 16) ?hd (xs := ([(wrap64 (48 + a0)) % 256] : List Int)) (inner := [.int .u8 ((wrap64 (48 + a0)) % 256)]) (ok := fun _ => True) (okp := fun _ => True) ?hr ?hp (fun _ hk => hk) trivial (Below.refl _ _) (Nat.le_refl _) (by simp) ?_; (case hd => rfl); (case hg => rfl); (case hr => first | (go_simp; done) | (go_simp; rfl)); (case hp => exact (Reps.one (show Kd.M (Kd.int .u8) _ _ _ ((wrap64 (48 + a0)) % 256) [.int .u8 ((wrap64 (48 + a0)) % 256)] from rfl) (Reps.none _ _))); intro v103 w8 ho9 hb hg_ hnew_; clear hg_ hnew_; (first | rw [← Ny102.out] at ho9 | (simp only [Int.reduceToNat] at ho9; rw [← Ny102.out] at ho9)); have n0_ := Aside0.mk (Kd.R_lower ho9 (below_size (by exact zB HB.out))); have n1_ := Aside0.mk (below_step (by exact zB HB.out) hb); clear HB; have HO104 := n0_; have HB := n1_; clear n0_ n1_; clear hb ho9; have hcv10 := own_string (P := Tryd.prog) Tryd.underlying22 Tryd.underlying5 Tryd.underlying9 (Kd.own_of_R HO104.out)))
    go_ret
    exact ⟨by first | rfl | (simp [errW_none, errW_some] <;> rfl) | (simp [*, errW_none, errW_some] <;> rfl), by exact zB HB.out⟩
   ·rw [if_neg c7] at H
    have c7b0 : decide (a0 < 10) = false := decide_eq_false c7
    clear c7
    replace H := Option.bind_eq_some_iff.mp H
    obtain ⟨t105, A110, H⟩ := H
    replace H : ((some (([(wrap64 (48 + (Int.tmod a0 10))) % 256] : List Int) : List Int)).bind fun y106 => (if t105.size + (strOfNums y106).size ≤ 9223372036854775807 then (some (t105 ++ (strOfNums y106))) else (none))) = some r := H
    have A11 := Aside0.mk A110
    clear A110
    obtain ⟨y106, hy106⟩ : ∃ y_ : List Int, y_ = (([(wrap64 (48 + (Int.tmod a0 10))) % 256] : List Int)) := ⟨_, rfl⟩
    replace H : (if t105.size + (strOfNums y106).size ≤ 9223372036854775807 then (some (t105 ++ (strOfNums y106))) else (none)) = some r := by first | (rw [hy106]; with_reducible exact H) | (have H2_ := (Option.bind_some _ _).symm.trans H; rw [hy106]; with_reducible exact H2_) | (have H2_ := (Option.bind_some _ _).symm.trans H; with_reducible exact H2_) | with_reducible exact H | (rw [hy106]; exact H) | exact H
    have Ny106 := Aside0.mk hy106
    clear hy106
    by_cases c12 : t105.size + (strOfNums y106).size ≤ 9223372036854775807
    ·rw [if_pos c12] at H
     have c12b0 := eq_true c12
     have c12b1 : decide (t105.size + (strOfNums y106).size ≤ 9223372036854775807) = true := decide_eq_true c12
     try have c12b2 : (9223372036854775807 < t105.size + (strOfNums y106).size) = False := eq_false (Nat.not_lt.2 c12)
     obtain rfl := Option.some.inj H
     go_enter Tryd.func31, Tryd.ntmps31
     try go_wp2
     have n0_ := Aside0.mk (below_drew1 HB.out)
     clear HB
     have HB := n0_
     clear n0_
     refine start_ (n := 11) (S := fun w' => True) (ds := []) #[false, false, false, false, false, false, false, false, false, false, false] (by kernel_rfl) rfl rfl trivial (fun hHeld => ?_); refine with_tabW spec_l6Dec.tab7 spec_l6Dec.bits7 (fun HT_ HW_ => ?_)
     generalize w.drew = w13 at HB hHeld ⊢
     refine pure_ (i := 0) (N := some 18) (v := ?_) (a' := ?_) #[true, false, false, false, false, false, false, false, false, false, false] rfl rfl (any_of HT_.out (by kernel_rfl)) (fun _ _ _ h => h) (Or.inl ⟨by rfl, ?_⟩) ?_ ?_
     rotate_left
     ·intro w'
      go_simp
      with_reducible rfl
     rotate_left
     ·simp only [zp0, zp1, zp2, zp3, zp4, i64_w, i32_w]
      rfl
     refine pure_ (i := 1) (N := some 19) (v := ?_) (a' := ?_) #[true, true, false, false, false, false, false, false, false, false, false] rfl rfl (any_of HT_.out (by kernel_rfl)) (fun _ _ _ h => h) (Or.inl ⟨by rfl, ?_⟩) ?_ ?_
     rotate_left
     ·intro w'
      go_simp
      with_reducible rfl
     rotate_left
     ·simp only [zp0, zp1, zp2, zp3, zp4, i64_w, i32_w]
      rfl
     refine pure_ (i := 3) (N := some 21) (v := ?_) (a' := ?_) #[true, true, false, true, false, false, false, false, false, false, false] rfl rfl (any_of HT_.out (by kernel_rfl)) (fun _ _ _ h => h) (Or.inl ⟨by rfl, ?_⟩) ?_ ?_
     rotate_left
     ·intro w'
      go_simp
      with_reducible rfl
     rotate_left
     ·simp only [zp0, zp1, zp2, zp3, zp4, i64_w, i32_w]
      rfl
     refine pure_ (i := 4) (N := some 22) (v := ?_) (a' := ?_) #[true, true, false, true, true, false, false, false, false, false, false] rfl rfl (any_of HT_.out (by kernel_rfl)) (fun _ _ _ h => h) (Or.inl ⟨by rfl, ?_⟩) ?_ ?_
     rotate_left
     ·intro w'
      go_simp
      with_reducible rfl
     rotate_left
     ·simp only [zp0, zp1, zp2, zp3, zp4, i64_w, i32_w]
      rfl
     refine pure_ (i := 5) (N := some 23) (v := ?_) (a' := ?_) #[true, true, false, true, true, true, false, false, false, false, false] rfl rfl (any_of HT_.out (by kernel_rfl)) (fun _ _ _ h => h) (Or.inl ⟨by rfl, ?_⟩) ?_ ?_
     rotate_left
     ·intro w'
      go_simp
      with_reducible rfl
     rotate_left
     ·simp only [zp0, zp1, zp2, zp3, zp4, i64_w, i32_w]
      rfl
     refine pure_ (i := 6) (N := some 24) (v := ?_) (a' := ?_) #[true, true, false, true, true, true, true, false, false, false, false] rfl rfl (any_of HT_.out (by kernel_rfl)) (fun _ _ _ h => h) (Or.inl ⟨by rfl, ?_⟩) ?_ ?_
     rotate_left
     ·intro w'
      go_simp
      with_reducible rfl
     rotate_left
     ·simp only [zp0, zp1, zp2, zp3, zp4, i64_w, i32_w]
      rfl
     refine join_ (σ := Value) 2 #[true, true, true, true, true, true, true, true, true, false, false] (fun s_ => [(20, .string t105), (25, s_), (26, .string (strOfNums y106))]) (fun s_ w' => (Kd.R (Kd.int .u8) 5 w' w.heap.size (fun _ => True) s_ y106) ∧ (Below w.heap.size w w')) ?_ ?_
     rotate_left
     ·intro hCont
      refine two_ (i := 2) (j := 7) (Ni := some 20) (Nj := some 25) #[true, true, true, true, true, true, true, false, false, false, false] #[true, true, false, true, true, true, true, true, false, false, false] rfl rfl rfl rfl (two_of HT_.out (by kernel_rfl)) (by decide) (by decide) (fun K hK => ?_) (fun K hK => ?_)
      ·skip
       refine goes_ Tryd.func31 (by kernel_rfl) rfl #[.int .i64 (wrap64 (Int.tdiv a0 10))] (by rfl) rfl rfl (by (try simp only [zm1, zm2, zm3]); first | done | rfl | (simp only [List.length_drop, List.length_take]; rfl)) ?_
       with_reducible refine (ih k (by omega) (wrap64 (Int.tdiv a0 10)) t105 _ A11.out).mono ?_
       rintro e w14 ⟨rfl, hb⟩
       refine ⟨_, rfl, ?_⟩
       have n0_ := Aside0.mk (below_step (by exact zB HB.out) hb)
       clear HB
       have HB := n0_
       clear n0_
       (try clear hb)
       (try clear hb2)
       (try clear hk)
       (try clear hi)
       refine hK.out _ _ trivial (fun hHeld => ?_)
       clear hK K
       refine norm_ (a' := ?_) ?_ ?_
       rotate_left
       ·show Act.put _ (some 20) _ = _
        simp only [zp0, zp1, zp2, zp3, zp4, i64_w, i32_w]
        rfl
       refine one_ (i := 7) (N := some 25) #[true, true, true, true, true, true, true, true, false, false, false] rfl rfl (one_of HT_.out (by kernel_rfl)) (by decide) (fun K hK => ?_)
       refine Kd.R_lit_step (Kd.int .u8) _ 5 ?hg (N := 25) ?hd (xs := ([(wrap64 (48 + (Int.tmod a0 10))) % 256] : List Int)) (inner := [.int .u8 ((wrap64 (48 + (Int.tmod a0 10))) % 256)]) (ok := fun _ => True) (okp := fun _ => True) ?hr ?hp (fun _ hk => hk) trivial (Below.refl _ _) (Nat.le_refl _) (by simp) ?_; (case hd => rfl); (case hg => rfl); (case hr => first | (go_simp; done) | (go_simp; rfl)); (case hp => exact (Reps.one (show Kd.M (Kd.int .u8) _ _ _ ((wrap64 (48 + (Int.tmod a0 10))) % 256) [.int .u8 ((wrap64 (48 + (Int.tmod a0 10))) % 256)] from rfl) (Reps.none _ _)))
       intro v107 w15 ho16 hb hg_ hnew_
       clear hg_ hnew_
       (first | rw [← Ny106.out] at ho16 | (simp only [Int.reduceToNat] at ho16; rw [← Ny106.out] at ho16))
       have n0_ := Aside0.mk (Kd.R_lower ho16 (below_size (by exact zB HB.out)))
       have n1_ := Aside0.mk (below_step (by exact zB HB.out) hb)
       clear HB
       have HO108 := n0_
       have HB := n1_
       clear n0_ n1_
       clear hb ho16
       refine hK.out _ _ trivial (fun hHeld => ?_)
       clear hK K
       refine norm_ (a' := ?_) ?_ ?_
       rotate_left
       ·show Act.put _ (some 25) _ = _
        simp only [zp0, zp1, zp2, zp3, zp4, i64_w, i32_w]
        rfl
       refine one_ (i := 8) (N := some 26) #[true, true, true, true, true, true, true, true, true, false, false] rfl rfl (one_of HT_.out (by kernel_rfl)) (by decide) (fun K hK => ?_)
       have hcv17 := own_string (P := Tryd.prog) Tryd.underlying22 Tryd.underlying5 Tryd.underlying9 (Kd.own_of_R HO108.out)
       refine value_ (w1 := ?_) (v := ?_) (by rfl) rfl ?_ ?_
       rotate_left 2
       ·go_simp
        constructor
        ·rfl
        ·rfl
       clear hcv17
       refine hK.out _ _ trivial (fun hHeld => ?_)
       clear hK K
       refine norm_ (a' := ?_) ?_ ?_
       rotate_left
       ·show Act.put _ (some 26) _ = _
        simp only [zp0, zp1, zp2, zp3, zp4, i64_w, i32_w]
        rfl
       exact norm_ (by simp only [putAll, zp0, zp1, zp2, zp3, zp4]) (hCont (v107) _ ⟨(by exact zR HO108.out), (by exact zB HB.out)⟩)
      ·skip
       refine Kd.R_lit_step (Kd.int .u8) _ 5 ?hg (N := 25) ?hd (xs := ([(wrap64 (48 + (Int.tmod a0 10))) % 256] : List Int)) (inner := [.int .u8 ((wrap64 (48 + (Int.tmod a0 10))) % 256)]) (ok := fun _ => True) (okp := fun _ => True) ?hr ?hp (fun _ hk => hk) trivial (Below.refl _ _) (Nat.le_refl _) (by simp) ?_; (case hd => rfl); (case hg => rfl); (case hr => first | (go_simp; done) | (go_simp; rfl)); (case hp => exact (Reps.one (show Kd.M (Kd.int .u8) _ _ _ ((wrap64 (48 + (Int.tmod a0 10))) % 256) [.int .u8 ((wrap64 (48 + (Int.tmod a0 10))) % 256)] from rfl) (Reps.none _ _)))
       intro v107 w14 ho15 hb hg_ hnew_
       clear hg_ hnew_
       (first | rw [← Ny106.out] at ho15 | (simp only [Int.reduceToNat] at ho15; rw [← Ny106.out] at ho15))
       have n0_ := Aside0.mk (Kd.R_lower ho15 (below_size (by exact zB HB.out)))
       have n1_ := Aside0.mk (below_step (by exact zB HB.out) hb)
       clear HB
       have HO108 := n0_
       have HB := n1_
       clear n0_ n1_
       clear hb ho15
       refine hK.out _ _ trivial (fun hHeld => ?_)
       clear hK K
       refine norm_ (a' := ?_) ?_ ?_
       rotate_left
       ·show Act.put _ (some 25) _ = _
        simp only [zp0, zp1, zp2, zp3, zp4, i64_w, i32_w]
        rfl
       refine two_ (i := 2) (j := 8) (Ni := some 20) (Nj := some 26) #[true, true, true, true, true, true, true, true, false, false, false] #[true, true, false, true, true, true, true, true, true, false, false] rfl rfl rfl rfl (two_of HT_.out (by kernel_rfl)) (by decide) (by decide) (fun K hK => ?_) (fun K hK => ?_)
       ·skip
        refine goes_ Tryd.func31 (by kernel_rfl) rfl #[.int .i64 (wrap64 (Int.tdiv a0 10))] (by rfl) rfl rfl (by (try simp only [zm1, zm2, zm3]); first | done | rfl | (simp only [List.length_drop, List.length_take]; rfl)) ?_
        with_reducible refine (ih k (by omega) (wrap64 (Int.tdiv a0 10)) t105 _ A11.out).mono ?_
        rintro e w16 ⟨rfl, hb⟩
        refine ⟨_, rfl, ?_⟩
        have n0_ := Aside0.mk (Kd.R_below (by exact zR HO108.out) hb)
        have n1_ := Aside0.mk (below_step (by exact zB HB.out) hb)
        clear HO108
        clear HB
        have HO108 := n0_
        have HB := n1_
        clear n0_ n1_
        (try clear hb)
        (try clear hb2)
        (try clear hk)
        (try clear hi)
        refine hK.out _ _ trivial (fun hHeld => ?_)
        clear hK K
        refine norm_ (a' := ?_) ?_ ?_
        rotate_left
        ·show Act.put _ (some 20) _ = _
         simp only [zp0, zp1, zp2, zp3, zp4, i64_w, i32_w]
         rfl
        refine one_ (i := 8) (N := some 26) #[true, true, true, true, true, true, true, true, true, false, false] rfl rfl (one_of HT_.out (by kernel_rfl)) (by decide) (fun K hK => ?_)
        have hcv17 := own_string (P := Tryd.prog) Tryd.underlying22 Tryd.underlying5 Tryd.underlying9 (Kd.own_of_R HO108.out)
        refine value_ (w1 := ?_) (v := ?_) (by rfl) rfl ?_ ?_
        rotate_left 2
        ·go_simp
         constructor
         ·rfl
         ·rfl
        clear hcv17
        refine hK.out _ _ trivial (fun hHeld => ?_)
        clear hK K
        refine norm_ (a' := ?_) ?_ ?_
        rotate_left
        ·show Act.put _ (some 26) _ = _
         simp only [zp0, zp1, zp2, zp3, zp4, i64_w, i32_w]
         rfl
        exact norm_ (by simp only [putAll, zp0, zp1, zp2, zp3, zp4]) (hCont (v107) _ ⟨(by exact zR HO108.out), (by exact zB HB.out)⟩)
       ·skip
        have hcv16 := own_string (P := Tryd.prog) Tryd.underlying22 Tryd.underlying5 Tryd.underlying9 (Kd.own_of_R HO108.out)
        refine value_ (w1 := ?_) (v := ?_) (by rfl) rfl ?_ ?_
        rotate_left 2
        ·go_simp
         constructor
         ·rfl
         ·rfl
        clear hcv16
        refine hK.out _ _ trivial (fun hHeld => ?_)
        clear hK K
        refine norm_ (a' := ?_) ?_ ?_
        rotate_left
        ·show Act.put _ (some 26) _ = _
         simp only [zp0, zp1, zp2, zp3, zp4, i64_w, i32_w]
         rfl
        refine one_ (i := 2) (N := some 20) #[true, true, true, true, true, true, true, true, true, false, false] rfl rfl (one_of HT_.out (by kernel_rfl)) (by decide) (fun K hK => ?_)
        refine goes_ Tryd.func31 (by kernel_rfl) rfl #[.int .i64 (wrap64 (Int.tdiv a0 10))] (by rfl) rfl rfl (by (try simp only [zm1, zm2, zm3]); first | done | rfl | (simp only [List.length_drop, List.length_take]; rfl)) ?_
        with_reducible refine (ih k (by omega) (wrap64 (Int.tdiv a0 10)) t105 _ A11.out).mono ?_
        rintro e w17 ⟨rfl, hb⟩
        refine ⟨_, rfl, ?_⟩
        have n0_ := Aside0.mk (Kd.R_below (by exact zR HO108.out) hb)
        have n1_ := Aside0.mk (below_step (by exact zB HB.out) hb)
        clear HO108
        clear HB
        have HO108 := n0_
        have HB := n1_
        clear n0_ n1_
        (try clear hb)
        (try clear hb2)
        (try clear hk)
        (try clear hi)
        refine hK.out _ _ trivial (fun hHeld => ?_)
        clear hK K
        refine norm_ (a' := ?_) ?_ ?_
        rotate_left
        ·show Act.put _ (some 20) _ = _
         simp only [zp0, zp1, zp2, zp3, zp4, i64_w, i32_w]
         rfl
        exact norm_ (by simp only [putAll, zp0, zp1, zp2, zp3, zp4]) (hCont (v107) _ ⟨(by exact zR HO108.out), (by exact zB HB.out)⟩)
     rintro v107 w18 ⟨h0_, h1_⟩
     have n0_ : Aside0 (Kd.R (Kd.int .u8) 5 w18 w.heap.size (fun _ => True) v107 y106) := ⟨h0_⟩
     have n1_ : Aside0 (Below w.heap.size w w18) := ⟨h1_⟩
     clear HB
     clear h0_ h1_
     have HO108 := n0_
     have HB := n1_
     clear n0_ n1_
     have hHeld := trivial
     refine norm_ (a' := ?_) ?_ ?_
     rotate_left
     ·simp only [putAll, zp0, zp1, zp2, zp3, zp4]
      rfl
     refine pure_ (i := 9) (N := some 27) (v := ?_) (a' := ?_) #[true, true, true, true, true, true, true, true, true, true, false] rfl rfl (any_of HT_.out (by kernel_rfl)) (fun _ _ _ h => h) (Or.inl ⟨by rfl, ?_⟩) ?_ ?_
     rotate_left
     ·intro w'
      go_simp
      with_reducible rfl
     rotate_left
     ·simp only [zp0, zp1, zp2, zp3, zp4, i64_w, i32_w]
      rfl
     refine pure_ (i := 10) (N := some 2) (v := ?_) (a' := ?_) #[true, true, true, true, true, true, true, true, true, true, true] rfl rfl (any_of HT_.out (by kernel_rfl)) (fun _ _ _ h => h) (Or.inl ⟨by rfl, ?_⟩) ?_ ?_
     rotate_left
     ·intro w'
      go_simp
      with_reducible rfl
     rotate_left
     ·simp only [zp0, zp1, zp2, zp3, zp4, i64_w, i32_w]
      rfl
     refine done_ (done_of HT_.out (by kernel_rfl)) ?_
     try go_wp2
     go_ret
     exact ⟨by first | rfl | (simp [errW_none, errW_some] <;> rfl) | (simp [*, errW_none, errW_some] <;> rfl), by exact zB HB.out⟩
    ·rw [if_neg c12] at H
     exact absurd H (by simp)

/-! ### spec_l1Name: function 30 -/
def spec_l1Name.f (k : Nat) (a0 : Int) (a1 : Int) : Option (ByteArray) := (some (([(wrap64 ((wrap64 (97 + a0)) - 1)) % 256] : List Int) : List Int)).bind fun y109 => ((spec_l6Dec.f k a1).bind fun t112 => (if (strOfNums y109).size + t112.size ≤ 9223372036854775807 then (some ((strOfNums y109) ++ t112)) else (none)))
theorem spec_l1Name.mono : ∀ a0 a1 k, LeO (spec_l1Name.f k a0 a1) (spec_l1Name.f (k + 1) a0 a1) := by
 intro a0 a1 k
 unfold spec_l1Name.f
 repeat' first
   | (with_reducible exact spec_l6Dec.mono _ _)
   | (with_reducible exact LeO.refl _)
   | (with_reducible exact LeO.none _)
   | (with_reducible refine LeO.ite ?_ ?_)
   | (with_reducible refine LeO.bind ?_ (fun _ => ?_))
   | exact spec_l6Dec.mono _ _
   | exact LeO.none _
   | refine LeO.ite ?_ ?_
   | refine LeO.bind ?_ (fun _ => ?_)
def spec_l1Name.T1 : Bool × List (List Nat × List Nat) := (true, [([], []), ([0], [0]), ([1], [1]), ([2], [2]), ([3], [3]), ([4], [4]), ([], []), ([6], [6]), ([5, 7], [5, 7]), ([8, 7, 0, 1, 2, 3, 4, 5, 6, 7, 8], [8])])
def spec_l1Name.B1 : List Nat := [0, 1, 3, 7, 15, 31, 0, 64, 255, 511]
theorem spec_l1Name.tab1 : rtab .any (opsOf Tryd.f30 1) = spec_l1Name.T1 := by kernel_rfl
theorem spec_l1Name.bits1 : waitsOk spec_l1Name.T1.2 spec_l1Name.B1 = true := by kernel_rfl
set_option maxHeartbeats 8000000 in
set_option maxRecDepth 100000 in
theorem spec_l1Name.calls (k : Nat) (a0 : Int) (a1 : Int) (r : ByteArray) (w : World) (h : spec_l1Name.f k a0 a1 = some r) :
  Calls Tryd.prog 30 #[.int .i64 a0, .int .i64 a1] w fun e w' => e = .returned (.string r) ∧ Below w.heap.size w w' := by
 have HB := Aside0.mk (Below.refl w.heap.size w)
 have H : ((some (([(wrap64 ((wrap64 (97 + a0)) - 1)) % 256] : List Int) : List Int)).bind fun y109 => ((spec_l6Dec.f k a1).bind fun t112 => (if (strOfNums y109).size + t112.size ≤ 9223372036854775807 then (some ((strOfNums y109) ++ t112)) else (none)))) = some r := h
 clear h
 obtain ⟨y109, hy109⟩ : ∃ y_ : List Int, y_ = (([(wrap64 ((wrap64 (97 + a0)) - 1)) % 256] : List Int)) := ⟨_, rfl⟩
 replace H : ((spec_l6Dec.f k a1).bind fun t112 => (if (strOfNums y109).size + t112.size ≤ 9223372036854775807 then (some ((strOfNums y109) ++ t112)) else (none))) = some r := by first | (rw [hy109]; with_reducible exact H) | (have H2_ := (Option.bind_some _ _).symm.trans H; rw [hy109]; with_reducible exact H2_) | (have H2_ := (Option.bind_some _ _).symm.trans H; with_reducible exact H2_) | with_reducible exact H | (rw [hy109]; exact H) | exact H
 have Ny109 := Aside0.mk hy109
 clear hy109
 replace H := Option.bind_eq_some_iff.mp H
 obtain ⟨t112, A30, H⟩ := H
 replace H : (if (strOfNums y109).size + t112.size ≤ 9223372036854775807 then (some ((strOfNums y109) ++ t112)) else (none)) = some r := H
 have A3 := Aside0.mk A30
 clear A30
 by_cases c4 : (strOfNums y109).size + t112.size ≤ 9223372036854775807
 ·rw [if_pos c4] at H
  have c4b0 := eq_true c4
  have c4b1 : decide ((strOfNums y109).size + t112.size ≤ 9223372036854775807) = true := decide_eq_true c4
  try have c4b2 : (9223372036854775807 < (strOfNums y109).size + t112.size) = False := eq_false (Nat.not_lt.2 c4)
  obtain rfl := Option.some.inj H
  go_enter Tryd.func30, Tryd.ntmps30
  try go_wp2
  have n0_ := Aside0.mk (below_drew1 HB.out)
  clear HB
  have HB := n0_
  clear n0_
  refine start_ (n := 10) (S := fun w' => True) (ds := []) #[false, false, false, false, false, false, false, false, false, false] (by kernel_rfl) rfl rfl trivial (fun hHeld => ?_); refine with_tabW spec_l1Name.tab1 spec_l1Name.bits1 (fun HT_ HW_ => ?_)
  generalize w.drew = w5 at HB hHeld ⊢
  refine pure_ (i := 0) (N := some 5) (v := ?_) (a' := ?_) #[true, false, false, false, false, false, false, false, false, false] rfl rfl (any_of HT_.out (by kernel_rfl)) (fun _ _ _ h => h) (Or.inl ⟨by rfl, ?_⟩) ?_ ?_
  rotate_left
  ·intro w'
   go_simp
   with_reducible rfl
  rotate_left
  ·simp only [zp0, zp1, zp2, zp3, zp4, i64_w, i32_w]
   rfl
  refine pure_ (i := 1) (N := some 6) (v := ?_) (a' := ?_) #[true, true, false, false, false, false, false, false, false, false] rfl rfl (any_of HT_.out (by kernel_rfl)) (fun _ _ _ h => h) (Or.inl ⟨by rfl, ?_⟩) ?_ ?_
  rotate_left
  ·intro w'
   go_simp
   with_reducible rfl
  rotate_left
  ·simp only [zp0, zp1, zp2, zp3, zp4, i64_w, i32_w]
   rfl
  refine pure_ (i := 2) (N := some 7) (v := ?_) (a' := ?_) #[true, true, true, false, false, false, false, false, false, false] rfl rfl (any_of HT_.out (by kernel_rfl)) (fun _ _ _ h => h) (Or.inl ⟨by rfl, ?_⟩) ?_ ?_
  rotate_left
  ·intro w'
   go_simp
   with_reducible rfl
  rotate_left
  ·simp only [zp0, zp1, zp2, zp3, zp4, i64_w, i32_w]
   rfl
  refine pure_ (i := 3) (N := some 8) (v := ?_) (a' := ?_) #[true, true, true, true, false, false, false, false, false, false] rfl rfl (any_of HT_.out (by kernel_rfl)) (fun _ _ _ h => h) (Or.inl ⟨by rfl, ?_⟩) ?_ ?_
  rotate_left
  ·intro w'
   go_simp
   with_reducible rfl
  rotate_left
  ·simp only [zp0, zp1, zp2, zp3, zp4, i64_w, i32_w]
   rfl
  refine pure_ (i := 6) (N := some 11) (v := ?_) (a' := ?_) #[true, true, true, true, false, false, true, false, false, false] rfl rfl (any_of HT_.out (by kernel_rfl)) (fun _ _ _ h => h) (Or.inl ⟨by rfl, ?_⟩) ?_ ?_
  rotate_left
  ·intro w'
   go_simp
   with_reducible rfl
  rotate_left
  ·simp only [zp0, zp1, zp2, zp3, zp4, i64_w, i32_w]
   rfl
  refine join_ (σ := Value) 2 #[true, true, true, true, true, true, true, true, false, false] (fun s_ => [(9, s_), (10, .string (strOfNums y109)), (12, .string t112)]) (fun s_ w' => (Kd.R (Kd.int .u8) 5 w' w.heap.size (fun _ => True) s_ y109) ∧ (Below w.heap.size w w')) ?_ ?_
  rotate_left
  ·intro hCont
   refine two_ (i := 4) (j := 7) (Ni := some 9) (Nj := some 12) #[true, true, true, true, true, false, true, false, false, false] #[true, true, true, true, false, false, true, true, false, false] rfl rfl rfl rfl (two_of HT_.out (by kernel_rfl)) (by decide) (by decide) (fun K hK => ?_) (fun K hK => ?_)
   ·skip
    refine Kd.R_lit_step (Kd.int .u8) _ 5 ?hg (N := 9) ?hd (xs := ([(wrap64 ((wrap64 (97 + a0)) - 1)) % 256] : List Int)) (inner := [.int .u8 ((wrap64 ((wrap64 (97 + a0)) - 1)) % 256)]) (ok := fun _ => True) (okp := fun _ => True) ?hr ?hp (fun _ hk => hk) trivial (Below.refl _ _) (Nat.le_refl _) (by simp) ?_; (case hd => rfl); (case hg => rfl); (case hr => first | (go_simp; done) | (go_simp; rfl)); (case hp => exact (Reps.one (show Kd.M (Kd.int .u8) _ _ _ ((wrap64 ((wrap64 (97 + a0)) - 1)) % 256) [.int .u8 ((wrap64 ((wrap64 (97 + a0)) - 1)) % 256)] from rfl) (Reps.none _ _)))
    intro v110 w6 ho7 hb hg_ hnew_
    clear hg_ hnew_
    (first | rw [← Ny109.out] at ho7 | (simp only [Int.reduceToNat] at ho7; rw [← Ny109.out] at ho7))
    have n0_ := Aside0.mk (Kd.R_lower ho7 (below_size (by exact zB HB.out)))
    have n1_ := Aside0.mk (below_step (by exact zB HB.out) hb)
    clear HB
    have HO111 := n0_
    have HB := n1_
    clear n0_ n1_
    clear hb ho7
    refine hK.out _ _ trivial (fun hHeld => ?_)
    clear hK K
    refine norm_ (a' := ?_) ?_ ?_
    rotate_left
    ·show Act.put _ (some 9) _ = _
     simp only [zp0, zp1, zp2, zp3, zp4, i64_w, i32_w]
     rfl
    refine two_ (i := 5) (j := 7) (Ni := some 10) (Nj := some 12) #[true, true, true, true, true, true, true, false, false, false] #[true, true, true, true, true, false, true, true, false, false] rfl rfl rfl rfl (two_of HT_.out (by kernel_rfl)) (by decide) (by decide) (fun K hK => ?_) (fun K hK => ?_)
    ·skip
     have hcv8 := own_string (P := Tryd.prog) Tryd.underlying22 Tryd.underlying5 Tryd.underlying9 (Kd.own_of_R HO111.out)
     refine value_ (w1 := ?_) (v := ?_) (by rfl) rfl ?_ ?_
     rotate_left 2
     ·go_simp
      constructor
      ·rfl
      ·rfl
     clear hcv8
     refine hK.out _ _ trivial (fun hHeld => ?_)
     clear hK K
     refine norm_ (a' := ?_) ?_ ?_
     rotate_left
     ·show Act.put _ (some 10) _ = _
      simp only [zp0, zp1, zp2, zp3, zp4, i64_w, i32_w]
      rfl
     refine one_ (i := 7) (N := some 12) #[true, true, true, true, true, true, true, true, false, false] rfl rfl (one_of HT_.out (by kernel_rfl)) (by decide) (fun K hK => ?_)
     refine goes_ Tryd.func31 (by kernel_rfl) rfl #[.int .i64 a1] (by rfl) rfl rfl (by (try simp only [zm1, zm2, zm3]); first | done | rfl | (simp only [List.length_drop, List.length_take]; rfl)) ?_
     with_reducible refine (spec_l6Dec.calls k a1 t112 _ A3.out).mono ?_
     rintro e w9 ⟨rfl, hb⟩
     refine ⟨_, rfl, ?_⟩
     have n0_ := Aside0.mk (Kd.R_below (by exact zR HO111.out) hb)
     have n1_ := Aside0.mk (below_step (by exact zB HB.out) hb)
     clear HO111
     clear HB
     have HO111 := n0_
     have HB := n1_
     clear n0_ n1_
     (try clear hb)
     (try clear hb2)
     (try clear hk)
     (try clear hi)
     refine hK.out _ _ trivial (fun hHeld => ?_)
     clear hK K
     refine norm_ (a' := ?_) ?_ ?_
     rotate_left
     ·show Act.put _ (some 12) _ = _
      simp only [zp0, zp1, zp2, zp3, zp4, i64_w, i32_w]
      rfl
     exact norm_ (by simp only [putAll, zp0, zp1, zp2, zp3, zp4]) (hCont (v110) _ ⟨(by exact zR HO111.out), (by exact zB HB.out)⟩)
    ·skip
     refine goes_ Tryd.func31 (by kernel_rfl) rfl #[.int .i64 a1] (by rfl) rfl rfl (by (try simp only [zm1, zm2, zm3]); first | done | rfl | (simp only [List.length_drop, List.length_take]; rfl)) ?_
     with_reducible refine (spec_l6Dec.calls k a1 t112 _ A3.out).mono ?_
     rintro e w8 ⟨rfl, hb⟩
     refine ⟨_, rfl, ?_⟩
     have n0_ := Aside0.mk (Kd.R_below (by exact zR HO111.out) hb)
     have n1_ := Aside0.mk (below_step (by exact zB HB.out) hb)
     clear HO111
     clear HB
     have HO111 := n0_
     have HB := n1_
     clear n0_ n1_
     (try clear hb)
     (try clear hb2)
     (try clear hk)
     (try clear hi)
     refine hK.out _ _ trivial (fun hHeld => ?_)
     clear hK K
     refine norm_ (a' := ?_) ?_ ?_
     rotate_left
     ·show Act.put _ (some 12) _ = _
      simp only [zp0, zp1, zp2, zp3, zp4, i64_w, i32_w]
      rfl
     refine one_ (i := 5) (N := some 10) #[true, true, true, true, true, true, true, true, false, false] rfl rfl (one_of HT_.out (by kernel_rfl)) (by decide) (fun K hK => ?_)
     have hcv9 := own_string (P := Tryd.prog) Tryd.underlying22 Tryd.underlying5 Tryd.underlying9 (Kd.own_of_R HO111.out)
     refine value_ (w1 := ?_) (v := ?_) (by rfl) rfl ?_ ?_
     rotate_left 2
     ·go_simp
      constructor
      ·rfl
      ·rfl
     clear hcv9
     refine hK.out _ _ trivial (fun hHeld => ?_)
     clear hK K
     refine norm_ (a' := ?_) ?_ ?_
     rotate_left
     ·show Act.put _ (some 10) _ = _
      simp only [zp0, zp1, zp2, zp3, zp4, i64_w, i32_w]
      rfl
     exact norm_ (by simp only [putAll, zp0, zp1, zp2, zp3, zp4]) (hCont (v110) _ ⟨(by exact zR HO111.out), (by exact zB HB.out)⟩)
   ·skip
    refine goes_ Tryd.func31 (by kernel_rfl) rfl #[.int .i64 a1] (by rfl) rfl rfl (by (try simp only [zm1, zm2, zm3]); first | done | rfl | (simp only [List.length_drop, List.length_take]; rfl)) ?_
    with_reducible refine (spec_l6Dec.calls k a1 t112 _ A3.out).mono ?_
    rintro e w6 ⟨rfl, hb⟩
    refine ⟨_, rfl, ?_⟩
    have n0_ := Aside0.mk (below_step (by exact zB HB.out) hb)
    clear HB
    have HB := n0_
    clear n0_
    (try clear hb)
    (try clear hb2)
    (try clear hk)
    (try clear hi)
    refine hK.out _ _ trivial (fun hHeld => ?_)
    clear hK K
    refine norm_ (a' := ?_) ?_ ?_
    rotate_left
    ·show Act.put _ (some 12) _ = _
     simp only [zp0, zp1, zp2, zp3, zp4, i64_w, i32_w]
     rfl
    refine one_ (i := 4) (N := some 9) #[true, true, true, true, true, false, true, true, false, false] rfl rfl (one_of HT_.out (by kernel_rfl)) (by decide) (fun K hK => ?_)
    refine Kd.R_lit_step (Kd.int .u8) _ 5 ?hg (N := 9) ?hd (xs := ([(wrap64 ((wrap64 (97 + a0)) - 1)) % 256] : List Int)) (inner := [.int .u8 ((wrap64 ((wrap64 (97 + a0)) - 1)) % 256)]) (ok := fun _ => True) (okp := fun _ => True) ?hr ?hp (fun _ hk => hk) trivial (Below.refl _ _) (Nat.le_refl _) (by simp) ?_; (case hd => rfl); (case hg => rfl); (case hr => first | (go_simp; done) | (go_simp; rfl)); (case hp => exact (Reps.one (show Kd.M (Kd.int .u8) _ _ _ ((wrap64 ((wrap64 (97 + a0)) - 1)) % 256) [.int .u8 ((wrap64 ((wrap64 (97 + a0)) - 1)) % 256)] from rfl) (Reps.none _ _)))
    intro v110 w7 ho8 hb hg_ hnew_
    clear hg_ hnew_
    (first | rw [← Ny109.out] at ho8 | (simp only [Int.reduceToNat] at ho8; rw [← Ny109.out] at ho8))
    have n0_ := Aside0.mk (Kd.R_lower ho8 (below_size (by exact zB HB.out)))
    have n1_ := Aside0.mk (below_step (by exact zB HB.out) hb)
    clear HB
    have HO111 := n0_
    have HB := n1_
    clear n0_ n1_
    clear hb ho8
    refine hK.out _ _ trivial (fun hHeld => ?_)
    clear hK K
    refine norm_ (a' := ?_) ?_ ?_
    rotate_left
    ·show Act.put _ (some 9) _ = _
     simp only [zp0, zp1, zp2, zp3, zp4, i64_w, i32_w]
     rfl
    refine one_ (i := 5) (N := some 10) #[true, true, true, true, true, true, true, true, false, false] rfl rfl (one_of HT_.out (by kernel_rfl)) (by decide) (fun K hK => ?_)
    have hcv9 := own_string (P := Tryd.prog) Tryd.underlying22 Tryd.underlying5 Tryd.underlying9 (Kd.own_of_R HO111.out)
    refine value_ (w1 := ?_) (v := ?_) (by rfl) rfl ?_ ?_
    rotate_left 2
    ·go_simp
     constructor
     ·rfl
     ·rfl
    clear hcv9
    refine hK.out _ _ trivial (fun hHeld => ?_)
    clear hK K
    refine norm_ (a' := ?_) ?_ ?_
    rotate_left
    ·show Act.put _ (some 10) _ = _
     simp only [zp0, zp1, zp2, zp3, zp4, i64_w, i32_w]
     rfl
    exact norm_ (by simp only [putAll, zp0, zp1, zp2, zp3, zp4]) (hCont (v110) _ ⟨(by exact zR HO111.out), (by exact zB HB.out)⟩)
  rintro v110 w10 ⟨h0_, h1_⟩
  have n0_ : Aside0 (Kd.R (Kd.int .u8) 5 w10 w.heap.size (fun _ => True) v110 y109) := ⟨h0_⟩
  have n1_ : Aside0 (Below w.heap.size w w10) := ⟨h1_⟩
  clear HB
  clear h0_ h1_
  have HO111 := n0_
  have HB := n1_
  clear n0_ n1_
  have hHeld := trivial
  refine norm_ (a' := ?_) ?_ ?_
  rotate_left
  ·simp only [putAll, zp0, zp1, zp2, zp3, zp4]
   rfl
  refine pure_ (i := 8) (N := some 13) (v := ?_) (a' := ?_) #[true, true, true, true, true, true, true, true, true, false] rfl rfl (any_of HT_.out (by kernel_rfl)) (fun _ _ _ h => h) (Or.inl ⟨by rfl, ?_⟩) ?_ ?_
  rotate_left
  ·intro w'
   go_simp
   with_reducible rfl
  rotate_left
  ·simp only [zp0, zp1, zp2, zp3, zp4, i64_w, i32_w]
   rfl
  refine pure_ (i := 9) (N := some 4) (v := ?_) (a' := ?_) #[true, true, true, true, true, true, true, true, true, true] rfl rfl (any_of HT_.out (by kernel_rfl)) (fun _ _ _ h => h) (Or.inl ⟨by rfl, ?_⟩) ?_ ?_
  rotate_left
  ·intro w'
   go_simp
   with_reducible rfl
  rotate_left
  ·simp only [zp0, zp1, zp2, zp3, zp4, i64_w, i32_w]
   rfl
  refine done_ (done_of HT_.out (by kernel_rfl)) ?_
  try go_wp2
  go_ret
  exact ⟨by first | rfl | (simp [errW_none, errW_some] <;> rfl) | (simp [*, errW_none, errW_some] <;> rfl), by exact zB HB.out⟩
 ·rw [if_neg c4] at H
  exact absurd H (by simp)

/-! ### spec_l6In: function 52 -/
theorem spec_l6In_b (w : World) (n a b : Int) (v : Bool) (h : inB_ n a b = v) : Calls Tryd.prog 52 #[.int .i64 n, .int .i64 a, .int .i64 b] w fun e w' => e = .returned (.bool v) ∧ w' = w := by
 subst h
 go_enter Tryd.func52, Tryd.ntmps52
 by_cases h1 : a ≤ n
 ·by_cases h2 : n ≤ b
  ·have e1 : inB_ n a b = true := by unfold inB_; rw [decide_eq_true h1, decide_eq_true h2]; rfl
   have d1 : decide (a ≤ n) = true := decide_eq_true h1
   have d2 : decide (n ≤ b) = true := decide_eq_true h2
   rw [e1]
   clear h1 h2 e1
   go_wp2
   go_ret
   exact ⟨by first | rfl | simp [*], rfl⟩
  ·have e1 : inB_ n a b = false := by unfold inB_; rw [decide_eq_false h2, Bool.and_false]
   have d1 : decide (a ≤ n) = true := decide_eq_true h1
   have d2 : decide (n ≤ b) = false := decide_eq_false h2
   rw [e1]
   clear h1 h2 e1
   go_wp2
   go_ret
   exact ⟨by first | rfl | simp [*], rfl⟩
 ·have e1 : inB_ n a b = false := by unfold inB_; rw [decide_eq_false h1, Bool.false_and]
  have d1 : decide (a ≤ n) = false := decide_eq_false h1
  rw [e1]
  clear h1 e1
  go_wp2
  go_ret
  exact ⟨by first | rfl | simp [*], rfl⟩
def spec_l6In.f (a0 : Int) (a1 : Int) (a2 : Int) : Option (Bool) := if a0 ≥ a1 then (some (decide (a0 ≤ a2))) else (some (false))
theorem spec_l6In.calls (a0 : Int) (a1 : Int) (a2 : Int) (r : Bool) (w : World) (h : spec_l6In.f a0 a1 a2 = some r) :
  Calls Tryd.prog 52 #[.int .i64 a0, .int .i64 a1, .int .i64 a2] w fun e w' => e = .returned (.bool r) ∧ Drawn0 w w' := by
 have e : inB_ a0 a1 a2 = r := by
  unfold spec_l6In.f at h
  unfold inB_
  by_cases c : a0 ≥ a1
  ·rw [if_pos c] at h
   rw [decide_eq_true c, Bool.true_and]
   exact Option.some.inj h
  ·rw [if_neg c] at h
   rw [decide_eq_false c, Bool.false_and]
   exact Option.some.inj h
 exact (spec_l6In_b w a0 a1 a2 r e).mono fun _ _ h => ⟨h.1, by rw [h.2]; exact Drawn0.refl _⟩

/-! ### spec_l3Less: function 55 -/
def spec_l3Less.f (a0 : Int) (a1 : Int) (a2 : Int) (a3 : Int) : Option (Bool) := if a0 < a2 then (some true) else (if a0 = a2 then (some (decide (a1 < a3))) else (some false))
set_option maxHeartbeats 8000000 in
set_option maxRecDepth 100000 in
theorem spec_l3Less.calls (a0 : Int) (a1 : Int) (a2 : Int) (a3 : Int) (r : Bool) (w : World) (h : spec_l3Less.f a0 a1 a2 a3 = some r) :
  Calls Tryd.prog 55 #[.int .i64 a0, .int .i64 a1, .int .i64 a2, .int .i64 a3] w fun e w' => e = .returned (.bool r) ∧ Drawn0 w w' := by
 have H : (if a0 < a2 then (some true) else (if a0 = a2 then (some (decide (a1 < a3))) else (some false))) = some r := h
 clear h
 by_cases c5 : a0 < a2
 ·rw [if_pos c5] at H
  have c5b0 : decide (a0 < a2) = true := decide_eq_true c5
  clear c5
  obtain rfl := Option.some.inj H
  go_enter Tryd.func55, Tryd.ntmps55
  go_wp2
  go_ret
  exact ⟨by first | rfl | (simp; done) | (simp [*]; done), by repeat (first | exact Drawn0.refl _ | apply Drawn0.step)⟩
 ·rw [if_neg c5] at H
  have c5b0 : decide (a0 < a2) = false := decide_eq_false c5
  clear c5
  by_cases c6 : a0 = a2
  ·rw [if_pos c6] at H
   have c6b0 : (a0 == a2) = true := beq_iff_eq.mpr c6
   have c6b1 : (a0 != a2) = false := bne_eq_false_iff_eq.mpr c6
   clear c6
   obtain rfl := Option.some.inj H
   go_enter Tryd.func55, Tryd.ntmps55
   go_wp2
   go_ret
   exact ⟨by first | rfl | (simp; done) | (simp [*]; done), by repeat (first | exact Drawn0.refl _ | apply Drawn0.step)⟩
  ·rw [if_neg c6] at H
   have c6b0 : (a0 == a2) = false := beq_eq_false_iff_ne.mpr c6
   have c6b1 : (a0 != a2) = true := bne_iff_ne.mpr c6
   obtain rfl := Option.some.inj H
   go_enter Tryd.func55, Tryd.ntmps55
   go_wp2
   go_ret
   exact ⟨by first | rfl | (simp; done) | (simp [*]; done), by repeat (first | exact Drawn0.refl _ | apply Drawn0.step)⟩

/-! ### spec_IndexOk: function 36 -/
mutual
def spec_IndexOk.j0 : Nat → Bool → Int → Int → List (S73) → Option (Bool)
 | 0, _, _, _, _ => none
 | k + 1, x20, x114000, x114001, x114002 => if x20 = true then (some false) else (spec_IndexOk.l0 k 0 x114000 x114001 x114002)
def spec_IndexOk.l0 : Nat → Int → Int → Int → List (S73) → Option (Bool)
 | 0, _, _, _, _ => none
 | k + 1, x3, x114000, x114001, x114002 => if x3 < (x114002.length : Int) then (if 0 ≤ x3 then ((spec_l6In.f ((rd_T73 x114002 x3).f0) 1 4).bind fun t118 => (if t118 = true then ((spec_l6In.f ((rd_T73 x114002 x3).f1) 1 5).bind fun t119 => (if t119 = true then ((spec_l6In.f ((rd_T73 x114002 x3).f2) 0 9972).bind fun t120 => (spec_IndexOk.j2 k x3 (!t120) x114000 x114001 x114002 ((rd_T73 x114002 x3).f0) ((rd_T73 x114002 x3).f1) ((rd_T73 x114002 x3).f2))) else (spec_IndexOk.j2 k x3 true x114000 x114001 x114002 ((rd_T73 x114002 x3).f0) ((rd_T73 x114002 x3).f1) ((rd_T73 x114002 x3).f2)))) else (spec_IndexOk.j2 k x3 true x114000 x114001 x114002 ((rd_T73 x114002 x3).f0) ((rd_T73 x114002 x3).f1) ((rd_T73 x114002 x3).f2)))) else (none)) else (some true)
def spec_IndexOk.j2 : Nat → Int → Bool → Int → Int → List (S73) → Int → Int → Int → Option (Bool)
 | 0, _, _, _, _, _, _, _, _ => none
 | k + 1, x3, x48, x114000, x114001, x114002, x118000, x118001, x118002 => if x48 = true then (some false) else (if x3 > 0 then (if 0 ≤ (wrap64 (x3 - 1)) then (if (wrap64 (x3 - 1)) < (x114002.length : Int) then ((spec_l3Less.f ((rd_T73 x114002 (wrap64 (x3 - 1))).f0) ((rd_T73 x114002 (wrap64 (x3 - 1))).f1) x118000 x118001).bind fun t123 => (if t123 = true then (spec_IndexOk.l0 k (wrap64 (x3 + 1)) x114000 x114001 x114002) else (some false))) else (none)) else (none)) else (spec_IndexOk.l0 k (wrap64 (x3 + 1)) x114000 x114001 x114002))
end
def spec_IndexOk.f (k : Nat) (a0_0 : Int) (a0_1 : Int) (l0_2 : List (S73)) : Option (Bool) := (spec_l6In.f a0_0 1 30).bind fun t114 => (if t114 = true then ((spec_l6In.f a0_1 0 60).bind fun t115 => (if t115 = true then (spec_IndexOk.j0 k (decide ((l0_2.length : Int) > 8)) a0_0 a0_1 l0_2) else (spec_IndexOk.j0 k true a0_0 a0_1 l0_2))) else (spec_IndexOk.j0 k true a0_0 a0_1 l0_2))
theorem spec_IndexOk.mono_l : ∀ k, (∀ y0 y1 y2 y3, LeO (spec_IndexOk.j0 k y0 y1 y2 y3) (spec_IndexOk.j0 (k + 1) y0 y1 y2 y3)) ∧ (∀ y0 y1 y2 y3, LeO (spec_IndexOk.l0 k y0 y1 y2 y3) (spec_IndexOk.l0 (k + 1) y0 y1 y2 y3)) ∧ (∀ y0 y1 y2 y3 y4 y5 y6 y7, LeO (spec_IndexOk.j2 k y0 y1 y2 y3 y4 y5 y6 y7) (spec_IndexOk.j2 (k + 1) y0 y1 y2 y3 y4 y5 y6 y7))
 | 0 => ⟨fun _ _ _ _ r h => by simp [spec_IndexOk.j0] at h, fun _ _ _ _ r h => by simp [spec_IndexOk.l0] at h, fun _ _ _ _ _ _ _ _ r h => by simp [spec_IndexOk.j2] at h⟩
 | k + 1 => by
  obtain ⟨ih0, ih1, ih2⟩ := spec_IndexOk.mono_l k
  refine ⟨?_, ?_, ?_⟩
  ·intro y0 y1 y2 y3
   unfold spec_IndexOk.j0
   repeat' first
   | (with_reducible exact ih0 _ _ _ _)
   | (with_reducible exact ih1 _ _ _ _)
   | (with_reducible exact ih2 _ _ _ _ _ _ _ _)
   | (with_reducible exact LeO.refl _)
   | (with_reducible exact LeO.none _)
   | (with_reducible refine LeO.ite ?_ ?_)
   | (with_reducible refine LeO.bind ?_ (fun _ => ?_))
   | exact ih0 _ _ _ _
   | exact ih1 _ _ _ _
   | exact ih2 _ _ _ _ _ _ _ _
   | exact LeO.none _
   | refine LeO.ite ?_ ?_
   | refine LeO.bind ?_ (fun _ => ?_)
  ·intro y0 y1 y2 y3
   unfold spec_IndexOk.l0
   repeat' first
   | (with_reducible exact ih0 _ _ _ _)
   | (with_reducible exact ih1 _ _ _ _)
   | (with_reducible exact ih2 _ _ _ _ _ _ _ _)
   | (with_reducible exact LeO.refl _)
   | (with_reducible exact LeO.none _)
   | (with_reducible refine LeO.ite ?_ ?_)
   | (with_reducible refine LeO.bind ?_ (fun _ => ?_))
   | exact ih0 _ _ _ _
   | exact ih1 _ _ _ _
   | exact ih2 _ _ _ _ _ _ _ _
   | exact LeO.none _
   | refine LeO.ite ?_ ?_
   | refine LeO.bind ?_ (fun _ => ?_)
  ·intro y0 y1 y2 y3 y4 y5 y6 y7
   unfold spec_IndexOk.j2
   repeat' first
   | (with_reducible exact ih0 _ _ _ _)
   | (with_reducible exact ih1 _ _ _ _)
   | (with_reducible exact ih2 _ _ _ _ _ _ _ _)
   | (with_reducible exact LeO.refl _)
   | (with_reducible exact LeO.none _)
   | (with_reducible refine LeO.ite ?_ ?_)
   | (with_reducible refine LeO.bind ?_ (fun _ => ?_))
   | exact ih0 _ _ _ _
   | exact ih1 _ _ _ _
   | exact ih2 _ _ _ _ _ _ _ _
   | exact LeO.none _
   | refine LeO.ite ?_ ?_
   | refine LeO.bind ?_ (fun _ => ?_)
theorem spec_IndexOk.mono : ∀ a0 a1 a2 k, LeO (spec_IndexOk.f k a0 a1 a2) (spec_IndexOk.f (k + 1) a0 a1 a2) := by
 intro a0 a1 a2 k
 obtain ⟨ih0, ih1, ih2⟩ := spec_IndexOk.mono_l k
 unfold spec_IndexOk.f
 repeat' first
   | (with_reducible exact ih0 _ _ _ _)
   | (with_reducible exact ih1 _ _ _ _)
   | (with_reducible exact ih2 _ _ _ _ _ _ _ _)
   | (with_reducible exact LeO.refl _)
   | (with_reducible exact LeO.none _)
   | (with_reducible refine LeO.ite ?_ ?_)
   | (with_reducible refine LeO.bind ?_ (fun _ => ?_))
   | exact ih0 _ _ _ _
   | exact ih1 _ _ _ _
   | exact ih2 _ _ _ _ _ _ _ _
   | exact LeO.none _
   | refine LeO.ite ?_ ?_
   | refine LeO.bind ?_ (fun _ => ?_)
set_option maxHeartbeats 8000000 in
set_option maxRecDepth 100000 in
theorem spec_IndexOk.calls (k : Nat) (a0_0 : Int) (a0_1 : Int) (A0_2 : Option Addr) (c0_2 : Nat) (l0_2 : List (S73)) (r : Bool) (w : World) (hr0_2 : Kd.C k73 w A0_2 l0_2.length l0_2) (hc0_2 : l0_2.length ≤ c0_2) (h : spec_IndexOk.f k a0_0 a0_1 l0_2 = some r) :
  Calls Tryd.prog 36 #[.agg #[.int .i64 a0_0, .int .i64 a0_1, .slice A0_2 l0_2.length c0_2]] w fun e w' => e = .returned (.bool r) ∧ Below w.heap.size w w' := by
 have hu38 := Tryd.underlying38
 have hu73 := Tryd.underlying73
 have HR0_2 := Aside0.mk hr0_2
 have HC0_2 := Aside0.mk hc0_2
 clear hr0_2 hc0_2
 have HB := Aside0.mk (Below.refl w.heap.size w)
 have H : ((spec_l6In.f a0_0 1 30).bind fun t114 => (if t114 = true then ((spec_l6In.f a0_1 0 60).bind fun t115 => (if t115 = true then (spec_IndexOk.j0 k (decide ((l0_2.length : Int) > 8)) a0_0 a0_1 l0_2) else (spec_IndexOk.j0 k true a0_0 a0_1 l0_2))) else (spec_IndexOk.j0 k true a0_0 a0_1 l0_2))) = some r := h
 clear h
 have HC2 := Aside0.mk H
 clear H
 go_enter Tryd.func36, Tryd.ntmps36
 go_upto_region 1 with (first | ((with_reducible refine gate_dst (N := 1) rfl ?_); (try (refine gate_guard (by rfl) ?_; dsimp only)); refine box_event ?hg (N := 1) ?hd (cs := #[.int .i64 a0_0, .int .i64 a0_1, .slice A0_2 l0_2.length c0_2]) (t := 38) ?hr ?_; (case hd => rfl); (case hg => rfl); (case hr => first | (go_simp; done) | (go_simp; rfl)); intro gb113 hg w3 hbox hb; have n0_ := Aside0.mk (below_step (by exact zB HB.out) hb); have n1_ := Aside0.mk (hbox); have n2_ := Aside0.mk ((by rw [hg]; exact (below_size (by exact zB HB.out)) : w.heap.size ≤ gb113)); have n3_ := Aside0.mk ((by rw [hg]; exact (below_size (by exact zB HB.out)) : w.heap.size ≤ gb113)); clear HB; have HB := n0_; have BK113 := n1_; have GW113 := n2_; have GE113 := n3_; clear n0_ n1_ n2_ n3_; clear hb hbox hg))
 repeat (go_quiet (first | ((with_reducible refine gate_dst (N := 1) rfl ?_); (try (refine gate_guard (by rfl) ?_; dsimp only)); refine box_event ?hg (N := 1) ?hd (cs := #[.int .i64 a0_0, .int .i64 a0_1, .slice A0_2 l0_2.length c0_2]) (t := 38) ?hr ?_; (case hd => rfl); (case hg => rfl); (case hr => first | (go_simp; done) | (go_simp; rfl)); intro gb113 hg w3 hbox hb; have n0_ := Aside0.mk (below_step (by exact zB HB.out) hb); have n1_ := Aside0.mk (hbox); have n2_ := Aside0.mk ((by rw [hg]; exact (below_size (by exact zB HB.out)) : w.heap.size ≤ gb113)); have n3_ := Aside0.mk ((by rw [hg]; exact (below_size (by exact zB HB.out)) : w.heap.size ≤ gb113)); clear HB; have HB := n0_; have BK113 := n1_; have GW113 := n2_; have GE113 := n3_; clear n0_ n1_ n2_ n3_; clear hb hbox hg)); go_upto_region 1 with (first | ((with_reducible refine gate_dst (N := 1) rfl ?_); (try (refine gate_guard (by rfl) ?_; dsimp only)); refine box_event ?hg (N := 1) ?hd (cs := #[.int .i64 a0_0, .int .i64 a0_1, .slice A0_2 l0_2.length c0_2]) (t := 38) ?hr ?_; (case hd => rfl); (case hg => rfl); (case hr => first | (go_simp; done) | (go_simp; rfl)); intro gb113 hg w3 hbox hb; have n0_ := Aside0.mk (below_step (by exact zB HB.out) hb); have n1_ := Aside0.mk (hbox); have n2_ := Aside0.mk ((by rw [hg]; exact (below_size (by exact zB HB.out)) : w.heap.size ≤ gb113)); have n3_ := Aside0.mk ((by rw [hg]; exact (below_size (by exact zB HB.out)) : w.heap.size ≤ gb113)); clear HB; have HB := n0_; have BK113 := n1_; have GW113 := n2_; have GE113 := n3_; clear n0_ n1_ n2_ n3_; clear hb hbox hg)))
 (try simp only [zp0, zp1, zp2, zp3, zp4])
 go_cut [20] (fun v20 wc => ∃ (kq : Nat) (x20_1 : Bool), v20 = .bool x20_1 ∧ Aside0 (spec_IndexOk.j0 kq x20_1 a0_0 a0_1 l0_2 = some r) ∧ Aside0 (kq ≤ k) ∧ Aside0 (wc.heap[gb113]? = some (.cells #[.int .i64 a0_0, .int .i64 a0_1, (.slice A0_2 l0_2.length c0_2)] 38 (0, 0))) ∧ Aside0 (Below w.heap.size w wc))
 case first =>
  have H := HC2.out
  clear HC2
  replace H := Option.bind_eq_some_iff.mp H
  obtain ⟨t114, A40, H⟩ := H
  replace H : (if t114 = true then ((spec_l6In.f a0_1 0 60).bind fun t115 => (if t115 = true then (spec_IndexOk.j0 k (decide ((l0_2.length : Int) > 8)) a0_0 a0_1 l0_2) else (spec_IndexOk.j0 k true a0_0 a0_1 l0_2))) else (spec_IndexOk.j0 k true a0_0 a0_1 l0_2)) = some r := H
  have A4 := Aside0.mk A40
  clear A40
  by_cases c5 : t114 = true
  ·subst c5
   have H1 : ((spec_l6In.f a0_1 0 60).bind fun t115 => (if t115 = true then (spec_IndexOk.j0 k (decide ((l0_2.length : Int) > 8)) a0_0 a0_1 l0_2) else (spec_IndexOk.j0 k true a0_0 a0_1 l0_2))) = some r := by rw [if_pos rfl] at H; exact H
   clear H
   have H := H1
   clear H1
   replace H := Option.bind_eq_some_iff.mp H
   obtain ⟨t115, A60, H⟩ := H
   replace H : (if t115 = true then (spec_IndexOk.j0 k (decide ((l0_2.length : Int) > 8)) a0_0 a0_1 l0_2) else (spec_IndexOk.j0 k true a0_0 a0_1 l0_2)) = some r := H
   have A6 := Aside0.mk A60
   clear A60
   by_cases c7 : t115 = true
   ·subst c7
    have H1 : (spec_IndexOk.j0 k (decide ((l0_2.length : Int) > 8)) a0_0 a0_1 l0_2) = some r := by rw [if_pos rfl] at H; exact H
    clear H
    have H := H1
    clear H1
    have H' := Aside0.mk H
    clear H
    obtain ⟨hcz8_0, hcz8_1, hcz8_2, hfz8_0, hfz8_1, hfz8_2⟩ := zc3f BK113.out
    go_wp2_with (first | (go_at_call 52; (with_reducible refine (spec_l6In.calls a0_0 1 30 true _ A4.out).mono ?_); rintro e w' ⟨rfl, ⟨nd, rfl⟩⟩; (try first | exact ⟨rfl, _, World.drewN_drewN _ _ _⟩ | exact ⟨rfl, _, Eq.trans (World.drewN_drewN _ _ _) (congrArg (World.drewN _) (Nat.add_assoc _ _ _))⟩)) | (go_at_call 52; (with_reducible refine (spec_l6In.calls a0_1 0 60 true _ A6.out).mono ?_); rintro e w' ⟨rfl, ⟨nd, rfl⟩⟩; (try first | exact ⟨rfl, _, World.drewN_drewN _ _ _⟩ | exact ⟨rfl, _, Eq.trans (World.drewN_drewN _ _ _) (congrArg (World.drewN _) (Nat.add_assoc _ _ _))⟩)))
    repeat (go_quiet (first | (go_at_call 52; (with_reducible refine (spec_l6In.calls a0_0 1 30 true _ A4.out).mono ?_); rintro e w' ⟨rfl, ⟨nd, rfl⟩⟩; (try first | exact ⟨rfl, _, World.drewN_drewN _ _ _⟩ | exact ⟨rfl, _, Eq.trans (World.drewN_drewN _ _ _) (congrArg (World.drewN _) (Nat.add_assoc _ _ _))⟩)) | (go_at_call 52; (with_reducible refine (spec_l6In.calls a0_1 0 60 true _ A6.out).mono ?_); rintro e w' ⟨rfl, ⟨nd, rfl⟩⟩; (try first | exact ⟨rfl, _, World.drewN_drewN _ _ _⟩ | exact ⟨rfl, _, Eq.trans (World.drewN_drewN _ _ _) (congrArg (World.drewN _) (Nat.add_assoc _ _ _))⟩))); try go_wp2_with (first | (go_at_call 52; (with_reducible refine (spec_l6In.calls a0_0 1 30 true _ A4.out).mono ?_); rintro e w' ⟨rfl, ⟨nd, rfl⟩⟩; (try first | exact ⟨rfl, _, World.drewN_drewN _ _ _⟩ | exact ⟨rfl, _, Eq.trans (World.drewN_drewN _ _ _) (congrArg (World.drewN _) (Nat.add_assoc _ _ _))⟩)) | (go_at_call 52; (with_reducible refine (spec_l6In.calls a0_1 0 60 true _ A6.out).mono ?_); rintro e w' ⟨rfl, ⟨nd, rfl⟩⟩; (try first | exact ⟨rfl, _, World.drewN_drewN _ _ _⟩ | exact ⟨rfl, _, Eq.trans (World.drewN_drewN _ _ _) (congrArg (World.drewN _) (Nat.add_assoc _ _ _))⟩))))
    go_meet
    case rel => exact ⟨_, (decide ((l0_2.length : Int) > 8)), (by first | rfl | (simp; done) | (simp [*]; done)), H', ⟨by first | omega | exact Nat.le_refl _⟩, ⟨by exact zK BK113.out⟩, ⟨by exact zB1 HB.out GE113.out⟩⟩
   ·replace c7 := Bool.eq_false_iff.mpr c7
    subst c7
    have H1 : (spec_IndexOk.j0 k true a0_0 a0_1 l0_2) = some r := by rw [if_neg (show ¬ (false = true) by decide)] at H; exact H
    clear H
    have H := H1
    clear H1
    have H' := Aside0.mk H
    clear H
    obtain ⟨hcz9_0, hcz9_1, hcz9_2, hfz9_0, hfz9_1, hfz9_2⟩ := zc3f BK113.out
    go_wp2_with (first | (go_at_call 52; (with_reducible refine (spec_l6In.calls a0_0 1 30 true _ A4.out).mono ?_); rintro e w' ⟨rfl, ⟨nd, rfl⟩⟩; (try first | exact ⟨rfl, _, World.drewN_drewN _ _ _⟩ | exact ⟨rfl, _, Eq.trans (World.drewN_drewN _ _ _) (congrArg (World.drewN _) (Nat.add_assoc _ _ _))⟩)) | (go_at_call 52; (with_reducible refine (spec_l6In.calls a0_1 0 60 false _ A6.out).mono ?_); rintro e w' ⟨rfl, ⟨nd, rfl⟩⟩; (try first | exact ⟨rfl, _, World.drewN_drewN _ _ _⟩ | exact ⟨rfl, _, Eq.trans (World.drewN_drewN _ _ _) (congrArg (World.drewN _) (Nat.add_assoc _ _ _))⟩)))
    repeat (go_quiet (first | (go_at_call 52; (with_reducible refine (spec_l6In.calls a0_0 1 30 true _ A4.out).mono ?_); rintro e w' ⟨rfl, ⟨nd, rfl⟩⟩; (try first | exact ⟨rfl, _, World.drewN_drewN _ _ _⟩ | exact ⟨rfl, _, Eq.trans (World.drewN_drewN _ _ _) (congrArg (World.drewN _) (Nat.add_assoc _ _ _))⟩)) | (go_at_call 52; (with_reducible refine (spec_l6In.calls a0_1 0 60 false _ A6.out).mono ?_); rintro e w' ⟨rfl, ⟨nd, rfl⟩⟩; (try first | exact ⟨rfl, _, World.drewN_drewN _ _ _⟩ | exact ⟨rfl, _, Eq.trans (World.drewN_drewN _ _ _) (congrArg (World.drewN _) (Nat.add_assoc _ _ _))⟩))); try go_wp2_with (first | (go_at_call 52; (with_reducible refine (spec_l6In.calls a0_0 1 30 true _ A4.out).mono ?_); rintro e w' ⟨rfl, ⟨nd, rfl⟩⟩; (try first | exact ⟨rfl, _, World.drewN_drewN _ _ _⟩ | exact ⟨rfl, _, Eq.trans (World.drewN_drewN _ _ _) (congrArg (World.drewN _) (Nat.add_assoc _ _ _))⟩)) | (go_at_call 52; (with_reducible refine (spec_l6In.calls a0_1 0 60 false _ A6.out).mono ?_); rintro e w' ⟨rfl, ⟨nd, rfl⟩⟩; (try first | exact ⟨rfl, _, World.drewN_drewN _ _ _⟩ | exact ⟨rfl, _, Eq.trans (World.drewN_drewN _ _ _) (congrArg (World.drewN _) (Nat.add_assoc _ _ _))⟩))))
    go_meet
    case rel => exact ⟨_, (true), (by first | rfl | (simp; done) | (simp [*]; done)), H', ⟨by first | omega | exact Nat.le_refl _⟩, ⟨by exact zK BK113.out⟩, ⟨by exact zB1 HB.out GE113.out⟩⟩
  ·replace c5 := Bool.eq_false_iff.mpr c5
   subst c5
   have H1 : (spec_IndexOk.j0 k true a0_0 a0_1 l0_2) = some r := by rw [if_neg (show ¬ (false = true) by decide)] at H; exact H
   clear H
   have H := H1
   clear H1
   have H' := Aside0.mk H
   clear H
   obtain ⟨hcz10_0, hcz10_1, hcz10_2, hfz10_0, hfz10_1, hfz10_2⟩ := zc3f BK113.out
   go_wp2_with (first | (go_at_call 52; (with_reducible refine (spec_l6In.calls a0_0 1 30 false _ A4.out).mono ?_); rintro e w' ⟨rfl, ⟨nd, rfl⟩⟩; (try first | exact ⟨rfl, _, World.drewN_drewN _ _ _⟩ | exact ⟨rfl, _, Eq.trans (World.drewN_drewN _ _ _) (congrArg (World.drewN _) (Nat.add_assoc _ _ _))⟩)))
   repeat (go_quiet (first | (go_at_call 52; (with_reducible refine (spec_l6In.calls a0_0 1 30 false _ A4.out).mono ?_); rintro e w' ⟨rfl, ⟨nd, rfl⟩⟩; (try first | exact ⟨rfl, _, World.drewN_drewN _ _ _⟩ | exact ⟨rfl, _, Eq.trans (World.drewN_drewN _ _ _) (congrArg (World.drewN _) (Nat.add_assoc _ _ _))⟩))); try go_wp2_with (first | (go_at_call 52; (with_reducible refine (spec_l6In.calls a0_0 1 30 false _ A4.out).mono ?_); rintro e w' ⟨rfl, ⟨nd, rfl⟩⟩; (try first | exact ⟨rfl, _, World.drewN_drewN _ _ _⟩ | exact ⟨rfl, _, Eq.trans (World.drewN_drewN _ _ _) (congrArg (World.drewN _) (Nat.add_assoc _ _ _))⟩))))
   go_meet
   case rel => exact ⟨_, (true), (by first | rfl | (simp; done) | (simp [*]; done)), H', ⟨by first | omega | exact Nat.le_refl _⟩, ⟨by exact zK BK113.out⟩, ⟨by exact zB1 HB.out GE113.out⟩⟩
 case rest =>
  clear HC2
  try clear p2
  try clear c3
  try clear c5
  try clear c7
  try clear hcz10_0
  try clear hcz10_1
  try clear hcz10_2
  try clear hcz8_0
  try clear hcz8_1
  try clear hcz8_2
  try clear hcz9_0
  try clear hcz9_1
  try clear hcz9_2
  try clear hfz10_0
  try clear hfz10_1
  try clear hfz10_2
  try clear hfz8_0
  try clear hfz8_1
  try clear hfz8_2
  try clear hfz9_0
  try clear hfz9_1
  try clear hfz9_2
  obtain ⟨kq, x20_1, rfl, HA, HJ1, BK113, HB⟩ := hcut
  cases kq with
  | zero => exact absurd HA.out (by simp [spec_IndexOk.j0])
  | succ kj1 =>
   have H := HA.out
   clear HA
   simp only [spec_IndexOk.j0] at H
   by_cases c11 : x20_1 = true
   ·subst c11
    have H1 : (some false) = some r := by rw [if_pos rfl] at H; exact H
    clear H
    have H := H1
    clear H1
    obtain rfl := Option.some.inj H
    go_wp2
    repeat (go_quiet (fail); try go_wp2)
    go_ret
    exact ⟨by first | rfl | (simp [errW_none, errW_some] <;> rfl) | (simp [*, errW_none, errW_some] <;> rfl), by exact zB1 HB.out GE113.out⟩
   ·replace c11 := Bool.eq_false_iff.mpr c11
    subst c11
    have H1 : (spec_IndexOk.l0 kj1 0 a0_0 a0_1 l0_2) = some r := by rw [if_neg (show ¬ (false = true) by decide)] at H; exact H
    clear H
    have H := H1
    clear H1
    have H' := Aside0.mk H
    clear H
    go_wp2
    repeat (go_quiet (fail); try go_wp2)
    go_loopg [3] kj1 (fun kq v3 w' => ∃ (x3_2 : Int), v3 = .int .i64 x3_2 ∧ Aside0 (spec_IndexOk.l0 kq x3_2 a0_0 a0_1 l0_2 = some r) ∧ Aside0 (kq ≤ kj1) ∧ Aside0 (w'.heap[gb113]? = some (.cells #[.int .i64 a0_0, .int .i64 a0_1, (.slice A0_2 l0_2.length c0_2)] 38 (0, 0))) ∧ Aside0 (Below w.heap.size w w'))
    case atStart => exact ⟨(0), (by first | rfl | (simp; done) | (simp [*]; done)), H', ⟨Nat.le_refl _⟩, ⟨by exact zK BK113.out⟩, ⟨by exact zB1 HB.out GE113.out⟩⟩
    case round =>
     clear H'
     try clear c1
     try clear p2
     try clear c3
     try clear c5
     try clear c7
     try clear c11
     try clear hcz10_0
     try clear hcz10_1
     try clear hcz10_2
     try clear hcz8_0
     try clear hcz8_1
     try clear hcz8_2
     try clear hcz9_0
     try clear hcz9_1
     try clear hcz9_2
     try clear hfz10_0
     try clear hfz10_1
     try clear hfz10_2
     try clear hfz8_0
     try clear hfz8_1
     try clear hfz8_2
     try clear hfz9_0
     try clear hfz9_1
     try clear hfz9_2
     try clear p2
     obtain ⟨x3_2, rfl, HA, HK2, BK113, HB⟩ := hrel
     cases gk with
     | zero => exact absurd HA.out (by simp [spec_IndexOk.l0])
     | succ k2 =>
      have H := HA.out
      clear HA
      simp only [spec_IndexOk.l0] at H
      by_cases c12 : x3_2 < (l0_2.length : Int)
      ·rw [if_pos c12] at H
       have c12b0 : decide (x3_2 < (l0_2.length : Int)) = true := decide_eq_true c12
       clear c12
       by_cases c13 : 0 ≤ x3_2
       ·rw [if_pos c13] at H
        have c13b0 : decide (0 ≤ x3_2) = true := decide_eq_true c13
        clear c13
        have HC14 := Aside0.mk H
        clear H
        obtain ⟨hcz15_0, hcz15_1, hcz15_2, hfz15_0, hfz15_1, hfz15_2⟩ := zc3f BK113.out
        have p116 : 0 ≤ (x3_2 : Int) := of_decide_eq_true (by first | (with_reducible assumption) | assumption)
        have q116 : x3_2 < (l0_2.length : Int) := of_decide_eq_true (by first | (with_reducible assumption) | assumption)
        obtain ⟨ad116, e116, hx116_0, hx116_1, hx116_2⟩ := at_T73 HR0_2.out x3_2 p116 q116
        cases e116
        replace hx116_0 := (HB.out.cell (World.block_lt_of_cell? w _ hx116_0)).trans hx116_0
        replace hx116_1 := (HB.out.cell (World.block_lt_of_cell? w _ hx116_1)).trans hx116_1
        replace hx116_2 := (HB.out.cell (World.block_lt_of_cell? w _ hx116_2)).trans hx116_2
        replace p116 := eq_true p116
        replace q116 := eq_true q116
        go_upto_region 7 with (first | ((with_reducible refine gate_dst (N := 4) rfl ?_); (try (refine gate_guard (by rfl) ?_; dsimp only)); refine box_event ?hg (N := 4) ?hd (cs := #[.int .i64 0, .int .i64 0, .int .i64 0]) (t := 73) ?hr ?_; (case hd => rfl); (case hg => rfl); (case hr => first | (go_simp; done) | (go_simp; rfl)); intro gb117 hg w16 hbox hb; have n0_ := Aside0.mk (blk_below (g := gb113) (o := .cells #[.int .i64 a0_0, .int .i64 a0_1, .slice (some ad116) l0_2.length c0_2] 38 (0, 0)) (by exact zK BK113.out) hb); have n1_ := Aside0.mk (below_step (by exact zB1 HB.out GE113.out) hb); have n2_ := Aside0.mk (hbox); have n3_ := Aside0.mk ((by rw [hg]; exact (below_size (by exact zB1 HB.out GE113.out)) : w.heap.size ≤ gb117)); have n4_ := Aside0.mk ((by rw [hg]; exact (below_size (by exact zB1 HB.out GE113.out)) : w.heap.size ≤ gb117)); have n5_ := Aside0.mk ((by rw [hg]; exact Nat.ne_of_lt (blk_lt (g := gb113) (o := .cells #[.int .i64 a0_0, .int .i64 a0_1, .slice (some ad116) l0_2.length c0_2] 38 (0, 0)) (by exact zK BK113.out)) : gb113 ≠ gb117)); have n6_ := Aside0.mk ((by rw [hg]; exact Nat.ne_of_gt (blk_lt (g := gb113) (o := .cells #[.int .i64 a0_0, .int .i64 a0_1, .slice (some ad116) l0_2.length c0_2] 38 (0, 0)) (by exact zK BK113.out)) : gb117 ≠ gb113)); clear BK113; clear HB; have BK113 := n0_; have HB := n1_; have BK117 := n2_; have GW117 := n3_; have GE117 := n4_; have NB113_117 := n5_; have NB117_113 := n6_; clear n0_ n1_ n2_ n3_ n4_ n5_ n6_; clear hb hbox hg; have hnb17 := NB117_113.out; have hnc17 := NB113_117.out; obtain ⟨hcz18_0, hcz18_1, hcz18_2, hfz18_0, hfz18_1, hfz18_2⟩ := zc3f BK117.out))
        repeat (go_quiet (first | ((with_reducible refine gate_dst (N := 4) rfl ?_); (try (refine gate_guard (by rfl) ?_; dsimp only)); refine box_event ?hg (N := 4) ?hd (cs := #[.int .i64 0, .int .i64 0, .int .i64 0]) (t := 73) ?hr ?_; (case hd => rfl); (case hg => rfl); (case hr => first | (go_simp; done) | (go_simp; rfl)); intro gb117 hg w16 hbox hb; have n0_ := Aside0.mk (blk_below (g := gb113) (o := .cells #[.int .i64 a0_0, .int .i64 a0_1, .slice (some ad116) l0_2.length c0_2] 38 (0, 0)) (by exact zK BK113.out) hb); have n1_ := Aside0.mk (below_step (by exact zB1 HB.out GE113.out) hb); have n2_ := Aside0.mk (hbox); have n3_ := Aside0.mk ((by rw [hg]; exact (below_size (by exact zB1 HB.out GE113.out)) : w.heap.size ≤ gb117)); have n4_ := Aside0.mk ((by rw [hg]; exact (below_size (by exact zB1 HB.out GE113.out)) : w.heap.size ≤ gb117)); have n5_ := Aside0.mk ((by rw [hg]; exact Nat.ne_of_lt (blk_lt (g := gb113) (o := .cells #[.int .i64 a0_0, .int .i64 a0_1, .slice (some ad116) l0_2.length c0_2] 38 (0, 0)) (by exact zK BK113.out)) : gb113 ≠ gb117)); have n6_ := Aside0.mk ((by rw [hg]; exact Nat.ne_of_gt (blk_lt (g := gb113) (o := .cells #[.int .i64 a0_0, .int .i64 a0_1, .slice (some ad116) l0_2.length c0_2] 38 (0, 0)) (by exact zK BK113.out)) : gb117 ≠ gb113)); clear BK113; clear HB; have BK113 := n0_; have HB := n1_; have BK117 := n2_; have GW117 := n3_; have GE117 := n4_; have NB113_117 := n5_; have NB117_113 := n6_; clear n0_ n1_ n2_ n3_ n4_ n5_ n6_; clear hb hbox hg; have hnb17 := NB117_113.out; have hnc17 := NB113_117.out; obtain ⟨hcz18_0, hcz18_1, hcz18_2, hfz18_0, hfz18_1, hfz18_2⟩ := zc3f BK117.out)); go_upto_region 7 with (first | ((with_reducible refine gate_dst (N := 4) rfl ?_); (try (refine gate_guard (by rfl) ?_; dsimp only)); refine box_event ?hg (N := 4) ?hd (cs := #[.int .i64 0, .int .i64 0, .int .i64 0]) (t := 73) ?hr ?_; (case hd => rfl); (case hg => rfl); (case hr => first | (go_simp; done) | (go_simp; rfl)); intro gb117 hg w16 hbox hb; have n0_ := Aside0.mk (blk_below (g := gb113) (o := .cells #[.int .i64 a0_0, .int .i64 a0_1, .slice (some ad116) l0_2.length c0_2] 38 (0, 0)) (by exact zK BK113.out) hb); have n1_ := Aside0.mk (below_step (by exact zB1 HB.out GE113.out) hb); have n2_ := Aside0.mk (hbox); have n3_ := Aside0.mk ((by rw [hg]; exact (below_size (by exact zB1 HB.out GE113.out)) : w.heap.size ≤ gb117)); have n4_ := Aside0.mk ((by rw [hg]; exact (below_size (by exact zB1 HB.out GE113.out)) : w.heap.size ≤ gb117)); have n5_ := Aside0.mk ((by rw [hg]; exact Nat.ne_of_lt (blk_lt (g := gb113) (o := .cells #[.int .i64 a0_0, .int .i64 a0_1, .slice (some ad116) l0_2.length c0_2] 38 (0, 0)) (by exact zK BK113.out)) : gb113 ≠ gb117)); have n6_ := Aside0.mk ((by rw [hg]; exact Nat.ne_of_gt (blk_lt (g := gb113) (o := .cells #[.int .i64 a0_0, .int .i64 a0_1, .slice (some ad116) l0_2.length c0_2] 38 (0, 0)) (by exact zK BK113.out)) : gb117 ≠ gb113)); clear BK113; clear HB; have BK113 := n0_; have HB := n1_; have BK117 := n2_; have GW117 := n3_; have GE117 := n4_; have NB113_117 := n5_; have NB117_113 := n6_; clear n0_ n1_ n2_ n3_ n4_ n5_ n6_; clear hb hbox hg; have hnb17 := NB117_113.out; have hnc17 := NB113_117.out; obtain ⟨hcz18_0, hcz18_1, hcz18_2, hfz18_0, hfz18_1, hfz18_2⟩ := zc3f BK117.out)))
        (try simp only [zp0, zp1, zp2, zp3, zp4])
        go_cut [48] (fun v48 wc => ∃ (kq : Nat) (x48_13 : Bool), v48 = .bool x48_13 ∧ Aside0 (spec_IndexOk.j2 kq x3_2 x48_13 a0_0 a0_1 l0_2 ((rd_T73 l0_2 x3_2).f0) ((rd_T73 l0_2 x3_2).f1) ((rd_T73 l0_2 x3_2).f2) = some r) ∧ Aside0 (kq ≤ k2) ∧ Aside0 (wc.heap[gb113]? = some (.cells #[.int .i64 a0_0, .int .i64 a0_1, (.slice (some ad116) l0_2.length c0_2)] 38 (0, 0))) ∧ Aside0 (wc.heap[gb117]? = some (.cells #[.int .i64 ((rd_T73 l0_2 x3_2).f0), .int .i64 ((rd_T73 l0_2 x3_2).f1), .int .i64 ((rd_T73 l0_2 x3_2).f2)] 73 (0, 0))) ∧ Aside0 (Below w.heap.size w wc))
        case first =>
         have H := HC14.out
         clear HC14
         replace H := Option.bind_eq_some_iff.mp H
         obtain ⟨t118, A190, H⟩ := H
         replace H : (if t118 = true then ((spec_l6In.f ((rd_T73 l0_2 x3_2).f1) 1 5).bind fun t119 => (if t119 = true then ((spec_l6In.f ((rd_T73 l0_2 x3_2).f2) 0 9972).bind fun t120 => (spec_IndexOk.j2 k2 x3_2 (!t120) a0_0 a0_1 l0_2 ((rd_T73 l0_2 x3_2).f0) ((rd_T73 l0_2 x3_2).f1) ((rd_T73 l0_2 x3_2).f2))) else (spec_IndexOk.j2 k2 x3_2 true a0_0 a0_1 l0_2 ((rd_T73 l0_2 x3_2).f0) ((rd_T73 l0_2 x3_2).f1) ((rd_T73 l0_2 x3_2).f2)))) else (spec_IndexOk.j2 k2 x3_2 true a0_0 a0_1 l0_2 ((rd_T73 l0_2 x3_2).f0) ((rd_T73 l0_2 x3_2).f1) ((rd_T73 l0_2 x3_2).f2))) = some r := H
         have A19 := Aside0.mk A190
         clear A190
         by_cases c20 : t118 = true
         ·subst c20
          have H1 : ((spec_l6In.f ((rd_T73 l0_2 x3_2).f1) 1 5).bind fun t119 => (if t119 = true then ((spec_l6In.f ((rd_T73 l0_2 x3_2).f2) 0 9972).bind fun t120 => (spec_IndexOk.j2 k2 x3_2 (!t120) a0_0 a0_1 l0_2 ((rd_T73 l0_2 x3_2).f0) ((rd_T73 l0_2 x3_2).f1) ((rd_T73 l0_2 x3_2).f2))) else (spec_IndexOk.j2 k2 x3_2 true a0_0 a0_1 l0_2 ((rd_T73 l0_2 x3_2).f0) ((rd_T73 l0_2 x3_2).f1) ((rd_T73 l0_2 x3_2).f2)))) = some r := by rw [if_pos rfl] at H; exact H
          clear H
          have H := H1
          clear H1
          replace H := Option.bind_eq_some_iff.mp H
          obtain ⟨t119, A210, H⟩ := H
          replace H : (if t119 = true then ((spec_l6In.f ((rd_T73 l0_2 x3_2).f2) 0 9972).bind fun t120 => (spec_IndexOk.j2 k2 x3_2 (!t120) a0_0 a0_1 l0_2 ((rd_T73 l0_2 x3_2).f0) ((rd_T73 l0_2 x3_2).f1) ((rd_T73 l0_2 x3_2).f2))) else (spec_IndexOk.j2 k2 x3_2 true a0_0 a0_1 l0_2 ((rd_T73 l0_2 x3_2).f0) ((rd_T73 l0_2 x3_2).f1) ((rd_T73 l0_2 x3_2).f2))) = some r := H
          have A21 := Aside0.mk A210
          clear A210
          by_cases c22 : t119 = true
          ·subst c22
           have H1 : ((spec_l6In.f ((rd_T73 l0_2 x3_2).f2) 0 9972).bind fun t120 => (spec_IndexOk.j2 k2 x3_2 (!t120) a0_0 a0_1 l0_2 ((rd_T73 l0_2 x3_2).f0) ((rd_T73 l0_2 x3_2).f1) ((rd_T73 l0_2 x3_2).f2))) = some r := by rw [if_pos rfl] at H; exact H
           clear H
           have H := H1
           clear H1
           replace H := Option.bind_eq_some_iff.mp H
           obtain ⟨t120, A230, H⟩ := H
           replace H : (spec_IndexOk.j2 k2 x3_2 (!t120) a0_0 a0_1 l0_2 ((rd_T73 l0_2 x3_2).f0) ((rd_T73 l0_2 x3_2).f1) ((rd_T73 l0_2 x3_2).f2)) = some r := H
           have A23 := Aside0.mk A230
           clear A230
           have H' := Aside0.mk H
           clear H
           have hnb24 := NB117_113.out
           have hnc24 := NB113_117.out
           obtain ⟨hcz25_0, hcz25_1, hcz25_2, hfz25_0, hfz25_1, hfz25_2⟩ := zc3f BK117.out
           go_wp2_with (first | (go_at_call 52; (with_reducible refine (spec_l6In.calls ((rd_T73 l0_2 x3_2).f0) 1 4 true _ A19.out).mono ?_); rintro e w' ⟨rfl, ⟨nd, rfl⟩⟩; (try first | exact ⟨rfl, _, World.drewN_drewN _ _ _⟩ | exact ⟨rfl, _, Eq.trans (World.drewN_drewN _ _ _) (congrArg (World.drewN _) (Nat.add_assoc _ _ _))⟩)) | (go_at_call 52; (with_reducible refine (spec_l6In.calls ((rd_T73 l0_2 x3_2).f1) 1 5 true _ A21.out).mono ?_); rintro e w' ⟨rfl, ⟨nd, rfl⟩⟩; (try first | exact ⟨rfl, _, World.drewN_drewN _ _ _⟩ | exact ⟨rfl, _, Eq.trans (World.drewN_drewN _ _ _) (congrArg (World.drewN _) (Nat.add_assoc _ _ _))⟩)) | (go_at_call 52; (with_reducible refine (spec_l6In.calls ((rd_T73 l0_2 x3_2).f2) 0 9972 t120 _ A23.out).mono ?_); rintro e w' ⟨rfl, ⟨nd, rfl⟩⟩; (try first | exact ⟨rfl, _, World.drewN_drewN _ _ _⟩ | exact ⟨rfl, _, Eq.trans (World.drewN_drewN _ _ _) (congrArg (World.drewN _) (Nat.add_assoc _ _ _))⟩)))
           repeat (go_quiet (first | (go_at_call 52; (with_reducible refine (spec_l6In.calls ((rd_T73 l0_2 x3_2).f0) 1 4 true _ A19.out).mono ?_); rintro e w' ⟨rfl, ⟨nd, rfl⟩⟩; (try first | exact ⟨rfl, _, World.drewN_drewN _ _ _⟩ | exact ⟨rfl, _, Eq.trans (World.drewN_drewN _ _ _) (congrArg (World.drewN _) (Nat.add_assoc _ _ _))⟩)) | (go_at_call 52; (with_reducible refine (spec_l6In.calls ((rd_T73 l0_2 x3_2).f1) 1 5 true _ A21.out).mono ?_); rintro e w' ⟨rfl, ⟨nd, rfl⟩⟩; (try first | exact ⟨rfl, _, World.drewN_drewN _ _ _⟩ | exact ⟨rfl, _, Eq.trans (World.drewN_drewN _ _ _) (congrArg (World.drewN _) (Nat.add_assoc _ _ _))⟩)) | (go_at_call 52; (with_reducible refine (spec_l6In.calls ((rd_T73 l0_2 x3_2).f2) 0 9972 t120 _ A23.out).mono ?_); rintro e w' ⟨rfl, ⟨nd, rfl⟩⟩; (try first | exact ⟨rfl, _, World.drewN_drewN _ _ _⟩ | exact ⟨rfl, _, Eq.trans (World.drewN_drewN _ _ _) (congrArg (World.drewN _) (Nat.add_assoc _ _ _))⟩))); try go_wp2_with (first | (go_at_call 52; (with_reducible refine (spec_l6In.calls ((rd_T73 l0_2 x3_2).f0) 1 4 true _ A19.out).mono ?_); rintro e w' ⟨rfl, ⟨nd, rfl⟩⟩; (try first | exact ⟨rfl, _, World.drewN_drewN _ _ _⟩ | exact ⟨rfl, _, Eq.trans (World.drewN_drewN _ _ _) (congrArg (World.drewN _) (Nat.add_assoc _ _ _))⟩)) | (go_at_call 52; (with_reducible refine (spec_l6In.calls ((rd_T73 l0_2 x3_2).f1) 1 5 true _ A21.out).mono ?_); rintro e w' ⟨rfl, ⟨nd, rfl⟩⟩; (try first | exact ⟨rfl, _, World.drewN_drewN _ _ _⟩ | exact ⟨rfl, _, Eq.trans (World.drewN_drewN _ _ _) (congrArg (World.drewN _) (Nat.add_assoc _ _ _))⟩)) | (go_at_call 52; (with_reducible refine (spec_l6In.calls ((rd_T73 l0_2 x3_2).f2) 0 9972 t120 _ A23.out).mono ?_); rintro e w' ⟨rfl, ⟨nd, rfl⟩⟩; (try first | exact ⟨rfl, _, World.drewN_drewN _ _ _⟩ | exact ⟨rfl, _, Eq.trans (World.drewN_drewN _ _ _) (congrArg (World.drewN _) (Nat.add_assoc _ _ _))⟩))))
           go_meet
           case rel => exact ⟨_, (!t120), (by first | rfl | (simp; done) | (simp [*]; done)), H', ⟨by have := HJ1.out; have := HK2.out; first | omega | exact Nat.le_refl _⟩, ⟨by (with_reducible repeat (first | refine blk_drewN ?_ _ | refine blk_drew ?_ | refine blk_alloc ?_ _)); refine blk_far ?_ NB113_117.out _; (with_reducible repeat (first | refine blk_drewN ?_ _ | refine blk_drew ?_ | refine blk_alloc ?_ _)); refine blk_far ?_ NB113_117.out _; (with_reducible repeat (first | refine blk_drewN ?_ _ | refine blk_drew ?_ | refine blk_alloc ?_ _)); refine blk_far ?_ NB113_117.out _; exact zK BK113.out⟩, ⟨by (with_reducible repeat (first | refine blk_drewN ?_ _ | refine blk_drew ?_ | refine blk_alloc ?_ _)); refine blk_put (cs := #[.int .i64 ((rd_T73 l0_2 x3_2).f0), .int .i64 ((rd_T73 l0_2 x3_2).f1), .int .i64 0]) ?_ 2 _ rfl; (with_reducible repeat (first | refine blk_drewN ?_ _ | refine blk_drew ?_ | refine blk_alloc ?_ _)); refine blk_put (cs := #[.int .i64 ((rd_T73 l0_2 x3_2).f0), .int .i64 0, .int .i64 0]) ?_ 1 _ rfl; (with_reducible repeat (first | refine blk_drewN ?_ _ | refine blk_drew ?_ | refine blk_alloc ?_ _)); refine blk_put (cs := #[.int .i64 0, .int .i64 0, .int .i64 0]) ?_ 0 _ rfl; exact zK BK117.out⟩, ⟨by exact zB2 HB.out GE113.out GE117.out⟩⟩
          ·replace c22 := Bool.eq_false_iff.mpr c22
           subst c22
           have H1 : (spec_IndexOk.j2 k2 x3_2 true a0_0 a0_1 l0_2 ((rd_T73 l0_2 x3_2).f0) ((rd_T73 l0_2 x3_2).f1) ((rd_T73 l0_2 x3_2).f2)) = some r := by rw [if_neg (show ¬ (false = true) by decide)] at H; exact H
           clear H
           have H := H1
           clear H1
           have H' := Aside0.mk H
           clear H
           have hnb26 := NB117_113.out
           have hnc26 := NB113_117.out
           obtain ⟨hcz27_0, hcz27_1, hcz27_2, hfz27_0, hfz27_1, hfz27_2⟩ := zc3f BK117.out
           go_wp2_with (first | (go_at_call 52; (with_reducible refine (spec_l6In.calls ((rd_T73 l0_2 x3_2).f0) 1 4 true _ A19.out).mono ?_); rintro e w' ⟨rfl, ⟨nd, rfl⟩⟩; (try first | exact ⟨rfl, _, World.drewN_drewN _ _ _⟩ | exact ⟨rfl, _, Eq.trans (World.drewN_drewN _ _ _) (congrArg (World.drewN _) (Nat.add_assoc _ _ _))⟩)) | (go_at_call 52; (with_reducible refine (spec_l6In.calls ((rd_T73 l0_2 x3_2).f1) 1 5 false _ A21.out).mono ?_); rintro e w' ⟨rfl, ⟨nd, rfl⟩⟩; (try first | exact ⟨rfl, _, World.drewN_drewN _ _ _⟩ | exact ⟨rfl, _, Eq.trans (World.drewN_drewN _ _ _) (congrArg (World.drewN _) (Nat.add_assoc _ _ _))⟩)))
           repeat (go_quiet (first | (go_at_call 52; (with_reducible refine (spec_l6In.calls ((rd_T73 l0_2 x3_2).f0) 1 4 true _ A19.out).mono ?_); rintro e w' ⟨rfl, ⟨nd, rfl⟩⟩; (try first | exact ⟨rfl, _, World.drewN_drewN _ _ _⟩ | exact ⟨rfl, _, Eq.trans (World.drewN_drewN _ _ _) (congrArg (World.drewN _) (Nat.add_assoc _ _ _))⟩)) | (go_at_call 52; (with_reducible refine (spec_l6In.calls ((rd_T73 l0_2 x3_2).f1) 1 5 false _ A21.out).mono ?_); rintro e w' ⟨rfl, ⟨nd, rfl⟩⟩; (try first | exact ⟨rfl, _, World.drewN_drewN _ _ _⟩ | exact ⟨rfl, _, Eq.trans (World.drewN_drewN _ _ _) (congrArg (World.drewN _) (Nat.add_assoc _ _ _))⟩))); try go_wp2_with (first | (go_at_call 52; (with_reducible refine (spec_l6In.calls ((rd_T73 l0_2 x3_2).f0) 1 4 true _ A19.out).mono ?_); rintro e w' ⟨rfl, ⟨nd, rfl⟩⟩; (try first | exact ⟨rfl, _, World.drewN_drewN _ _ _⟩ | exact ⟨rfl, _, Eq.trans (World.drewN_drewN _ _ _) (congrArg (World.drewN _) (Nat.add_assoc _ _ _))⟩)) | (go_at_call 52; (with_reducible refine (spec_l6In.calls ((rd_T73 l0_2 x3_2).f1) 1 5 false _ A21.out).mono ?_); rintro e w' ⟨rfl, ⟨nd, rfl⟩⟩; (try first | exact ⟨rfl, _, World.drewN_drewN _ _ _⟩ | exact ⟨rfl, _, Eq.trans (World.drewN_drewN _ _ _) (congrArg (World.drewN _) (Nat.add_assoc _ _ _))⟩))))
           go_meet
           case rel => exact ⟨_, (true), (by first | rfl | (simp; done) | (simp [*]; done)), H', ⟨by have := HJ1.out; have := HK2.out; first | omega | exact Nat.le_refl _⟩, ⟨by (with_reducible repeat (first | refine blk_drewN ?_ _ | refine blk_drew ?_ | refine blk_alloc ?_ _)); refine blk_far ?_ NB113_117.out _; (with_reducible repeat (first | refine blk_drewN ?_ _ | refine blk_drew ?_ | refine blk_alloc ?_ _)); refine blk_far ?_ NB113_117.out _; (with_reducible repeat (first | refine blk_drewN ?_ _ | refine blk_drew ?_ | refine blk_alloc ?_ _)); refine blk_far ?_ NB113_117.out _; exact zK BK113.out⟩, ⟨by (with_reducible repeat (first | refine blk_drewN ?_ _ | refine blk_drew ?_ | refine blk_alloc ?_ _)); refine blk_put (cs := #[.int .i64 ((rd_T73 l0_2 x3_2).f0), .int .i64 ((rd_T73 l0_2 x3_2).f1), .int .i64 0]) ?_ 2 _ rfl; (with_reducible repeat (first | refine blk_drewN ?_ _ | refine blk_drew ?_ | refine blk_alloc ?_ _)); refine blk_put (cs := #[.int .i64 ((rd_T73 l0_2 x3_2).f0), .int .i64 0, .int .i64 0]) ?_ 1 _ rfl; (with_reducible repeat (first | refine blk_drewN ?_ _ | refine blk_drew ?_ | refine blk_alloc ?_ _)); refine blk_put (cs := #[.int .i64 0, .int .i64 0, .int .i64 0]) ?_ 0 _ rfl; exact zK BK117.out⟩, ⟨by exact zB2 HB.out GE113.out GE117.out⟩⟩
         ·replace c20 := Bool.eq_false_iff.mpr c20
          subst c20
          have H1 : (spec_IndexOk.j2 k2 x3_2 true a0_0 a0_1 l0_2 ((rd_T73 l0_2 x3_2).f0) ((rd_T73 l0_2 x3_2).f1) ((rd_T73 l0_2 x3_2).f2)) = some r := by rw [if_neg (show ¬ (false = true) by decide)] at H; exact H
          clear H
          have H := H1
          clear H1
          have H' := Aside0.mk H
          clear H
          have hnb28 := NB117_113.out
          have hnc28 := NB113_117.out
          obtain ⟨hcz29_0, hcz29_1, hcz29_2, hfz29_0, hfz29_1, hfz29_2⟩ := zc3f BK117.out
          go_wp2_with (first | (go_at_call 52; (with_reducible refine (spec_l6In.calls ((rd_T73 l0_2 x3_2).f0) 1 4 false _ A19.out).mono ?_); rintro e w' ⟨rfl, ⟨nd, rfl⟩⟩; (try first | exact ⟨rfl, _, World.drewN_drewN _ _ _⟩ | exact ⟨rfl, _, Eq.trans (World.drewN_drewN _ _ _) (congrArg (World.drewN _) (Nat.add_assoc _ _ _))⟩)))
          repeat (go_quiet (first | (go_at_call 52; (with_reducible refine (spec_l6In.calls ((rd_T73 l0_2 x3_2).f0) 1 4 false _ A19.out).mono ?_); rintro e w' ⟨rfl, ⟨nd, rfl⟩⟩; (try first | exact ⟨rfl, _, World.drewN_drewN _ _ _⟩ | exact ⟨rfl, _, Eq.trans (World.drewN_drewN _ _ _) (congrArg (World.drewN _) (Nat.add_assoc _ _ _))⟩))); try go_wp2_with (first | (go_at_call 52; (with_reducible refine (spec_l6In.calls ((rd_T73 l0_2 x3_2).f0) 1 4 false _ A19.out).mono ?_); rintro e w' ⟨rfl, ⟨nd, rfl⟩⟩; (try first | exact ⟨rfl, _, World.drewN_drewN _ _ _⟩ | exact ⟨rfl, _, Eq.trans (World.drewN_drewN _ _ _) (congrArg (World.drewN _) (Nat.add_assoc _ _ _))⟩))))
          go_meet
          case rel => exact ⟨_, (true), (by first | rfl | (simp; done) | (simp [*]; done)), H', ⟨by have := HJ1.out; have := HK2.out; first | omega | exact Nat.le_refl _⟩, ⟨by (with_reducible repeat (first | refine blk_drewN ?_ _ | refine blk_drew ?_ | refine blk_alloc ?_ _)); refine blk_far ?_ NB113_117.out _; (with_reducible repeat (first | refine blk_drewN ?_ _ | refine blk_drew ?_ | refine blk_alloc ?_ _)); refine blk_far ?_ NB113_117.out _; (with_reducible repeat (first | refine blk_drewN ?_ _ | refine blk_drew ?_ | refine blk_alloc ?_ _)); refine blk_far ?_ NB113_117.out _; exact zK BK113.out⟩, ⟨by (with_reducible repeat (first | refine blk_drewN ?_ _ | refine blk_drew ?_ | refine blk_alloc ?_ _)); refine blk_put (cs := #[.int .i64 ((rd_T73 l0_2 x3_2).f0), .int .i64 ((rd_T73 l0_2 x3_2).f1), .int .i64 0]) ?_ 2 _ rfl; (with_reducible repeat (first | refine blk_drewN ?_ _ | refine blk_drew ?_ | refine blk_alloc ?_ _)); refine blk_put (cs := #[.int .i64 ((rd_T73 l0_2 x3_2).f0), .int .i64 0, .int .i64 0]) ?_ 1 _ rfl; (with_reducible repeat (first | refine blk_drewN ?_ _ | refine blk_drew ?_ | refine blk_alloc ?_ _)); refine blk_put (cs := #[.int .i64 0, .int .i64 0, .int .i64 0]) ?_ 0 _ rfl; exact zK BK117.out⟩, ⟨by exact zB2 HB.out GE113.out GE117.out⟩⟩
        case rest =>
         clear HC14
         try clear c1
         try clear p1
         try clear q1
         try clear hx1
         try clear c2
         try clear p2
         try clear c3
         try clear c5
         try clear c7
         try clear c11
         try clear p11
         try clear q11
         try clear hx11
         try clear c12
         try clear c12b0
         try clear c13
         try clear c13b0
         try clear c17
         try clear c20
         try clear c22
         try clear c24
         try clear c26
         try clear c28
         try clear hcz10_0
         try clear hcz10_1
         try clear hcz10_2
         try clear hcz15_0
         try clear hcz15_1
         try clear hcz15_2
         try clear hcz18_0
         try clear hcz18_1
         try clear hcz18_2
         try clear hcz25_0
         try clear hcz25_1
         try clear hcz25_2
         try clear hcz27_0
         try clear hcz27_1
         try clear hcz27_2
         try clear hcz29_0
         try clear hcz29_1
         try clear hcz29_2
         try clear hcz8_0
         try clear hcz8_1
         try clear hcz8_2
         try clear hcz9_0
         try clear hcz9_1
         try clear hcz9_2
         try clear hfz10_0
         try clear hfz10_1
         try clear hfz10_2
         try clear hfz15_0
         try clear hfz15_1
         try clear hfz15_2
         try clear hfz18_0
         try clear hfz18_1
         try clear hfz18_2
         try clear hfz25_0
         try clear hfz25_1
         try clear hfz25_2
         try clear hfz27_0
         try clear hfz27_1
         try clear hfz27_2
         try clear hfz29_0
         try clear hfz29_1
         try clear hfz29_2
         try clear hfz8_0
         try clear hfz8_1
         try clear hfz8_2
         try clear hfz9_0
         try clear hfz9_1
         try clear hfz9_2
         try clear hx116_0
         try clear hx116_1
         try clear hx116_2
         try clear p116
         try clear p2
         try clear q116
         obtain ⟨kq, x48_13, rfl, HA, HJ13, BK113, BK117, HB⟩ := hcut
         cases kq with
         | zero => exact absurd HA.out (by simp [spec_IndexOk.j2])
         | succ kj13 =>
          have H := HA.out
          clear HA
          simp only [spec_IndexOk.j2] at H
          by_cases c30 : x48_13 = true
          ·subst c30
           have H1 : (some false) = some r := by rw [if_pos rfl] at H; exact H
           clear H
           have H := H1
           clear H1
           obtain rfl := Option.some.inj H
           go_wp2
           repeat (go_quiet (fail); try go_wp2)
           go_ret
           exact ⟨by first | rfl | (simp [errW_none, errW_some] <;> rfl) | (simp [*, errW_none, errW_some] <;> rfl), by exact zB2 HB.out GE113.out GE117.out⟩
          ·replace c30 := Bool.eq_false_iff.mpr c30
           subst c30
           have H1 : (if x3_2 > 0 then (if 0 ≤ (wrap64 (x3_2 - 1)) then (if (wrap64 (x3_2 - 1)) < (l0_2.length : Int) then ((spec_l3Less.f ((rd_T73 l0_2 (wrap64 (x3_2 - 1))).f0) ((rd_T73 l0_2 (wrap64 (x3_2 - 1))).f1) ((rd_T73 l0_2 x3_2).f0) ((rd_T73 l0_2 x3_2).f1)).bind fun t123 => (if t123 = true then (spec_IndexOk.l0 kj13 (wrap64 (x3_2 + 1)) a0_0 a0_1 l0_2) else (some false))) else (none)) else (none)) else (spec_IndexOk.l0 kj13 (wrap64 (x3_2 + 1)) a0_0 a0_1 l0_2)) = some r := by rw [if_neg (show ¬ (false = true) by decide)] at H; exact H
           clear H
           have H := H1
           clear H1
           by_cases c31 : x3_2 > 0
           ·rw [if_pos c31] at H
            have c31b0 : decide (0 < x3_2) = true := decide_eq_true c31
            clear c31
            obtain ⟨ji32, hji32⟩ : ∃ j_ : Int, (wrap64 (x3_2 - 1)) = j_ := ⟨_, rfl⟩
            replace H : (if 0 ≤ (ji32) then (if (ji32) < (l0_2.length : Int) then ((spec_l3Less.f ((rd_T73 l0_2 (ji32)).f0) ((rd_T73 l0_2 (ji32)).f1) ((rd_T73 l0_2 x3_2).f0) ((rd_T73 l0_2 x3_2).f1)).bind fun t123 => (if t123 = true then (spec_IndexOk.l0 kj13 (wrap64 (x3_2 + 1)) a0_0 a0_1 l0_2) else (some false))) else (none)) else (none)) = some r := by first | (rw [hji32] at H; exact H) | (simp only [hji32] at H ⊢; exact H)
            have hji32w : (IntKind.i64.wrap (x3_2 - 1)) = ji32 := (i64_w _).trans hji32
            by_cases c33 : 0 ≤ (ji32)
            ·rw [if_pos c33] at H
             have c33b0 : decide (0 ≤ (ji32)) = true := decide_eq_true c33
             clear c33
             by_cases c34 : (ji32) < (l0_2.length : Int)
             ·rw [if_pos c34] at H
              have c34b0 : decide ((ji32) < (l0_2.length : Int)) = true := decide_eq_true c34
              clear c34
              replace H := Option.bind_eq_some_iff.mp H
              obtain ⟨t123, A350, H⟩ := H
              replace H : (if t123 = true then (spec_IndexOk.l0 kj13 (wrap64 (x3_2 + 1)) a0_0 a0_1 l0_2) else (some false)) = some r := H
              have A35 := Aside0.mk A350
              clear A350
              by_cases c36 : t123 = true
              ·subst c36
               have H1 : (spec_IndexOk.l0 kj13 (wrap64 (x3_2 + 1)) a0_0 a0_1 l0_2) = some r := by rw [if_pos rfl] at H; exact H
               clear H
               have H := H1
               clear H1
               have H' := Aside0.mk H
               clear H
               have hnb37 := NB113_117.out
               have hnc37 := NB117_113.out
               obtain ⟨hcz38_0, hcz38_1, hcz38_2, hfz38_0, hfz38_1, hfz38_2⟩ := zc3f BK113.out
               have p121 : 0 ≤ ((ji32) : Int) := of_decide_eq_true (by first | (with_reducible assumption) | assumption)
               have q121 : (ji32) < (l0_2.length : Int) := of_decide_eq_true (by first | (with_reducible assumption) | assumption)
               obtain ⟨ad121, e121, hx121_0, hx121_1, hx121_2⟩ := at_T73 HR0_2.out (ji32) p121 q121
               obtain rfl : ad116 = ad121 := (by injection e121)
               replace hx121_0 := (HB.out.cell (World.block_lt_of_cell? w _ hx121_0)).trans hx121_0
               replace hx121_1 := (HB.out.cell (World.block_lt_of_cell? w _ hx121_1)).trans hx121_1
               replace hx121_2 := (HB.out.cell (World.block_lt_of_cell? w _ hx121_2)).trans hx121_2
               replace p121 := eq_true p121
               replace q121 := eq_true q121
               have p122 : 0 ≤ ((ji32) : Int) := of_decide_eq_true (by first | (with_reducible assumption) | assumption)
               have q122 : (ji32) < (l0_2.length : Int) := of_decide_eq_true (by first | (with_reducible assumption) | assumption)
               obtain ⟨ad122, e122, hx122_0, hx122_1, hx122_2⟩ := at_T73 HR0_2.out (ji32) p122 q122
               obtain rfl : ad116 = ad122 := (by injection e122)
               replace hx122_0 := (HB.out.cell (World.block_lt_of_cell? w _ hx122_0)).trans hx122_0
               replace hx122_1 := (HB.out.cell (World.block_lt_of_cell? w _ hx122_1)).trans hx122_1
               replace hx122_2 := (HB.out.cell (World.block_lt_of_cell? w _ hx122_2)).trans hx122_2
               replace p122 := eq_true p122
               replace q122 := eq_true q122
               obtain ⟨hcz39_0, hcz39_1, hcz39_2, hfz39_0, hfz39_1, hfz39_2⟩ := zc3f BK117.out
               go_wp2_with (first | (go_at_call 55; (with_reducible refine (spec_l3Less.calls ((rd_T73 l0_2 (ji32)).f0) ((rd_T73 l0_2 (ji32)).f1) ((rd_T73 l0_2 x3_2).f0) ((rd_T73 l0_2 x3_2).f1) true _ A35.out).mono ?_); rintro e w' ⟨rfl, ⟨nd, rfl⟩⟩; (try first | exact ⟨rfl, _, World.drewN_drewN _ _ _⟩ | exact ⟨rfl, _, Eq.trans (World.drewN_drewN _ _ _) (congrArg (World.drewN _) (Nat.add_assoc _ _ _))⟩)))
               repeat (go_quiet (first | (go_at_call 55; (with_reducible refine (spec_l3Less.calls ((rd_T73 l0_2 (ji32)).f0) ((rd_T73 l0_2 (ji32)).f1) ((rd_T73 l0_2 x3_2).f0) ((rd_T73 l0_2 x3_2).f1) true _ A35.out).mono ?_); rintro e w' ⟨rfl, ⟨nd, rfl⟩⟩; (try first | exact ⟨rfl, _, World.drewN_drewN _ _ _⟩ | exact ⟨rfl, _, Eq.trans (World.drewN_drewN _ _ _) (congrArg (World.drewN _) (Nat.add_assoc _ _ _))⟩))); try go_wp2_with (first | (go_at_call 55; (with_reducible refine (spec_l3Less.calls ((rd_T73 l0_2 (ji32)).f0) ((rd_T73 l0_2 (ji32)).f1) ((rd_T73 l0_2 x3_2).f0) ((rd_T73 l0_2 x3_2).f1) true _ A35.out).mono ?_); rintro e w' ⟨rfl, ⟨nd, rfl⟩⟩; (try first | exact ⟨rfl, _, World.drewN_drewN _ _ _⟩ | exact ⟨rfl, _, Eq.trans (World.drewN_drewN _ _ _) (congrArg (World.drewN _) (Nat.add_assoc _ _ _))⟩))))
               go_roundg kj13
               case measure => have := HJ1.out; have := HK2.out; have := HJ13.out; omega
               case rel => exact ⟨(wrap64 (x3_2 + 1)), (by first | rfl | (simp; done) | (simp [*]; done)), H', ⟨by have := HJ1.out; have := HK2.out; have := HJ13.out; omega⟩, ⟨by exact zK BK113.out⟩, ⟨by exact zB2 HB.out GE113.out GE117.out⟩⟩
              ·replace c36 := Bool.eq_false_iff.mpr c36
               subst c36
               have H1 : (some false) = some r := by rw [if_neg (show ¬ (false = true) by decide)] at H; exact H
               clear H
               have H := H1
               clear H1
               obtain rfl := Option.some.inj H
               have hnb40 := NB113_117.out
               have hnc40 := NB117_113.out
               obtain ⟨hcz41_0, hcz41_1, hcz41_2, hfz41_0, hfz41_1, hfz41_2⟩ := zc3f BK113.out
               have p121 : 0 ≤ ((ji32) : Int) := of_decide_eq_true (by first | (with_reducible assumption) | assumption)
               have q121 : (ji32) < (l0_2.length : Int) := of_decide_eq_true (by first | (with_reducible assumption) | assumption)
               obtain ⟨ad121, e121, hx121_0, hx121_1, hx121_2⟩ := at_T73 HR0_2.out (ji32) p121 q121
               obtain rfl : ad116 = ad121 := (by injection e121)
               replace hx121_0 := (HB.out.cell (World.block_lt_of_cell? w _ hx121_0)).trans hx121_0
               replace hx121_1 := (HB.out.cell (World.block_lt_of_cell? w _ hx121_1)).trans hx121_1
               replace hx121_2 := (HB.out.cell (World.block_lt_of_cell? w _ hx121_2)).trans hx121_2
               replace p121 := eq_true p121
               replace q121 := eq_true q121
               have p122 : 0 ≤ ((ji32) : Int) := of_decide_eq_true (by first | (with_reducible assumption) | assumption)
               have q122 : (ji32) < (l0_2.length : Int) := of_decide_eq_true (by first | (with_reducible assumption) | assumption)
               obtain ⟨ad122, e122, hx122_0, hx122_1, hx122_2⟩ := at_T73 HR0_2.out (ji32) p122 q122
               obtain rfl : ad116 = ad122 := (by injection e122)
               replace hx122_0 := (HB.out.cell (World.block_lt_of_cell? w _ hx122_0)).trans hx122_0
               replace hx122_1 := (HB.out.cell (World.block_lt_of_cell? w _ hx122_1)).trans hx122_1
               replace hx122_2 := (HB.out.cell (World.block_lt_of_cell? w _ hx122_2)).trans hx122_2
               replace p122 := eq_true p122
               replace q122 := eq_true q122
               obtain ⟨hcz42_0, hcz42_1, hcz42_2, hfz42_0, hfz42_1, hfz42_2⟩ := zc3f BK117.out
               go_wp2_with (first | (go_at_call 55; (with_reducible refine (spec_l3Less.calls ((rd_T73 l0_2 (ji32)).f0) ((rd_T73 l0_2 (ji32)).f1) ((rd_T73 l0_2 x3_2).f0) ((rd_T73 l0_2 x3_2).f1) false _ A35.out).mono ?_); rintro e w' ⟨rfl, ⟨nd, rfl⟩⟩; (try first | exact ⟨rfl, _, World.drewN_drewN _ _ _⟩ | exact ⟨rfl, _, Eq.trans (World.drewN_drewN _ _ _) (congrArg (World.drewN _) (Nat.add_assoc _ _ _))⟩)))
               repeat (go_quiet (first | (go_at_call 55; (with_reducible refine (spec_l3Less.calls ((rd_T73 l0_2 (ji32)).f0) ((rd_T73 l0_2 (ji32)).f1) ((rd_T73 l0_2 x3_2).f0) ((rd_T73 l0_2 x3_2).f1) false _ A35.out).mono ?_); rintro e w' ⟨rfl, ⟨nd, rfl⟩⟩; (try first | exact ⟨rfl, _, World.drewN_drewN _ _ _⟩ | exact ⟨rfl, _, Eq.trans (World.drewN_drewN _ _ _) (congrArg (World.drewN _) (Nat.add_assoc _ _ _))⟩))); try go_wp2_with (first | (go_at_call 55; (with_reducible refine (spec_l3Less.calls ((rd_T73 l0_2 (ji32)).f0) ((rd_T73 l0_2 (ji32)).f1) ((rd_T73 l0_2 x3_2).f0) ((rd_T73 l0_2 x3_2).f1) false _ A35.out).mono ?_); rintro e w' ⟨rfl, ⟨nd, rfl⟩⟩; (try first | exact ⟨rfl, _, World.drewN_drewN _ _ _⟩ | exact ⟨rfl, _, Eq.trans (World.drewN_drewN _ _ _) (congrArg (World.drewN _) (Nat.add_assoc _ _ _))⟩))))
               go_ret
               exact ⟨by first | rfl | (simp [errW_none, errW_some] <;> rfl) | (simp only [← hji32]; first | rfl | (simp [errW_none, errW_some] <;> rfl)) | (simp [*, errW_none, errW_some] <;> rfl), by exact zB2 HB.out GE113.out GE117.out⟩
             ·rw [if_neg c34] at H
              exact absurd H (by simp)
            ·rw [if_neg c33] at H
             exact absurd H (by simp)
           ·rw [if_neg c31] at H
            have c31b0 : decide (0 < x3_2) = false := decide_eq_false c31
            clear c31
            have H' := Aside0.mk H
            clear H
            go_wp2
            repeat (go_quiet (fail); try go_wp2)
            go_roundg kj13
            case measure => have := HJ1.out; have := HK2.out; have := HJ13.out; omega
            case rel => exact ⟨(wrap64 (x3_2 + 1)), (by first | rfl | (simp; done) | (simp [*]; done)), H', ⟨by have := HJ1.out; have := HK2.out; have := HJ13.out; omega⟩, ⟨by exact zK BK113.out⟩, ⟨by exact zB2 HB.out GE113.out GE117.out⟩⟩
       ·rw [if_neg c13] at H
        exact absurd H (by simp)
      ·rw [if_neg c12] at H
       have c12b0 : decide (x3_2 < (l0_2.length : Int)) = false := decide_eq_false c12
       clear c12
       obtain rfl := Option.some.inj H
       obtain ⟨hcz43_0, hcz43_1, hcz43_2, hfz43_0, hfz43_1, hfz43_2⟩ := zc3f BK113.out
       go_wp2
       repeat (go_quiet (fail); try go_wp2)
       go_ret
       exact ⟨by first | rfl | (simp [errW_none, errW_some] <;> rfl) | (simp [*, errW_none, errW_some] <;> rfl), by exact zB1 HB.out GE113.out⟩

/-! ### spec_IndexText: function 13 -/
def spec_IndexText.l0 : Nat → ByteArray → Int → Int → Int → List (S73) → Option (ByteArray)
 | 0, _, _, _, _, _ => none
 | k + 1, x3, x4, x125000, x125001, x125002 => if x4 < (x125002.length : Int) then (if 0 ≤ x4 then ((spec_l1Name.f k ((rd_T73 x125002 x4).f0) ((rd_T73 x125002 x4).f1)).bind fun t130 => (if x3.size + t130.size ≤ 9223372036854775807 then (if (x3 ++ t130).size + 1 ≤ 9223372036854775807 then ((spec_l6Dec.f k ((rd_T73 x125002 x4).f2)).bind fun t132 => (if ((x3 ++ t130) ++ (⟨#[32]⟩ : ByteArray)).size + t132.size ≤ 9223372036854775807 then (if (((x3 ++ t130) ++ (⟨#[32]⟩ : ByteArray)) ++ t132).size + 1 ≤ 9223372036854775807 then (spec_IndexText.l0 k ((((x3 ++ t130) ++ (⟨#[32]⟩ : ByteArray)) ++ t132) ++ (⟨#[10]⟩ : ByteArray)) (wrap64 (x4 + 1)) x125000 x125001 x125002) else (none)) else (none))) else (none)) else (none))) else (none)) else (some x3)
def spec_IndexText.f (k : Nat) (a0_0 : Int) (a0_1 : Int) (l0_2 : List (S73)) : Option (ByteArray) := (spec_IndexOk.f k a0_0 a0_1 l0_2).bind fun t125 => (if t125 = true then ((spec_l6Dec.f k a0_0).bind fun t126 => (if t126.size + 1 ≤ 9223372036854775807 then ((spec_l6Dec.f k a0_1).bind fun t127 => (if (t126 ++ (⟨#[32]⟩ : ByteArray)).size + t127.size ≤ 9223372036854775807 then (if ((t126 ++ (⟨#[32]⟩ : ByteArray)) ++ t127).size + 1 ≤ 9223372036854775807 then (spec_IndexText.l0 k (((t126 ++ (⟨#[32]⟩ : ByteArray)) ++ t127) ++ (⟨#[10]⟩ : ByteArray)) 0 a0_0 a0_1 l0_2) else (none)) else (none))) else (none))) else (some (⟨#[]⟩ : ByteArray)))
theorem spec_IndexText.mono_l : ∀ k, (∀ y0 y1 y2 y3 y4, LeO (spec_IndexText.l0 k y0 y1 y2 y3 y4) (spec_IndexText.l0 (k + 1) y0 y1 y2 y3 y4))
 | 0 => fun _ _ _ _ _ r h => by simp [spec_IndexText.l0] at h
 | k + 1 => by
  have ih0 := spec_IndexText.mono_l k
  ·intro y0 y1 y2 y3 y4
   unfold spec_IndexText.l0
   repeat' first
   | (with_reducible exact ih0 _ _ _ _ _)
   | (with_reducible exact spec_IndexOk.mono _ _ _ _)
   | (with_reducible exact spec_l1Name.mono _ _ _)
   | (with_reducible exact spec_l6Dec.mono _ _)
   | (with_reducible exact LeO.refl _)
   | (with_reducible exact LeO.none _)
   | (with_reducible refine LeO.ite ?_ ?_)
   | (with_reducible refine LeO.bind ?_ (fun _ => ?_))
   | exact ih0 _ _ _ _ _
   | exact spec_IndexOk.mono _ _ _ _
   | exact spec_l1Name.mono _ _ _
   | exact spec_l6Dec.mono _ _
   | exact LeO.none _
   | refine LeO.ite ?_ ?_
   | refine LeO.bind ?_ (fun _ => ?_)
theorem spec_IndexText.mono : ∀ a0 a1 a2 k, LeO (spec_IndexText.f k a0 a1 a2) (spec_IndexText.f (k + 1) a0 a1 a2) := by
 intro a0 a1 a2 k
 have ih0 := spec_IndexText.mono_l k
 unfold spec_IndexText.f
 repeat' first
   | (with_reducible exact ih0 _ _ _ _ _)
   | (with_reducible exact spec_IndexOk.mono _ _ _ _)
   | (with_reducible exact spec_l1Name.mono _ _ _)
   | (with_reducible exact spec_l6Dec.mono _ _)
   | (with_reducible exact LeO.refl _)
   | (with_reducible exact LeO.none _)
   | (with_reducible refine LeO.ite ?_ ?_)
   | (with_reducible refine LeO.bind ?_ (fun _ => ?_))
   | exact ih0 _ _ _ _ _
   | exact spec_IndexOk.mono _ _ _ _
   | exact spec_l1Name.mono _ _ _
   | exact spec_l6Dec.mono _ _
   | exact LeO.none _
   | refine LeO.ite ?_ ?_
   | refine LeO.bind ?_ (fun _ => ?_)
def spec_IndexText.T3 : Bool × List (List Nat × List Nat) := (true, [([], []), ([0], [0]), ([1], [1]), ([2], [2]), ([], []), ([4], [4]), ([5, 2], [5]), ([3, 6], [3, 6]), ([7], [7]), ([8, 6, 0, 1, 2, 3, 4, 5, 6, 7, 8], [8])])
def spec_IndexText.B3 : List Nat := [0, 1, 3, 7, 0, 16, 55, 127, 255, 511]
theorem spec_IndexText.tab3 : rtab .any (opsOf Tryd.f13 3) = spec_IndexText.T3 := by kernel_rfl
theorem spec_IndexText.bits3 : waitsOk spec_IndexText.T3.2 spec_IndexText.B3 = true := by kernel_rfl
def spec_IndexText.T7 : Bool × List (List Nat × List Nat) := (true, [([], []), ([], []), ([1], [1]), ([], []), ([2, 3], [2, 3]), ([4], [4]), ([5], [5]), ([], []), ([7], [7]), ([], []), ([8, 9], [8, 9]), ([10], [10]), ([11], [11]), ([6, 12], [6, 12]), ([0, 13], [0, 13]), ([14], [14]), ([], []), ([16], [16]), ([], []), ([17, 18], [17, 18]), ([19], [19]), ([20], [20]), ([21, 13], [21]), ([15, 22], [15, 22]), ([23], [23]), ([24, 22, 0, 1, 2, 3, 4, 5, 6, 7, 8, 9, 10, 11, 12, 13, 14, 15, 16, 17, 18, 19, 20, 21, 22, 23, 24], [0, 24])])
def spec_IndexText.B7 : List Nat := [0, 0, 2, 0, 14, 30, 62, 0, 128, 0, 896, 1920, 3968, 8190, 16383, 32767, 0, 65536, 0, 458752, 983040, 2031616, 4145150, 8388607, 16777215, 33554431]
theorem spec_IndexText.tab7 : rtab .any (opsOf Tryd.f13 7) = spec_IndexText.T7 := by kernel_rfl
theorem spec_IndexText.bits7 : waitsOk spec_IndexText.T7.2 spec_IndexText.B7 = true := by kernel_rfl
set_option maxHeartbeats 8000000 in
set_option maxRecDepth 100000 in
theorem spec_IndexText.calls (k : Nat) (a0_0 : Int) (a0_1 : Int) (A0_2 : Option Addr) (c0_2 : Nat) (l0_2 : List (S73)) (r : ByteArray) (w : World) (hr0_2 : Kd.C k73 w A0_2 l0_2.length l0_2) (hc0_2 : l0_2.length ≤ c0_2) (h : spec_IndexText.f k a0_0 a0_1 l0_2 = some r) :
  Calls Tryd.prog 13 #[.agg #[.int .i64 a0_0, .int .i64 a0_1, .slice A0_2 l0_2.length c0_2]] w fun e w' => e = .returned (.string r) ∧ Below w.heap.size w w' := by
 have hu38 := Tryd.underlying38
 have HR0_2 := Aside0.mk hr0_2
 have HC0_2 := Aside0.mk hc0_2
 clear hr0_2 hc0_2
 have HB := Aside0.mk (Below.refl w.heap.size w)
 have H : ((spec_IndexOk.f k a0_0 a0_1 l0_2).bind fun t125 => (if t125 = true then ((spec_l6Dec.f k a0_0).bind fun t126 => (if t126.size + 1 ≤ 9223372036854775807 then ((spec_l6Dec.f k a0_1).bind fun t127 => (if (t126 ++ (⟨#[32]⟩ : ByteArray)).size + t127.size ≤ 9223372036854775807 then (if ((t126 ++ (⟨#[32]⟩ : ByteArray)) ++ t127).size + 1 ≤ 9223372036854775807 then (spec_IndexText.l0 k (((t126 ++ (⟨#[32]⟩ : ByteArray)) ++ t127) ++ (⟨#[10]⟩ : ByteArray)) 0 a0_0 a0_1 l0_2) else (none)) else (none))) else (none))) else (some (⟨#[]⟩ : ByteArray)))) = some r := h
 clear h
 replace H := Option.bind_eq_some_iff.mp H
 obtain ⟨t125, A20, H⟩ := H
 replace H : (if t125 = true then ((spec_l6Dec.f k a0_0).bind fun t126 => (if t126.size + 1 ≤ 9223372036854775807 then ((spec_l6Dec.f k a0_1).bind fun t127 => (if (t126 ++ (⟨#[32]⟩ : ByteArray)).size + t127.size ≤ 9223372036854775807 then (if ((t126 ++ (⟨#[32]⟩ : ByteArray)) ++ t127).size + 1 ≤ 9223372036854775807 then (spec_IndexText.l0 k (((t126 ++ (⟨#[32]⟩ : ByteArray)) ++ t127) ++ (⟨#[10]⟩ : ByteArray)) 0 a0_0 a0_1 l0_2) else (none)) else (none))) else (none))) else (some (⟨#[]⟩ : ByteArray))) = some r := H
 have A2 := Aside0.mk A20
 clear A20
 by_cases c3 : t125 = true
 ·subst c3
  have H1 : ((spec_l6Dec.f k a0_0).bind fun t126 => (if t126.size + 1 ≤ 9223372036854775807 then ((spec_l6Dec.f k a0_1).bind fun t127 => (if (t126 ++ (⟨#[32]⟩ : ByteArray)).size + t127.size ≤ 9223372036854775807 then (if ((t126 ++ (⟨#[32]⟩ : ByteArray)) ++ t127).size + 1 ≤ 9223372036854775807 then (spec_IndexText.l0 k (((t126 ++ (⟨#[32]⟩ : ByteArray)) ++ t127) ++ (⟨#[10]⟩ : ByteArray)) 0 a0_0 a0_1 l0_2) else (none)) else (none))) else (none))) = some r := by rw [if_pos rfl] at H; exact H
  clear H
  have H := H1
  clear H1
  replace H := Option.bind_eq_some_iff.mp H
  obtain ⟨t126, A40, H⟩ := H
  replace H : (if t126.size + 1 ≤ 9223372036854775807 then ((spec_l6Dec.f k a0_1).bind fun t127 => (if (t126 ++ (⟨#[32]⟩ : ByteArray)).size + t127.size ≤ 9223372036854775807 then (if ((t126 ++ (⟨#[32]⟩ : ByteArray)) ++ t127).size + 1 ≤ 9223372036854775807 then (spec_IndexText.l0 k (((t126 ++ (⟨#[32]⟩ : ByteArray)) ++ t127) ++ (⟨#[10]⟩ : ByteArray)) 0 a0_0 a0_1 l0_2) else (none)) else (none))) else (none)) = some r := H
  have A4 := Aside0.mk A40
  clear A40
  by_cases c5 : t126.size + 1 ≤ 9223372036854775807
  ·rw [if_pos c5] at H
   have c5b0 := eq_true c5
   have c5b1 : decide (t126.size + 1 ≤ 9223372036854775807) = true := decide_eq_true c5
   try have c5b2 : (9223372036854775807 < t126.size + 1) = False := eq_false (Nat.not_lt.2 c5)
   replace H := Option.bind_eq_some_iff.mp H
   obtain ⟨t127, A60, H⟩ := H
   replace H : (if (t126 ++ (⟨#[32]⟩ : ByteArray)).size + t127.size ≤ 9223372036854775807 then (if ((t126 ++ (⟨#[32]⟩ : ByteArray)) ++ t127).size + 1 ≤ 9223372036854775807 then (spec_IndexText.l0 k (((t126 ++ (⟨#[32]⟩ : ByteArray)) ++ t127) ++ (⟨#[10]⟩ : ByteArray)) 0 a0_0 a0_1 l0_2) else (none)) else (none)) = some r := H
   have A6 := Aside0.mk A60
   clear A60
   by_cases c7 : (t126 ++ (⟨#[32]⟩ : ByteArray)).size + t127.size ≤ 9223372036854775807
   ·rw [if_pos c7] at H
    have c7b0 := eq_true c7
    have c7b1 : decide ((t126 ++ (⟨#[32]⟩ : ByteArray)).size + t127.size ≤ 9223372036854775807) = true := decide_eq_true c7
    try have c7b2 : (9223372036854775807 < (t126 ++ (⟨#[32]⟩ : ByteArray)).size + t127.size) = False := eq_false (Nat.not_lt.2 c7)
    have c7b9 : (9223372036854775807 < t126.size + 1 + t127.size) = False := eq_false (by have h_ := c7; simp only [ByteArray.size_append, show (⟨#[32]⟩ : ByteArray).size = 1 from rfl, show (⟨#[58]⟩ : ByteArray).size = 1 from rfl] at h_; omega)
    by_cases c8 : ((t126 ++ (⟨#[32]⟩ : ByteArray)) ++ t127).size + 1 ≤ 9223372036854775807
    ·rw [if_pos c8] at H
     have c8b0 := eq_true c8
     have c8b1 : decide (((t126 ++ (⟨#[32]⟩ : ByteArray)) ++ t127).size + 1 ≤ 9223372036854775807) = true := decide_eq_true c8
     try have c8b2 : (9223372036854775807 < ((t126 ++ (⟨#[32]⟩ : ByteArray)) ++ t127).size + 1) = False := eq_false (Nat.not_lt.2 c8)
     have c8b9 : (9223372036854775807 < t126.size + 1 + t127.size + 1) = False := eq_false (by have h_ := c8; simp only [ByteArray.size_append, show (⟨#[32]⟩ : ByteArray).size = 1 from rfl, show (⟨#[58]⟩ : ByteArray).size = 1 from rfl] at h_; omega)
     have H' := Aside0.mk H
     clear H
     go_enter Tryd.func13, Tryd.ntmps13
     try go_wp2_with (first | ((with_reducible refine gate_dst (N := 1) rfl ?_); refine box_event ?hg (N := 1) ?hd (cs := #[.int .i64 a0_0, .int .i64 a0_1, .slice A0_2 l0_2.length c0_2]) (t := 38) ?hr ?_; (case hd => rfl); (case hg => rfl); (case hr => first | (go_simp; done) | (go_simp; rfl)); intro gb124 hg w9 hbox hb; have n0_ := Aside0.mk (below_step (by exact zB HB.out) hb); have n1_ := Aside0.mk (hbox); have n2_ := Aside0.mk ((by rw [hg]; exact (below_size (by exact zB HB.out)) : w.heap.size ≤ gb124)); have n3_ := Aside0.mk ((by rw [hg]; exact (below_size (by exact zB HB.out)) : w.heap.size ≤ gb124)); clear HB; have HB := n0_; have BK124 := n1_; have GW124 := n2_; have GE124 := n3_; clear n0_ n1_ n2_ n3_; clear hb hbox hg; obtain ⟨hcz10_0, hcz10_1, hcz10_2, hfz10_0, hfz10_1, hfz10_2⟩ := zc3f BK124.out) | ((with_reducible refine gate_callee (f := 36) rfl ?_); refine goesL_ (some 6) rfl rfl Tryd.func36 (by kernel_rfl) rfl #[.agg #[.int .i64 a0_0, .int .i64 a0_1, .slice A0_2 l0_2.length c0_2]] rfl (by (try simp only [zm1, zm2, zm3]); first | done | rfl | (simp only [List.length_drop, List.length_take]; rfl)) ?_; (with_reducible refine (spec_IndexOk.calls k a0_0 a0_1 _ _ l0_2 true _ ?side1 ?side2 A2.out).mono ?_); (case side1 => exact zC (Kd.C_below HR0_2.out HB.out)); (case side2 => exact HC0_2.out); rintro e w11 ⟨rfl, hb⟩; refine ⟨_, rfl, ?_⟩; have n0_ := Aside0.mk (blk_below (g := gb124) (o := .cells #[.int .i64 a0_0, .int .i64 a0_1, .slice A0_2 l0_2.length c0_2] 38 (0, 0)) (by exact zK BK124.out) hb); have n1_ := Aside0.mk (below_step (by exact zB1 HB.out GE124.out) hb); clear BK124; clear HB; have BK124 := n0_; have HB := n1_; clear n0_ n1_; (try clear hb); (try clear hb2); (try clear hk); (try clear hi)))
     have n0_ := Aside0.mk (blk_drew BK124.out)
     have n1_ := Aside0.mk (below_drew1 HB.out)
     clear BK124
     clear HB
     have BK124 := n0_
     have HB := n1_
     clear n0_ n1_
     refine start_ (n := 10) (S := fun w' => w'.cell? ⟨gb124, 0, none⟩ = some (.int .i64 a0_0) ∧ w'.cell? ⟨gb124, 1, none⟩ = some (.int .i64 a0_1) ∧ w'.cell? ⟨gb124, 2, none⟩ = some (.slice A0_2 l0_2.length c0_2)) (ds := []) #[false, false, false, false, false, false, false, false, false, false] (by kernel_rfl) rfl rfl ⟨(blk_cell BK124.out 0).trans rfl, (blk_cell BK124.out 1).trans rfl, (blk_cell BK124.out 2).trans rfl⟩ (fun hHeld => ?_); refine with_tabW spec_IndexText.tab3 spec_IndexText.bits3 (fun HT_ HW_ => ?_)
     generalize w11.drew = w12 at BK124 HB hHeld ⊢
     refine pure_ (i := 0) (N := some 8) (v := ?_) (a' := ?_) #[true, false, false, false, false, false, false, false, false, false] rfl rfl (any_of HT_.out (by kernel_rfl)) (fun _ _ _ h => h) (Or.inl ⟨by rfl, ?_⟩) ?_ ?_
     rotate_left
     ·intro w'
      go_simp
      with_reducible rfl
     rotate_left
     ·simp only [zp0, zp1, zp2, zp3, zp4, i64_w, i32_w]
      rfl
     refine pure_ (i := 4) (N := some 12) (v := ?_) (a' := ?_) #[true, false, false, false, true, false, false, false, false, false] rfl rfl (any_of HT_.out (by kernel_rfl)) (fun _ _ _ h => h) (Or.inl ⟨by rfl, ?_⟩) ?_ ?_
     rotate_left
     ·intro w'
      go_simp
      with_reducible rfl
     rotate_left
     ·simp only [zp0, zp1, zp2, zp3, zp4, i64_w, i32_w]
      rfl
     refine take_ (i := 1) (N := some 9) (v := ?_) (a' := ?_) #[true, true, false, false, true, false, false, false, false, false] rfl rfl (take_ofW HT_.out HW_.out (by kernel_rfl)) (fun _ _ _ h => h) (Or.inl ⟨by rfl, ?_⟩) hHeld ?_ ?_
     rotate_left
     ·rintro w' ⟨s0, s1, s2⟩
      go_simp
      with_reducible rfl
     rotate_left
     ·simp only [zp0, zp1, zp2, zp3, zp4, i64_w, i32_w]
      rfl
     refine take_ (i := 5) (N := some 13) (v := ?_) (a' := ?_) #[true, true, false, false, true, true, false, false, false, false] rfl rfl (take_ofW HT_.out HW_.out (by kernel_rfl)) (fun _ _ _ h => h) (Or.inl ⟨by rfl, ?_⟩) hHeld ?_ ?_
     rotate_left
     ·rintro w' ⟨s0, s1, s2⟩
      go_simp
      with_reducible rfl
     rotate_left
     ·simp only [zp0, zp1, zp2, zp3, zp4, i64_w, i32_w]
      rfl
     refine one_ (i := 2) (N := some 10) #[true, true, true, false, true, true, false, false, false, false] rfl rfl (one_of HT_.out (by kernel_rfl)) (by decide) (fun K hK => ?_)
     refine goes_ Tryd.func31 (by kernel_rfl) rfl #[.int .i64 a0_0] (by rfl) rfl rfl (by (try simp only [zm1, zm2, zm3]); first | done | rfl | (simp only [List.length_drop, List.length_take]; rfl)) ?_
     with_reducible refine (spec_l6Dec.calls k a0_0 t126 _ A4.out).mono ?_
     rintro e w13 ⟨rfl, hb⟩
     refine ⟨_, rfl, ?_⟩
     have n0_ := Aside0.mk (blk_below (g := gb124) (o := .cells #[.int .i64 a0_0, .int .i64 a0_1, .slice A0_2 l0_2.length c0_2] 38 (0, 0)) (by exact zK BK124.out) hb)
     have n1_ := Aside0.mk (below_step (by exact zB1 HB.out GE124.out) hb)
     clear BK124
     clear HB
     have BK124 := n0_
     have HB := n1_
     clear n0_ n1_
     (try clear hb)
     (try clear hb2)
     (try clear hk)
     (try clear hi)
     refine hK.out _ _ ⟨(blk_cell BK124.out 0).trans rfl, (blk_cell BK124.out 1).trans rfl, (blk_cell BK124.out 2).trans rfl⟩ (fun hHeld => ?_)
     clear hK K
     refine norm_ (a' := ?_) ?_ ?_
     rotate_left
     ·show Act.put _ (some 10) _ = _
      simp only [zp0, zp1, zp2, zp3, zp4, i64_w, i32_w]
      rfl
     refine pure_ (i := 3) (N := some 11) (v := ?_) (a' := ?_) #[true, true, true, true, true, true, false, false, false, false] rfl rfl (any_of HT_.out (by kernel_rfl)) (fun _ _ _ h => h) (Or.inl ⟨by rfl, ?_⟩) ?_ ?_
     rotate_left
     ·intro w'
      go_simp
      with_reducible rfl
     rotate_left
     ·simp only [zp0, zp1, zp2, zp3, zp4, i64_w, i32_w]
      rfl
     refine one_ (i := 6) (N := some 14) #[true, true, true, true, true, true, true, false, false, false] rfl rfl (one_of HT_.out (by kernel_rfl)) (by decide) (fun K hK => ?_)
     refine goes_ Tryd.func31 (by kernel_rfl) rfl #[.int .i64 a0_1] (by rfl) rfl rfl (by (try simp only [zm1, zm2, zm3]); first | done | rfl | (simp only [List.length_drop, List.length_take]; rfl)) ?_
     with_reducible refine (spec_l6Dec.calls k a0_1 t127 _ A6.out).mono ?_
     rintro e w14 ⟨rfl, hb⟩
     refine ⟨_, rfl, ?_⟩
     have n0_ := Aside0.mk (blk_below (g := gb124) (o := .cells #[.int .i64 a0_0, .int .i64 a0_1, .slice A0_2 l0_2.length c0_2] 38 (0, 0)) (by exact zK BK124.out) hb)
     have n1_ := Aside0.mk (below_step (by exact zB1 HB.out GE124.out) hb)
     clear BK124
     clear HB
     have BK124 := n0_
     have HB := n1_
     clear n0_ n1_
     (try clear hb)
     (try clear hb2)
     (try clear hk)
     (try clear hi)
     refine hK.out _ _ ⟨(blk_cell BK124.out 0).trans rfl, (blk_cell BK124.out 1).trans rfl, (blk_cell BK124.out 2).trans rfl⟩ (fun hHeld => ?_)
     clear hK K
     refine norm_ (a' := ?_) ?_ ?_
     rotate_left
     ·show Act.put _ (some 14) _ = _
      simp only [zp0, zp1, zp2, zp3, zp4, i64_w, i32_w]
      rfl
     refine pure_ (i := 7) (N := some 15) (v := ?_) (a' := ?_) #[true, true, true, true, true, true, true, true, false, false] rfl rfl (any_of HT_.out (by kernel_rfl)) (fun _ _ _ h => h) (Or.inl ⟨by rfl, ?_⟩) ?_ ?_
     rotate_left
     ·intro w'
      go_simp
      with_reducible rfl
     rotate_left
     ·simp only [zp0, zp1, zp2, zp3, zp4, i64_w, i32_w]
      rfl
     refine pure_ (i := 8) (N := some 16) (v := ?_) (a' := ?_) #[true, true, true, true, true, true, true, true, true, false] rfl rfl (any_of HT_.out (by kernel_rfl)) (fun _ _ _ h => h) (Or.inl ⟨by rfl, ?_⟩) ?_ ?_
     rotate_left
     ·intro w'
      go_simp
      with_reducible rfl
     rotate_left
     ·simp only [zp0, zp1, zp2, zp3, zp4, i64_w, i32_w]
      rfl
     refine pure_ (i := 9) (N := some 3) (v := ?_) (a' := ?_) #[true, true, true, true, true, true, true, true, true, true] rfl rfl (any_of HT_.out (by kernel_rfl)) (fun _ _ _ h => h) (Or.inl ⟨by rfl, ?_⟩) ?_ ?_
     rotate_left
     ·intro w'
      go_simp
      with_reducible rfl
     rotate_left
     ·simp only [zp0, zp1, zp2, zp3, zp4, i64_w, i32_w]
      rfl
     refine done_ (done_of HT_.out (by kernel_rfl)) ?_
     try go_wp2
     go_loopg [3, 4] k (fun kq v3 v4 w' => ∃ (x3_1 : ByteArray) (x4_1 : Int), v3 = .string x3_1 ∧ v4 = .int .i64 x4_1 ∧ Aside0 (spec_IndexText.l0 kq x3_1 x4_1 a0_0 a0_1 l0_2 = some r) ∧ Aside0 (kq ≤ k) ∧ Aside0 (w'.heap[gb124]? = some (.cells #[.int .i64 a0_0, .int .i64 a0_1, (.slice A0_2 l0_2.length c0_2)] 38 (0, 0))) ∧ Aside0 (Below w.heap.size w w'))
     case atStart => exact ⟨(((t126 ++ (⟨#[32]⟩ : ByteArray)) ++ t127) ++ (⟨#[10]⟩ : ByteArray)), (0), (by first | rfl | (simp; done) | (simp [*]; done)), (by first | rfl | (simp; done) | (simp [*]; done)), H', ⟨Nat.le_refl _⟩, ⟨by exact zK BK124.out⟩, ⟨by exact zB1 HB.out GE124.out⟩⟩
     case round =>
      clear H'
      try clear c1
      try clear p2
      try clear c3
      try clear c5
      try clear c5b0
      try clear c5b1
      try clear c5b2
      try clear c7
      try clear c7b0
      try clear c7b1
      try clear c7b2
      try clear c8
      try clear c8b0
      try clear c8b1
      try clear c8b2
      try clear c13
      try clear hcz10_0
      try clear hcz10_1
      try clear hcz10_2
      try clear hfz10_0
      try clear hfz10_1
      try clear hfz10_2
      obtain ⟨x3_1, x4_1, rfl, rfl, HA, HK1, BK124, HB⟩ := hrel
      cases gk with
      | zero => exact absurd HA.out (by simp [spec_IndexText.l0])
      | succ k1 =>
       have H := HA.out
       clear HA
       simp only [spec_IndexText.l0] at H
       by_cases c15 : x4_1 < (l0_2.length : Int)
       ·rw [if_pos c15] at H
        have c15b0 : decide (x4_1 < (l0_2.length : Int)) = true := decide_eq_true c15
        clear c15
        by_cases c16 : 0 ≤ x4_1
        ·rw [if_pos c16] at H
         have c16b0 : decide (0 ≤ x4_1) = true := decide_eq_true c16
         clear c16
         replace H := Option.bind_eq_some_iff.mp H
         obtain ⟨t130, A170, H⟩ := H
         replace H : (if x3_1.size + t130.size ≤ 9223372036854775807 then (if (x3_1 ++ t130).size + 1 ≤ 9223372036854775807 then ((spec_l6Dec.f k1 ((rd_T73 l0_2 x4_1).f2)).bind fun t132 => (if ((x3_1 ++ t130) ++ (⟨#[32]⟩ : ByteArray)).size + t132.size ≤ 9223372036854775807 then (if (((x3_1 ++ t130) ++ (⟨#[32]⟩ : ByteArray)) ++ t132).size + 1 ≤ 9223372036854775807 then (spec_IndexText.l0 k1 ((((x3_1 ++ t130) ++ (⟨#[32]⟩ : ByteArray)) ++ t132) ++ (⟨#[10]⟩ : ByteArray)) (wrap64 (x4_1 + 1)) a0_0 a0_1 l0_2) else (none)) else (none))) else (none)) else (none)) = some r := H
         have A17 := Aside0.mk A170
         clear A170
         by_cases c18 : x3_1.size + t130.size ≤ 9223372036854775807
         ·rw [if_pos c18] at H
          have c18b0 := eq_true c18
          have c18b1 : decide (x3_1.size + t130.size ≤ 9223372036854775807) = true := decide_eq_true c18
          try have c18b2 : (9223372036854775807 < x3_1.size + t130.size) = False := eq_false (Nat.not_lt.2 c18)
          by_cases c19 : (x3_1 ++ t130).size + 1 ≤ 9223372036854775807
          ·rw [if_pos c19] at H
           have c19b0 := eq_true c19
           have c19b1 : decide ((x3_1 ++ t130).size + 1 ≤ 9223372036854775807) = true := decide_eq_true c19
           try have c19b2 : (9223372036854775807 < (x3_1 ++ t130).size + 1) = False := eq_false (Nat.not_lt.2 c19)
           have c19b9 : (9223372036854775807 < x3_1.size + t130.size + 1) = False := eq_false (by have h_ := c19; simp only [ByteArray.size_append, show (⟨#[32]⟩ : ByteArray).size = 1 from rfl, show (⟨#[58]⟩ : ByteArray).size = 1 from rfl] at h_; omega)
           replace H := Option.bind_eq_some_iff.mp H
           obtain ⟨t132, A200, H⟩ := H
           replace H : (if ((x3_1 ++ t130) ++ (⟨#[32]⟩ : ByteArray)).size + t132.size ≤ 9223372036854775807 then (if (((x3_1 ++ t130) ++ (⟨#[32]⟩ : ByteArray)) ++ t132).size + 1 ≤ 9223372036854775807 then (spec_IndexText.l0 k1 ((((x3_1 ++ t130) ++ (⟨#[32]⟩ : ByteArray)) ++ t132) ++ (⟨#[10]⟩ : ByteArray)) (wrap64 (x4_1 + 1)) a0_0 a0_1 l0_2) else (none)) else (none)) = some r := H
           have A20 := Aside0.mk A200
           clear A200
           by_cases c21 : ((x3_1 ++ t130) ++ (⟨#[32]⟩ : ByteArray)).size + t132.size ≤ 9223372036854775807
           ·rw [if_pos c21] at H
            have c21b0 := eq_true c21
            have c21b1 : decide (((x3_1 ++ t130) ++ (⟨#[32]⟩ : ByteArray)).size + t132.size ≤ 9223372036854775807) = true := decide_eq_true c21
            try have c21b2 : (9223372036854775807 < ((x3_1 ++ t130) ++ (⟨#[32]⟩ : ByteArray)).size + t132.size) = False := eq_false (Nat.not_lt.2 c21)
            have c21b9 : (9223372036854775807 < x3_1.size + t130.size + 1 + t132.size) = False := eq_false (by have h_ := c21; simp only [ByteArray.size_append, show (⟨#[32]⟩ : ByteArray).size = 1 from rfl, show (⟨#[58]⟩ : ByteArray).size = 1 from rfl] at h_; omega)
            by_cases c22 : (((x3_1 ++ t130) ++ (⟨#[32]⟩ : ByteArray)) ++ t132).size + 1 ≤ 9223372036854775807
            ·rw [if_pos c22] at H
             have c22b0 := eq_true c22
             have c22b1 : decide ((((x3_1 ++ t130) ++ (⟨#[32]⟩ : ByteArray)) ++ t132).size + 1 ≤ 9223372036854775807) = true := decide_eq_true c22
             try have c22b2 : (9223372036854775807 < (((x3_1 ++ t130) ++ (⟨#[32]⟩ : ByteArray)) ++ t132).size + 1) = False := eq_false (Nat.not_lt.2 c22)
             have c22b9 : (9223372036854775807 < x3_1.size + t130.size + 1 + t132.size + 1) = False := eq_false (by have h_ := c22; simp only [ByteArray.size_append, show (⟨#[32]⟩ : ByteArray).size = 1 from rfl, show (⟨#[58]⟩ : ByteArray).size = 1 from rfl] at h_; omega)
             have H' := Aside0.mk H
             clear H
             obtain ⟨hcz23_0, hcz23_1, hcz23_2, hfz23_0, hfz23_1, hfz23_2⟩ := zc3f BK124.out
             try go_wp2
             have n0_ := Aside0.mk (blk_drew BK124.out)
             have n1_ := Aside0.mk (below_drew1 HB.out)
             clear BK124
             clear HB
             have BK124 := n0_
             have HB := n1_
             clear n0_ n1_
             have p128 : 0 ≤ (x4_1 : Int) := of_decide_eq_true (by first | (with_reducible assumption) | assumption)
             have q128 : x4_1 < (l0_2.length : Int) := of_decide_eq_true (by first | (with_reducible assumption) | assumption)
             obtain ⟨ad128, e128, hx128_0, hx128_1, hx128_2⟩ := at_T73 HR0_2.out x4_1 p128 q128
             have hw128_2 := hx128_2
             have hw128_1 := hx128_1
             have hw128_0 := hx128_0
             cases e128
             replace hx128_0 := (HB.out.cell (World.block_lt_of_cell? w _ hx128_0)).trans hx128_0
             replace hx128_1 := (HB.out.cell (World.block_lt_of_cell? w _ hx128_1)).trans hx128_1
             replace hx128_2 := (HB.out.cell (World.block_lt_of_cell? w _ hx128_2)).trans hx128_2
             replace p128 := eq_true p128
             replace q128 := eq_true q128
             have p129 : 0 ≤ (x4_1 : Int) := of_decide_eq_true (by first | (with_reducible assumption) | assumption)
             have q129 : x4_1 < (l0_2.length : Int) := of_decide_eq_true (by first | (with_reducible assumption) | assumption)
             obtain ⟨ad129, e129, hx129_0, hx129_1, hx129_2⟩ := at_T73 HR0_2.out x4_1 p129 q129
             have hw129_2 := hx129_2
             have hw129_1 := hx129_1
             have hw129_0 := hx129_0
             obtain rfl : ad128 = ad129 := (by injection e129)
             replace hx129_0 := (HB.out.cell (World.block_lt_of_cell? w _ hx129_0)).trans hx129_0
             replace hx129_1 := (HB.out.cell (World.block_lt_of_cell? w _ hx129_1)).trans hx129_1
             replace hx129_2 := (HB.out.cell (World.block_lt_of_cell? w _ hx129_2)).trans hx129_2
             replace p129 := eq_true p129
             replace q129 := eq_true q129
             have p131 : 0 ≤ (x4_1 : Int) := of_decide_eq_true (by first | (with_reducible assumption) | assumption)
             have q131 : x4_1 < (l0_2.length : Int) := of_decide_eq_true (by first | (with_reducible assumption) | assumption)
             obtain ⟨ad131, e131, hx131_0, hx131_1, hx131_2⟩ := at_T73 HR0_2.out x4_1 p131 q131
             have hw131_2 := hx131_2
             have hw131_1 := hx131_1
             have hw131_0 := hx131_0
             obtain rfl : ad128 = ad131 := (by injection e131)
             replace hx131_0 := (HB.out.cell (World.block_lt_of_cell? w _ hx131_0)).trans hx131_0
             replace hx131_1 := (HB.out.cell (World.block_lt_of_cell? w _ hx131_1)).trans hx131_1
             replace hx131_2 := (HB.out.cell (World.block_lt_of_cell? w _ hx131_2)).trans hx131_2
             replace p131 := eq_true p131
             replace q131 := eq_true q131
             refine start_ (n := 26) (S := fun w' => w'.cell? ⟨gb124, 0, none⟩ = some (.int .i64 a0_0) ∧ w'.cell? ⟨gb124, 1, none⟩ = some (.int .i64 a0_1) ∧ w'.cell? ⟨gb124, 2, none⟩ = some (.slice (some ad128) l0_2.length c0_2) ∧ w'.cell? (ad128.add ((x4_1).toNat * 3)) = some (.int .i64 ((rd_T73 l0_2 x4_1).f0)) ∧ w'.cell? ⟨(ad128.add ((x4_1).toNat * 3)).block, (ad128.add ((x4_1).toNat * 3)).off + 1, none⟩ = some (.int .i64 ((rd_T73 l0_2 x4_1).f1)) ∧ w'.cell? ⟨(ad128.add ((x4_1).toNat * 3)).block, (ad128.add ((x4_1).toNat * 3)).off + 2, none⟩ = some (.int .i64 ((rd_T73 l0_2 x4_1).f2)) ∧ w'.cell? (ad128.add ((x4_1).toNat * 3)) = some (.int .i64 ((rd_T73 l0_2 x4_1).f0)) ∧ w'.cell? ⟨(ad128.add ((x4_1).toNat * 3)).block, (ad128.add ((x4_1).toNat * 3)).off + 1, none⟩ = some (.int .i64 ((rd_T73 l0_2 x4_1).f1)) ∧ w'.cell? ⟨(ad128.add ((x4_1).toNat * 3)).block, (ad128.add ((x4_1).toNat * 3)).off + 2, none⟩ = some (.int .i64 ((rd_T73 l0_2 x4_1).f2)) ∧ w'.cell? (ad128.add ((x4_1).toNat * 3)) = some (.int .i64 ((rd_T73 l0_2 x4_1).f0)) ∧ w'.cell? ⟨(ad128.add ((x4_1).toNat * 3)).block, (ad128.add ((x4_1).toNat * 3)).off + 1, none⟩ = some (.int .i64 ((rd_T73 l0_2 x4_1).f1)) ∧ w'.cell? ⟨(ad128.add ((x4_1).toNat * 3)).block, (ad128.add ((x4_1).toNat * 3)).off + 2, none⟩ = some (.int .i64 ((rd_T73 l0_2 x4_1).f2))) (ds := []) #[false, false, false, false, false, false, false, false, false, false, false, false, false, false, false, false, false, false, false, false, false, false, false, false, false, false] (by kernel_rfl) rfl rfl ⟨(blk_cell BK124.out 0).trans rfl, (blk_cell BK124.out 1).trans rfl, (blk_cell BK124.out 2).trans rfl, ((HB.out.cell (World.block_lt_of_cell? w _ hw128_0)).trans hw128_0), ((HB.out.cell (World.block_lt_of_cell? w _ hw128_1)).trans hw128_1), ((HB.out.cell (World.block_lt_of_cell? w _ hw128_2)).trans hw128_2), ((HB.out.cell (World.block_lt_of_cell? w _ hw129_0)).trans hw129_0), ((HB.out.cell (World.block_lt_of_cell? w _ hw129_1)).trans hw129_1), ((HB.out.cell (World.block_lt_of_cell? w _ hw129_2)).trans hw129_2), ((HB.out.cell (World.block_lt_of_cell? w _ hw131_0)).trans hw131_0), ((HB.out.cell (World.block_lt_of_cell? w _ hw131_1)).trans hw131_1), ((HB.out.cell (World.block_lt_of_cell? w _ hw131_2)).trans hw131_2)⟩ (fun hHeld => ?_); refine with_tabW spec_IndexText.tab7 spec_IndexText.bits7 (fun HT_ HW_ => ?_)
             generalize wr.drew = w24 at BK124 HB hx128_0 hx128_1 hx128_2 hx129_0 hx129_1 hx129_2 hx131_0 hx131_1 hx131_2 hHeld ⊢
             refine pure_ (i := 0) (N := some 24) (v := ?_) (a' := ?_) #[true, false, false, false, false, false, false, false, false, false, false, false, false, false, false, false, false, false, false, false, false, false, false, false, false, false] rfl rfl (any_of HT_.out (by kernel_rfl)) (fun _ _ _ h => h) (Or.inl ⟨by rfl, ?_⟩) ?_ ?_
             rotate_left
             ·intro w'
              go_simp
              with_reducible rfl
             rotate_left
             ·simp only [zp0, zp1, zp2, zp3, zp4, i64_w, i32_w]
              rfl
             refine pure_ (i := 1) (N := some 25) (v := ?_) (a' := ?_) #[true, true, false, false, false, false, false, false, false, false, false, false, false, false, false, false, false, false, false, false, false, false, false, false, false, false] rfl rfl (any_of HT_.out (by kernel_rfl)) (fun _ _ _ h => h) (Or.inl ⟨by rfl, ?_⟩) ?_ ?_
             rotate_left
             ·intro w'
              go_simp
              with_reducible rfl
             rotate_left
             ·simp only [zp0, zp1, zp2, zp3, zp4, i64_w, i32_w]
              rfl
             refine pure_ (i := 3) (N := some 27) (v := ?_) (a' := ?_) #[true, true, false, true, false, false, false, false, false, false, false, false, false, false, false, false, false, false, false, false, false, false, false, false, false, false] rfl rfl (any_of HT_.out (by kernel_rfl)) (fun _ _ _ h => h) (Or.inl ⟨by rfl, ?_⟩) ?_ ?_
             rotate_left
             ·intro w'
              go_simp
              with_reducible rfl
             rotate_left
             ·simp only [zp0, zp1, zp2, zp3, zp4, i64_w, i32_w]
              rfl
             refine pure_ (i := 7) (N := some 31) (v := ?_) (a' := ?_) #[true, true, false, true, false, false, false, true, false, false, false, false, false, false, false, false, false, false, false, false, false, false, false, false, false, false] rfl rfl (any_of HT_.out (by kernel_rfl)) (fun _ _ _ h => h) (Or.inl ⟨by rfl, ?_⟩) ?_ ?_
             rotate_left
             ·intro w'
              go_simp
              with_reducible rfl
             rotate_left
             ·simp only [zp0, zp1, zp2, zp3, zp4, i64_w, i32_w]
              rfl
             refine pure_ (i := 9) (N := some 33) (v := ?_) (a' := ?_) #[true, true, false, true, false, false, false, true, false, true, false, false, false, false, false, false, false, false, false, false, false, false, false, false, false, false] rfl rfl (any_of HT_.out (by kernel_rfl)) (fun _ _ _ h => h) (Or.inl ⟨by rfl, ?_⟩) ?_ ?_
             rotate_left
             ·intro w'
              go_simp
              with_reducible rfl
             rotate_left
             ·simp only [zp0, zp1, zp2, zp3, zp4, i64_w, i32_w]
              rfl
             refine pure_ (i := 16) (N := some 40) (v := ?_) (a' := ?_) #[true, true, false, true, false, false, false, true, false, true, false, false, false, false, false, false, true, false, false, false, false, false, false, false, false, false] rfl rfl (any_of HT_.out (by kernel_rfl)) (fun _ _ _ h => h) (Or.inl ⟨by rfl, ?_⟩) ?_ ?_
             rotate_left
             ·intro w'
              go_simp
              with_reducible rfl
             rotate_left
             ·simp only [zp0, zp1, zp2, zp3, zp4, i64_w, i32_w]
              rfl
             refine pure_ (i := 18) (N := some 42) (v := ?_) (a' := ?_) #[true, true, false, true, false, false, false, true, false, true, false, false, false, false, false, false, true, false, true, false, false, false, false, false, false, false] rfl rfl (any_of HT_.out (by kernel_rfl)) (fun _ _ _ h => h) (Or.inl ⟨by rfl, ?_⟩) ?_ ?_
             rotate_left
             ·intro w'
              go_simp
              with_reducible rfl
             rotate_left
             ·simp only [zp0, zp1, zp2, zp3, zp4, i64_w, i32_w]
              rfl
             refine take_ (i := 2) (N := some 26) (v := ?_) (a' := ?_) #[true, true, true, true, false, false, false, true, false, true, false, false, false, false, false, false, true, false, true, false, false, false, false, false, false, false] rfl rfl (take_ofW HT_.out HW_.out (by kernel_rfl)) (fun _ _ _ h => h) (Or.inl ⟨by rfl, ?_⟩) hHeld ?_ ?_
             rotate_left
             ·rintro w' ⟨s0, s1, s2, s3, s4, s5, s6, s7, s8, s9, s10, s11⟩
              go_simp
              with_reducible rfl
             rotate_left
             ·simp only [zp0, zp1, zp2, zp3, zp4, i64_w, i32_w]
              rfl
             refine pure_ (i := 4) (N := some 28) (v := ?_) (a' := ?_) #[true, true, true, true, true, false, false, true, false, true, false, false, false, false, false, false, true, false, true, false, false, false, false, false, false, false] rfl rfl (any_of HT_.out (by kernel_rfl)) (fun _ _ _ h => h) (Or.inl ⟨by rfl, ?_⟩) ?_ ?_
             rotate_left
             ·intro w'
              go_simp
              with_reducible rfl
             rotate_left
             ·simp only [zp0, zp1, zp2, zp3, zp4, i64_w, i32_w]
              rfl
             refine pure_ (i := 5) (N := some 29) (v := ?_) (a' := ?_) #[true, true, true, true, true, true, false, true, false, true, false, false, false, false, false, false, true, false, true, false, false, false, false, false, false, false] rfl rfl (any_of HT_.out (by kernel_rfl)) (fun _ _ _ h => h) (Or.inl ⟨by rfl, ?_⟩) ?_ ?_
             rotate_left
             ·intro w'
              go_simp
              with_reducible rfl
             rotate_left
             ·simp only [zp0, zp1, zp2, zp3, zp4, i64_w, i32_w]
              rfl
             refine take_ (i := 6) (N := some 30) (v := ?_) (a' := ?_) #[true, true, true, true, true, true, true, true, false, true, false, false, false, false, false, false, true, false, true, false, false, false, false, false, false, false] rfl rfl (take_ofW HT_.out HW_.out (by kernel_rfl)) (fun _ _ _ h => h) (Or.inl ⟨by rfl, ?_⟩) hHeld ?_ ?_
             rotate_left
             ·rintro w' ⟨s0, s1, s2, s3, s4, s5, s6, s7, s8, s9, s10, s11⟩
              go_simp
              with_reducible rfl
             rotate_left
             ·simp only [zp0, zp1, zp2, zp3, zp4, i64_w, i32_w]
              rfl
             refine take_ (i := 8) (N := some 32) (v := ?_) (a' := ?_) #[true, true, true, true, true, true, true, true, true, true, false, false, false, false, false, false, true, false, true, false, false, false, false, false, false, false] rfl rfl (take_ofW HT_.out HW_.out (by kernel_rfl)) (fun _ _ _ h => h) (Or.inl ⟨by rfl, ?_⟩) hHeld ?_ ?_
             rotate_left
             ·rintro w' ⟨s0, s1, s2, s3, s4, s5, s6, s7, s8, s9, s10, s11⟩
              go_simp
              with_reducible rfl
             rotate_left
             ·simp only [zp0, zp1, zp2, zp3, zp4, i64_w, i32_w]
              rfl
             refine pure_ (i := 10) (N := some 34) (v := ?_) (a' := ?_) #[true, true, true, true, true, true, true, true, true, true, true, false, false, false, false, false, true, false, true, false, false, false, false, false, false, false] rfl rfl (any_of HT_.out (by kernel_rfl)) (fun _ _ _ h => h) (Or.inl ⟨by rfl, ?_⟩) ?_ ?_
             rotate_left
             ·intro w'
              go_simp
              with_reducible rfl
             rotate_left
             ·simp only [zp0, zp1, zp2, zp3, zp4, i64_w, i32_w]
              rfl
             refine pure_ (i := 11) (N := some 35) (v := ?_) (a' := ?_) #[true, true, true, true, true, true, true, true, true, true, true, true, false, false, false, false, true, false, true, false, false, false, false, false, false, false] rfl rfl (any_of HT_.out (by kernel_rfl)) (fun _ _ _ h => h) (Or.inl ⟨by rfl, ?_⟩) ?_ ?_
             rotate_left
             ·intro w'
              go_simp
              with_reducible rfl
             rotate_left
             ·simp only [zp0, zp1, zp2, zp3, zp4, i64_w, i32_w]
              rfl
             refine take_ (i := 12) (N := some 36) (v := ?_) (a' := ?_) #[true, true, true, true, true, true, true, true, true, true, true, true, true, false, false, false, true, false, true, false, false, false, false, false, false, false] rfl rfl (take_ofW HT_.out HW_.out (by kernel_rfl)) (fun _ _ _ h => h) (Or.inl ⟨by rfl, ?_⟩) hHeld ?_ ?_
             rotate_left
             ·rintro w' ⟨s0, s1, s2, s3, s4, s5, s6, s7, s8, s9, s10, s11⟩
              go_simp
              with_reducible rfl
             rotate_left
             ·simp only [zp0, zp1, zp2, zp3, zp4, i64_w, i32_w]
              rfl
             refine take_ (i := 17) (N := some 41) (v := ?_) (a' := ?_) #[true, true, true, true, true, true, true, true, true, true, true, true, true, false, false, false, true, true, true, false, false, false, false, false, false, false] rfl rfl (take_ofW HT_.out HW_.out (by kernel_rfl)) (fun _ _ _ h => h) (Or.inl ⟨by rfl, ?_⟩) hHeld ?_ ?_
             rotate_left
             ·rintro w' ⟨s0, s1, s2, s3, s4, s5, s6, s7, s8, s9, s10, s11⟩
              go_simp
              with_reducible rfl
             rotate_left
             ·simp only [zp0, zp1, zp2, zp3, zp4, i64_w, i32_w]
              rfl
             refine pure_ (i := 19) (N := some 43) (v := ?_) (a' := ?_) #[true, true, true, true, true, true, true, true, true, true, true, true, true, false, false, false, true, true, true, true, false, false, false, false, false, false] rfl rfl (any_of HT_.out (by kernel_rfl)) (fun _ _ _ h => h) (Or.inl ⟨by rfl, ?_⟩) ?_ ?_
             rotate_left
             ·intro w'
              go_simp
              with_reducible rfl
             rotate_left
             ·simp only [zp0, zp1, zp2, zp3, zp4, i64_w, i32_w]
              rfl
             refine pure_ (i := 20) (N := some 44) (v := ?_) (a' := ?_) #[true, true, true, true, true, true, true, true, true, true, true, true, true, false, false, false, true, true, true, true, true, false, false, false, false, false] rfl rfl (any_of HT_.out (by kernel_rfl)) (fun _ _ _ h => h) (Or.inl ⟨by rfl, ?_⟩) ?_ ?_
             rotate_left
             ·intro w'
              go_simp
              with_reducible rfl
             rotate_left
             ·simp only [zp0, zp1, zp2, zp3, zp4, i64_w, i32_w]
              rfl
             refine take_ (i := 21) (N := some 45) (v := ?_) (a' := ?_) #[true, true, true, true, true, true, true, true, true, true, true, true, true, false, false, false, true, true, true, true, true, true, false, false, false, false] rfl rfl (take_ofW HT_.out HW_.out (by kernel_rfl)) (fun _ _ _ h => h) (Or.inl ⟨by rfl, ?_⟩) hHeld ?_ ?_
             rotate_left
             ·rintro w' ⟨s0, s1, s2, s3, s4, s5, s6, s7, s8, s9, s10, s11⟩
              go_simp
              with_reducible rfl
             rotate_left
             ·simp only [zp0, zp1, zp2, zp3, zp4, i64_w, i32_w]
              rfl
             refine one_ (i := 13) (N := some 37) #[true, true, true, true, true, true, true, true, true, true, true, true, true, true, false, false, true, true, true, true, true, true, false, false, false, false] rfl rfl (one_of HT_.out (by kernel_rfl)) (by decide) (fun K hK => ?_)
             refine goes_ Tryd.func30 (by kernel_rfl) rfl #[.int .i64 ((rd_T73 l0_2 x4_1).f0), .int .i64 ((rd_T73 l0_2 x4_1).f1)] (by rfl) rfl rfl (by (try simp only [zm1, zm2, zm3]); first | done | rfl | (simp only [List.length_drop, List.length_take]; rfl)) ?_
             with_reducible refine (spec_l1Name.calls k1 ((rd_T73 l0_2 x4_1).f0) ((rd_T73 l0_2 x4_1).f1) t130 _ A17.out).mono ?_
             rintro e w25 ⟨rfl, hb⟩
             refine ⟨_, rfl, ?_⟩
             have n0_ := Aside0.mk (blk_below (g := gb124) (o := .cells #[.int .i64 a0_0, .int .i64 a0_1, .slice (some ad128) l0_2.length c0_2] 38 (0, 0)) (by exact zK BK124.out) hb)
             have n1_ := Aside0.mk (below_step (by exact zB1 HB.out GE124.out) hb)
             clear BK124
             clear HB
             have BK124 := n0_
             have HB := n1_
             clear n0_ n1_
             (try clear hb)
             (try clear hb2)
             (try clear hk)
             (try clear hi)
             refine hK.out _ _ ⟨(blk_cell BK124.out 0).trans rfl, (blk_cell BK124.out 1).trans rfl, (blk_cell BK124.out 2).trans rfl, ((HB.out.cell (World.block_lt_of_cell? w _ hw128_0)).trans hw128_0), ((HB.out.cell (World.block_lt_of_cell? w _ hw128_1)).trans hw128_1), ((HB.out.cell (World.block_lt_of_cell? w _ hw128_2)).trans hw128_2), ((HB.out.cell (World.block_lt_of_cell? w _ hw129_0)).trans hw129_0), ((HB.out.cell (World.block_lt_of_cell? w _ hw129_1)).trans hw129_1), ((HB.out.cell (World.block_lt_of_cell? w _ hw129_2)).trans hw129_2), ((HB.out.cell (World.block_lt_of_cell? w _ hw131_0)).trans hw131_0), ((HB.out.cell (World.block_lt_of_cell? w _ hw131_1)).trans hw131_1), ((HB.out.cell (World.block_lt_of_cell? w _ hw131_2)).trans hw131_2)⟩ (fun hHeld => ?_)
             clear hK K
             refine norm_ (a' := ?_) ?_ ?_
             rotate_left
             ·show Act.put _ (some 37) _ = _
              simp only [zp0, zp1, zp2, zp3, zp4, i64_w, i32_w]
              rfl
             refine pure_ (i := 14) (N := some 38) (v := ?_) (a' := ?_) #[true, true, true, true, true, true, true, true, true, true, true, true, true, true, true, false, true, true, true, true, true, true, false, false, false, false] rfl rfl (any_of HT_.out (by kernel_rfl)) (fun _ _ _ h => h) (Or.inl ⟨by rfl, ?_⟩) ?_ ?_
             rotate_left
             ·intro w'
              go_simp
              with_reducible rfl
             rotate_left
             ·simp only [zp0, zp1, zp2, zp3, zp4, i64_w, i32_w]
              rfl
             refine pure_ (i := 15) (N := some 39) (v := ?_) (a' := ?_) #[true, true, true, true, true, true, true, true, true, true, true, true, true, true, true, true, true, true, true, true, true, true, false, false, false, false] rfl rfl (any_of HT_.out (by kernel_rfl)) (fun _ _ _ h => h) (Or.inl ⟨by rfl, ?_⟩) ?_ ?_
             rotate_left
             ·intro w'
              go_simp
              with_reducible rfl
             rotate_left
             ·simp only [zp0, zp1, zp2, zp3, zp4, i64_w, i32_w]
              rfl
             refine one_ (i := 22) (N := some 46) #[true, true, true, true, true, true, true, true, true, true, true, true, true, true, true, true, true, true, true, true, true, true, true, false, false, false] rfl rfl (one_of HT_.out (by kernel_rfl)) (by decide) (fun K hK => ?_)
             refine goes_ Tryd.func31 (by kernel_rfl) rfl #[.int .i64 ((rd_T73 l0_2 x4_1).f2)] (by rfl) rfl rfl (by (try simp only [zm1, zm2, zm3]); first | done | rfl | (simp only [List.length_drop, List.length_take]; rfl)) ?_
             with_reducible refine (spec_l6Dec.calls k1 ((rd_T73 l0_2 x4_1).f2) t132 _ A20.out).mono ?_
             rintro e w26 ⟨rfl, hb⟩
             refine ⟨_, rfl, ?_⟩
             have n0_ := Aside0.mk (blk_below (g := gb124) (o := .cells #[.int .i64 a0_0, .int .i64 a0_1, .slice (some ad128) l0_2.length c0_2] 38 (0, 0)) (by exact zK BK124.out) hb)
             have n1_ := Aside0.mk (below_step (by exact zB1 HB.out GE124.out) hb)
             clear BK124
             clear HB
             have BK124 := n0_
             have HB := n1_
             clear n0_ n1_
             (try clear hb)
             (try clear hb2)
             (try clear hk)
             (try clear hi)
             refine hK.out _ _ ⟨(blk_cell BK124.out 0).trans rfl, (blk_cell BK124.out 1).trans rfl, (blk_cell BK124.out 2).trans rfl, ((HB.out.cell (World.block_lt_of_cell? w _ hw128_0)).trans hw128_0), ((HB.out.cell (World.block_lt_of_cell? w _ hw128_1)).trans hw128_1), ((HB.out.cell (World.block_lt_of_cell? w _ hw128_2)).trans hw128_2), ((HB.out.cell (World.block_lt_of_cell? w _ hw129_0)).trans hw129_0), ((HB.out.cell (World.block_lt_of_cell? w _ hw129_1)).trans hw129_1), ((HB.out.cell (World.block_lt_of_cell? w _ hw129_2)).trans hw129_2), ((HB.out.cell (World.block_lt_of_cell? w _ hw131_0)).trans hw131_0), ((HB.out.cell (World.block_lt_of_cell? w _ hw131_1)).trans hw131_1), ((HB.out.cell (World.block_lt_of_cell? w _ hw131_2)).trans hw131_2)⟩ (fun hHeld => ?_)
             clear hK K
             refine norm_ (a' := ?_) ?_ ?_
             rotate_left
             ·show Act.put _ (some 46) _ = _
              simp only [zp0, zp1, zp2, zp3, zp4, i64_w, i32_w]
              rfl
             refine pure_ (i := 23) (N := some 47) (v := ?_) (a' := ?_) #[true, true, true, true, true, true, true, true, true, true, true, true, true, true, true, true, true, true, true, true, true, true, true, true, false, false] rfl rfl (any_of HT_.out (by kernel_rfl)) (fun _ _ _ h => h) (Or.inl ⟨by rfl, ?_⟩) ?_ ?_
             rotate_left
             ·intro w'
              go_simp
              with_reducible rfl
             rotate_left
             ·simp only [zp0, zp1, zp2, zp3, zp4, i64_w, i32_w]
              rfl
             refine pure_ (i := 24) (N := some 48) (v := ?_) (a' := ?_) #[true, true, true, true, true, true, true, true, true, true, true, true, true, true, true, true, true, true, true, true, true, true, true, true, true, false] rfl rfl (any_of HT_.out (by kernel_rfl)) (fun _ _ _ h => h) (Or.inl ⟨by rfl, ?_⟩) ?_ ?_
             rotate_left
             ·intro w'
              go_simp
              with_reducible rfl
             rotate_left
             ·simp only [zp0, zp1, zp2, zp3, zp4, i64_w, i32_w]
              rfl
             refine pure_ (i := 25) (N := some 3) (v := ?_) (a' := ?_) #[true, true, true, true, true, true, true, true, true, true, true, true, true, true, true, true, true, true, true, true, true, true, true, true, true, true] rfl rfl (any_of HT_.out (by kernel_rfl)) (fun _ _ _ h => h) (Or.inl ⟨by rfl, ?_⟩) ?_ ?_
             rotate_left
             ·intro w'
              go_simp
              with_reducible rfl
             rotate_left
             ·simp only [zp0, zp1, zp2, zp3, zp4, i64_w, i32_w]
              rfl
             refine done_ (done_of HT_.out (by kernel_rfl)) ?_
             try go_wp2
             go_roundg k1
             case measure => have := HK1.out; omega
             case rel => exact ⟨((((x3_1 ++ t130) ++ (⟨#[32]⟩ : ByteArray)) ++ t132) ++ (⟨#[10]⟩ : ByteArray)), (wrap64 (x4_1 + 1)), (by first | rfl | (simp; done) | (simp [*]; done)), (by first | rfl | (simp; done) | (simp [*]; done)), H', ⟨by have := HK1.out; omega⟩, ⟨by exact zK BK124.out⟩, ⟨by exact zB1 HB.out GE124.out⟩⟩
            ·rw [if_neg c22] at H
             exact absurd H (by simp)
           ·rw [if_neg c21] at H
            exact absurd H (by simp)
          ·rw [if_neg c19] at H
           exact absurd H (by simp)
         ·rw [if_neg c18] at H
          exact absurd H (by simp)
        ·rw [if_neg c16] at H
         exact absurd H (by simp)
       ·rw [if_neg c15] at H
        have c15b0 : decide (x4_1 < (l0_2.length : Int)) = false := decide_eq_false c15
        clear c15
        obtain rfl := Option.some.inj H
        obtain ⟨hcz27_0, hcz27_1, hcz27_2, hfz27_0, hfz27_1, hfz27_2⟩ := zc3f BK124.out
        go_wp2
        go_ret
        exact ⟨by first | rfl | (simp [errW_none, errW_some] <;> rfl) | (simp [*, errW_none, errW_some] <;> rfl), by exact zB1 HB.out GE124.out⟩
    ·rw [if_neg c8] at H
     exact absurd H (by simp)
   ·rw [if_neg c7] at H
    exact absurd H (by simp)
  ·rw [if_neg c5] at H
   exact absurd H (by simp)
 ·replace c3 := Bool.eq_false_iff.mpr c3
  subst c3
  have H1 : (some (⟨#[]⟩ : ByteArray)) = some r := by rw [if_neg (show ¬ (false = true) by decide)] at H; exact H
  clear H
  have H := H1
  clear H1
  obtain rfl := Option.some.inj H
  go_enter Tryd.func13, Tryd.ntmps13
  go_wp2_with (first | ((with_reducible refine gate_dst (N := 1) rfl ?_); refine box_event ?hg (N := 1) ?hd (cs := #[.int .i64 a0_0, .int .i64 a0_1, .slice A0_2 l0_2.length c0_2]) (t := 38) ?hr ?_; (case hd => rfl); (case hg => rfl); (case hr => first | (go_simp; done) | (go_simp; rfl)); intro gb124 hg w28 hbox hb; have n0_ := Aside0.mk (below_step (by exact zB HB.out) hb); have n1_ := Aside0.mk (hbox); have n2_ := Aside0.mk ((by rw [hg]; exact (below_size (by exact zB HB.out)) : w.heap.size ≤ gb124)); have n3_ := Aside0.mk ((by rw [hg]; exact (below_size (by exact zB HB.out)) : w.heap.size ≤ gb124)); clear HB; have HB := n0_; have BK124 := n1_; have GW124 := n2_; have GE124 := n3_; clear n0_ n1_ n2_ n3_; clear hb hbox hg; obtain ⟨hcz29_0, hcz29_1, hcz29_2, hfz29_0, hfz29_1, hfz29_2⟩ := zc3f BK124.out) | ((with_reducible refine gate_callee (f := 36) rfl ?_); refine goesL_ (some 6) rfl rfl Tryd.func36 (by kernel_rfl) rfl #[.agg #[.int .i64 a0_0, .int .i64 a0_1, .slice A0_2 l0_2.length c0_2]] rfl (by (try simp only [zm1, zm2, zm3]); first | done | rfl | (simp only [List.length_drop, List.length_take]; rfl)) ?_; (with_reducible refine (spec_IndexOk.calls k a0_0 a0_1 _ _ l0_2 false _ ?side1 ?side2 A2.out).mono ?_); (case side1 => exact zC (Kd.C_below HR0_2.out HB.out)); (case side2 => exact HC0_2.out); rintro e w30 ⟨rfl, hb⟩; refine ⟨_, rfl, ?_⟩; have n0_ := Aside0.mk (blk_below (g := gb124) (o := .cells #[.int .i64 a0_0, .int .i64 a0_1, .slice A0_2 l0_2.length c0_2] 38 (0, 0)) (by exact zK BK124.out) hb); have n1_ := Aside0.mk (below_step (by exact zB1 HB.out GE124.out) hb); clear BK124; clear HB; have BK124 := n0_; have HB := n1_; clear n0_ n1_; (try clear hb); (try clear hb2); (try clear hk); (try clear hi)))
  go_ret
  exact ⟨by first | rfl | (simp [errW_none, errW_some] <;> rfl) | (simp [*, errW_none, errW_some] <;> rfl), by exact zB1 HB.out GE124.out⟩

/-! ### impl_in: function 34 -/
theorem impl_in_b (w : World) (n a b : Int) (v : Bool) (h : inB_ n a b = v) : Calls Tryd.prog 34 #[.int .i64 n, .int .i64 a, .int .i64 b] w fun e w' => e = .returned (.bool v) ∧ w' = w := by
 subst h
 go_enter Tryd.func34, Tryd.ntmps34
 by_cases h1 : a ≤ n
 ·by_cases h2 : n ≤ b
  ·have e1 : inB_ n a b = true := by unfold inB_; rw [decide_eq_true h1, decide_eq_true h2]; rfl
   have d1 : decide (a ≤ n) = true := decide_eq_true h1
   have d2 : decide (n ≤ b) = true := decide_eq_true h2
   rw [e1]
   clear h1 h2 e1
   go_wp2
   go_ret
   exact ⟨by first | rfl | simp [*], rfl⟩
  ·have e1 : inB_ n a b = false := by unfold inB_; rw [decide_eq_false h2, Bool.and_false]
   have d1 : decide (a ≤ n) = true := decide_eq_true h1
   have d2 : decide (n ≤ b) = false := decide_eq_false h2
   rw [e1]
   clear h1 h2 e1
   go_wp2
   go_ret
   exact ⟨by first | rfl | simp [*], rfl⟩
 ·have e1 : inB_ n a b = false := by unfold inB_; rw [decide_eq_false h1, Bool.false_and]
  have d1 : decide (a ≤ n) = false := decide_eq_false h1
  rw [e1]
  clear h1 e1
  go_wp2
  go_ret
  exact ⟨by first | rfl | simp [*], rfl⟩
def impl_in.f (a0 : Int) (a1 : Int) (a2 : Int) : Option (Bool) := if a0 ≥ a1 then (some (decide (a0 ≤ a2))) else (some (false))
theorem impl_in.calls (a0 : Int) (a1 : Int) (a2 : Int) (r : Bool) (w : World) (h : impl_in.f a0 a1 a2 = some r) :
  Calls Tryd.prog 34 #[.int .i64 a0, .int .i64 a1, .int .i64 a2] w fun e w' => e = .returned (.bool r) ∧ Drawn0 w w' := by
 have e : inB_ a0 a1 a2 = r := by
  unfold impl_in.f at h
  unfold inB_
  by_cases c : a0 ≥ a1
  ·rw [if_pos c] at h
   rw [decide_eq_true c, Bool.true_and]
   exact Option.some.inj h
  ·rw [if_neg c] at h
   rw [decide_eq_false c, Bool.false_and]
   exact Option.some.inj h
 exact (impl_in_b w a0 a1 a2 r e).mono fun _ _ h => ⟨h.1, by rw [h.2]; exact Drawn0.refl _⟩

/-! ### impl_isName: function 32 -/
theorem impl_isName_b (w : World) (n : Int) (v : Bool) (h : inB_ n 1 4 = v) : Calls Tryd.prog 32 #[.int .i64 n] w fun e w' => e = .returned (.bool v) ∧ w' = w := by
 subst h
 go_enter Tryd.func32, Tryd.ntmps32
 by_cases h1 : 1 ≤ n
 ·by_cases h2 : n ≤ 4
  ·have e1 : inB_ n 1 4 = true := by unfold inB_; rw [decide_eq_true h1, decide_eq_true h2]; rfl
   have d1 : decide (1 ≤ n) = true := decide_eq_true h1
   have d2 : decide (n ≤ 4) = true := decide_eq_true h2
   rw [e1]
   clear h1 h2 e1
   go_wp2
   go_ret
   exact ⟨by first | rfl | simp [*], rfl⟩
  ·have e1 : inB_ n 1 4 = false := by unfold inB_; rw [decide_eq_false h2, Bool.and_false]
   have d1 : decide (1 ≤ n) = true := decide_eq_true h1
   have d2 : decide (n ≤ 4) = false := decide_eq_false h2
   rw [e1]
   clear h1 h2 e1
   go_wp2
   go_ret
   exact ⟨by first | rfl | simp [*], rfl⟩
 ·have e1 : inB_ n 1 4 = false := by unfold inB_; rw [decide_eq_false h1, Bool.false_and]
  have d1 : decide (1 ≤ n) = false := decide_eq_false h1
  rw [e1]
  clear h1 e1
  go_wp2
  go_ret
  exact ⟨by first | rfl | simp [*], rfl⟩
def impl_isName.f (a0 : Int) : Option (Bool) := impl_in.f a0 1 4
theorem impl_isName.calls (a0 : Int) (r : Bool) (w : World) (h : impl_isName.f a0 = some r) :
  Calls Tryd.prog 32 #[.int .i64 a0] w fun e w' => e = .returned (.bool r) ∧ Drawn0 w w' := by
 have e : inB_ a0 1 4 = r := by
  unfold impl_isName.f impl_in.f at h
  unfold inB_
  by_cases c : a0 ≥ 1
  ·rw [if_pos c] at h
   rw [decide_eq_true c, Bool.true_and]
   exact Option.some.inj h
  ·rw [if_neg c] at h
   rw [decide_eq_false c, Bool.false_and]
   exact Option.some.inj h
 exact (impl_isName_b w a0 r e).mono fun _ _ h => ⟨h.1, by rw [h.2]; exact Drawn0.refl _⟩

/-! ### impl_isVer: function 33 -/
theorem impl_isVer_b (w : World) (n : Int) (v : Bool) (h : inB_ n 1 5 = v) : Calls Tryd.prog 33 #[.int .i64 n] w fun e w' => e = .returned (.bool v) ∧ w' = w := by
 subst h
 go_enter Tryd.func33, Tryd.ntmps33
 by_cases h1 : 1 ≤ n
 ·by_cases h2 : n ≤ 5
  ·have e1 : inB_ n 1 5 = true := by unfold inB_; rw [decide_eq_true h1, decide_eq_true h2]; rfl
   have d1 : decide (1 ≤ n) = true := decide_eq_true h1
   have d2 : decide (n ≤ 5) = true := decide_eq_true h2
   rw [e1]
   clear h1 h2 e1
   go_wp2
   go_ret
   exact ⟨by first | rfl | simp [*], rfl⟩
  ·have e1 : inB_ n 1 5 = false := by unfold inB_; rw [decide_eq_false h2, Bool.and_false]
   have d1 : decide (1 ≤ n) = true := decide_eq_true h1
   have d2 : decide (n ≤ 5) = false := decide_eq_false h2
   rw [e1]
   clear h1 h2 e1
   go_wp2
   go_ret
   exact ⟨by first | rfl | simp [*], rfl⟩
 ·have e1 : inB_ n 1 5 = false := by unfold inB_; rw [decide_eq_false h1, Bool.false_and]
  have d1 : decide (1 ≤ n) = false := decide_eq_false h1
  rw [e1]
  clear h1 e1
  go_wp2
  go_ret
  exact ⟨by first | rfl | simp [*], rfl⟩
def impl_isVer.f (a0 : Int) : Option (Bool) := impl_in.f a0 1 5
theorem impl_isVer.calls (a0 : Int) (r : Bool) (w : World) (h : impl_isVer.f a0 = some r) :
  Calls Tryd.prog 33 #[.int .i64 a0] w fun e w' => e = .returned (.bool r) ∧ Drawn0 w w' := by
 have e : inB_ a0 1 5 = r := by
  unfold impl_isVer.f impl_in.f at h
  unfold inB_
  by_cases c : a0 ≥ 1
  ·rw [if_pos c] at h
   rw [decide_eq_true c, Bool.true_and]
   exact Option.some.inj h
  ·rw [if_neg c] at h
   rw [decide_eq_false c, Bool.false_and]
   exact Option.some.inj h
 exact (impl_isVer_b w a0 r e).mono fun _ _ h => ⟨h.1, by rw [h.2]; exact Drawn0.refl _⟩

/-! ### impl_IndexOk: function 38 -/
def ixm1 (l : List S73) (i : Nat) : Bool := inB_ (l.getD i z73).f0 1 4 && (inB_ (l.getD i z73).f1 1 5 && (inB_ (l.getD i z73).f2 0 9972 && (i == 0 || (decide ((l.getD (i - 1) z73).f0 < (l.getD i z73).f0) || (decide ((l.getD (i - 1) z73).f0 = (l.getD i z73).f0) && decide ((l.getD (i - 1) z73).f1 < (l.getD i z73).f1))))))
def ixB (a u : Int) (l : List S73) : Bool := okFrom (ixm1 l) l.length 0 && (inB_ a 1 30 && (inB_ u 0 60 && decide (l.length ≤ 8)))
set_option maxHeartbeats 8000000 in
set_option maxRecDepth 100000 in
theorem ixo_calls (a u : Int) (A2 : Option Addr) (c2 : Nat) (l2 : List S73) (w : World) (hr2 : Kd.C k73 w A2 l2.length l2) :
  Calls Tryd.prog 38 #[.agg #[.int .i64 a, .int .i64 u, .slice A2 l2.length c2]] w fun e w' => e = .returned (.bool (ixB a u l2)) ∧ Below w.heap.size w w' := by
 have HR2 := Aside0.mk hr2
 have HL2 := Aside0.mk hr2.2.1
 clear hr2
 have HE : Aside0 (ixB a u l2 = (okFrom (ixm1 l2) (l2.length - (0 : Int).toNat) (0 : Int).toNat && (inB_ a 1 30 && (inB_ u 0 60 && decide (l2.length ≤ 8))))) := ⟨rfl⟩
 go_enter Tryd.func38, Tryd.ntmps38
 go_wp2
 have n0_ := Aside0.mk (below_alloc (Below.refl w.heap.size w) (Obj.cells #[.int .i64 a, .int .i64 u, .slice A2 l2.length c2] 38))
 have n1_ := Aside0.mk (blk_new w (Obj.cells #[.int .i64 a, .int .i64 u, .slice A2 l2.length c2] 38))
 generalize w.alloc (Obj.cells #[.int .i64 a, .int .i64 u, .slice A2 l2.length c2] 38) = W0 at n0_ n1_ ⊢
 obtain ⟨gb, hgb⟩ : ∃ g, g = w.heap.size := ⟨_, rfl⟩
 rw [← hgb] at n1_ ⊢
 have HB := n0_
 have BK := n1_
 clear n0_ n1_ hgb
 go_loopw [8] (fun v5 w' => ∃ x : Int, 0 ≤ x ∧ x ≤ (l2.length : Int) ∧ v5 = .int .i64 x ∧ Aside0 (ixB a u l2 = (okFrom (ixm1 l2) (l2.length - x.toNat) x.toNat && (inB_ a 1 30 && (inB_ u 0 60 && decide (l2.length ≤ 8))))) ∧ Aside0 (w'.heap[gb]? = some (.cells #[.int .i64 a, .int .i64 u, .slice A2 l2.length c2] 38 (0, 0))) ∧ Aside0 (Below w.heap.size w w')) (fun v5 _ => l2.length - (intOf v5).toNat)
 case atStart => exact ⟨0, by omega, by omega, rfl, HE, BK, HB⟩
 case round =>
  clear HE HB BK
  obtain ⟨x, hx0, hx1, rfl, HE, BK, HB⟩ := hrel
  have HL := HL2.out
  by_cases hlt : x < (l2.length : Int)
  ·obtain ⟨ad, e, m0, m1, m2⟩ := at_T73 HR2.out x hx0 hlt
   cases e
   replace m0 := (HB.out.cell (World.block_lt_of_cell? w _ m0)).trans m0
   replace m1 := (HB.out.cell (World.block_lt_of_cell? w _ m1)).trans m1
   replace m2 := (HB.out.cell (World.block_lt_of_cell? w _ m2)).trans m2
   obtain ⟨F0, hF0⟩ : ∃ F0, F0 = (rd_T73 l2 x).f0 := ⟨_, rfl⟩
   obtain ⟨F1, hF1⟩ : ∃ F1, F1 = (rd_T73 l2 x).f1 := ⟨_, rfl⟩
   obtain ⟨F2, hF2⟩ : ∃ F2, F2 = (rd_T73 l2 x).f2 := ⟨_, rfl⟩
   rw [← hF0] at m0
   rw [← hF1] at m1
   rw [← hF2] at m2
   have HF := Aside0.mk (And.intro hF0 (And.intro hF1 hF2))
   clear hF0 hF1 hF2
   have q1 : decide (x < (l2.length : Int)) = true := decide_eq_true hlt
   have q2 : 0 ≤ x := hx0
   obtain ⟨b1, hb1⟩ : ∃ b, inB_ F0 1 4 = b := ⟨_, rfl⟩
   obtain ⟨b2, hb2⟩ : ∃ b, inB_ F1 1 5 = b := ⟨_, rfl⟩
   obtain ⟨b3, hb3⟩ : ∃ b, inB_ F2 0 9972 = b := ⟨_, rfl⟩
   have C1 := Aside0.mk (fun W => (impl_isName_b W F0 b1 hb1).mono fun _ _ h => And.intro h.1 h.2.symm)
   have C2 := Aside0.mk (fun W => (impl_isVer_b W F1 b2 hb2).mono fun _ _ h => And.intro h.1 h.2.symm)
   have C3 := Aside0.mk (fun W => (impl_in_b W F2 0 9972 b3 hb3).mono fun _ _ h => And.intro h.1 h.2.symm)
   have B1 := Aside0.mk hb1
   have B2 := Aside0.mk hb2
   have B3 := Aside0.mk hb3
   clear hb1 hb2 hb3
   have HN := Aside0.mk (okFrom_at (p := ixm1 l2) hx0 hlt)
   have no : Aside0 (ixm1 l2 x.toNat = false → ixB a u l2 = false) := ⟨fun h_ => by rw [HE.out, HN.out, h_]; rfl⟩
   have yes : Aside0 (ixm1 l2 x.toNat = true → ixB a u l2 = (okFrom (ixm1 l2) (l2.length - (x + 1).toNat) (x + 1).toNat && (inB_ a 1 30 && (inB_ u 0 60 && decide (l2.length ≤ 8))))) := ⟨fun h_ => by rw [HE.out, HN.out, h_]; rfl⟩
   have D : Aside0 (ixm1 l2 x.toNat = (b1 && (b2 && (b3 && (x.toNat == 0 || (decide ((l2.getD (x.toNat - 1) z73).f0 < F0) || (decide ((l2.getD (x.toNat - 1) z73).f0 = F0) && decide ((l2.getD (x.toNat - 1) z73).f1 < F1)))))))) := ⟨by
    unfold ixm1
    rw [← show _ = (l2.getD x.toNat z73).f0 from HF.out.1, ← show _ = (l2.getD x.toNat z73).f1 from HF.out.2.1, ← show _ = (l2.getD x.toNat z73).f2 from HF.out.2.2, B1.out, B2.out, B3.out]⟩
   clear HE HN HF B1 B2 B3
   have HNB := Aside0.mk (show w.heap.size ≤ wr.heap.size from HB.out.size)
   cases b1 with
   | false =>
    go_wp2_with (first | (go_at_call 32; with_reducible refine (C1.out _).mono ?_; rintro e wz ⟨rfl, rfl⟩) | (go_at_call 33; with_reducible refine (C2.out _).mono ?_; rintro e wz ⟨rfl, rfl⟩) | (go_at_call 34; with_reducible refine (C3.out _).mono ?_; rintro e wz ⟨rfl, rfl⟩))
    go_wp2
    go_ret
    rw [no.out (by rw [D.out]; rfl)]
    exact ⟨by first | rfl | simp [*], by repeat (first | exact HB.out | apply pw_below_drewN | apply below_alloc)⟩
   | true =>
    cases b2 with
    | false =>
     go_wp2_with (first | (go_at_call 32; with_reducible refine (C1.out _).mono ?_; rintro e wz ⟨rfl, rfl⟩) | (go_at_call 33; with_reducible refine (C2.out _).mono ?_; rintro e wz ⟨rfl, rfl⟩) | (go_at_call 34; with_reducible refine (C3.out _).mono ?_; rintro e wz ⟨rfl, rfl⟩))
     go_wp2
     go_ret
     rw [no.out (by rw [D.out]; rfl)]
     exact ⟨by first | rfl | simp [*], by repeat (first | exact HB.out | apply pw_below_drewN | apply below_alloc)⟩
    | true =>
     cases b3 with
     | false =>
      go_wp2_with (first | (go_at_call 32; with_reducible refine (C1.out _).mono ?_; rintro e wz ⟨rfl, rfl⟩) | (go_at_call 33; with_reducible refine (C2.out _).mono ?_; rintro e wz ⟨rfl, rfl⟩) | (go_at_call 34; with_reducible refine (C3.out _).mono ?_; rintro e wz ⟨rfl, rfl⟩))
      go_wp2
      go_ret
      rw [no.out (by rw [D.out]; rfl)]
      exact ⟨by first | rfl | simp [*], by repeat (first | exact HB.out | apply pw_below_drewN | apply below_alloc)⟩
     | true =>
      go_wp2_with (first | (go_at_call 32; with_reducible refine (C1.out _).mono ?_; rintro e wz ⟨rfl, rfl⟩) | (go_at_call 33; with_reducible refine (C2.out _).mono ?_; rintro e wz ⟨rfl, rfl⟩) | (go_at_call 34; with_reducible refine (C3.out _).mono ?_; rintro e wz ⟨rfl, rfl⟩))
      have n0_ := Aside0.mk (below_alloc HB.out (Obj.cells #[.int .i64 F0, .int .i64 F1, .int .i64 F2] 73))
      have n1_ := Aside0.mk (blk_alloc BK.out (Obj.cells #[.int .i64 F0, .int .i64 F1, .int .i64 F2] 73))
      have f0 : (wr.alloc (Obj.cells #[.int .i64 F0, .int .i64 F1, .int .i64 F2] 73)).cell? ⟨wr.heap.size, 0, none⟩ = some (.int .i64 F0) := by simp
      have f1 : (wr.alloc (Obj.cells #[.int .i64 F0, .int .i64 F1, .int .i64 F2] 73)).cell? ⟨wr.heap.size, 1, none⟩ = some (.int .i64 F1) := by simp
      clear HB BK m0 m1 m2
      generalize wr.alloc (Obj.cells #[.int .i64 F0, .int .i64 F1, .int .i64 F2] 73) = W at n0_ n1_ f0 f1 ⊢
      generalize wr.heap.size = gf at f0 f1 ⊢
      have HB := n0_
      have BK := n1_
      clear n0_ n1_
      have k2 : W.cell? ⟨gb, 2, none⟩ = some (.slice (some ad) l2.length c2) := (blk_cell BK.out 2).trans rfl
      by_cases hz : x ≤ 0
      ·have hx4 : decide (0 < x) = false := decide_eq_false (by omega)
       have Y := Aside0.mk (yes.out (by rw [D.out, show (x.toNat == 0) = true by rw [beq_iff_eq]; omega]; rfl))
       clear yes no D hz
       go_quiet (fail)
       go_wp2
       go_roundw
       case rel => exact ⟨x + 1, by omega, by omega, by first | rfl | simp, Y, ⟨by (with_reducible repeat (first | refine blk_drewN ?_ _)); exact BK.out⟩, ⟨by repeat (first | exact HB.out | apply pw_below_drewN)⟩⟩
       case measure => simp [intOf]; omega
      ·have g0 : 0 < x := by omega
       clear hz
       obtain ⟨y, hy⟩ : ∃ y, y = x - 1 := ⟨_, rfl⟩
       have hw : IntKind.i64.wrap (x - 1) = y := by rw [i64_w, hy]; unfold wrap64; omega
       obtain ⟨ad2, e2, d0, d1, d2⟩ := at_T73 HR2.out y (by omega) (by omega)
       obtain ⟨G0, hG0⟩ : ∃ G0, G0 = (rd_T73 l2 y).f0 := ⟨_, rfl⟩
       obtain ⟨G1, hG1⟩ : ∃ G1, G1 = (rd_T73 l2 y).f1 := ⟨_, rfl⟩
       rw [← hG0] at d0
       rw [← hG1] at d1
       cases e2
       replace d0 := (HB.out.cell (World.block_lt_of_cell? w _ d0)).trans d0
       replace d1 := (HB.out.cell (World.block_lt_of_cell? w _ d1)).trans d1
       have HG := Aside0.mk (And.intro hG0 hG1)
       clear hG0 hG1 d2
       have hx2 : 0 ≤ y := by omega
       have hx3 : decide (y < (l2.length : Int)) = true := decide_eq_true (by omega)
       have hx4 : decide (0 < x) = true := decide_eq_true g0
       have hx5 : y < (l2.length : Int) := by omega
       have HY := Aside0.mk hy
       clear hy
       have FD : Aside0 (ixm1 l2 x.toNat = (decide (G0 < F0) || (decide (G0 = F0) && decide (G1 < F1)))) := ⟨by
        rw [D.out, show (x.toNat == 0) = false by rw [beq_eq_false_iff_ne]; omega, show x.toNat - 1 = y.toNat by have := HY.out; omega, ← show _ = (l2.getD y.toNat z73).f0 from HG.out.1, ← show _ = (l2.getD y.toNat z73).f1 from HG.out.2]; rfl⟩
       by_cases hc : F0 < G0
       ·have cb : decide (F0 < G0) = true := decide_eq_true hc
        have N := Aside0.mk (no.out (by rw [FD.out, decide_eq_false (show ¬ G0 < F0 by omega), decide_eq_false (show ¬ G0 = F0 by omega)]; rfl))
        clear yes no hc D FD
        go_quiet (fail)
        go_wp2
        go_ret
        rw [N.out]
        exact ⟨by first | rfl | simp [*], by repeat (first | exact HB.out | apply pw_below_drewN | apply below_alloc)⟩
       ·have cb : decide (F0 < G0) = false := decide_eq_false hc
        by_cases hc2 : F0 = G0
        ·have cb2 : (F0 == G0) = true := beq_iff_eq.mpr hc2
         by_cases hc3 : F1 ≤ G1
         ·have cb3 : decide (F1 ≤ G1) = true := decide_eq_true hc3
          have N := Aside0.mk (no.out (by rw [FD.out, decide_eq_false (show ¬ G0 < F0 by omega), decide_eq_false (show ¬ G1 < F1 by omega), Bool.and_false]; rfl))
          clear yes no hc hc2 hc3 D FD
          go_quiet (fail)
          go_wp2
          go_ret
          rw [N.out]
          exact ⟨by first | rfl | simp [*], by repeat (first | exact HB.out | apply pw_below_drewN | apply below_alloc)⟩
         ·have cb3 : decide (F1 ≤ G1) = false := decide_eq_false hc3
          have Y := Aside0.mk (yes.out (by rw [FD.out, decide_eq_true (show G0 = F0 by omega), decide_eq_true (show G1 < F1 by omega), Bool.and_true, Bool.or_true]))
          clear yes no hc hc2 hc3 D FD
          go_quiet (fail)
          go_wp2
          go_roundw
          case rel => exact ⟨x + 1, by omega, by omega, by first | rfl | simp, Y, ⟨by (with_reducible repeat (first | refine blk_drewN ?_ _)); exact BK.out⟩, ⟨by repeat (first | exact HB.out | apply pw_below_drewN)⟩⟩
          case measure => simp [intOf]; omega
        ·have cb2 : (F0 == G0) = false := beq_eq_false_iff_ne.mpr hc2
         have Y := Aside0.mk (yes.out (by rw [FD.out, decide_eq_true (show G0 < F0 by omega)]; rfl))
         clear yes no hc hc2 D FD
         go_quiet (fail)
         go_wp2
         go_roundw
         case rel => exact ⟨x + 1, by omega, by omega, by first | rfl | simp, Y, ⟨by (with_reducible repeat (first | refine blk_drewN ?_ _)); exact BK.out⟩, ⟨by repeat (first | exact HB.out | apply pw_below_drewN)⟩⟩
         case measure => simp [intOf]; omega
  ·have hxe : x = (l2.length : Int) := by omega
   have q1 : decide (x < (l2.length : Int)) = false := decide_eq_false hlt
   have E := Aside0.mk (show ixB a u l2 = (inB_ a 1 30 && (inB_ u 0 60 && decide (l2.length ≤ 8))) by
    rw [HE.out, hxe, Int.toNat_natCast, Nat.sub_self]
    rfl)
   clear hxe HE
   have k0 : wr.cell? ⟨gb, 0, none⟩ = some (.int .i64 a) := (blk_cell BK.out 0).trans rfl
   have k1 : wr.cell? ⟨gb, 1, none⟩ = some (.int .i64 u) := (blk_cell BK.out 1).trans rfl
   have k2 : wr.cell? ⟨gb, 2, none⟩ = some (.slice A2 l2.length c2) := (blk_cell BK.out 2).trans rfl
   obtain ⟨bA, hbA⟩ : ∃ b, inB_ a 1 30 = b := ⟨_, rfl⟩
   obtain ⟨bB, hbB⟩ : ∃ b, inB_ u 0 60 = b := ⟨_, rfl⟩
   have CA := Aside0.mk (fun W => (impl_in_b W a 1 30 bA hbA).mono fun _ _ h => And.intro h.1 h.2.symm)
   have CB := Aside0.mk (fun W => (impl_in_b W u 0 60 bB hbB).mono fun _ _ h => And.intro h.1 h.2.symm)
   rw [hbA, hbB] at E
   clear hbA hbB
   cases bA with
   | false =>
    go_wp2_with (first | (go_at_call 34; with_reducible refine (CA.out _).mono ?_; rintro e wz ⟨rfl, rfl⟩) | (go_at_call 34; with_reducible refine (CB.out _).mono ?_; rintro e wz ⟨rfl, rfl⟩))
    go_ret
    rw [E.out]
    exact ⟨by first | rfl | simp [*], by exact HB.out⟩
   | true =>
    cases bB with
    | false =>
     go_wp2_with (first | (go_at_call 34; with_reducible refine (CA.out _).mono ?_; rintro e wz ⟨rfl, rfl⟩) | (go_at_call 34; with_reducible refine (CB.out _).mono ?_; rintro e wz ⟨rfl, rfl⟩))
     go_ret
     rw [E.out]
     exact ⟨by first | rfl | simp [*], by exact HB.out⟩
    | true =>
     have E2 := Aside0.mk (E.out.trans (show (true && (true && decide (l2.length ≤ 8))) = decide ((l2.length : Int) ≤ 8) by rw [Bool.true_and, Bool.true_and, Bool.eq_iff_iff, decide_eq_true_eq, decide_eq_true_eq]; omega))
     go_wp2_with (first | (go_at_call 34; with_reducible refine (CA.out _).mono ?_; rintro e wz ⟨rfl, rfl⟩) | (go_at_call 34; with_reducible refine (CB.out _).mono ?_; rintro e wz ⟨rfl, rfl⟩))
     go_ret
     rw [E2.out]
     exact ⟨by first | rfl | simp [*], by exact HB.out⟩
def impl_IndexOk.f (_k : Nat) (a u : Int) (l2 : List S73) : Option Bool := some (ixB a u l2)
theorem impl_IndexOk.mono : ∀ a0 a1 a2 k, LeO (impl_IndexOk.f k a0 a1 a2) (impl_IndexOk.f (k + 1) a0 a1 a2) := fun _ _ _ _ _ h => h
theorem impl_IndexOk.calls (k : Nat) (a0_0 : Int) (a0_1 : Int) (A0_2 : Option Addr) (c0_2 : Nat) (l0_2 : List S73) (r : Bool) (w : World) (hr0_2 : Kd.C k73 w A0_2 l0_2.length l0_2) (hc0_2 : l0_2.length ≤ c0_2) (h : impl_IndexOk.f k a0_0 a0_1 l0_2 = some r) :
  Calls Tryd.prog 38 #[.agg #[.int .i64 a0_0, .int .i64 a0_1, .slice A0_2 l0_2.length c0_2]] w fun e w' => e = .returned (.bool r) ∧ Below w.heap.size w w' := by
 obtain rfl := Option.some.inj h
 exact ixo_calls a0_0 a0_1 A0_2 c0_2 l0_2 w hr0_2

/-! ### impl_IndexText: function 15 -/
def itM (m : S73) : List Int := [96 + m.f0, 48 + m.f1, 32] ++ dg m.f2 ++ [10]
def itL (n u : Int) (l2 : List S73) : List Int := (dg n ++ [32] ++ dg u ++ [10]) ++ l2.flatMap itM
def itS (n u : Int) (l2 : List S73) : ByteArray := if ixB n u l2 = true then strOfNums (itL n u l2) else strOfNums []
set_option maxHeartbeats 8000000 in
set_option maxRecDepth 100000 in
theorem it_no (n u : Int) (A2 : Option Addr) (c2 : Nat) (l2 : List S73) (w : World) (hr2 : Kd.C k73 w A2 l2.length l2) (hc2 : l2.length ≤ c2) (hno : ixB n u l2 = false) :
  Calls Tryd.prog 15 #[.agg #[.int .i64 n, .int .i64 u, .slice A2 l2.length c2]] w fun e w' => e = .returned (.string ⟨#[]⟩) ∧ Below w.heap.size w w' := by
 have HR2 := Aside0.mk hr2
 have HC2 := Aside0.mk hc2
 have HN := Aside0.mk (show impl_IndexOk.f 0 n u l2 = some false from congrArg some hno)
 clear hr2 hc2 hno
 go_enter Tryd.func15, Tryd.ntmps15
 go_wp2_with (go_at_call 38; with_reducible refine (impl_IndexOk.calls 0 n u A2 c2 l2 false _ ?h1 HC2.out HN.out).mono ?_; (case h1 => exact zC HR2.out); rintro e w' ⟨rfl, hb⟩)
 go_wp2
 go_ret
 exact ⟨rfl, below_then (below_alloc (Below.refl _ _) _) (by simp) hb⟩
theorem ixB_nums {n u : Int} {l2 : List S73} (h : ixB n u l2 = true) :
  (1 ≤ n ∧ n ≤ 30) ∧ (0 ≤ u ∧ u ≤ 60) ∧ l2.length ≤ 8 ∧ (∀ x : Int, 0 ≤ x → x < l2.length → (1 ≤ (rd_T73 l2 x).f0 ∧ (rd_T73 l2 x).f0 ≤ 4) ∧ (1 ≤ (rd_T73 l2 x).f1 ∧ (rd_T73 l2 x).f1 ≤ 5) ∧ (0 ≤ (rd_T73 l2 x).f2 ∧ (rd_T73 l2 x).f2 ≤ 9972)) := by
 unfold ixB at h
 simp only [Bool.and_eq_true, decide_eq_true_eq] at h
 obtain ⟨h5, h1, h2, h3⟩ := h
 refine ⟨inB_b h1, inB_b h2, h3, fun x h0 hx => ?_⟩
 have := okFrom_all _ _ h5 x.toNat (by omega) (by omega)
 unfold ixm1 at this
 simp only [Bool.and_eq_true] at this
 exact ⟨inB_b this.1, inB_b this.2.1, inB_b this.2.2.1⟩
theorem it_row (F0 F1 F2 : Nat) : ((⟨#[UInt8.ofNat (96 + F0)]⟩ ++ ⟨#[UInt8.ofNat (48 + F1)]⟩) ++ ⟨#[32]⟩ ++ strOfNums (dg F2) ++ ⟨#[10]⟩ : ByteArray) = strOfNums ([96 + (F0 : Int), 48 + (F1 : Int), 32] ++ dg F2 ++ [10]) := by
 rw [one_str, one_str, show (⟨#[32]⟩ : ByteArray) = strOfNums [32] from rfl, show (⟨#[10]⟩ : ByteArray) = strOfNums [10] from rfl, str_cat, str_cat, str_cat, str_cat]
 rfl
theorem it_head (n u : Int) : (strOfNums (dg n) ++ ⟨#[32]⟩ ++ strOfNums (dg u) ++ ⟨#[10]⟩ : ByteArray) = strOfNums (dg n ++ [32] ++ dg u ++ [10]) := by
 rw [show (⟨#[32]⟩ : ByteArray) = strOfNums [32] from rfl, show (⟨#[10]⟩ : ByteArray) = strOfNums [10] from rfl, str_cat, str_cat, str_cat]
theorem itM_len (m : S73) : (itM m).length ≤ 8 := by
 have := dg_len m.f2
 unfold itM
 simp only [List.length_append, List.length_cons, List.length_nil]
 omega
set_option maxHeartbeats 8000000 in
set_option maxRecDepth 100000 in
theorem it_yes (n u : Nat) (A2 : Option Addr) (c2 : Nat) (l2 : List S73) (w : World) (hr2 : Kd.C k73 w A2 l2.length l2) (hc2 : l2.length ≤ c2) (hLD : LaidW w) (hyes : ixB n u l2 = true) :
  Calls Tryd.prog 15 #[.agg #[.int .i64 n, .int .i64 u, .slice A2 l2.length c2]] w fun e w' => e = .returned (.string (strOfNums (itL n u l2))) ∧ Below w.heap.size w w' := by
 have HR2 := Aside0.mk hr2
 have HC2 := Aside0.mk hc2
 have HLD := Aside0.mk hLD
 obtain ⟨hn, hu, hl2, hf2⟩ := ixB_nums hyes
 have HN := Aside0.mk (show impl_IndexOk.f 0 n u l2 = some true from congrArg some hyes)
 have I0 := fun W => Tryd.strconv_Itoa_small n (by omega) W
 have I1 := fun W => Tryd.strconv_Itoa_small u (by omega) W
 rw [dg_str n (by omega)] at I0
 rw [dg_str u (by omega)] at I1
 have HL2 := Aside0.mk hl2
 have HF2 := Aside0.mk hf2
 clear hr2 hc2 hyes hn hu hl2 hf2 hLD
 obtain ⟨d0, hd0⟩ : ∃ s : ByteArray, s = strOfNums (dg n) := ⟨_, rfl⟩
 obtain ⟨d1, hd1⟩ : ∃ s : ByteArray, s = strOfNums (dg u) := ⟨_, rfl⟩
 rw [← hd0] at I0
 rw [← hd1] at I1
 have z0 : d0.size ≤ 4 := by rw [hd0, strOfNums_size]; exact dg_len _
 have z1 : d1.size ≤ 4 := by rw [hd1, strOfNums_size]; exact dg_len _
 have J0 := Aside0.mk I0
 have J1 := Aside0.mk I1
 have HD := Aside0.mk (And.intro hd0 hd1)
 clear I0 I1 hd0 hd1
 go_enter Tryd.func15, Tryd.ntmps15
 go_wp2_with (go_at_call 38; with_reducible refine (impl_IndexOk.calls 0 n u A2 c2 l2 true _ ?h1 HC2.out HN.out).mono ?_; (case h1 => exact zC HR2.out); rintro e w1 ⟨rfl, hb⟩; refine Go.RowKit.Hid.out ?_)
 refine Go.Lib.hid ?_
 have HB := Aside0.mk (below_then (below_alloc (Below.refl w.heap.size w) _) (by simp) hb)
 have BK := Aside0.mk (blk_below (blk_new w _) hb)
 clear hb
 obtain ⟨gb, hgb⟩ : ∃ g, g = w.heap.size := ⟨_, rfl⟩
 rw [← hgb] at BK ⊢
 clear hgb
 have k0 : w1.cell? ⟨gb, 0, none⟩ = some (.int .i64 n) := (blk_cell BK.out 0).trans rfl
 have k1 : w1.cell? ⟨gb, 1, none⟩ = some (.int .i64 u) := (blk_cell BK.out 1).trans rfl
 have k2 : w1.cell? ⟨gb, 2, none⟩ = some (.slice A2 l2.length c2) := (blk_cell BK.out 2).trans rfl
 go_wp2_with ((with_reducible refine gate_dst (N := 3) rfl ?_); refine box_event ?hg (N := 3) ?hd (cs := #[.pointer none, .slice none 0 0]) (t := 56) ?hr ?_; (case hd => rfl); (case hg => rfl); (case hr => first | (go_simp; done) | (go_simp; rfl)); intro b hbb w2 hbox hb; have HBB := Aside0.mk hbb; clear hbb; have HBX := Aside0.mk hbox; clear hbox; refine Go.RowKit.Hid.out ?_)
 refine Go.Lib.hid ?_
 have hbb := HBB.out
 have hbox := HBX.out
 clear HBB HBX
 have HI := Aside0.mk (show Lib.IsBuilder 56 5 b b [] w2 from .inl ⟨Nat.le_refl _, _, hbox, own_nil w2 b 5 1, by simp [Value.ownBlock]⟩)
 have n0_ := Aside0.mk (below_step HB.out hb)
 have n1_ := Aside0.mk (blk_below BK.out hb)
 have HG := Aside0.mk (show gb < b by rw [hbb]; exact blk_lt BK.out)
 have HS := Aside0.mk (show w.heap.size ≤ b by rw [hbb]; exact HB.out.size)
 have HT := Aside0.mk (blk_lt hbox)
 clear HB BK k0 k1 k2 hbox hb hbb
 have HB := n0_
 have BK := n1_
 clear n0_ n1_
 have k0 : w2.cell? ⟨gb, 0, none⟩ = some (.int .i64 n) := (blk_cell BK.out 0).trans rfl
 have k1 : w2.cell? ⟨gb, 1, none⟩ = some (.int .i64 u) := (blk_cell BK.out 1).trans rfl
 have s1 : (9223372036854775807 < d0.size + 1) = False := eq_false (by omega)
 have s2 : (9223372036854775807 < d0.size + 1 + d1.size) = False := eq_false (by omega)
 have s3 : (9223372036854775807 < d0.size + 1 + d1.size + 1) = False := eq_false (by omega)
 go_wp2
 refine wp_region_still_tail 9 (by kernel_rfl) (by kernel_rfl) ?_
 simp only [List.take_succ_cons, List.take_zero, List.drop_succ_cons, List.drop_zero]
 repeat still_step
 still_call (J0.out _)
 repeat still_step
 still_call (J1.out _)
 repeat still_step
 refine wpStill_nil ?_
 have n0_ := Aside0.mk (below_drew HB.out)
 have n1_ := Aside0.mk (blk_drew BK.out)
 have n2_ := Aside0.mk (ib_below HI.out (below_drew (Below.refl _ w2)))
 have n3_ := Aside0.mk (show b < w2.drew.heap.size from HT.out)
 clear HB BK HI HT k0 k1 s1 s2 s3
 have HB := n0_
 have BK := n1_
 have HI := n2_
 have HT := n3_
 clear n0_ n1_ n2_ n3_
 have HLN := Aside0.mk (show ([] : List Value).length + (d0 ++ ⟨#[32]⟩ ++ d1 ++ ⟨#[10]⟩ : ByteArray).size ≤ 140737488355328 by
  simp only [List.length_nil, ByteArray.size_append, show (⟨#[32]⟩ : ByteArray).size = 1 from rfl, show (⟨#[10]⟩ : ByteArray).size = 1 from rfl]
  omega)
 have HE := Aside0.mk (show Lib.strCells (d0 ++ ⟨#[32]⟩ ++ d1 ++ ⟨#[10]⟩) = Lib.strCells (strOfNums ((dg n ++ [32] ++ dg u ++ [10]) ++ (l2.take (0 : Int).toNat).flatMap itM)) by
  rw [HD.out.1, HD.out.2, it_head]
  congr 2
  simp)
 clear z0 z1
 go_wp2_with (go_at_call 25; with_reducible refine (bld_WriteString b b [] _ _ HI.out HLN.out (Nat.le_of_lt HT.out)).mono ?_; rintro e w3 ⟨rfl, hi, hb⟩; refine Go.RowKit.Hid.out ?_)
 refine Go.Lib.hid ?_
 rw [List.nil_append, HE.out] at hi
 have HI := Aside0.mk (show Lib.IsBuilder 56 5 b b (Lib.strCells (strOfNums ((dg n ++ [32] ++ dg u ++ [10]) ++ (l2.take (0 : Int).toNat).flatMap itM))) w3 from .inr hi)
 have n0_ := Aside0.mk (below_far HB.out HS.out hb)
 have n1_ := Aside0.mk ((hb.block gb HG.out).trans BK.out)
 have n2_ := Aside0.mk (Nat.lt_of_lt_of_le HT.out hb.size)
 clear HB BK hi hb HT HLN HE HD J0 J1
 have HB := n0_
 have BK := n1_
 have HT := n2_
 clear n0_ n1_ n2_
 have k0 : w3.cell? ⟨gb, 0, none⟩ = some (.int .i64 n) := (blk_cell BK.out 0).trans rfl
 have k1 : w3.cell? ⟨gb, 1, none⟩ = some (.int .i64 u) := (blk_cell BK.out 1).trans rfl
 have k2 : w3.cell? ⟨gb, 2, none⟩ = some (.slice A2 l2.length c2) := (blk_cell BK.out 2).trans rfl
 have hhl : (dg (n : Int) ++ [32] ++ dg (u : Int) ++ [10]).length ≤ 10 := by
  have := dg_len n
  have := dg_len u
  simp only [List.length_append, List.length_cons, List.length_nil]
  omega
 have HLD := Aside0.mk (fun (W : World) (h : Below w.heap.size w W) => HLD.out.on h)
 obtain ⟨hd, hhd⟩ : ∃ s, s = dg (n : Int) ++ [32] ++ dg (u : Int) ++ [10] := ⟨_, rfl⟩
 have HHD := Aside0.mk hhd
 rw [← hhd] at HI hhl
 clear hhd
 have HHL := Aside0.mk hhl
 clear hhl
 go_wp2
 go_loopw [22] (fun v5 w' => ∃ x : Int, 0 ≤ x ∧ x ≤ (l2.length : Int) ∧ v5 = .int .i64 x ∧ Aside0 (Lib.IsBuilder 56 5 b b (Lib.strCells (strOfNums (hd ++ (l2.take x.toNat).flatMap itM))) w') ∧ Aside0 (w'.heap[gb]? = some (.cells #[.int .i64 n, .int .i64 u, .slice A2 l2.length c2] 38 (0, 0))) ∧ Aside0 (Below w.heap.size w w') ∧ Aside0 (b < w'.heap.size)) (fun v5 _ => l2.length - (intOf v5).toNat)
 case atStart => exact ⟨0, by omega, by omega, rfl, HI, BK, HB, HT⟩
 case round =>
  clear HI HB BK k0 k1 k2 HT
  obtain ⟨x, hx0, hx1, rfl, HI, BK, HB, HT⟩ := hrel
  have hl2 := HL2.out
  by_cases hlt : x < (l2.length : Int)
  ·obtain ⟨ad, e, m0, m1, m2⟩ := at_T73 HR2.out x hx0 hlt
   cases e
   replace m0 := (HB.out.cell (World.block_lt_of_cell? w _ m0)).trans m0
   replace m1 := (HB.out.cell (World.block_lt_of_cell? w _ m1)).trans m1
   replace m2 := (HB.out.cell (World.block_lt_of_cell? w _ m2)).trans m2
   obtain ⟨⟨r0, r1⟩, ⟨r2, r3⟩, r4, r5⟩ := HF2.out x hx0 hlt
   obtain ⟨F0, hF0⟩ : ∃ F0 : Nat, (F0 : Int) = (rd_T73 l2 x).f0 := ⟨(rd_T73 l2 x).f0.toNat, by omega⟩
   obtain ⟨F1, hF1⟩ : ∃ F1 : Nat, (F1 : Int) = (rd_T73 l2 x).f1 := ⟨(rd_T73 l2 x).f1.toNat, by omega⟩
   obtain ⟨F2, hF2⟩ : ∃ F2 : Nat, (F2 : Int) = (rd_T73 l2 x).f2 := ⟨(rd_T73 l2 x).f2.toNat, by omega⟩
   rw [← hF0] at m0 r0 r1
   rw [← hF1] at m1 r2 r3
   rw [← hF2] at m2 r4 r5
   have HF := Aside0.mk (And.intro hF0 (And.intro hF1 hF2))
   clear hF0 hF1 hF2
   have q1 : decide (x < (l2.length : Int)) = true := decide_eq_true hlt
   have q2 : 0 ≤ x := hx0
   have I0 := fun W => named_b F0 F1 (by omega) (by omega) (by omega) W
   have I1 := fun W (h : LaidW W) => Tryd.strconv_Itoa F2 (by omega) (by omega) W h.pow
   rw [show Lib.itoa (F2 : Int) = Lib.decDigits F2 by unfold Lib.itoa; rw [if_neg (by omega), Int.toNat_natCast], dg_str F2 (by omega)] at I1
   obtain ⟨d0, hd0⟩ : ∃ s : ByteArray, s = (⟨#[UInt8.ofNat (96 + F0)]⟩ ++ ⟨#[UInt8.ofNat (48 + F1)]⟩) := ⟨_, rfl⟩
   obtain ⟨d1, hd1⟩ : ∃ s : ByteArray, s = strOfNums (dg F2) := ⟨_, rfl⟩
   rw [← hd0] at I0
   rw [← hd1] at I1
   have z0 : d0.size = 2 := by rw [hd0]; rfl
   have z1 : d1.size ≤ 4 := by rw [hd1, strOfNums_size]; exact dg_len _
   have HD := Aside0.mk (And.intro hd0 hd1)
   have J0 := Aside0.mk I0
   have J1 := Aside0.mk I1
   clear hd0 hd1 I0 I1 r0 r1 r2 r3 r4 r5
   go_wp2
   have n0_ := Aside0.mk (below_alloc HB.out (Obj.cells #[.int .i64 (F0 : Int), .int .i64 (F1 : Int), .int .i64 (F2 : Int)] 73))
   have n1_ := Aside0.mk (blk_alloc BK.out (Obj.cells #[.int .i64 (F0 : Int), .int .i64 (F1 : Int), .int .i64 (F2 : Int)] 73))
   have n2_ := Aside0.mk (ib_below HI.out (below_alloc (Below.refl _ wr) (Obj.cells #[.int .i64 (F0 : Int), .int .i64 (F1 : Int), .int .i64 (F2 : Int)] 73)))
   have n3_ := Aside0.mk (Nat.lt_of_lt_of_le HT.out (below_alloc (Below.refl _ wr) (Obj.cells #[.int .i64 (F0 : Int), .int .i64 (F1 : Int), .int .i64 (F2 : Int)] 73)).size)
   have f0 : (wr.alloc (Obj.cells #[.int .i64 (F0 : Int), .int .i64 (F1 : Int), .int .i64 (F2 : Int)] 73)).cell? ⟨wr.heap.size, 0, none⟩ = some (.int .i64 F0) := by simp
   have f1 : (wr.alloc (Obj.cells #[.int .i64 (F0 : Int), .int .i64 (F1 : Int), .int .i64 (F2 : Int)] 73)).cell? ⟨wr.heap.size, 1, none⟩ = some (.int .i64 F1) := by simp
   have f2 : (wr.alloc (Obj.cells #[.int .i64 (F0 : Int), .int .i64 (F1 : Int), .int .i64 (F2 : Int)] 73)).cell? ⟨wr.heap.size, 2, none⟩ = some (.int .i64 F2) := by simp
   clear HB BK m0 m1 m2 HI HT
   generalize wr.alloc (Obj.cells #[.int .i64 (F0 : Int), .int .i64 (F1 : Int), .int .i64 (F2 : Int)] 73) = W at n0_ n1_ n2_ n3_ f0 f1 f2 ⊢
   generalize wr.heap.size = gf at f0 f1 f2 ⊢
   have HB := n0_
   have BK := n1_
   have HI := n2_
   have HT := n3_
   clear n0_ n1_ n2_ n3_
   have f0 := gr_cell f0
   have f1 := gr_cell f1
   have f2 := gr_cell f2
   have s2 : (9223372036854775807 < 2 + 1 + d1.size) = False := eq_false (by omega)
   have s3 : (9223372036854775807 < 2 + 1 + d1.size + 1) = False := eq_false (by omega)
   have s4 : (9223372036854775807 < 3 + d1.size) = False := eq_false (by omega)
   have s5 : (9223372036854775807 < 3 + d1.size + 1) = False := eq_false (by omega)
   refine wp_region_quiet_tail (C := fun w' => ∃ p : GrB, w' = Go.Sort.grow (W.drewN p.n) p.os) 11 (by kernel_rfl) (by kernel_rfl) (grC_drew W) ?_
   simp only [List.take_succ_cons, List.take_zero, List.drop_succ_cons, List.drop_zero]
   repeat (quiet_step (first | (go_at_call 26; exact gr_same (J0.out _)) | (go_at_call 27; exact gr_grown (J1.out _ (HLD.out _ (below_step HB.out (gr_below W _ _)))))))
   refine wpQuiet_nil ?_
   intro _ hw'
   obtain ⟨⟨nq, osq⟩, hw''⟩ := hw'
   subst hw''
   have GW := gr_below W nq osq
   have n0_ := Aside0.mk (below_step HB.out GW)
   have n1_ := Aside0.mk (blk_below BK.out GW)
   have n2_ := Aside0.mk (ib_below HI.out GW)
   have n3_ := Aside0.mk (Nat.lt_of_lt_of_le HT.out GW.size)
   clear HB BK HI HT f0 f1 f2 GW J0 J1 s2 s3 s4 s5
   generalize Go.Sort.grow (W.drewN nq) osq = W at n0_ n1_ n2_ n3_ ⊢
   have HB := n0_
   have BK := n1_
   have HI := n2_
   have HT := n3_
   clear n0_ n1_ n2_ n3_
   have HLN := Aside0.mk (show (Lib.strCells (strOfNums (hd ++ (l2.take x.toNat).flatMap itM))).length + (d0 ++ ⟨#[32]⟩ ++ d1 ++ ⟨#[10]⟩ : ByteArray).size ≤ 140737488355328 by
    have h1 := flat_le itM 8 (l2.take x.toNat) (fun m _ => itM_len m)
    have h2 : (l2.take x.toNat).length ≤ l2.length := by rw [List.length_take]; omega
    have h3 := HHL.out
    simp only [Lib.strCells_length, strOfNums_size, List.length_append, ByteArray.size_append, z0, show (⟨#[32]⟩ : ByteArray).size = 1 from rfl, show (⟨#[10]⟩ : ByteArray).size = 1 from rfl]
    omega)
   have HE := Aside0.mk (show Lib.strCells (strOfNums (hd ++ (l2.take x.toNat).flatMap itM)) ++ Lib.strCells (d0 ++ ⟨#[32]⟩ ++ d1 ++ ⟨#[10]⟩) = Lib.strCells (strOfNums (hd ++ (l2.take (x + 1).toNat).flatMap itM)) by
    rw [HD.out.1, HD.out.2, it_row, take_next itM z73 l2 x hx0 hlt, ← str_cells, str_cat, List.append_assoc]
    congr 4
    rw [HF.out.1, HF.out.2.1, HF.out.2.2]
    rfl)
   clear z0 z1
   go_wp2_with (go_at_call 25; with_reducible refine (bld_WriteString b b _ _ _ HI.out HLN.out (Nat.le_of_lt HT.out)).mono ?_; rintro e w4 ⟨rfl, hi, hb⟩; refine Go.RowKit.Hid.out ?_)
   refine Go.Lib.hid ?_
   rw [HE.out] at hi
   have n0_ := Aside0.mk (below_far HB.out HS.out hb)
   have n1_ := Aside0.mk ((hb.block gb HG.out).trans BK.out)
   have n2_ := Aside0.mk (Nat.lt_of_lt_of_le HT.out hb.size)
   have HI2 := Aside0.mk hi
   clear HB BK hi hb HT HE HLN HI
   go_wp2
   go_roundw
   case rel => exact ⟨x + 1, by omega, by omega, by first | rfl | simp, ⟨.inr HI2.out⟩, n1_, n0_, n2_⟩
   case measure => simp [intOf]; omega
  ·have hxe : x = (l2.length : Int) := by omega
   have q1 : decide (x < (l2.length : Int)) = false := decide_eq_false hlt
   replace HI := Aside0.mk (show Lib.IsBuilder 56 5 b b (Lib.byteCells (strOfNums (itL n u l2)).data.toList) wr by
    have h_ := HI.out
    rw [hxe, Int.toNat_natCast, List.take_length, HHD.out] at h_
    exact h_)
   clear hxe hx0 hx1 hlt hl2
   go_wp2_with (go_at_call 28; with_reducible refine (Tryd.Builder_String_any b b _ _ HI.out (Nat.le_of_lt HT.out)).mono ?_; rintro e w5 ⟨rfl, hb⟩)
   go_ret
   exact ⟨by first | rfl | simp [*], below_far HB.out HS.out hb⟩
def impl_IndexText.f (_k : Nat) (n u : Int) (l2 : List S73) : Option ByteArray := some (itS n u l2)
theorem impl_IndexText.mono : ∀ a0 a1 a2 k, LeO (impl_IndexText.f k a0 a1 a2) (impl_IndexText.f (k + 1) a0 a1 a2) := fun _ _ _ _ _ h => h
theorem impl_IndexText.calls (k : Nat) (a0_0 : Int) (a0_1 : Int) (A0_2 : Option Addr) (c0_2 : Nat) (l0_2 : List S73) (r : ByteArray) (w : World) (hr0_2 : Kd.C k73 w A0_2 l0_2.length l0_2) (hc0_2 : l0_2.length ≤ c0_2) (hLD : LaidW w) (h : impl_IndexText.f k a0_0 a0_1 l0_2 = some r) :
  Calls Tryd.prog 15 #[.agg #[.int .i64 a0_0, .int .i64 a0_1, .slice A0_2 l0_2.length c0_2]] w fun e w' => e = .returned (.string r) ∧ Below w.heap.size w w' := by
 obtain rfl := Option.some.inj h
 cases hp : ixB a0_0 a0_1 l0_2 with
 | true =>
  obtain ⟨⟨h1, _⟩, ⟨h2, _⟩, _⟩ := ixB_nums hp
  obtain ⟨n, rfl⟩ : ∃ n : Nat, (n : Int) = a0_0 := ⟨a0_0.toNat, by omega⟩
  obtain ⟨v, rfl⟩ : ∃ n : Nat, (n : Int) = a0_1 := ⟨a0_1.toNat, by omega⟩
  rw [itS, if_pos hp]
  exact it_yes n v A0_2 c0_2 l0_2 w hr0_2 hc0_2 hLD hp
 | false =>
  rw [itS, if_neg (by rw [hp]; decide)]
  exact it_no a0_0 a0_1 A0_2 c0_2 l0_2 w hr0_2 hc0_2 hp

/-- A state of type 87 at block g of W; what its slices lead to came in by w0. -/
def IsS87 (w0 W : World) (g : Nat) (f0 : List Int) (f1 : Int) : Prop := ∃ A0 c0, W.heap[g]? = some (.cells #[.slice A0 f0.length c0, .int .i64 f1] 87 (0, 0)) ∧ w0.heap.size ≤ g ∧ Kd.C (Kd.int .u8) w0 A0 f0.length f0
theorem IsS87.grown {w0 W : World} {g : Nat} {f0 : List Int} {f1 : Int} {W1 : World} {row : Option Nat} (h : IsS87 w0 W g f0 f1) (hw : W.grownBy W1 row) (hne : some g ≠ row) : IsS87 w0 W1 g f0 f1 := by
 obtain ⟨A0, c0, hb, hg, hr0⟩ := h
 exact ⟨A0, c0, blk_grown hb hw hne, hg, hr0⟩
theorem IsS87.own_neN {w0 W : World} {g : Nat} {f0 : List Int} {f1 : Int} {α : Type} {d : Kd α} {e : Nat} {base : Nat} {ok : Nat → Prop} {v : Value} {xs : List α} (h : IsS87 w0 W g f0 f1) (ho : Kd.N d e W base ok v xs) (ht : e ≠ 87) : some g ≠ v.ownBlock := by
 obtain ⟨A0, c0, hb, hg, hr0⟩ := h
 exact Kd.N_ne ho hb ht
theorem IsS87.fresh {w0 W : World} {g : Nat} {f0 : List Int} {f1 : Int} (h : IsS87 w0 W g f0 f1) : ∀ k, W.heap.size ≤ k → k ≠ g := by
 obtain ⟨A0, c0, hb, hg, hr0⟩ := h
 exact Kd.freshB hb
theorem IsS87.kept {w0 W : World} {g : Nat} {f0 : List Int} {f1 : Int} {W1 : World} {S : Nat → Prop} (h : IsS87 w0 W g f0 f1) (hk : Kept W W1 S) (hne : ¬ S g) : IsS87 w0 W1 g f0 f1 := by
 obtain ⟨A0, c0, hb, hg, hr0⟩ := h
 exact ⟨A0, c0, blk_kept hb hk hne, hg, hr0⟩
theorem IsS87.below {w0 W : World} {g : Nat} {f0 : List Int} {f1 : Int} {W1 : World} (h : IsS87 w0 W g f0 f1) (hw : Below W.heap.size W W1) : IsS87 w0 W1 g f0 f1 := h.grown (grown_of_below hw none) (by simp)
theorem IsS87.alloc {w0 W : World} {g : Nat} {f0 : List Int} {f1 : Int} (h : IsS87 w0 W g f0 f1) (o : Obj) : IsS87 w0 (W.alloc o) g f0 f1 := h.below (below_alloc (Below.refl _ _) o)
theorem IsS87.drewN {w0 W : World} {g : Nat} {f0 : List Int} {f1 : Int} (h : IsS87 w0 W g f0 f1) (m : Nat) : IsS87 w0 (W.drewN m) g f0 f1 := h
theorem IsS87.drew {w0 W : World} {g : Nat} {f0 : List Int} {f1 : Int} (h : IsS87 w0 W g f0 f1) : IsS87 w0 W.drew g f0 f1 := h
theorem IsS87.at_ {w0 W : World} {g : Nat} {f0 : List Int} {f1 : Int} {w' : World} {m : Nat} (hq : W.drewN m = w') (h : IsS87 w0 W g f0 f1) : IsS87 w0 w' g f0 f1 := by subst hq; exact IsS87.drewN h m
theorem IsS87.apart {w0 W : World} {g : Nat} {f0 : List Int} {f1 : Int} {α : Type} {d : Kd α} {e : Nat} {base : Nat} {ok : Nat → Prop} {v : Value} {xs : List α} (h : IsS87 w0 W g f0 f1) (ho : d.R e W base ok v xs) (ht : ∀ q, q ∈ e :: d.E → q ≠ 87) : d.R e W base (fun k => ok k ∧ k ≠ g) v xs := by
 obtain ⟨A0, c0, hb, hg, hr0⟩ := h
 exact Kd.R_types ho hb ht
theorem IsS87.own_ne {w0 W : World} {g : Nat} {f0 : List Int} {f1 : Int} {α : Type} {d : Kd α} {e : Nat} {base : Nat} {ok : Nat → Prop} {v : Value} {xs : List α} (h : IsS87 w0 W g f0 f1) (ho : d.R e W base ok v xs) (ht : e ≠ 87) : some g ≠ v.ownBlock := by
 obtain ⟨A0, c0, hb, hg, hr0⟩ := h
 exact Kd.R_ne ho hb ht
theorem IsS87.apartQ {w0 W : World} {g : Nat} {f0 : List Int} {f1 : Int} {α : Type} {d : Kd α} {e : Nat} {base : Nat} {ok : Nat → Prop} {v : Value} {xs : List α} (h : IsS87 w0 W g f0 f1) (ho : d.Q e W base ok v xs) (ht : ∀ q, q ∈ e :: d.E → q ≠ 87) : d.Q e W base (fun k => ok k ∧ k ≠ g) v xs := by
 obtain ⟨A0, c0, hb, hg, hr0⟩ := h
 exact Kd.Q_types ho hb ht
theorem IsS87.own_neQ {w0 W : World} {g : Nat} {f0 : List Int} {f1 : Int} {α : Type} {d : Kd α} {e : Nat} {base : Nat} {ok : Nat → Prop} {v : Value} {xs : List α} (h : IsS87 w0 W g f0 f1) (ho : d.Q e W base ok v xs) (ht : e ≠ 87) : some g ≠ v.ownBlock := by
 obtain ⟨A0, c0, hb, hg, hr0⟩ := h
 exact Kd.Q_ne ho hb ht
theorem IsS87.apartS {w0 W : World} {g : Nat} {f0 : List Int} {f1 : Int} {α : Type} {d : Kd α} {e : Nat} {base : Nat} {ok : Nat → Prop} {v : Value} {xs : List α} (h : IsS87 w0 W g f0 f1) (ho : d.S e W base ok v xs) (ht : ∀ q, q ∈ e :: d.E → q ≠ 87) : d.S e W base (fun k => ok k ∧ k ≠ g) v xs := by
 obtain ⟨A0, c0, hb, hg, hr0⟩ := h
 exact Kd.S_types ho hb ht
theorem IsS87.own_neS {w0 W : World} {g : Nat} {f0 : List Int} {f1 : Int} {α : Type} {d : Kd α} {e : Nat} {base : Nat} {ok : Nat → Prop} {v : Value} {xs : List α} (h : IsS87 w0 W g f0 f1) (ho : d.S e W base ok v xs) (ht : e ≠ 87) : some g ≠ v.ownBlock := by
 obtain ⟨A0, c0, hb, hg, hr0⟩ := h
 exact Kd.S_ne ho hb ht
theorem IsS87.lt {w0 W : World} {g : Nat} {f0 : List Int} {f1 : Int} (h : IsS87 w0 W g f0 f1) : g < W.heap.size := by
 obtain ⟨A0, c0, hb, hg, hr0⟩ := h
 exact blk_lt hb
theorem IsS87.ge {w0 W : World} {g : Nat} {f0 : List Int} {f1 : Int} (h : IsS87 w0 W g f0 f1) : w0.heap.size ≤ g := by
 obtain ⟨A0, c0, hb, hg, hr0⟩ := h
 exact hg
theorem IsS87.ne_blk {w0 W : World} {g : Nat} {f0 : List Int} {f1 : Int} {a : Nat} {cs : Array Value} {t : TypeId} {fr : Nat × Nat} (h : IsS87 w0 W g f0 f1) (hb2 : W.heap[a]? = some (.cells cs t fr)) (ht : t ≠ 87) : g ≠ a := by
 obtain ⟨A0, c0, hb, hg, hr0⟩ := h
 rintro rfl
 rw [hb] at hb2
 injection hb2 with hb2
 injection hb2 with _ ht2
 exact ht ht2.symm
theorem IsS87.far {w0 W : World} {g : Nat} {f0 : List Int} {f1 : Int} {p : Addr} (h : IsS87 w0 W g f0 f1) (hne : g ≠ p.block) (u : Value) : IsS87 w0 (W.setCell p u) g f0 f1 := by
 obtain ⟨A0, c0, hb, hg, hr0⟩ := h
 exact ⟨A0, c0, blk_far hb hne u, hg, hr0⟩
theorem cellS87_0 {W : World} {g : Nat} {A0 : Option Addr} {c0 : Nat} {f0 : List Int} {f1 : Int} (h : W.heap[g]? = some (.cells #[.slice A0 f0.length c0, .int .i64 f1] 87 (0, 0))) : W.cell? ⟨g, 0, none⟩ = some (.slice A0 f0.length c0) := (blk_cell h 0).trans rfl
theorem cellS87_1 {W : World} {g : Nat} {A0 : Option Addr} {c0 : Nat} {f0 : List Int} {f1 : Int} (h : W.heap[g]? = some (.cells #[.slice A0 f0.length c0, .int .i64 f1] 87 (0, 0))) : W.cell? ⟨g, 1, none⟩ = some (.int .i64 f1) := (blk_cell h 1).trans rfl
theorem IsS87.set_1 {w0 W : World} {g : Nat} {f0 : List Int} {f1 : Int} (h : IsS87 w0 W g f0 f1) (x : Int) : IsS87 w0 (W.setCell ⟨g, 1, none⟩ (.int .i64 x)) g f0 x := by
 obtain ⟨A0, c0, hb, hg, hr0⟩ := h
 exact ⟨A0, c0, by simpa using blk_set hb 1 (.int .i64 x), hg, hr0⟩
theorem IsS87.new (w0 W : World) (A0 : Option Addr) (c0 : Nat) (f0 : List Int) (f1 : Int) (hB : Below w0.heap.size w0 W) (hr0 : Kd.C (Kd.int .u8) w0 A0 f0.length f0) : IsS87 w0 (W.alloc (.cells #[.slice A0 f0.length c0, .int .i64 f1] 87)) W.heap.size f0 f1 := ⟨A0, c0, by simpa using heap_alloc_new W _, hB.size, hr0⟩

/-! ### spec_l6Open: function 24 -/
def spec_l6Open.f (l0 : List Int) : Option (List Int × Int) := if (l0.length : Int) > 2000 then (if 2000 ≤ (l0.length : Int) then (some (l0.take 2000, 0)) else (none)) else (some (l0, 0))
set_option maxHeartbeats 8000000 in
set_option maxRecDepth 100000 in
theorem spec_l6Open.calls (A0 : Option Addr) (c0 : Nat) (l0 : List Int) (r1 : List Int) (r2 : Int) (w0 w : World) (hB : Below w0.heap.size w0 w) (hr0 : Kd.C (Kd.int .u8) w0 A0 l0.length l0) (hc0 : l0.length ≤ c0) (h : spec_l6Open.f l0 = some (r1, r2)) :
  Calls Tryd.prog 24 #[.slice A0 l0.length c0] w fun e w' => ∃ g_ : Nat, e = .returned (.pointer (some ⟨g_, 0, none⟩)) ∧ IsS87 w0 w' g_ r1 r2 ∧ Below w0.heap.size w0 w' ∧ Below w.heap.size w w' := by
 have hu87 := Tryd.underlying87
 have HR0 := Aside0.mk hr0
 have HC0 := Aside0.mk hc0
 clear hr0 hc0
 have HBW := Aside0.mk (Below.refl w.heap.size w)
 have HW0 := Aside0.mk hB.size
 have HB := Aside0.mk hB
 clear hB
 have H : (if (l0.length : Int) > 2000 then (if 2000 ≤ (l0.length : Int) then (some (l0.take 2000, 0)) else (none)) else (some (l0, 0))) = some (r1, r2) := h
 clear h
 by_cases c2 : (l0.length : Int) > 2000
 ·rw [if_pos c2] at H
  have c2b0 : decide (2000 < (l0.length : Int)) = true := decide_eq_true c2
  have c2b1 : decide (2000 < l0.length) = true := decide_eq_true (by omega)
  clear c2
  by_cases c3 : 2000 ≤ (l0.length : Int)
  ·rw [if_pos c3] at H
   have c3b0 := eq_true c3
   have c3b1 : decide (2000 ≤ (l0.length : Int)) = true := decide_eq_true c3
   clear c3
   simp only [Option.some.injEq, Prod.mk.injEq] at H
   obtain ⟨rfl, rfl⟩ := H
   obtain ⟨i04, hi04, _, hsz4, _⟩ := info_parts info5
   obtain ⟨hcut4, hA4, hC4⟩ := print_take_of (P := Tryd.prog) (Value.int .u8) 0 22 5 .i64 Tryd.underlying22 hi04 hsz4 A0 c0 l0 2000 (by omega) (of_decide_eq_true (by first | (with_reducible assumption) | assumption)) HC0.out
   have HR133 := Aside0.mk (Kd.C_of_reads (h1 := fun _ => rfl) (hA4 _ (Kd.reads_of_C HR0.out)))
   have HC133 := Aside0.mk hC4
   clear hA4 hC4 hi04 hsz4
   go_enter Tryd.func24, Tryd.ntmps24
   go_wp2_with (first | ((with_reducible refine gate_dst (N := 10) rfl ?_); refine box_event ?hg (N := 10) ?hd (cs := #[.slice A0 (l0.take 2000).length c0, .int .i64 0]) (t := 87) ?hr ?_; (case hd => rfl); (case hg => rfl); (case hr => first | (go_simp; done) | (go_simp; rfl)); intro gb134 hg w5 hbox hb; have n0_ := Aside0.mk (below_step HBW.out hb); have n1_ := Aside0.mk (below_step (by exact zB HB.out) hb); have n2_ := Aside0.mk (hbox); have n3_ := Aside0.mk ((by rw [hg]; exact (below_size (by exact zB HBW.out)) : w.heap.size ≤ gb134)); have n4_ := Aside0.mk ((Nat.le_trans HW0.out (by rw [hg]; exact (below_size (by exact zB HBW.out)) : w.heap.size ≤ gb134) : w0.heap.size ≤ gb134)); clear HBW; clear HB; have HBW := n0_; have HB := n1_; have BK134 := n2_; have GW134 := n3_; have GE134 := n4_; clear n0_ n1_ n2_ n3_ n4_; clear hb hbox hg))
   go_ret
   exact ⟨_, rfl, (show IsS87 w0 _ gb134 (l0.take 2000) 0 from ⟨_, _, by exact zK BK134.out, GE134.out, HR133.out⟩), by exact zB1 HB.out GE134.out, by exact zB1 HBW.out GW134.out⟩
  ·rw [if_neg c3] at H
   exact absurd H (by simp)
 ·rw [if_neg c2] at H
  have c2b0 : decide (2000 < (l0.length : Int)) = false := decide_eq_false c2
  have c2b1 : decide (2000 < l0.length) = false := decide_eq_false (by omega)
  clear c2
  simp only [Option.some.injEq, Prod.mk.injEq] at H
  obtain ⟨rfl, rfl⟩ := H
  go_enter Tryd.func24, Tryd.ntmps24
  go_wp2_with (first | ((with_reducible refine gate_dst (N := 10) rfl ?_); refine box_event ?hg (N := 10) ?hd (cs := #[.slice A0 l0.length c0, .int .i64 0]) (t := 87) ?hr ?_; (case hd => rfl); (case hg => rfl); (case hr => first | (go_simp; done) | (go_simp; rfl)); intro gb135 hg w6 hbox hb; have n0_ := Aside0.mk (below_step HBW.out hb); have n1_ := Aside0.mk (below_step (by exact zB HB.out) hb); have n2_ := Aside0.mk (hbox); have n3_ := Aside0.mk ((by rw [hg]; exact (below_size (by exact zB HBW.out)) : w.heap.size ≤ gb135)); have n4_ := Aside0.mk ((Nat.le_trans HW0.out (by rw [hg]; exact (below_size (by exact zB HBW.out)) : w.heap.size ≤ gb135) : w0.heap.size ≤ gb135)); clear HBW; clear HB; have HBW := n0_; have HB := n1_; have BK135 := n2_; have GW135 := n3_; have GE135 := n4_; clear n0_ n1_ n2_ n3_ n4_; clear hb hbox hg))
  go_ret
  exact ⟨_, rfl, (show IsS87 w0 _ gb135 l0 0 from ⟨_, _, by exact zK BK135.out, GE135.out, HR0.out⟩), by exact zB1 HB.out GE135.out, by exact zB1 HBW.out GW135.out⟩

/-! ### spec_l6Rd_pick: function 49 -/
def spec_l6Rd_pick.j0 : Nat → Int → Bool → List Int → Int → Option (Int × Int)
 | 0, _, _, _, _ => none
 | k + 1, x1, x24, x1000, x1001 => if x24 = true then (some (0, x1001)) else (if (wrap64 (x1001 - 1)) < (x1000.length : Int) then (if 0 ≤ (wrap64 (x1001 - 1)) then (if x1 = 0 then (none) else (some (Int.tmod (wrap64 (rd x1000 (wrap64 (x1001 - 1)))) x1, x1001))) else (none)) else (if (x1000.length : Int) = 0 then (none) else (if 0 ≤ (Int.tmod (wrap64 (x1001 - 1)) (x1000.length : Int)) then (if (Int.tmod (wrap64 (x1001 - 1)) (x1000.length : Int)) < (x1000.length : Int) then (if 0 ≤ (Int.tmod (wrap64 ((wrap64 ((wrap64 (x1001 - 1)) * 7)) + 3)) (x1000.length : Int)) then (if (Int.tmod (wrap64 ((wrap64 ((wrap64 (x1001 - 1)) * 7)) + 3)) (x1000.length : Int)) < (x1000.length : Int) then (if x1 = 0 then (none) else (some (Int.tmod (Go.bits .xor .i64 (wrap64 ((wrap64 ((wrap64 ((wrap64 ((wrap64 (rd x1000 (Int.tmod (wrap64 (x1001 - 1)) (x1000.length : Int)))) * 131)) + (wrap64 ((wrap64 (rd x1000 (Int.tmod (wrap64 ((wrap64 ((wrap64 (x1001 - 1)) * 7)) + 3)) (x1000.length : Int)))) * 1117)))) + (wrap64 ((wrap64 (x1001 - 1)) * 29)))) + (wrap64 ((wrap64 (Int.tdiv (wrap64 (x1001 - 1)) (x1000.length : Int))) * 53)))) (wrap64 (Int.tdiv (wrap64 ((wrap64 ((wrap64 ((wrap64 ((wrap64 (rd x1000 (Int.tmod (wrap64 (x1001 - 1)) (x1000.length : Int)))) * 131)) + (wrap64 ((wrap64 (rd x1000 (Int.tmod (wrap64 ((wrap64 ((wrap64 (x1001 - 1)) * 7)) + 3)) (x1000.length : Int)))) * 1117)))) + (wrap64 ((wrap64 (x1001 - 1)) * 29)))) + (wrap64 ((wrap64 (Int.tdiv (wrap64 (x1001 - 1)) (x1000.length : Int))) * 53)))) 64))) x1, x1001))) else (none)) else (none)) else (none)) else (none))))
def spec_l6Rd_pick.f (k : Nat) (s0_0 : List Int) (s0_1 : Int) (a1 : Int) : Option (Int × Int) := if a1 < 1 then (spec_l6Rd_pick.j0 k a1 true s0_0 (wrap64 (s0_1 + 1))) else (spec_l6Rd_pick.j0 k a1 ((s0_0.length : Int) == 0) s0_0 (wrap64 (s0_1 + 1)))
theorem spec_l6Rd_pick.mono_l : ∀ k, (∀ y0 y1 y2 y3, LeO (spec_l6Rd_pick.j0 k y0 y1 y2 y3) (spec_l6Rd_pick.j0 (k + 1) y0 y1 y2 y3))
 | 0 => fun _ _ _ _ r h => by simp [spec_l6Rd_pick.j0] at h
 | k + 1 => by
  have ih0 := spec_l6Rd_pick.mono_l k
  ·intro y0 y1 y2 y3
   unfold spec_l6Rd_pick.j0
   repeat' first
   | (with_reducible exact ih0 _ _ _ _)
   | (with_reducible exact LeO.refl _)
   | (with_reducible exact LeO.none _)
   | (with_reducible refine LeO.ite ?_ ?_)
   | (with_reducible refine LeO.bind ?_ (fun _ => ?_))
   | exact ih0 _ _ _ _
   | exact LeO.none _
   | refine LeO.ite ?_ ?_
   | refine LeO.bind ?_ (fun _ => ?_)
theorem spec_l6Rd_pick.mono : ∀ a0 a1 a2 k, LeO (spec_l6Rd_pick.f k a0 a1 a2) (spec_l6Rd_pick.f (k + 1) a0 a1 a2) := by
 intro a0 a1 a2 k
 have ih0 := spec_l6Rd_pick.mono_l k
 unfold spec_l6Rd_pick.f
 repeat' first
   | (with_reducible exact ih0 _ _ _ _)
   | (with_reducible exact LeO.refl _)
   | (with_reducible exact LeO.none _)
   | (with_reducible refine LeO.ite ?_ ?_)
   | (with_reducible refine LeO.bind ?_ (fun _ => ?_))
   | exact ih0 _ _ _ _
   | exact LeO.none _
   | refine LeO.ite ?_ ?_
   | refine LeO.bind ?_ (fun _ => ?_)
set_option maxHeartbeats 8000000 in
set_option maxRecDepth 100000 in
theorem spec_l6Rd_pick.calls (k : Nat) (g : Nat) (s0_0 : List Int) (s0_1 : Int) (a1 : Int) (r1 : Int) (r2 : Int) (w0 w : World) (hI : IsS87 w0 w g s0_0 s0_1) (hB : Below w0.heap.size w0 w) (h : spec_l6Rd_pick.f k s0_0 s0_1 a1 = some (r1, r2)) :
  Calls Tryd.prog 49 #[.pointer (some ⟨g, 0, none⟩), .int .i64 a1] w fun e w' => e = .returned (.int .i64 r1) ∧ IsS87 w0 w' g s0_0 r2 ∧ Below w0.heap.size w0 w' ∧ KeepBut w w' g none := by
 have HI0 := Aside0.mk hI
 have HK := Aside0.mk (KeepBut.refl w g none)
 have HL := Aside0.mk hB.size
 clear hI
 have HW0 := Aside0.mk hB.size
 have HB := Aside0.mk hB
 clear hB
 have H : (if a1 < 1 then (spec_l6Rd_pick.j0 k a1 true s0_0 (wrap64 (s0_1 + 1))) else (spec_l6Rd_pick.j0 k a1 ((s0_0.length : Int) == 0) s0_0 (wrap64 (s0_1 + 1)))) = some (r1, r2) := h
 clear h
 have HC3 := Aside0.mk H
 clear H
 obtain ⟨ASz4_0, cSz4_0, HGz4, hgz4, HSz4_0⟩ := HI0.out
 have hcz4_0 := cellS87_0 HGz4
 have hcz4_1 := cellS87_1 HGz4
 have hfz4_1 := blk_frozen HGz4 1
 clear HGz4 hgz4
 go_enter Tryd.func49, Tryd.ntmps49
 go_upto_region 2 with (fail)
 repeat (go_quiet (fail); go_upto_region 2 with (fail))
 go_cut [24] (fun v24 wc => ∃ (kq : Nat) (x24_2 : Bool), v24 = .bool x24_2 ∧ Aside0 (spec_l6Rd_pick.j0 kq a1 x24_2 s0_0 (wrap64 (s0_1 + 1)) = some (r1, r2)) ∧ Aside0 (kq ≤ k) ∧ Aside0 (IsS87 w0 wc g s0_0 (wrap64 (s0_1 + 1))) ∧ Aside0 (KeepBut w wc g none) ∧ Aside0 (Below w0.heap.size w0 wc))
 case first =>
  have H := HC3.out
  clear HC3
  by_cases c5 : a1 < 1
  ·rw [if_pos c5] at H
   have c5b0 : decide (a1 < 1) = true := decide_eq_true c5
   clear c5
   (first | rw [c5b0] | (simp only [i64_w, i32_w]; rw [c5b0]) | skip)
   have H' := Aside0.mk H
   clear H
   go_wp2
   repeat (go_quiet (fail); try go_wp2)
   go_meet
   case rel => exact ⟨_, (true), (by first | rfl | (simp; done) | (simp [*]; done)), H', ⟨by first | omega | exact Nat.le_refl _⟩, ⟨by repeat (first | (with_reducible first | exact HI0.out | apply IsS87.alloc | apply IsS87.drewN | apply IsS87.drew | apply IsS87.set_1) | exact HI0.out)⟩, ⟨by repeat (first | (with_reducible first | exact HK.out | apply KeepBut.set_ | apply keep_drewN | apply keep_drew | apply keep_alloc) | exact HK.out)⟩, ⟨by exact zB1 HB.out (IsS87.ge HI0.out)⟩⟩
  ·rw [if_neg c5] at H
   have c5b0 : decide (a1 < 1) = false := decide_eq_false c5
   clear c5
   (first | rw [c5b0] | (simp only [i64_w, i32_w]; rw [c5b0]) | skip)
   have H' := Aside0.mk H
   clear H
   obtain ⟨ASz6_0, cSz6_0, HGz6, hgz6, HSz6_0⟩ := HI0.out
   have hcz6_0 := cellS87_0 HGz6
   have hcz6_1 := cellS87_1 HGz6
   have hfz6_1 := blk_frozen HGz6 1
   clear HGz6 hgz6
   go_wp2
   repeat (go_quiet (fail); try go_wp2)
   go_meet
   case rel => exact ⟨_, (((s0_0.length : Int) == 0)), (by first | rfl | (simp; done) | (simp [*]; done)), H', ⟨by first | omega | exact Nat.le_refl _⟩, ⟨by repeat (first | (with_reducible first | exact HI0.out | apply IsS87.alloc | apply IsS87.drewN | apply IsS87.drew | apply IsS87.set_1) | exact HI0.out)⟩, ⟨by repeat (first | (with_reducible first | exact HK.out | apply KeepBut.set_ | apply keep_drewN | apply keep_drew | apply keep_alloc) | exact HK.out)⟩, ⟨by exact zB1 HB.out (IsS87.ge HI0.out)⟩⟩
 case rest =>
  clear HC3
  try clear p2
  try clear c4
  try clear c5
  try clear c5b0
  try clear p6
  try clear hcz4_0
  try clear hcz4_1
  try clear hcz6_0
  try clear hcz6_1
  try clear hfz4_1
  try clear hfz6_1
  obtain ⟨kq, x24_2, rfl, HA, HJ2, HI0, HK, HB⟩ := hcut
  cases kq with
  | zero => exact absurd HA.out (by simp [spec_l6Rd_pick.j0])
  | succ kj2 =>
   have H := HA.out
   clear HA
   simp only [spec_l6Rd_pick.j0] at H
   by_cases c7 : x24_2 = true
   ·subst c7
    have H1 : (some (0, (wrap64 (s0_1 + 1)))) = some (r1, r2) := by rw [if_pos rfl] at H; exact H
    clear H
    have H := H1
    clear H1
    simp only [Option.some.injEq, Prod.mk.injEq] at H
    obtain ⟨rfl, rfl⟩ := H
    go_wp2
    repeat (go_quiet (fail); try go_wp2)
    go_ret
    exact ⟨by first | rfl | (simp [errW_none, errW_some] <;> rfl) | (simp [*, errW_none, errW_some] <;> rfl), by repeat (first | (with_reducible first | exact HI0.out | apply IsS87.alloc | apply IsS87.drewN | apply IsS87.drew | apply IsS87.set_1) | exact HI0.out), by exact zB1 HB.out (IsS87.ge HI0.out), by repeat (first | (with_reducible first | exact HK.out | apply KeepBut.set_ | apply keep_drewN | apply keep_drew | apply keep_alloc) | exact HK.out)⟩
   ·replace c7 := Bool.eq_false_iff.mpr c7
    subst c7
    have H1 : (if (wrap64 ((wrap64 (s0_1 + 1)) - 1)) < (s0_0.length : Int) then (if 0 ≤ (wrap64 ((wrap64 (s0_1 + 1)) - 1)) then (if a1 = 0 then (none) else (some (Int.tmod (wrap64 (rd s0_0 (wrap64 ((wrap64 (s0_1 + 1)) - 1)))) a1, (wrap64 (s0_1 + 1))))) else (none)) else (if (s0_0.length : Int) = 0 then (none) else (if 0 ≤ (Int.tmod (wrap64 ((wrap64 (s0_1 + 1)) - 1)) (s0_0.length : Int)) then (if (Int.tmod (wrap64 ((wrap64 (s0_1 + 1)) - 1)) (s0_0.length : Int)) < (s0_0.length : Int) then (if 0 ≤ (Int.tmod (wrap64 ((wrap64 ((wrap64 ((wrap64 (s0_1 + 1)) - 1)) * 7)) + 3)) (s0_0.length : Int)) then (if (Int.tmod (wrap64 ((wrap64 ((wrap64 ((wrap64 (s0_1 + 1)) - 1)) * 7)) + 3)) (s0_0.length : Int)) < (s0_0.length : Int) then (if a1 = 0 then (none) else (some (Int.tmod (Go.bits .xor .i64 (wrap64 ((wrap64 ((wrap64 ((wrap64 ((wrap64 (rd s0_0 (Int.tmod (wrap64 ((wrap64 (s0_1 + 1)) - 1)) (s0_0.length : Int)))) * 131)) + (wrap64 ((wrap64 (rd s0_0 (Int.tmod (wrap64 ((wrap64 ((wrap64 ((wrap64 (s0_1 + 1)) - 1)) * 7)) + 3)) (s0_0.length : Int)))) * 1117)))) + (wrap64 ((wrap64 ((wrap64 (s0_1 + 1)) - 1)) * 29)))) + (wrap64 ((wrap64 (Int.tdiv (wrap64 ((wrap64 (s0_1 + 1)) - 1)) (s0_0.length : Int))) * 53)))) (wrap64 (Int.tdiv (wrap64 ((wrap64 ((wrap64 ((wrap64 ((wrap64 (rd s0_0 (Int.tmod (wrap64 ((wrap64 (s0_1 + 1)) - 1)) (s0_0.length : Int)))) * 131)) + (wrap64 ((wrap64 (rd s0_0 (Int.tmod (wrap64 ((wrap64 ((wrap64 ((wrap64 (s0_1 + 1)) - 1)) * 7)) + 3)) (s0_0.length : Int)))) * 1117)))) + (wrap64 ((wrap64 ((wrap64 (s0_1 + 1)) - 1)) * 29)))) + (wrap64 ((wrap64 (Int.tdiv (wrap64 ((wrap64 (s0_1 + 1)) - 1)) (s0_0.length : Int))) * 53)))) 64))) a1, (wrap64 (s0_1 + 1))))) else (none)) else (none)) else (none)) else (none)))) = some (r1, r2) := by rw [if_neg (show ¬ (false = true) by decide)] at H; exact H
    clear H
    have H := H1
    clear H1
    by_cases c8 : (wrap64 ((wrap64 (s0_1 + 1)) - 1)) < (s0_0.length : Int)
    ·rw [if_pos c8] at H
     have c8b0 : decide ((wrap64 ((wrap64 (s0_1 + 1)) - 1)) < (s0_0.length : Int)) = true := decide_eq_true c8
     clear c8
     obtain ⟨ji9, hji9⟩ : ∃ j_ : Int, (wrap64 ((wrap64 (s0_1 + 1)) - 1)) = j_ := ⟨_, rfl⟩
     replace H : (if 0 ≤ (ji9) then (if a1 = 0 then (none) else (some (Int.tmod (wrap64 (rd s0_0 (ji9))) a1, (wrap64 (s0_1 + 1))))) else (none)) = some (r1, r2) := by first | (rw [hji9] at H; exact H) | (simp only [hji9] at H ⊢; exact H)
     (try rw [hji9] at c8b0)
     have hji9w : (IntKind.i64.wrap ((wrap64 (s0_1 + 1)) - 1)) = ji9 := (i64_w _).trans hji9
     by_cases c10 : 0 ≤ (ji9)
     ·rw [if_pos c10] at H
      have c10b0 : decide (0 ≤ (ji9)) = true := decide_eq_true c10
      clear c10
      by_cases c11 : a1 = 0
      ·rw [if_pos c11] at H
       exact absurd H (by simp)
      ·rw [if_neg c11] at H
       have c11b0 : (a1 == 0) = false := beq_eq_false_iff_ne.mpr c11
       have c11b1 : (a1 != 0) = true := bne_iff_ne.mpr c11
       simp only [Option.some.injEq, Prod.mk.injEq] at H
       obtain ⟨rfl, rfl⟩ := H
       obtain ⟨ASz12_0, cSz12_0, HGz12, hgz12, HSz12_0⟩ := HI0.out
       have hcz12_0 := cellS87_0 HGz12
       have hcz12_1 := cellS87_1 HGz12
       have hfz12_1 := blk_frozen HGz12 1
       clear HGz12 hgz12
       have p136 : 0 ≤ ((ji9) : Int) := of_decide_eq_true (by first | (with_reducible assumption) | assumption)
       have q136 : (ji9) < (s0_0.length : Int) := of_decide_eq_true (by first | (with_reducible assumption) | assumption)
       obtain ⟨ad136, e136, hx136_0⟩ := Kd.at_int HSz12_0 (ji9) p136 q136
       cases e136
       replace hx136_0 := pw_cell_below HB.out hx136_0
       replace p136 := eq_true p136
       replace q136 := eq_true q136
       go_wp2
       repeat (go_quiet (fail); try go_wp2)
       go_ret
       exact ⟨by first | rfl | (simp [errW_none, errW_some] <;> rfl) | (simp only [← hji9]; first | rfl | (simp [errW_none, errW_some] <;> rfl)) | (simp [*, errW_none, errW_some] <;> rfl), by repeat (first | (with_reducible first | exact HI0.out | apply IsS87.alloc | apply IsS87.drewN | apply IsS87.drew | apply IsS87.set_1) | exact HI0.out), by exact zB1 HB.out (IsS87.ge HI0.out), by repeat (first | (with_reducible first | exact HK.out | apply KeepBut.set_ | apply keep_drewN | apply keep_drew | apply keep_alloc) | exact HK.out)⟩
     ·rw [if_neg c10] at H
      exact absurd H (by simp)
    ·rw [if_neg c8] at H
     have c8b0 : decide ((wrap64 ((wrap64 (s0_1 + 1)) - 1)) < (s0_0.length : Int)) = false := decide_eq_false c8
     clear c8
     by_cases c13 : (s0_0.length : Int) = 0
     ·rw [if_pos c13] at H
      exact absurd H (by simp)
     ·rw [if_neg c13] at H
      have c13b0 : ((s0_0.length : Int) == 0) = false := beq_eq_false_iff_ne.mpr c13
      have c13b1 : ((s0_0.length : Int) != 0) = true := bne_iff_ne.mpr c13
      have c13b2 : ¬ (s0_0 = []) := fun h_ => c13 (by rw [h_]; rfl)
      obtain ⟨ji14, hji14⟩ : ∃ j_ : Int, (Int.tmod (wrap64 ((wrap64 (s0_1 + 1)) - 1)) (s0_0.length : Int)) = j_ := ⟨_, rfl⟩
      replace H : (if 0 ≤ (ji14) then (if (ji14) < (s0_0.length : Int) then (if 0 ≤ (Int.tmod (wrap64 ((wrap64 ((wrap64 ((wrap64 (s0_1 + 1)) - 1)) * 7)) + 3)) (s0_0.length : Int)) then (if (Int.tmod (wrap64 ((wrap64 ((wrap64 ((wrap64 (s0_1 + 1)) - 1)) * 7)) + 3)) (s0_0.length : Int)) < (s0_0.length : Int) then (if a1 = 0 then (none) else (some (Int.tmod (Go.bits .xor .i64 (wrap64 ((wrap64 ((wrap64 ((wrap64 ((wrap64 (rd s0_0 (ji14))) * 131)) + (wrap64 ((wrap64 (rd s0_0 (Int.tmod (wrap64 ((wrap64 ((wrap64 ((wrap64 (s0_1 + 1)) - 1)) * 7)) + 3)) (s0_0.length : Int)))) * 1117)))) + (wrap64 ((wrap64 ((wrap64 (s0_1 + 1)) - 1)) * 29)))) + (wrap64 ((wrap64 (Int.tdiv (wrap64 ((wrap64 (s0_1 + 1)) - 1)) (s0_0.length : Int))) * 53)))) (wrap64 (Int.tdiv (wrap64 ((wrap64 ((wrap64 ((wrap64 ((wrap64 (rd s0_0 (ji14))) * 131)) + (wrap64 ((wrap64 (rd s0_0 (Int.tmod (wrap64 ((wrap64 ((wrap64 ((wrap64 (s0_1 + 1)) - 1)) * 7)) + 3)) (s0_0.length : Int)))) * 1117)))) + (wrap64 ((wrap64 ((wrap64 (s0_1 + 1)) - 1)) * 29)))) + (wrap64 ((wrap64 (Int.tdiv (wrap64 ((wrap64 (s0_1 + 1)) - 1)) (s0_0.length : Int))) * 53)))) 64))) a1, (wrap64 (s0_1 + 1))))) else (none)) else (none)) else (none)) else (none)) = some (r1, r2) := by first | (rw [hji14] at H; exact H) | (simp only [hji14] at H ⊢; exact H)
      by_cases c15 : 0 ≤ (ji14)
      ·rw [if_pos c15] at H
       have c15b0 : decide (0 ≤ (ji14)) = true := decide_eq_true c15
       clear c15
       by_cases c16 : (ji14) < (s0_0.length : Int)
       ·rw [if_pos c16] at H
        have c16b0 : decide ((ji14) < (s0_0.length : Int)) = true := decide_eq_true c16
        clear c16
        obtain ⟨ji17, hji17⟩ : ∃ j_ : Int, (Int.tmod (wrap64 ((wrap64 ((wrap64 ((wrap64 (s0_1 + 1)) - 1)) * 7)) + 3)) (s0_0.length : Int)) = j_ := ⟨_, rfl⟩
        replace H : (if 0 ≤ (ji17) then (if (ji17) < (s0_0.length : Int) then (if a1 = 0 then (none) else (some (Int.tmod (Go.bits .xor .i64 (wrap64 ((wrap64 ((wrap64 ((wrap64 ((wrap64 (rd s0_0 (ji14))) * 131)) + (wrap64 ((wrap64 (rd s0_0 (ji17))) * 1117)))) + (wrap64 ((wrap64 ((wrap64 (s0_1 + 1)) - 1)) * 29)))) + (wrap64 ((wrap64 (Int.tdiv (wrap64 ((wrap64 (s0_1 + 1)) - 1)) (s0_0.length : Int))) * 53)))) (wrap64 (Int.tdiv (wrap64 ((wrap64 ((wrap64 ((wrap64 ((wrap64 (rd s0_0 (ji14))) * 131)) + (wrap64 ((wrap64 (rd s0_0 (ji17))) * 1117)))) + (wrap64 ((wrap64 ((wrap64 (s0_1 + 1)) - 1)) * 29)))) + (wrap64 ((wrap64 (Int.tdiv (wrap64 ((wrap64 (s0_1 + 1)) - 1)) (s0_0.length : Int))) * 53)))) 64))) a1, (wrap64 (s0_1 + 1))))) else (none)) else (none)) = some (r1, r2) := by first | (rw [hji17] at H; exact H) | (simp only [hji17] at H ⊢; exact H)
        by_cases c18 : 0 ≤ (ji17)
        ·rw [if_pos c18] at H
         have c18b0 : decide (0 ≤ (ji17)) = true := decide_eq_true c18
         clear c18
         by_cases c19 : (ji17) < (s0_0.length : Int)
         ·rw [if_pos c19] at H
          have c19b0 : decide ((ji17) < (s0_0.length : Int)) = true := decide_eq_true c19
          clear c19
          by_cases c20 : a1 = 0
          ·rw [if_pos c20] at H
           exact absurd H (by simp)
          ·rw [if_neg c20] at H
           have c20b0 : (a1 == 0) = false := beq_eq_false_iff_ne.mpr c20
           have c20b1 : (a1 != 0) = true := bne_iff_ne.mpr c20
           simp only [Option.some.injEq, Prod.mk.injEq] at H
           obtain ⟨rfl, rfl⟩ := H
           obtain ⟨ASz21_0, cSz21_0, HGz21, hgz21, HSz21_0⟩ := HI0.out
           have hcz21_0 := cellS87_0 HGz21
           have hcz21_1 := cellS87_1 HGz21
           have hfz21_1 := blk_frozen HGz21 1
           clear HGz21 hgz21
           have p137 : 0 ≤ ((ji14) : Int) := of_decide_eq_true (by first | (with_reducible assumption) | assumption)
           have q137 : (ji14) < (s0_0.length : Int) := of_decide_eq_true (by first | (with_reducible assumption) | assumption)
           obtain ⟨ad137, e137, hx137_0⟩ := Kd.at_int HSz21_0 (ji14) p137 q137
           cases e137
           replace hx137_0 := pw_cell_below HB.out hx137_0
           replace p137 := eq_true p137
           replace q137 := eq_true q137
           have p138 : 0 ≤ ((ji17) : Int) := of_decide_eq_true (by first | (with_reducible assumption) | assumption)
           have q138 : (ji17) < (s0_0.length : Int) := of_decide_eq_true (by first | (with_reducible assumption) | assumption)
           obtain ⟨ad138, e138, hx138_0⟩ := Kd.at_int HSz21_0 (ji17) p138 q138
           obtain rfl : ad137 = ad138 := (by injection e138)
           replace hx138_0 := pw_cell_below HB.out hx138_0
           replace p138 := eq_true p138
           replace q138 := eq_true q138
           go_wp2
           repeat (go_quiet (fail); try go_wp2)
           go_ret
           exact ⟨by first | rfl | (simp [errW_none, errW_some] <;> rfl) | (simp only [← hji14, ← hji17]; first | rfl | (simp [errW_none, errW_some] <;> rfl)) | (simp [*, errW_none, errW_some] <;> rfl), by repeat (first | (with_reducible first | exact HI0.out | apply IsS87.alloc | apply IsS87.drewN | apply IsS87.drew | apply IsS87.set_1) | exact HI0.out), by exact zB1 HB.out (IsS87.ge HI0.out), by repeat (first | (with_reducible first | exact HK.out | apply KeepBut.set_ | apply keep_drewN | apply keep_drew | apply keep_alloc) | exact HK.out)⟩
         ·rw [if_neg c19] at H
          exact absurd H (by simp)
        ·rw [if_neg c18] at H
         exact absurd H (by simp)
       ·rw [if_neg c16] at H
        exact absurd H (by simp)
      ·rw [if_neg c15] at H
       exact absurd H (by simp)

/-! ### spec_l1Files: function 53 -/
def file1 (l : List S63) (i : Nat) : Bool := inB_ (l.getD i z63).f0 0 5 && (inB_ (l.getD i z63).f1 0 9 && (i == 0 || decide ((l.getD (i - 1) z63).f0 < (l.getD i z63).f0)))
def l1f (l : List S63) : Bool := okFrom (file1 l) l.length 0 && decide (l.length ≤ 2)
set_option maxHeartbeats 8000000 in
set_option maxRecDepth 100000 in
theorem l1f_calls (A0 : Option Addr) (c0 : Nat) (l0 : List S63) (w : World) (hr0 : Kd.C k63 w A0 l0.length l0) (hc0 : l0.length ≤ c0) :
  Calls Tryd.prog 53 #[.slice A0 l0.length c0] w fun e w' => e = .returned (.bool (l1f l0)) ∧ Drawn0 w w' := by
 have HR := Aside0.mk hr0
 have HC := Aside0.mk hc0
 have HL := Aside0.mk hr0.2.1
 clear hr0 hc0
 go_enter Tryd.func53, Tryd.ntmps53
 go_wp2
 go_loopw [3] (fun v3 w' => ∃ x : Int, 0 ≤ x ∧ x ≤ (l0.length : Int) ∧ v3 = .int .i64 x ∧ Aside0 (l1f l0 = (okFrom (file1 l0) (l0.length - x.toNat) x.toNat && decide (l0.length ≤ 2))) ∧ Drawn0 w w') (fun v3 _ => l0.length - (intOf v3).toNat)
 case atStart => exact ⟨0, by omega, by omega, rfl, ⟨rfl⟩, Drawn0.refl _⟩
 case round =>
  obtain ⟨x, hx0, hx1, rfl, HE, ⟨m1, rfl⟩⟩ := hrel
  by_cases hlt : x < (l0.length : Int)
  ·obtain ⟨ad, e, c0, c1⟩ := at_T63 HR.out x hx0 hlt
   cases e
   obtain ⟨F0, hF0⟩ : ∃ F0, F0 = (rd_T63 l0 x).f0 := ⟨_, rfl⟩
   obtain ⟨F1, hF1⟩ : ∃ F1, F1 = (rd_T63 l0 x).f1 := ⟨_, rfl⟩
   rw [← hF0] at c0
   rw [← hF1] at c1
   have HF := Aside0.mk (And.intro hF0 hF1)
   clear hF0 hF1
   obtain ⟨b1, hb1⟩ : ∃ b, inB_ F0 0 5 = b := ⟨_, rfl⟩
   obtain ⟨b2, hb2⟩ : ∃ b, inB_ F1 0 9 = b := ⟨_, rfl⟩
   have C1 := Aside0.mk (fun W => spec_l6In_b W F0 0 5 b1 hb1)
   have C2 := Aside0.mk (fun W => spec_l6In_b W F1 0 9 b2 hb2)
   have B1 := Aside0.mk hb1
   have B2 := Aside0.mk hb2
   clear hb1 hb2
   have q1 : decide (x < (l0.length : Int)) = true := decide_eq_true hlt
   have q2 : 0 ≤ x := hx0
   have HN := Aside0.mk (okFrom_at (p := file1 l0) hx0 hlt)
   have no : Aside0 (file1 l0 x.toNat = false → l1f l0 = false) := ⟨fun h_ => by rw [HE.out, HN.out, h_]; rfl⟩
   have yes : Aside0 (file1 l0 x.toNat = true → l1f l0 = (okFrom (file1 l0) (l0.length - (x + 1).toNat) (x + 1).toNat && decide (l0.length ≤ 2))) := ⟨fun h_ => by rw [HE.out, HN.out, h_]; rfl⟩
   clear HE HN
   have hb2 : b2 = true ∨ b2 = false := by cases b2 <;> simp
   have HL2 := HL.out
   cases b1 with
   | false =>
    go_wp2
    go_quiet ((go_at_call 52; (first | with_reducible refine (C1.out _).mono ?_ | with_reducible refine (C2.out _).mono ?_); exact fun _ _ h_ => ⟨h_.1, _, h_.2⟩))
    go_wp2
    go_ret
    rw [no.out (by unfold file1; rw [← show _ = (l0.getD x.toNat z63).f0 from HF.out.1, B1.out]; rfl)]
    exact ⟨by first | rfl | simp [*], by repeat (first | exact Drawn0.refl _ | apply Drawn0.step)⟩
   | true =>
    cases b2 with
    | false =>
     go_wp2
     go_quiet ((go_at_call 52; (first | with_reducible refine (C1.out _).mono ?_ | with_reducible refine (C2.out _).mono ?_); exact fun _ _ h_ => ⟨h_.1, _, h_.2⟩))
     go_wp2
     go_ret
     rw [no.out (by unfold file1; rw [← show _ = (l0.getD x.toNat z63).f0 from HF.out.1, ← show _ = (l0.getD x.toNat z63).f1 from HF.out.2, B1.out, B2.out]; rfl)]
     exact ⟨by first | rfl | simp [*], by repeat (first | exact Drawn0.refl _ | apply Drawn0.step)⟩
    | true =>
     by_cases hz : x ≤ 0
     ·have hx4 : decide (0 < x) = false := decide_eq_false (by omega)
      have Y := Aside0.mk (yes.out (by unfold file1; rw [← show _ = (l0.getD x.toNat z63).f0 from HF.out.1, ← show _ = (l0.getD x.toNat z63).f1 from HF.out.2, B1.out, B2.out, show (x.toNat == 0) = true by rw [beq_iff_eq]; omega]; rfl))
      clear yes no hz
      go_wp2
      go_quiet ((go_at_call 52; (first | with_reducible refine (C1.out _).mono ?_ | with_reducible refine (C2.out _).mono ?_); exact fun _ _ h_ => ⟨h_.1, _, h_.2⟩))
      go_wp2
      go_roundw
      case rel => exact ⟨x + 1, by omega, by omega, by first | rfl | simp, Y, by repeat (first | exact Drawn0.refl _ | apply Drawn0.step)⟩
      case measure => simp [intOf]; omega
     ·have g0 : 0 < x := by omega
      clear hz
      obtain ⟨y, hy⟩ : ∃ y, y = x - 1 := ⟨_, rfl⟩
      have hw : IntKind.i64.wrap (x - 1) = y := by rw [i64_w, hy]; unfold wrap64; omega
      obtain ⟨ad2, e2, d0, d1⟩ := at_T63 HR.out y (by omega) (by omega)
      obtain ⟨G0, hG0⟩ : ∃ G0, G0 = (rd_T63 l0 y).f0 := ⟨_, rfl⟩
      rw [← hG0] at d0
      cases e2
      have HG := Aside0.mk hG0
      clear hG0 d1
      have hx2 : 0 ≤ y := by omega
      have hx3 : decide (y < (l0.length : Int)) = true := decide_eq_true (by omega)
      have hx4 : decide (0 < x) = true := decide_eq_true g0
      have hx5 : y < (l0.length : Int) := by omega
      have HY := Aside0.mk hy
      clear hy
      have FD : Aside0 (file1 l0 x.toNat = decide (G0 < F0)) := ⟨by
       unfold file1
       rw [← show _ = (l0.getD x.toNat z63).f0 from HF.out.1, ← show _ = (l0.getD x.toNat z63).f1 from HF.out.2, B1.out, B2.out, show (x.toNat == 0) = false by rw [beq_eq_false_iff_ne]; omega, show x.toNat - 1 = y.toNat by have := HY.out; omega, ← show _ = (l0.getD y.toNat z63).f0 from HG.out]; rfl⟩
      by_cases hc : F0 ≤ G0
      ·have cb : decide (F0 ≤ G0) = true := decide_eq_true hc
       have N := Aside0.mk (no.out (by rw [FD.out, decide_eq_false (by omega)]))
       clear yes no hc
       go_wp2
       go_quiet ((go_at_call 52; (first | with_reducible refine (C1.out _).mono ?_ | with_reducible refine (C2.out _).mono ?_); exact fun _ _ h_ => ⟨h_.1, _, h_.2⟩))
       go_wp2
       go_ret
       rw [N.out]
       exact ⟨by first | rfl | simp [*], by repeat (first | exact Drawn0.refl _ | apply Drawn0.step)⟩
      ·have cb : decide (F0 ≤ G0) = false := decide_eq_false hc
       have Y := Aside0.mk (yes.out (by rw [FD.out, decide_eq_true (by omega)]))
       clear yes no hc
       go_wp2
       go_quiet ((go_at_call 52; (first | with_reducible refine (C1.out _).mono ?_ | with_reducible refine (C2.out _).mono ?_); exact fun _ _ h_ => ⟨h_.1, _, h_.2⟩))
       go_wp2
       go_roundw
       case rel => exact ⟨x + 1, by omega, by omega, by first | rfl | simp, Y, by repeat (first | exact Drawn0.refl _ | apply Drawn0.step)⟩
       case measure => simp [intOf]; omega
  ·have hxe : x = (l0.length : Int) := by omega
   have q1 : decide (x < (l0.length : Int)) = false := decide_eq_false hlt
   have E := Aside0.mk (show l1f l0 = decide ((l0.length : Int) ≤ 2) by
    rw [HE.out, hxe, Int.toNat_natCast, Nat.sub_self]
    simp only [okFrom, Bool.true_and]
    rw [Bool.eq_iff_iff, decide_eq_true_eq, decide_eq_true_eq]; omega)
   clear hxe HE
   go_wp2
   go_ret
   rw [E.out]
   exact ⟨by first | rfl | simp [*], by repeat (first | exact Drawn0.refl _ | apply Drawn0.step)⟩
def spec_l1Files.f (_k : Nat) (l0 : List S63) : Option Bool := some (l1f l0)
theorem spec_l1Files.mono : ∀ a0 k, LeO (spec_l1Files.f k a0) (spec_l1Files.f (k + 1) a0) := fun _ _ _ h => h
theorem spec_l1Files.calls (k : Nat) (A0 : Option Addr) (c0 : Nat) (l0 : List S63) (r : Bool) (w : World) (hr0 : Kd.C k63 w A0 l0.length l0) (hc0 : l0.length ≤ c0) (h : spec_l1Files.f k l0 = some r) :
  Calls Tryd.prog 53 #[.slice A0 l0.length c0] w fun e w' => e = .returned (.bool r) ∧ Below w.heap.size w w' := by
 obtain rfl := Option.some.inj h
 refine (l1f_calls A0 c0 l0 w hr0 hc0).mono ?_
 rintro e w' ⟨h1, n, rfl⟩
 refine ⟨h1, ?_⟩
 apply pw_below_drewN
 exact Below.refl _ _

/-! ### spec_l1Deps: function 54 -/
def dep1 (name : Int) (l : List S66) (i : Nat) : Bool := inB_ (l.getD i z66).f0 1 4 && (!decide ((l.getD i z66).f0 = name) && (inB_ (l.getD i z66).f1 1 5 && (i == 0 || decide ((l.getD (i - 1) z66).f0 < (l.getD i z66).f0))))
def l1d (name : Int) (l : List S66) : Bool := okFrom (dep1 name l) l.length 0 && decide (l.length ≤ 2)
set_option maxHeartbeats 8000000 in
set_option maxRecDepth 100000 in
theorem l1d_calls (a0 : Int) (A0 : Option Addr) (c0 : Nat) (l0 : List S66) (w : World) (hr0 : Kd.C k66 w A0 l0.length l0) (hc0 : l0.length ≤ c0) :
  Calls Tryd.prog 54 #[.int .i64 a0, .slice A0 l0.length c0] w fun e w' => e = .returned (.bool (l1d a0 l0)) ∧ Below w.heap.size w w' := by
 have HR := Aside0.mk hr0
 have HC := Aside0.mk hc0
 have HL := Aside0.mk hr0.2.1
 have HB := Aside0.mk (Below.refl w.heap.size w)
 clear hr0 hc0
 go_enter Tryd.func54, Tryd.ntmps54
 go_wp2
 go_loopw [5] (fun v5 w' => ∃ x : Int, 0 ≤ x ∧ x ≤ (l0.length : Int) ∧ v5 = .int .i64 x ∧ Aside0 (l1d a0 l0 = (okFrom (dep1 a0 l0) (l0.length - x.toNat) x.toNat && decide (l0.length ≤ 2))) ∧ Aside0 (Below w.heap.size w w')) (fun v5 _ => l0.length - (intOf v5).toNat)
 case atStart => exact ⟨0, by omega, by omega, rfl, ⟨rfl⟩, HB⟩
 case round =>
  clear HB
  obtain ⟨x, hx0, hx1, rfl, HE, HB⟩ := hrel
  by_cases hlt : x < (l0.length : Int)
  ·obtain ⟨ad, e, c0, c1⟩ := at_T66 HR.out x hx0 hlt
   cases e
   replace c0 := (HB.out.cell (World.block_lt_of_cell? w _ c0)).trans c0
   replace c1 := (HB.out.cell (World.block_lt_of_cell? w _ c1)).trans c1
   obtain ⟨F0, hF0⟩ : ∃ F0, F0 = (rd_T66 l0 x).f0 := ⟨_, rfl⟩
   obtain ⟨F1, hF1⟩ : ∃ F1, F1 = (rd_T66 l0 x).f1 := ⟨_, rfl⟩
   rw [← hF0] at c0
   rw [← hF1] at c1
   have HF := Aside0.mk (And.intro hF0 hF1)
   clear hF0 hF1
   have q1 : decide (x < (l0.length : Int)) = true := decide_eq_true hlt
   have q2 : 0 ≤ x := hx0
   obtain ⟨b1, hb1⟩ : ∃ b, inB_ F0 1 4 = b := ⟨_, rfl⟩
   obtain ⟨b2, hb2⟩ : ∃ b, inB_ F1 1 5 = b := ⟨_, rfl⟩
   have C1 := Aside0.mk (fun W => spec_l6In_b W F0 1 4 b1 hb1)
   have C2 := Aside0.mk (fun W => spec_l6In_b W F1 1 5 b2 hb2)
   have B1 := Aside0.mk hb1
   have B2 := Aside0.mk hb2
   clear hb1 hb2
   have HN := Aside0.mk (okFrom_at (p := dep1 a0 l0) hx0 hlt)
   have no : Aside0 (dep1 a0 l0 x.toNat = false → l1d a0 l0 = false) := ⟨fun h_ => by rw [HE.out, HN.out, h_]; rfl⟩
   have yes : Aside0 (dep1 a0 l0 x.toNat = true → l1d a0 l0 = (okFrom (dep1 a0 l0) (l0.length - (x + 1).toNat) (x + 1).toNat && decide (l0.length ≤ 2))) := ⟨fun h_ => by rw [HE.out, HN.out, h_]; rfl⟩
   have D : Aside0 (dep1 a0 l0 x.toNat = (b1 && (!decide (F0 = a0) && (b2 && (x.toNat == 0 || decide ((l0.getD (x.toNat - 1) z66).f0 < F0)))))) := ⟨by
    unfold dep1
    rw [← show _ = (l0.getD x.toNat z66).f0 from HF.out.1, ← show _ = (l0.getD x.toNat z66).f1 from HF.out.2, B1.out, B2.out]⟩
   clear HE HN HF B1 B2
   have HL2 := HL.out
   go_wp2
   have n0_ := Aside0.mk (below_alloc HB.out (Obj.cells #[.int .i64 F0, .int .i64 F1] 66))
   have n1_ := (below_alloc (Below.refl wr.heap.size wr) (Obj.cells #[.int .i64 F0, .int .i64 F1] 66))
   have k0 : (wr.alloc (Obj.cells #[.int .i64 F0, .int .i64 F1] 66)).cell? ⟨wr.heap.size, 0, none⟩ = some (.int .i64 F0) := by simp
   have k1 : (wr.alloc (Obj.cells #[.int .i64 F0, .int .i64 F1] 66)).cell? ⟨wr.heap.size, 1, none⟩ = some (.int .i64 F1) := by simp
   clear HB c0 c1 n1_
   generalize wr.alloc (Obj.cells #[.int .i64 F0, .int .i64 F1] 66) = W at n0_ k0 k1 ⊢
   generalize wr.heap.size = gb at k0 k1 ⊢
   have HB := n0_
   clear n0_
   cases b1 with
   | false =>
    go_quiet ((go_at_call 52; (first | with_reducible refine (C1.out _).mono ?_ | with_reducible refine (C2.out _).mono ?_); exact fun _ _ h_ => ⟨h_.1, _, h_.2⟩))
    go_wp2
    go_ret
    rw [no.out (by rw [D.out]; rfl)]
    exact ⟨by first | rfl | simp [*], by repeat (first | exact HB.out | apply pw_below_drewN)⟩
   | true =>
    by_cases he : F0 = a0
    ·have N := Aside0.mk (no.out (by rw [D.out, decide_eq_true he]; rfl))
     have e1 : (F0 == a0) = true := beq_iff_eq.mpr he
     clear yes no D he
     go_quiet ((go_at_call 52; (first | with_reducible refine (C1.out _).mono ?_ | with_reducible refine (C2.out _).mono ?_); exact fun _ _ h_ => ⟨h_.1, _, h_.2⟩))
     go_wp2
     go_ret
     rw [N.out]
     exact ⟨by first | rfl | simp [*], by repeat (first | exact HB.out | apply pw_below_drewN)⟩
    ·have e1 : (F0 == a0) = false := beq_eq_false_iff_ne.mpr he
     replace D := Aside0.mk (D.out.trans (by rw [decide_eq_false he]))
     clear he
     cases b2 with
     | false =>
      go_quiet ((go_at_call 52; (first | with_reducible refine (C1.out _).mono ?_ | with_reducible refine (C2.out _).mono ?_); exact fun _ _ h_ => ⟨h_.1, _, h_.2⟩))
      go_wp2
      go_ret
      rw [no.out (by rw [D.out]; rfl)]
      exact ⟨by first | rfl | simp [*], by repeat (first | exact HB.out | apply pw_below_drewN)⟩
     | true =>
      by_cases hz : x ≤ 0
      ·have hx4 : decide (0 < x) = false := decide_eq_false (by omega)
       have Y := Aside0.mk (yes.out (by rw [D.out, show (x.toNat == 0) = true by rw [beq_iff_eq]; omega]; rfl))
       clear yes no D hz
       go_quiet ((go_at_call 52; (first | with_reducible refine (C1.out _).mono ?_ | with_reducible refine (C2.out _).mono ?_); exact fun _ _ h_ => ⟨h_.1, _, h_.2⟩))
       go_wp2
       go_roundw
       case rel => exact ⟨x + 1, by omega, by omega, by first | rfl | simp, Y, ⟨by repeat (first | exact HB.out | apply pw_below_drewN)⟩⟩
       case measure => simp [intOf]; omega
      ·have g0 : 0 < x := by omega
       clear hz
       obtain ⟨y, hy⟩ : ∃ y, y = x - 1 := ⟨_, rfl⟩
       have hw : IntKind.i64.wrap (x - 1) = y := by rw [i64_w, hy]; unfold wrap64; omega
       obtain ⟨ad2, e2, d0, d1⟩ := at_T66 HR.out y (by omega) (by omega)
       obtain ⟨G0, hG0⟩ : ∃ G0, G0 = (rd_T66 l0 y).f0 := ⟨_, rfl⟩
       obtain ⟨G1, hG1⟩ : ∃ G1, G1 = (rd_T66 l0 y).f1 := ⟨_, rfl⟩
       rw [← hG0] at d0
       rw [← hG1] at d1
       cases e2
       replace d0 := (HB.out.cell (World.block_lt_of_cell? w _ d0)).trans d0
       replace d1 := (HB.out.cell (World.block_lt_of_cell? w _ d1)).trans d1
       have HG := Aside0.mk hG0
       clear hG0 hG1
       have hx2 : 0 ≤ y := by omega
       have hx3 : decide (y < (l0.length : Int)) = true := decide_eq_true (by omega)
       have hx4 : decide (0 < x) = true := decide_eq_true g0
       have hx5 : y < (l0.length : Int) := by omega
       have HY := Aside0.mk hy
       clear hy
       have FD : Aside0 (dep1 a0 l0 x.toNat = decide (G0 < F0)) := ⟨by
        rw [D.out, show (x.toNat == 0) = false by rw [beq_eq_false_iff_ne]; omega, show x.toNat - 1 = y.toNat by have := HY.out; omega, ← show _ = (l0.getD y.toNat z66).f0 from HG.out]; rfl⟩
       by_cases hc : F0 ≤ G0
       ·have cb : decide (F0 ≤ G0) = true := decide_eq_true hc
        have N := Aside0.mk (no.out (by rw [FD.out, decide_eq_false (by omega)]))
        clear yes no hc D
        go_quiet ((go_at_call 52; (first | with_reducible refine (C1.out _).mono ?_ | with_reducible refine (C2.out _).mono ?_); exact fun _ _ h_ => ⟨h_.1, _, h_.2⟩))
        go_wp2
        go_ret
        rw [N.out]
        exact ⟨by first | rfl | simp [*], by repeat (first | exact HB.out | apply pw_below_drewN)⟩
       ·have cb : decide (F0 ≤ G0) = false := decide_eq_false hc
        have Y := Aside0.mk (yes.out (by rw [FD.out, decide_eq_true (by omega)]))
        clear yes no hc D
        go_quiet ((go_at_call 52; (first | with_reducible refine (C1.out _).mono ?_ | with_reducible refine (C2.out _).mono ?_); exact fun _ _ h_ => ⟨h_.1, _, h_.2⟩))
        go_wp2
        go_roundw
        case rel => exact ⟨x + 1, by omega, by omega, by first | rfl | simp, Y, ⟨by repeat (first | exact HB.out | apply pw_below_drewN)⟩⟩
        case measure => simp [intOf]; omega
  ·have hxe : x = (l0.length : Int) := by omega
   have q1 : decide (x < (l0.length : Int)) = false := decide_eq_false hlt
   have E := Aside0.mk (show l1d a0 l0 = decide ((l0.length : Int) ≤ 2) by
    rw [HE.out, hxe, Int.toNat_natCast, Nat.sub_self]
    simp only [okFrom, Bool.true_and]
    rw [Bool.eq_iff_iff, decide_eq_true_eq, decide_eq_true_eq]; omega)
   clear hxe HE
   go_wp2
   go_ret
   rw [E.out]
   exact ⟨by first | rfl | simp [*], by repeat (first | exact HB.out | apply pw_below_drewN)⟩
def spec_l1Deps.f (_k : Nat) (a0 : Int) (l1 : List S66) : Option Bool := some (l1d a0 l1)
theorem spec_l1Deps.mono : ∀ a0 a1 k, LeO (spec_l1Deps.f k a0 a1) (spec_l1Deps.f (k + 1) a0 a1) := fun _ _ _ _ h => h
theorem spec_l1Deps.calls (k : Nat) (a0 : Int) (A1 : Option Addr) (c1 : Nat) (l1 : List S66) (r : Bool) (w : World) (hr1 : Kd.C k66 w A1 l1.length l1) (hc1 : l1.length ≤ c1) (h : spec_l1Deps.f k a0 l1 = some r) :
  Calls Tryd.prog 54 #[.int .i64 a0, .slice A1 l1.length c1] w fun e w' => e = .returned (.bool r) ∧ Below w.heap.size w w' := by
 obtain rfl := Option.some.inj h
 exact l1d_calls a0 A1 c1 l1 w hr1 hc1

/-! ### spec_PkgOk: function 29 -/
def spec_PkgOk.f (k : Nat) (a0_0 : Int) (a0_1 : Int) (l0_2 : List (S63)) (l0_3 : List (S66)) : Option (Bool) := (spec_l6In.f a0_0 1 4).bind fun t140 => (if t140 = true then ((spec_l6In.f a0_1 1 5).bind fun t141 => (if t141 = true then ((spec_l1Files.f k l0_2).bind fun t142 => (if t142 = true then ((spec_l1Deps.f k a0_0 l0_3).bind fun t143 => (some t143)) else (some false))) else (some false))) else (some false))
theorem spec_PkgOk.mono : ∀ a0 a1 a2 a3 k, LeO (spec_PkgOk.f k a0 a1 a2 a3) (spec_PkgOk.f (k + 1) a0 a1 a2 a3) := by
 intro a0 a1 a2 a3 k
 unfold spec_PkgOk.f
 repeat' first
   | (with_reducible exact spec_l1Deps.mono _ _ _)
   | (with_reducible exact spec_l1Files.mono _ _)
   | (with_reducible exact LeO.refl _)
   | (with_reducible exact LeO.none _)
   | (with_reducible refine LeO.ite ?_ ?_)
   | (with_reducible refine LeO.bind ?_ (fun _ => ?_))
   | exact spec_l1Deps.mono _ _ _
   | exact spec_l1Files.mono _ _
   | exact LeO.none _
   | refine LeO.ite ?_ ?_
   | refine LeO.bind ?_ (fun _ => ?_)
set_option maxHeartbeats 8000000 in
set_option maxRecDepth 100000 in
theorem spec_PkgOk.calls (k : Nat) (a0_0 : Int) (a0_1 : Int) (A0_2 : Option Addr) (c0_2 : Nat) (l0_2 : List (S63)) (A0_3 : Option Addr) (c0_3 : Nat) (l0_3 : List (S66)) (r : Bool) (w : World) (hr0_2 : Kd.C k63 w A0_2 l0_2.length l0_2) (hc0_2 : l0_2.length ≤ c0_2) (hr0_3 : Kd.C k66 w A0_3 l0_3.length l0_3) (hc0_3 : l0_3.length ≤ c0_3) (h : spec_PkgOk.f k a0_0 a0_1 l0_2 l0_3 = some r) :
  Calls Tryd.prog 29 #[.agg #[.int .i64 a0_0, .int .i64 a0_1, .slice A0_2 l0_2.length c0_2, .slice A0_3 l0_3.length c0_3]] w fun e w' => e = .returned (.bool r) ∧ Below w.heap.size w w' := by
 have hu26 := Tryd.underlying26
 have HR0_2 := Aside0.mk hr0_2
 have HC0_2 := Aside0.mk hc0_2
 clear hr0_2 hc0_2
 have HR0_3 := Aside0.mk hr0_3
 have HC0_3 := Aside0.mk hc0_3
 clear hr0_3 hc0_3
 have HB := Aside0.mk (Below.refl w.heap.size w)
 have H : ((spec_l6In.f a0_0 1 4).bind fun t140 => (if t140 = true then ((spec_l6In.f a0_1 1 5).bind fun t141 => (if t141 = true then ((spec_l1Files.f k l0_2).bind fun t142 => (if t142 = true then ((spec_l1Deps.f k a0_0 l0_3).bind fun t143 => (some t143)) else (some false))) else (some false))) else (some false))) = some r := h
 clear h
 replace H := Option.bind_eq_some_iff.mp H
 obtain ⟨t140, A20, H⟩ := H
 replace H : (if t140 = true then ((spec_l6In.f a0_1 1 5).bind fun t141 => (if t141 = true then ((spec_l1Files.f k l0_2).bind fun t142 => (if t142 = true then ((spec_l1Deps.f k a0_0 l0_3).bind fun t143 => (some t143)) else (some false))) else (some false))) else (some false)) = some r := H
 have A2 := Aside0.mk A20
 clear A20
 by_cases c3 : t140 = true
 ·subst c3
  have H1 : ((spec_l6In.f a0_1 1 5).bind fun t141 => (if t141 = true then ((spec_l1Files.f k l0_2).bind fun t142 => (if t142 = true then ((spec_l1Deps.f k a0_0 l0_3).bind fun t143 => (some t143)) else (some false))) else (some false))) = some r := by rw [if_pos rfl] at H; exact H
  clear H
  have H := H1
  clear H1
  replace H := Option.bind_eq_some_iff.mp H
  obtain ⟨t141, A40, H⟩ := H
  replace H : (if t141 = true then ((spec_l1Files.f k l0_2).bind fun t142 => (if t142 = true then ((spec_l1Deps.f k a0_0 l0_3).bind fun t143 => (some t143)) else (some false))) else (some false)) = some r := H
  have A4 := Aside0.mk A40
  clear A40
  by_cases c5 : t141 = true
  ·subst c5
   have H1 : ((spec_l1Files.f k l0_2).bind fun t142 => (if t142 = true then ((spec_l1Deps.f k a0_0 l0_3).bind fun t143 => (some t143)) else (some false))) = some r := by rw [if_pos rfl] at H; exact H
   clear H
   have H := H1
   clear H1
   replace H := Option.bind_eq_some_iff.mp H
   obtain ⟨t142, A60, H⟩ := H
   replace H : (if t142 = true then ((spec_l1Deps.f k a0_0 l0_3).bind fun t143 => (some t143)) else (some false)) = some r := H
   have A6 := Aside0.mk A60
   clear A60
   by_cases c7 : t142 = true
   ·subst c7
    have H1 : ((spec_l1Deps.f k a0_0 l0_3).bind fun t143 => (some t143)) = some r := by rw [if_pos rfl] at H; exact H
    clear H
    have H := H1
    clear H1
    replace H := Option.bind_eq_some_iff.mp H
    obtain ⟨t143, A80, H⟩ := H
    replace H : (some t143) = some r := H
    have A8 := Aside0.mk A80
    clear A80
    obtain rfl := Option.some.inj H
    go_enter Tryd.func29, Tryd.ntmps29
    go_wp2_with (first | ((with_reducible refine gate_dst (N := 1) rfl ?_); refine box_event ?hg (N := 1) ?hd (cs := #[.int .i64 a0_0, .int .i64 a0_1, .slice A0_2 l0_2.length c0_2, .slice A0_3 l0_3.length c0_3]) (t := 26) ?hr ?_; (case hd => rfl); (case hg => rfl); (case hr => first | (go_simp; done) | (go_simp; rfl)); intro gb139 hg w9 hbox hb; have n0_ := Aside0.mk (below_step (by exact zB HB.out) hb); have n1_ := Aside0.mk (hbox); have n2_ := Aside0.mk ((by rw [hg]; exact (below_size (by exact zB HB.out)) : w.heap.size ≤ gb139)); have n3_ := Aside0.mk ((by rw [hg]; exact (below_size (by exact zB HB.out)) : w.heap.size ≤ gb139)); clear HB; have HB := n0_; have BK139 := n1_; have GW139 := n2_; have GE139 := n3_; clear n0_ n1_ n2_ n3_; clear hb hbox hg; obtain ⟨hcz10_0, hcz10_1, hcz10_2, hcz10_3, hfz10_0, hfz10_1, hfz10_2, hfz10_3⟩ := zc4f BK139.out) | ((with_reducible refine gate_callee (f := 52) rfl ?_); refine goesL_ (some 5) rfl rfl Tryd.func52 (by kernel_rfl) rfl #[.int .i64 a0_0, .int .i64 1, .int .i64 4] rfl (by (try simp only [zm1, zm2, zm3]); first | done | rfl | (simp only [List.length_drop, List.length_take]; rfl)) ?_; (with_reducible refine (spec_l6In.calls a0_0 1 4 true _ A2.out).mono ?_); rintro e w' ⟨rfl, ⟨nd, rfl⟩⟩; refine ⟨_, rfl, ?_⟩) | (go_at_call 52; (with_reducible refine (spec_l6In.calls a0_1 1 5 true _ A4.out).mono ?_); rintro e w' ⟨rfl, ⟨nd, rfl⟩⟩) | (go_at_call 53; (with_reducible refine (spec_l1Files.calls k _ _ l0_2 true _ ?side1 ?side2 A6.out).mono ?_); (case side1 => exact (Kd.C_below HR0_2.out (by exact zB1 HB.out GE139.out))); (case side2 => exact HC0_2.out); rintro e w11 ⟨rfl, hb⟩; have n0_ := Aside0.mk (blk_below (g := gb139) (o := .cells #[.int .i64 a0_0, .int .i64 a0_1, .slice A0_2 l0_2.length c0_2, .slice A0_3 l0_3.length c0_3] 26 (0, 0)) (by exact zK BK139.out) hb); have n1_ := Aside0.mk (below_step (by exact zB1 HB.out GE139.out) hb); clear BK139; clear HB; have BK139 := n0_; have HB := n1_; clear n0_ n1_; (try clear hb); (try clear hb2); (try clear hk); (try clear hi); obtain ⟨hcz12_0, hcz12_1, hcz12_2, hcz12_3, hfz12_0, hfz12_1, hfz12_2, hfz12_3⟩ := zc4f BK139.out) | (go_at_call 54; (with_reducible refine (spec_l1Deps.calls k a0_0 _ _ l0_3 t143 _ ?side1 ?side2 A8.out).mono ?_); (case side1 => exact zC (Kd.C_below HR0_3.out HB.out)); (case side2 => exact HC0_3.out); rintro e w13 ⟨rfl, hb⟩; have n0_ := Aside0.mk (blk_below (g := gb139) (o := .cells #[.int .i64 a0_0, .int .i64 a0_1, .slice A0_2 l0_2.length c0_2, .slice A0_3 l0_3.length c0_3] 26 (0, 0)) (by exact zK BK139.out) hb); have n1_ := Aside0.mk (below_step (by exact zB1 HB.out GE139.out) hb); clear BK139; clear HB; have BK139 := n0_; have HB := n1_; clear n0_ n1_; (try clear hb); (try clear hb2); (try clear hk); (try clear hi)))
    go_ret
    exact ⟨by first | rfl | (simp [errW_none, errW_some] <;> rfl) | (simp [*, errW_none, errW_some] <;> rfl), by exact zB1 HB.out GE139.out⟩
   ·replace c7 := Bool.eq_false_iff.mpr c7
    subst c7
    have H1 : (some false) = some r := by rw [if_neg (show ¬ (false = true) by decide)] at H; exact H
    clear H
    have H := H1
    clear H1
    obtain rfl := Option.some.inj H
    go_enter Tryd.func29, Tryd.ntmps29
    go_wp2_with (first | ((with_reducible refine gate_dst (N := 1) rfl ?_); refine box_event ?hg (N := 1) ?hd (cs := #[.int .i64 a0_0, .int .i64 a0_1, .slice A0_2 l0_2.length c0_2, .slice A0_3 l0_3.length c0_3]) (t := 26) ?hr ?_; (case hd => rfl); (case hg => rfl); (case hr => first | (go_simp; done) | (go_simp; rfl)); intro gb139 hg w14 hbox hb; have n0_ := Aside0.mk (below_step (by exact zB HB.out) hb); have n1_ := Aside0.mk (hbox); have n2_ := Aside0.mk ((by rw [hg]; exact (below_size (by exact zB HB.out)) : w.heap.size ≤ gb139)); have n3_ := Aside0.mk ((by rw [hg]; exact (below_size (by exact zB HB.out)) : w.heap.size ≤ gb139)); clear HB; have HB := n0_; have BK139 := n1_; have GW139 := n2_; have GE139 := n3_; clear n0_ n1_ n2_ n3_; clear hb hbox hg; obtain ⟨hcz15_0, hcz15_1, hcz15_2, hcz15_3, hfz15_0, hfz15_1, hfz15_2, hfz15_3⟩ := zc4f BK139.out) | ((with_reducible refine gate_callee (f := 52) rfl ?_); refine goesL_ (some 5) rfl rfl Tryd.func52 (by kernel_rfl) rfl #[.int .i64 a0_0, .int .i64 1, .int .i64 4] rfl (by (try simp only [zm1, zm2, zm3]); first | done | rfl | (simp only [List.length_drop, List.length_take]; rfl)) ?_; (with_reducible refine (spec_l6In.calls a0_0 1 4 true _ A2.out).mono ?_); rintro e w' ⟨rfl, ⟨nd, rfl⟩⟩; refine ⟨_, rfl, ?_⟩) | (go_at_call 52; (with_reducible refine (spec_l6In.calls a0_1 1 5 true _ A4.out).mono ?_); rintro e w' ⟨rfl, ⟨nd, rfl⟩⟩) | (go_at_call 53; (with_reducible refine (spec_l1Files.calls k _ _ l0_2 false _ ?side1 ?side2 A6.out).mono ?_); (case side1 => exact (Kd.C_below HR0_2.out (by exact zB1 HB.out GE139.out))); (case side2 => exact HC0_2.out); rintro e w16 ⟨rfl, hb⟩; have n0_ := Aside0.mk (blk_below (g := gb139) (o := .cells #[.int .i64 a0_0, .int .i64 a0_1, .slice A0_2 l0_2.length c0_2, .slice A0_3 l0_3.length c0_3] 26 (0, 0)) (by exact zK BK139.out) hb); have n1_ := Aside0.mk (below_step (by exact zB1 HB.out GE139.out) hb); clear BK139; clear HB; have BK139 := n0_; have HB := n1_; clear n0_ n1_; (try clear hb); (try clear hb2); (try clear hk); (try clear hi)))
    go_ret
    exact ⟨by first | rfl | (simp [errW_none, errW_some] <;> rfl) | (simp [*, errW_none, errW_some] <;> rfl), by exact zB1 HB.out GE139.out⟩
  ·replace c5 := Bool.eq_false_iff.mpr c5
   subst c5
   have H1 : (some false) = some r := by rw [if_neg (show ¬ (false = true) by decide)] at H; exact H
   clear H
   have H := H1
   clear H1
   obtain rfl := Option.some.inj H
   go_enter Tryd.func29, Tryd.ntmps29
   go_wp2_with (first | ((with_reducible refine gate_dst (N := 1) rfl ?_); refine box_event ?hg (N := 1) ?hd (cs := #[.int .i64 a0_0, .int .i64 a0_1, .slice A0_2 l0_2.length c0_2, .slice A0_3 l0_3.length c0_3]) (t := 26) ?hr ?_; (case hd => rfl); (case hg => rfl); (case hr => first | (go_simp; done) | (go_simp; rfl)); intro gb139 hg w17 hbox hb; have n0_ := Aside0.mk (below_step (by exact zB HB.out) hb); have n1_ := Aside0.mk (hbox); have n2_ := Aside0.mk ((by rw [hg]; exact (below_size (by exact zB HB.out)) : w.heap.size ≤ gb139)); have n3_ := Aside0.mk ((by rw [hg]; exact (below_size (by exact zB HB.out)) : w.heap.size ≤ gb139)); clear HB; have HB := n0_; have BK139 := n1_; have GW139 := n2_; have GE139 := n3_; clear n0_ n1_ n2_ n3_; clear hb hbox hg; obtain ⟨hcz18_0, hcz18_1, hcz18_2, hcz18_3, hfz18_0, hfz18_1, hfz18_2, hfz18_3⟩ := zc4f BK139.out) | ((with_reducible refine gate_callee (f := 52) rfl ?_); refine goesL_ (some 5) rfl rfl Tryd.func52 (by kernel_rfl) rfl #[.int .i64 a0_0, .int .i64 1, .int .i64 4] rfl (by (try simp only [zm1, zm2, zm3]); first | done | rfl | (simp only [List.length_drop, List.length_take]; rfl)) ?_; (with_reducible refine (spec_l6In.calls a0_0 1 4 true _ A2.out).mono ?_); rintro e w' ⟨rfl, ⟨nd, rfl⟩⟩; refine ⟨_, rfl, ?_⟩) | (go_at_call 52; (with_reducible refine (spec_l6In.calls a0_1 1 5 false _ A4.out).mono ?_); rintro e w' ⟨rfl, ⟨nd, rfl⟩⟩))
   go_ret
   exact ⟨by first | rfl | (simp [errW_none, errW_some] <;> rfl) | (simp [*, errW_none, errW_some] <;> rfl), by exact zB1 HB.out GE139.out⟩
 ·replace c3 := Bool.eq_false_iff.mpr c3
  subst c3
  have H1 : (some false) = some r := by rw [if_neg (show ¬ (false = true) by decide)] at H; exact H
  clear H
  have H := H1
  clear H1
  obtain rfl := Option.some.inj H
  go_enter Tryd.func29, Tryd.ntmps29
  go_wp2_with (first | ((with_reducible refine gate_dst (N := 1) rfl ?_); refine box_event ?hg (N := 1) ?hd (cs := #[.int .i64 a0_0, .int .i64 a0_1, .slice A0_2 l0_2.length c0_2, .slice A0_3 l0_3.length c0_3]) (t := 26) ?hr ?_; (case hd => rfl); (case hg => rfl); (case hr => first | (go_simp; done) | (go_simp; rfl)); intro gb139 hg w19 hbox hb; have n0_ := Aside0.mk (below_step (by exact zB HB.out) hb); have n1_ := Aside0.mk (hbox); have n2_ := Aside0.mk ((by rw [hg]; exact (below_size (by exact zB HB.out)) : w.heap.size ≤ gb139)); have n3_ := Aside0.mk ((by rw [hg]; exact (below_size (by exact zB HB.out)) : w.heap.size ≤ gb139)); clear HB; have HB := n0_; have BK139 := n1_; have GW139 := n2_; have GE139 := n3_; clear n0_ n1_ n2_ n3_; clear hb hbox hg; obtain ⟨hcz20_0, hcz20_1, hcz20_2, hcz20_3, hfz20_0, hfz20_1, hfz20_2, hfz20_3⟩ := zc4f BK139.out) | ((with_reducible refine gate_callee (f := 52) rfl ?_); refine goesL_ (some 5) rfl rfl Tryd.func52 (by kernel_rfl) rfl #[.int .i64 a0_0, .int .i64 1, .int .i64 4] rfl (by (try simp only [zm1, zm2, zm3]); first | done | rfl | (simp only [List.length_drop, List.length_take]; rfl)) ?_; (with_reducible refine (spec_l6In.calls a0_0 1 4 false _ A2.out).mono ?_); rintro e w' ⟨rfl, ⟨nd, rfl⟩⟩; refine ⟨_, rfl, ?_⟩))
  go_ret
  exact ⟨by first | rfl | (simp [errW_none, errW_some] <;> rfl) | (simp [*, errW_none, errW_some] <;> rfl), by exact zB1 HB.out GE139.out⟩

end Go.Proofs.YtlmgnnpmcdeclaaDoor.PFnIndexOne
