-- printed for this claim by a program out of the translation, its tactics shortened by another
import Derived.Test.YtkjgnnjcjkphbaaDoorPFnIndexStrictx1
namespace Go.Proofs.YtkjgnnjcjkphbaaDoor.PFnIndexStrict
open Go.RowKit Go.Proofs.YtkjgnnjcjkphbaaDoorW.PrintWords Go.Proofs.YtkjgnnjcjkphbaaDoorW.PrintLast Go.Proofs.YtkjgnnjcjkphbaaDoorW.PrintMore
attribute [local go_sem] max2_int min2_int max_two min_two max_three min_three max_four min_four   -- for this text's walks alone
set_option linter.unusedVariables false
set_option linter.unusedSimpArgs false

/-! ### strconv_Atoi: function 59 -/
def atV (s : ByteArray) : Int := match Lib.atoiAll s.data.toList with
 | .ok v => v
 | .range => Lib.atoiSat s.data.toList
 | _ => 0
def strconv_Atoi.f (s : ByteArray) : Option (Int × Option Int) := if s.size ≤ 281474976710656 then some (atV s, none) else none
theorem strconv_Atoi.calls (a0 : ByteArray) (r1 : Int) (r2 : Option Int) (w : World) (hLD : LaidW w) (h : strconv_Atoi.f a0 = some (r1, r2)) :
  Calls Tryd.prog 59 #[.string a0] w fun e w' => ∃ ev : Value, e = .returned (.tuple #[.int .i64 r1, ev]) ∧ Below w.heap.size w w' := by
 unfold strconv_Atoi.f at h
 split at h
 ·rename_i hc; obtain ⟨rfl, _⟩ := Prod.mk.inj (Option.some.inj h); unfold atV; cases ha : Lib.atoiAll a0.data.toList with
  | ok v =>
   refine (Tryd.strconv_Atoi_ok a0 (by omega) v ha w).mono ?_; rintro e w' ⟨rfl, hw⟩; refine ⟨_, rfl, ?_⟩
   rcases hw with rfl | ⟨t, rfl⟩
   ·exact Below.refl _ _
   ·exact Lib.bytesWorld_below w _ t
  | range =>
   obtain ⟨ev, hv, hev⟩ := hLD.ran; refine (Tryd.strconv_Atoi_range a0 hc ha ev w hv hev).mono ?_; rintro e w' ⟨N, rfl, _, _, hb⟩; exact ⟨_, rfl, hb⟩
  | _ =>
   obtain ⟨ev, hv, hev⟩ := hLD.syn; refine (Tryd.strconv_Atoi_syntax a0 hc ha ev w hv hev).mono ?_; rintro e w' ⟨N, rfl, _, _, hb⟩; exact ⟨_, rfl, hb⟩
 ·cases h

/-! ### impl_nameRead: function 57 -/
def impl_nameRead.f (a0 : ByteArray) : Option (Int × Int) := if a0.toList = ([] : List UInt8) then (some (0, 0)) else (if 1 ≤ (a0.size : Int) then ((strconv_Atoi.f (a0.extract 1 a0.size)).bind fun bt159 => (if 0 < (a0.size : Int) then (some (wrap64 ((wrap64 ((wrap64 (bt a0 0)) - 97)) + 1), bt159.1)) else (none))) else (none))
set_option maxHeartbeats 8000000 in
set_option maxRecDepth 100000 in
theorem impl_nameRead.calls (a0 : ByteArray) (r1 : Int) (r2 : Int) (w : World) (hLD : LaidW w) (h : impl_nameRead.f a0 = some (r1, r2)) :
  Calls Tryd.prog 57 #[.string a0] w fun e w' => e = .returned (.tuple #[.int .i64 r1, .int .i64 r2]) ∧ Below w.heap.size w w' := by
 have HB := aM (Below.refl w.heap.size w); have HLD := aM hLD; clear hLD; have H : (if a0.toList = ([] : List UInt8) then (some (0, 0)) else (if 1 ≤ (a0.size : Int) then ((strconv_Atoi.f (a0.extract 1 a0.size)).bind fun bt159 => (if 0 < (a0.size : Int) then (some (wrap64 ((wrap64 ((wrap64 (bt a0 0)) - 97)) + 1), bt159.1)) else (none))) else (none))) = some (r1, r2) := h; clear h
 by_cases c2 : a0.toList = ([] : List UInt8)
 ·rw [if_pos c2] at H; have c2b0 : (a0.toList == ([] : List UInt8)) = true := beq_iff_eq.mpr c2; have c2b1 : (a0.toList != ([] : List UInt8)) = false := bne_eq_false_iff_eq.mpr c2; clear c2; simp only [Option.some.injEq, Prod.mk.injEq] at H; obtain ⟨rfl, rfl⟩ := H
  go_enter Tryd.func57, Tryd.ntmps57
  go_wp2
  go_ret2
  exact ⟨by first | rfl | (simp [errW_none, errW_some] <;> rfl) | (simp [*, errW_none, errW_some] <;> rfl), by exact zB HB.1⟩
 ·rw [if_neg c2] at H; have c2b0 : (a0.toList == ([] : List UInt8)) = false := beq_eq_false_iff_ne.mpr c2; have c2b1 : (a0.toList != ([] : List UInt8)) = true := bne_iff_ne.mpr c2; replace H := zif H; obtain ⟨c3, H⟩ := H; have c3b0 := eq_true c3; have c3b1 : decide (1 ≤ (a0.size : Int)) = true := decide_eq_true c3; clear c3; replace H := Option.bind_eq_some_iff.mp H; obtain ⟨⟨t159, t160⟩, A40, H⟩ := H; (try dsimp only at H); have A4 := aM A40; clear A40; replace H := zif H; obtain ⟨c5, H⟩ := H; have c5b0 : decide (0 < (a0.size : Int)) = true := decide_eq_true c5; have c5b1 : decide (0 < a0.size) = true := decide_eq_true (by omega); clear c5; simp only [Option.some.injEq, Prod.mk.injEq] at H; obtain ⟨rfl, rfl⟩ := H
  go_enter Tryd.func57, Tryd.ntmps57
  go_wp2_with (first | ((with_reducible refine gate_callee (f := 59) rfl ?_); refine zgL (some 11) Tryd.func59 #[.string (a0.extract 1 a0.size)] ?_; (with_reducible refine (strconv_Atoi.calls (a0.extract 1 a0.size) t159 t160 _ ?sideL A4.1).mono ?_); (case sideL => exact HLD.1.on (zB HB.1)); rintro e w7 ⟨ev_, rfl, hb⟩; refine ⟨_, rfl, ?_⟩; have _ := aM (below_step (zB HB.1) hb); clear HB; rename_i HB; (try clear hb); (try clear hb2); (try clear hk); (try clear hi); (try simp only [errW_none, errW_some]); have p6 : 0 ≤ (0 : Int) := (by omega); have q6 : 0 < a0.size := (by have : (0 : Int) < (a0.size : Int) := zd; omega); have hx6 : ∀ h : 0 < a0.size, ((a0[0]'h).toNat : Int) = bt a0 0 := bt_at a0 0; clear p6; have qi6 : (0 < (a0.size : Int)) = True := eq_true (zd); replace q6 := eq_true q6))
  go_ret2
  exact ⟨by first | rfl | (simp [errW_none, errW_some] <;> rfl) | (simp [*, errW_none, errW_some] <;> rfl), by exact zB HB.1⟩

/-! ### strings_Cut: function 58 -/
def strings_Cut.f (s sep : ByteArray) : Option (ByteArray × ByteArray × Bool) := if s.size < 4294967281 then some (⟨(Lib.cut s.data.toList sep.data.toList).1.toArray⟩, ⟨(Lib.cut s.data.toList sep.data.toList).2.1.toArray⟩, (Lib.cut s.data.toList sep.data.toList).2.2) else none
theorem strings_Cut.calls (a0 a1 : ByteArray) (r1 r2 : ByteArray) (r3 : Bool) (w : World) (hLD : LaidW w) (h : strings_Cut.f a0 a1 = some (r1, r2, r3)) :
  Calls Tryd.prog 58 #[.string a0, .string a1] w fun e w' => e = .returned (.tuple #[.string r1, .string r2, .bool r3]) ∧ Below w.heap.size w w' := by
 unfold strings_Cut.f at h
 split at h
 ·rename_i hc; obtain ⟨e1, e2⟩ := Prod.mk.inj (Option.some.inj h); obtain ⟨e3, e4⟩ := Prod.mk.inj e2; subst e1 e3 e4; obtain ⟨m, hm⟩ := hLD.len; refine (Tryd.strings_Cut a0 a1 m w hc hm).mono ?_; rintro e w' ⟨rfl, n, rfl⟩; exact ⟨rfl, pw_below_drewN (Below.refl _ _) n⟩
 ·cases h

/-! ### strings_TrimSuffix: function 68 -/
def strings_TrimSuffix.f (s p : ByteArray) : Option ByteArray := if s.size ≤ 9223372036854775807 then some ⟨(Lib.trimSuffix s.data.toList p.data.toList).toArray⟩ else none
theorem strings_TrimSuffix.calls (a0 a1 : ByteArray) (r : ByteArray) (w : World) (h : strings_TrimSuffix.f a0 a1 = some r) :
  Calls Tryd.prog 68 #[.string a0, .string a1] w fun e w' => e = .returned (.string r) ∧ Below w.heap.size w w' := by
 unfold strings_TrimSuffix.f at h
 split at h
 ·rename_i hc; obtain rfl := Option.some.inj h; refine (Tryd.strings_TrimSuffix a0 a1 w hc).mono ?_; rintro e w' ⟨rfl, rfl⟩; exact ⟨rfl, Below.refl _ _⟩
 ·cases h

/-! ### impl_IndexRead: function 27 -/
def impl_IndexRead.l0 : Nat → ByteArray → List ByteArray → Int → Int → Int → Int → List (S40) → Option (Int × Int × (List (S40)) × Bool)
 | 0, _, _, _, _, _, _, _ => none
 | k + 1, x0, x20, x21, x22, x163000, x163001, x163002 => if x22 < x21 then (if 0 ≤ x22 then (if x22 < (x20.length : Int) then ((strings_Cut.f (rdOf ByteArray.empty x20 x22) (⟨#[32]⟩ : ByteArray)).bind fun bt168 => ((strconv_Atoi.f bt168.2.1).bind fun bt171 => (if x22 = 0 then ((strconv_Atoi.f bt168.1).bind fun bt173 => (impl_IndexRead.l0 k x0 x20 x21 (wrap64 (x22 + 1)) bt173.1 bt171.1 x163002)) else ((impl_nameRead.f bt168.1).bind fun bt175 => (if x163002.length < 5864062014805 then (impl_IndexRead.l0 k x0 x20 x21 (wrap64 (x22 + 1)) x163000 x163001 (x163002 ++ [(⟨bt175.1, bt175.2, bt171.1⟩ : S40)])) else (none)))))) else (none)) else (none)) else ((impl_IndexOk.f k x163000 x163001 x163002).bind fun t180 => (if t180 = true then ((impl_IndexText.f k x163000 x163001 x163002).bind fun t181 => (if t181.toList = x0.toList then (some (x163000, x163001, x163002, true)) else (some (0, 0, ([] : List (S40)), false)))) else (some (0, 0, ([] : List (S40)), false))))
def impl_IndexRead.f (k : Nat) (a0 : ByteArray) : Option (Int × Int × (List (S40)) × Bool) := if (a0.size : Int) > 120 then (some (0, 0, ([] : List (S40)), false)) else ((strings_TrimSuffix.f a0 (⟨#[10]⟩ : ByteArray)).bind fun t163 => ((strings_Split.f t163 (⟨#[10]⟩ : ByteArray)).bind fun t164 => (impl_IndexRead.l0 k a0 t164 (t164.length : Int) 0 0 0 ([] : List (S40)))))
theorem impl_IndexRead.mono_l : ∀ k, (∀ y0 y1 y2 y3 y4 y5 y6, LeO (impl_IndexRead.l0 k y0 y1 y2 y3 y4 y5 y6) (impl_IndexRead.l0 (k + 1) y0 y1 y2 y3 y4 y5 y6))
 | 0 => fun _ _ _ _ _ _ _ r h => by simp [impl_IndexRead.l0] at h
 | k + 1 => by
  have ih0 := impl_IndexRead.mono_l k
  ·intro y0 y1 y2 y3 y4 y5 y6
   unfold impl_IndexRead.l0
   repeat' first
   | (with_reducible exact ih0 _ _ _ _ _ _ _)
   | (with_reducible exact impl_IndexOk.mono _ _ _ _)
   | (with_reducible exact impl_IndexText.mono _ _ _ _)
   | (with_reducible exact LeO.refl _)
   | (with_reducible exact LeO.none _)
   | (with_reducible refine LeO.ite ?_ ?_)
   | (with_reducible refine LeO.bind ?_ (fun _ => ?_))
   | exact ih0 _ _ _ _ _ _ _
   | exact impl_IndexOk.mono _ _ _ _
   | exact impl_IndexText.mono _ _ _ _
   | exact LeO.none _
   | refine LeO.ite ?_ ?_
   | refine LeO.bind ?_ (fun _ => ?_)
theorem impl_IndexRead.mono : ∀ a0 k, LeO (impl_IndexRead.f k a0) (impl_IndexRead.f (k + 1) a0) := by
 intro a0 k
 have ih0 := impl_IndexRead.mono_l k
 unfold impl_IndexRead.f
 repeat' with_reducible first | apply ih0 | apply impl_IndexOk.mono | apply impl_IndexText.mono | exact LeO.refl _ | exact LeO.none _ | refine LeO.ite ?_ ?_ | refine LeO.bind ?_ (fun _ => ?_)
set_option maxHeartbeats 8000000 in
set_option maxRecDepth 100000 in
theorem impl_IndexRead.calls (k : Nat) (a0 : ByteArray) (r1 : Int) (r2 : Int) (r3 : List (S40)) (r4 : Bool) (w : World) (hLD : LaidW w) (h : impl_IndexRead.f k a0 = some (r1, r2, r3, r4)) :
  Calls Tryd.prog 27 #[.string a0] w fun e w' => ∃ v2_ : Value, e = .returned (.tuple #[.agg #[.int .i64 r1, .int .i64 r2, v2_], .bool r4]) ∧ Kd.R k40 40 w' w.heap.size (fun _ => True) v2_ r3 ∧ Below w.heap.size w w' := by
 have hu25 := Tryd.underlying25; have hu40 := Tryd.underlying40; have HB := aM (Below.refl w.heap.size w); have HLD := aM hLD; clear hLD; have H : (if (a0.size : Int) > 120 then (some (0, 0, ([] : List (S40)), false)) else ((strings_TrimSuffix.f a0 (⟨#[10]⟩ : ByteArray)).bind fun t163 => ((strings_Split.f t163 (⟨#[10]⟩ : ByteArray)).bind fun t164 => (impl_IndexRead.l0 k a0 t164 (t164.length : Int) 0 0 0 ([] : List (S40)))))) = some (r1, r2, r3, r4) := h; clear h
 by_cases c2 : (a0.size : Int) > 120
 ·rw [if_pos c2] at H; have c2b0 : decide (120 < (a0.size : Int)) = true := decide_eq_true c2; have c2b1 : decide (120 < a0.size) = true := decide_eq_true (by omega); clear c2; simp only [Option.some.injEq, Prod.mk.injEq] at H; obtain ⟨rfl, rfl, rfl, rfl⟩ := H
  go_enter Tryd.func27, Tryd.ntmps27
  go_wp2_with (first | ((with_reducible refine gate_dst (N := 2) rfl ?_); refine zbx 2 #[.int .i64 0, .int .i64 0, .slice none 0 0] 25 ?_; intro gb161 hg w3 hbox hb; have _ := aM (below_step (zB HB.1) hb); have _ := aM (hbox); have _ := aM (zge hg (zB HB.1)); have _ := aM (zge hg (zB HB.1)); clear HB; rename_i HB BK161 GW161 GE161; clear hb hbox hg; obtain ⟨hcz4_0, hcz4_1, hcz4_2, hfz4_0, hfz4_1, hfz4_2⟩ := zc3f BK161.1))
  refine bodyPost_ret (results_ct rfl _ _ gb161 25 #[.int .i64 0, .int .i64 0, .slice none 0 0] (0, 0) _ rfl (by exact zP BK161.1 (by rfl)) Tryd.underlying25 rfl (by kernel_rfl)) rfl ?_; exact ⟨_, by first | rfl | (simp [errW_none, errW_some] <;> rfl) | (simp [*, errW_none, errW_some] <;> rfl), by first | exact Kd.R_nil _ _ _ _ _ | exact Kd.N_nil _ _ _ _ _ | exact Kd.V_nil _ _ _ _ _ | exact Kd.Q_nil _ _ _ _ _ | exact Kd.S_nil _ _ _ _ _, by exact zB1 HB.1 GE161.1⟩
 ·rw [if_neg c2] at H; have c2b0 : decide (120 < (a0.size : Int)) = false := decide_eq_false c2; have c2b1 : decide (120 < a0.size) = false := decide_eq_false (by omega); clear c2; replace H := Option.bind_eq_some_iff.mp H; obtain ⟨t163, A50, H⟩ := H; (try dsimp only at H); have A5 := aM A50; clear A50; replace H := Option.bind_eq_some_iff.mp H; obtain ⟨t164, A60, H⟩ := H; (try dsimp only at H); have A6 := aM A60; clear A60; have H' := aM H; clear H
  go_enter Tryd.func27, Tryd.ntmps27
  go_wp2_with (first | ((with_reducible refine gate_dst (N := 2) rfl ?_); refine zbx 2 #[.int .i64 0, .int .i64 0, .slice none 0 0] 25 ?_; intro gb161 hg w7 hbox hb; have _ := aM (below_step (zB HB.1) hb); have _ := aM (hbox); have _ := aM (zge hg (zB HB.1)); have _ := aM (zge hg (zB HB.1)); clear HB; rename_i HB BK161 GW161 GE161; clear hb hbox hg) | ((with_reducible refine gate_dst (N := 4) rfl ?_); refine zbx 4 #[.int .i64 0, .int .i64 0, .slice none 0 0] 25 ?_; intro gb162 hg w8 hbox hb; have _ := aM (blk_below (zK BK161.1) hb); have _ := aM (below_step (zB1 HB.1 GE161.1) hb); have _ := aM (hbox); have _ := aM (zge hg (zB1 HB.1 GE161.1)); have _ := aM (zge hg (zB1 HB.1 GE161.1)); have _ := aM (znl hg (zK BK161.1)); have _ := aM (zng hg (zK BK161.1)); clear BK161 HB; rename_i BK161 HB BK162 GW162 GE162 NB161_162 NB162_161; clear hb hbox hg) | ((with_reducible refine gate_callee (f := 68) rfl ?_); refine zgL (some 19) Tryd.func68 #[.string a0, .string (⟨#[10]⟩ : ByteArray)] ?_; (with_reducible refine (strings_TrimSuffix.calls a0 (⟨#[10]⟩ : ByteArray) t163 _ A5.1).mono ?_); rintro e w9 ⟨rfl, hb⟩; refine ⟨_, rfl, ?_⟩; have _ := aM (blk_below (zK BK161.1) hb); have _ := aM (blk_below (zK BK162.1) hb); have _ := aM (below_step (zB2 HB.1 GE161.1 GE162.1) hb); clear BK161 BK162 HB; rename_i BK161 BK162 HB; (try clear hb); (try clear hb2); (try clear hk); (try clear hi)) | ((with_reducible refine gate_callee (f := 56) rfl ?_); refine zgL (some 20) Tryd.func56 #[.string t163, .string (⟨#[10]⟩ : ByteArray)] ?_; (with_reducible refine (strings_Split.calls t163 (⟨#[10]⟩ : ByteArray) t164 _ ?sideL A6.1).mono ?_); (case sideL => exact HLD.1.on (zB2 HB.1 GE161.1 GE162.1)); rintro e w10 ⟨v165, rfl, ho0, hb⟩; refine ⟨_, rfl, ?_⟩; have _ := aM (Kd.R_lower ho0 (below_size (zB2 HB.1 GE161.1 GE162.1))); have _ := aM (blk_below (zK BK161.1) hb); have _ := aM (blk_below (zK BK162.1) hb); have _ := aM (below_step (zB2 HB.1 GE161.1 GE162.1) hb); clear BK161 BK162 HB; rename_i HO166 BK161 BK162 HB; (try clear hb); (try clear hb2); (try clear hk); (try clear hi); (try clear ho0); obtain ⟨Ao11, co11, eo11⟩ := Kd.R_slice HO166.1; subst eo11))
  go_loopg [22] k (fun kq v22 w' => ∃ (x22_1 : Int) (x163000_1 : Int) (x163001_1 : Int) (x163002_1 : List (S40)) (u163002 : Value), v22 = .int .i64 x22_1 ∧ Aside0 (impl_IndexRead.l0 kq a0 t164 (t164.length : Int) x22_1 x163000_1 x163001_1 x163002_1 = some (r1, r2, r3, r4)) ∧ Aside0 (kq ≤ k) ∧ Aside0 (Kd.R Kd.string 9 w' w.heap.size (fun _ => True) (.slice Ao11 t164.length co11) t164) ∧ Aside0 (Kd.R k40 40 w' w.heap.size (fun _ => True) u163002 x163002_1) ∧ Aside0 (w'.heap[gb161]? = some (.cells #[.int .i64 0, .int .i64 0, (.slice none 0 0)] 25 (0, 0))) ∧ Aside0 (w'.heap[gb162]? = some (.cells #[.int .i64 x163000_1, .int .i64 x163001_1, u163002] 25 (0, 0))) ∧ Aside0 (Below w.heap.size w w'))
  case atStart => exact ⟨(0), (0), (0), (([] : List (S40))), (.slice none 0 0), (by first | rfl | (simp; done) | (simp [*]; done)), H', ⟨Nat.le_refl _⟩, ⟨zR HO166.1⟩, ⟨by first | exact Kd.R_nil _ _ _ _ _ | exact Kd.N_nil _ _ _ _ _ | exact Kd.V_nil _ _ _ _ _ | exact Kd.Q_nil _ _ _ _ _ | exact Kd.S_nil _ _ _ _ _⟩, ⟨zK BK161.1⟩, ⟨zK BK162.1⟩, ⟨zB2 HB.1 GE161.1 GE162.1⟩⟩
  case round =>
   clear H'
   try clear c2
   try clear c2b0
   try clear c2b1
   try clear p2
   try clear c5
   try clear c6
   try clear hcz4_0
   try clear hcz4_1
   try clear hcz4_2
   try clear hfz4_0
   try clear hfz4_1
   try clear hfz4_2
   obtain ⟨x22_1, x163000_1, x163001_1, x163002_1, u163002, rfl, HA, HK1, HO_20, HO_163002, BK161, BK162, HB⟩ := hrel; cases gk with
   | zero => exact absurd HA.1 (by simp [impl_IndexRead.l0])
   | succ k1 =>
    have H := HA.1; clear HA; simp only [impl_IndexRead.l0] at H
    by_cases c12 : x22_1 < (t164.length : Int)
    ·rw [if_pos c12] at H; have c12b0 : decide (x22_1 < (t164.length : Int)) = true := decide_eq_true c12; clear c12; replace H := zif H; obtain ⟨c13, H⟩ := H; have c13b0 : decide (0 ≤ x22_1) = true := decide_eq_true c13; clear c13; replace H := zif H; obtain ⟨c14, H⟩ := H; have c14b0 : decide (x22_1 < (t164.length : Int)) = true := decide_eq_true c14; clear c14; replace H := Option.bind_eq_some_iff.mp H; obtain ⟨⟨t168, t169, t170⟩, A150, H⟩ := H; (try dsimp only at H); have A15 := aM A150; clear A150; replace H := Option.bind_eq_some_iff.mp H; obtain ⟨⟨t171, t172⟩, A160, H⟩ := H; (try dsimp only at H); have A16 := aM A160; clear A160
     by_cases c17 : x22_1 = 0
     ·rw [if_pos c17] at H; have c17b0 : (x22_1 == 0) = true := beq_iff_eq.mpr c17; have c17b1 : (x22_1 != 0) = false := bne_eq_false_iff_eq.mpr c17; clear c17; replace H := Option.bind_eq_some_iff.mp H; obtain ⟨⟨t173, t174⟩, A180, H⟩ := H; (try dsimp only at H); have A18 := aM A180; clear A180; have H' := aM H; clear H; have p167 : 0 ≤ (x22_1 : Int) := zd; have q167 : x22_1 < (t164.length : Int) := zd; obtain ⟨ad167, e167, hx167_0⟩ := Kd.at_string (Kd.R_reads' HO_20.1).2.2 x22_1 p167 q167; cases e167; replace p167 := eq_true p167; replace q167 := eq_true q167
      go_wp2_with (first | ((with_reducible refine gate_callee (f := 58) rfl ?_); refine zgL (some 29) Tryd.func58 #[.string (rdOf ByteArray.empty t164 x22_1), .string (⟨#[32]⟩ : ByteArray)] ?_; (with_reducible refine (strings_Cut.calls (rdOf ByteArray.empty t164 x22_1) (⟨#[32]⟩ : ByteArray) t168 t169 t170 _ ?sideL A15.1).mono ?_); (case sideL => exact HLD.1.on (zB2 HB.1 GE161.1 GE162.1)); rintro e w19 ⟨rfl, hb⟩; refine ⟨_, rfl, ?_⟩; have _ := aM (Kd.R_below (zR HO_20.1) hb); have _ := aM (Kd.R_below (zR HO_163002.1) hb); have _ := aM (blk_below (zK BK161.1) hb); have _ := aM (blk_below (zK BK162.1) hb); have _ := aM (below_step (zB2 HB.1 GE161.1 GE162.1) hb); clear HO_20 HO_163002 BK161 BK162 HB; rename_i HO_20 HO_163002 BK161 BK162 HB; (try clear hb); (try clear hb2); (try clear hk); (try clear hi)) | ((with_reducible refine gate_callee (f := 59) rfl ?_); refine zgL (some 35) Tryd.func59 #[.string t169] ?_; (with_reducible refine (strconv_Atoi.calls t169 t171 t172 _ ?sideL A16.1).mono ?_); (case sideL => exact HLD.1.on (zB2 HB.1 GE161.1 GE162.1)); rintro e w20 ⟨ev_, rfl, hb⟩; refine ⟨_, rfl, ?_⟩; have _ := aM (Kd.R_below (zR HO_20.1) hb); have _ := aM (Kd.R_below (zR HO_163002.1) hb); have _ := aM (blk_below (zK BK161.1) hb); have _ := aM (blk_below (zK BK162.1) hb); have _ := aM (below_step (zB2 HB.1 GE161.1 GE162.1) hb); clear HO_20 HO_163002 BK161 BK162 HB; rename_i HO_20 HO_163002 BK161 BK162 HB; (try clear hb); (try clear hb2); (try clear hk); (try clear hi); (try simp only [errW_none, errW_some])) | ((with_reducible refine gate_callee (f := 59) rfl ?_); refine zgL (some 42) Tryd.func59 #[.string t168] ?_; (with_reducible refine (strconv_Atoi.calls t168 t173 t174 _ ?sideL A18.1).mono ?_); (case sideL => exact HLD.1.on (zB2 HB.1 GE161.1 GE162.1)); rintro e w21 ⟨ev_, rfl, hb⟩; refine ⟨_, rfl, ?_⟩; have _ := aM (Kd.R_below (zR HO_20.1) hb); have _ := aM (Kd.R_below (zR HO_163002.1) hb); have _ := aM (blk_below (zK BK161.1) hb); have _ := aM (blk_below (zK BK162.1) hb); have _ := aM (below_step (zB2 HB.1 GE161.1 GE162.1) hb); clear HO_20 HO_163002 BK161 BK162 HB; rename_i HO_20 HO_163002 BK161 BK162 HB; (try clear hb); (try clear hb2); (try clear hk); (try clear hi); (try simp only [errW_none, errW_some]); have hnb22 := NB162_161.1; have hnc22 := NB161_162.1; obtain ⟨hcz23_0, hcz23_1, hcz23_2, hfz23_0, hfz23_1, hfz23_2⟩ := zc3f BK162.1))
      go_roundg k1
      case measure => have := HK1.1; omega
      case rel => exact ⟨(wrap64 (x22_1 + 1)), (t173), (t171), (x163002_1), (u163002), (by first | rfl | (simp; done) | (simp [*]; done)), H', ⟨by have := HK1.1; omega⟩, ⟨by exact (Kd.R_mono (zFR (g := gb162) (Kd.R_types HO_20.1 BK162.1 (by decide)) (fun _ hk => hk.2)) (fun _ hk => trivial))⟩, ⟨by exact (Kd.R_mono (zFR (g := gb162) (Kd.R_types HO_163002.1 BK162.1 (by decide)) (fun _ hk => hk.2)) (fun _ hk => trivial))⟩, ⟨zK1 BK161.1 NB161_162.1⟩, ⟨by exact zP BK162.1 (by rfl)⟩, ⟨zB2 HB.1 GE161.1 GE162.1⟩⟩
     ·rw [if_neg c17] at H; have c17b0 : (x22_1 == 0) = false := beq_eq_false_iff_ne.mpr c17; have c17b1 : (x22_1 != 0) = true := bne_iff_ne.mpr c17; replace H := Option.bind_eq_some_iff.mp H; obtain ⟨⟨t175, t176⟩, A240, H⟩ := H; (try dsimp only at H); have A24 := aM A240; clear A240; replace H := zif H; obtain ⟨c25, H⟩ := H; have LMc25 := aM c25; clear c25; obtain ⟨y177, hy177⟩ : ∃ y_ : List (S40), y_ = (x163002_1 ++ [(⟨t175, t176, t171⟩ : S40)]) := ⟨_, rfl⟩; (first | (replace H := zbs hy177 H; try dsimp only at H) | rw [← hy177] at H); have Ny177 := aM hy177; clear hy177; have H' := aM H; clear H; have p167 : 0 ≤ (x22_1 : Int) := zd; have q167 : x22_1 < (t164.length : Int) := zd; obtain ⟨ad167, e167, hx167_0⟩ := Kd.at_string (Kd.R_reads' HO_20.1).2.2 x22_1 p167 q167; cases e167; replace p167 := eq_true p167; replace q167 := eq_true q167
      go_wp2_with (first | ((with_reducible refine gate_callee (f := 58) rfl ?_); refine zgL (some 29) Tryd.func58 #[.string (rdOf ByteArray.empty t164 x22_1), .string (⟨#[32]⟩ : ByteArray)] ?_; (with_reducible refine (strings_Cut.calls (rdOf ByteArray.empty t164 x22_1) (⟨#[32]⟩ : ByteArray) t168 t169 t170 _ ?sideL A15.1).mono ?_); (case sideL => exact HLD.1.on (zB2 HB.1 GE161.1 GE162.1)); rintro e w26 ⟨rfl, hb⟩; refine ⟨_, rfl, ?_⟩; have _ := aM (Kd.R_below (zR HO_20.1) hb); have _ := aM (Kd.R_below (zR HO_163002.1) hb); have _ := aM (blk_below (zK BK161.1) hb); have _ := aM (blk_below (zK BK162.1) hb); have _ := aM (below_step (zB2 HB.1 GE161.1 GE162.1) hb); clear HO_20 HO_163002 BK161 BK162 HB; rename_i HO_20 HO_163002 BK161 BK162 HB; (try clear hb); (try clear hb2); (try clear hk); (try clear hi)) | ((with_reducible refine gate_callee (f := 59) rfl ?_); refine zgL (some 35) Tryd.func59 #[.string t169] ?_; (with_reducible refine (strconv_Atoi.calls t169 t171 t172 _ ?sideL A16.1).mono ?_); (case sideL => exact HLD.1.on (zB2 HB.1 GE161.1 GE162.1)); rintro e w27 ⟨ev_, rfl, hb⟩; refine ⟨_, rfl, ?_⟩; have _ := aM (Kd.R_below (zR HO_20.1) hb); have _ := aM (Kd.R_below (zR HO_163002.1) hb); have _ := aM (blk_below (zK BK161.1) hb); have _ := aM (blk_below (zK BK162.1) hb); have _ := aM (below_step (zB2 HB.1 GE161.1 GE162.1) hb); clear HO_20 HO_163002 BK161 BK162 HB; rename_i HO_20 HO_163002 BK161 BK162 HB; (try clear hb); (try clear hb2); (try clear hk); (try clear hi); (try simp only [errW_none, errW_some])) | ((with_reducible refine gate_callee (f := 57) rfl ?_); refine zgL (some 50) Tryd.func57 #[.string t168] ?_; (with_reducible refine (impl_nameRead.calls t168 t175 t176 _ ?sideL A24.1).mono ?_); (case sideL => exact HLD.1.on (zB2 HB.1 GE161.1 GE162.1)); rintro e w28 ⟨rfl, hb⟩; refine ⟨_, rfl, ?_⟩; have _ := aM (Kd.R_below (zR HO_20.1) hb); have _ := aM (Kd.R_below (zR HO_163002.1) hb); have _ := aM (blk_below (zK BK161.1) hb); have _ := aM (blk_below (zK BK162.1) hb); have _ := aM (below_step (zB2 HB.1 GE161.1 GE162.1) hb); clear HO_20 HO_163002 BK161 BK162 HB; rename_i HO_20 HO_163002 BK161 BK162 HB; (try clear hb); (try clear hb2); (try clear hk); (try clear hi); have hnb29 := NB162_161.1; have hnc29 := NB161_162.1; obtain ⟨hcz30_0, hcz30_1, hcz30_2, hfz30_0, hfz30_1, hfz30_2⟩ := zc3f BK162.1) | ((with_reducible refine gate_builtin (b := .append) (xs := #[.tmp 54, .tmp 59]) rfl ?_); at_builtin; refine Kd.R_append k40 (w0 := w) w.heap.size rfl (.tmp 54) (.tmp 59) 23 40 (.agg #[(.int .i64 0), (.int .i64 0), (.int .i64 0)]) 24 rfl Tryd.underlying23 info40 rfl (by decide) (by omega) u163002 x163002_1 (⟨t175, t176, t171⟩ : S40) [.int .i64 t175, .int .i64 t176, .int .i64 t171] (fun _ => True) (fun _ => False) rfl rfl ?aP (fun _ hk => hk.elim) ?aF ?aO ?aB ?aS ?aL ?_; (case aP => exact k40_mkM _ _ _ (⟨t175, t176, t171⟩ : S40)); (case aB => exact (zB2 HB.1 GE161.1 GE162.1)); (case aF => exact (fun _ _ => trivial)); (case aO => exact (zR HO_163002.1)); (case aS => exact (below_size (zB2 HB.1 GE161.1 GE162.1))); (case aL => have := LMc25.1; omega); intro v178 w31 ho hb hg hat; rw [← Ny177.1] at ho; have _ := aM (Kd.R_over' (zR HO_20.1) (Kd.R_typed (zR HO_163002.1)) (by decide) hg); have _ := aM (blk_grown (zK BK161.1) hg (Kd.R_ne HO_163002.1 BK161.1 (by decide))); have _ := aM (blk_grown (zK BK162.1) hg (Kd.R_ne HO_163002.1 BK162.1 (by decide))); have _ := aM (hb); have _ := aM (ho); clear HO_20 BK161 BK162 HB HO_163002; rename_i HO_20 BK161 BK162 HB HO179; clear ho hb hg hat; obtain ⟨Ao32, co32, eo32⟩ := Kd.R_slice HO179.1; subst eo32; obtain ⟨hcz33_0, hcz33_1, hcz33_2, hfz33_0, hfz33_1, hfz33_2⟩ := zc3f BK162.1))
      go_roundg k1
      case measure => have := HK1.1; omega
      case rel => exact ⟨(wrap64 (x22_1 + 1)), (x163000_1), (x163001_1), (y177), (.slice Ao32 y177.length co32), (by first | rfl | (simp; done) | (simp [*]; done)), H', ⟨by have := HK1.1; omega⟩, ⟨by exact (Kd.R_mono (zFR (g := gb162) (Kd.R_types HO_20.1 BK162.1 (by decide)) (fun _ hk => hk.2)) (fun _ hk => trivial))⟩, ⟨by exact (Kd.R_mono (zFR (g := gb162) (Kd.R_types HO179.1 BK162.1 (by decide)) (fun _ hk => hk.2)) (fun _ hk => trivial))⟩, ⟨zK1 BK161.1 NB161_162.1⟩, ⟨by exact zP BK162.1 (by rfl)⟩, ⟨zB2 HB.1 GE161.1 GE162.1⟩⟩
    ·rw [if_neg c12] at H; have c12b0 : decide (x22_1 < (t164.length : Int)) = false := decide_eq_false c12; clear c12; replace H := Option.bind_eq_some_iff.mp H; obtain ⟨t180, A340, H⟩ := H; (try dsimp only at H); have A34 := aM A340; clear A340
     by_cases c35 : t180 = true
     ·subst c35; replace H := zy1 H; replace H := Option.bind_eq_some_iff.mp H; obtain ⟨t181, A360, H⟩ := H; (try dsimp only at H); have A36 := aM A360; clear A360
      by_cases c37 : t181.toList = a0.toList
      ·rw [if_pos c37] at H; have c37b0 : (t181.toList == a0.toList) = true := beq_iff_eq.mpr c37; have c37b1 : (t181.toList != a0.toList) = false := bne_eq_false_iff_eq.mpr c37; clear c37; simp only [Option.some.injEq, Prod.mk.injEq] at H; obtain ⟨rfl, rfl, rfl, rfl⟩ := H; have hnb38 := NB162_161.1; have hnc38 := NB161_162.1; obtain ⟨hcz39_0, hcz39_1, hcz39_2, hfz39_0, hfz39_1, hfz39_2⟩ := zc3f BK162.1; obtain ⟨Ao40, co40, eo40⟩ := Kd.R_slice HO_163002.1; subst eo40
       go_wp2_with (first | ((with_reducible refine gate_callee (f := 38) rfl ?_); refine zgL (some 64) Tryd.func38 #[.agg #[.int .i64 x163000_1, .int .i64 x163001_1, .slice Ao40 x163002_1.length co40]] ?_; (with_reducible refine (impl_IndexOk.calls k1 x163000_1 x163001_1 _ _ x163002_1 true _ ?side1 ?side2 A34.1).mono ?_); (case side1 => exact zC (Kd.R_reads' HO_163002.1).2.2); (case side2 => exact (Kd.R_reads' HO_163002.1).2.1); rintro e w41 ⟨rfl, hb⟩; refine ⟨_, rfl, ?_⟩; have _ := aM (Kd.R_below (zR HO_20.1) hb); have _ := aM (Kd.R_below (zR HO_163002.1) hb); have _ := aM (blk_below (zK BK161.1) hb); have _ := aM (blk_below (zK BK162.1) hb); have _ := aM (below_step (zB2 HB.1 GE161.1 GE162.1) hb); clear HO_20 HO_163002 BK161 BK162 HB; rename_i HO_20 HO_163002 BK161 BK162 HB; (try clear hb); (try clear hb2); (try clear hk); (try clear hi); obtain ⟨hcz42_0, hcz42_1, hcz42_2, hfz42_0, hfz42_1, hfz42_2⟩ := zc3f BK162.1) | (go_at_call 35; (with_reducible refine (impl_IndexText.calls k1 x163000_1 x163001_1 _ _ x163002_1 t181 _ ?side1 ?side2 ?sideL A36.1).mono ?_); (case sideL => exact HLD.1.on (zB2 HB.1 GE161.1 GE162.1)); (case side1 => exact zC (Kd.R_reads' HO_163002.1).2.2); (case side2 => exact (Kd.R_reads' HO_163002.1).2.1); rintro e w43 ⟨rfl, hb⟩; have _ := aM (Kd.R_below (zR HO_20.1) hb); have _ := aM (Kd.R_below (zR HO_163002.1) hb); have _ := aM (blk_below (zK BK161.1) hb); have _ := aM (blk_below (zK BK162.1) hb); have _ := aM (below_step (zB2 HB.1 GE161.1 GE162.1) hb); clear HO_20 HO_163002 BK161 BK162 HB; rename_i HO_20 HO_163002 BK161 BK162 HB; (try clear hb); (try clear hb2); (try clear hk); (try clear hi); obtain ⟨hcz44_0, hcz44_1, hcz44_2, hfz44_0, hfz44_1, hfz44_2⟩ := zc3f BK162.1; obtain ⟨hcz45_0, hcz45_1, hcz45_2, hfz45_0, hfz45_1, hfz45_2⟩ := zc3f BK161.1))
       refine bodyPost_ret (results_ct rfl _ _ gb161 25 #[.int .i64 x163000_1, .int .i64 x163001_1, .slice Ao40 x163002_1.length co40] (0, 0) _ rfl (by exact zP BK161.1 (by rfl)) Tryd.underlying25 rfl (by kernel_rfl)) rfl ?_; exact ⟨_, by first | rfl | (simp [errW_none, errW_some] <;> rfl) | (simp [*, errW_none, errW_some] <;> rfl), by exact (Kd.R_mono (zFR (g := gb161) (Kd.R_types HO_163002.1 BK161.1 (by decide)) (fun _ hk => hk.2)) (fun _ hk => trivial)), by exact zB2 HB.1 GE161.1 GE162.1⟩
      ·rw [if_neg c37] at H; have c37b0 : (t181.toList == a0.toList) = false := beq_eq_false_iff_ne.mpr c37; have c37b1 : (t181.toList != a0.toList) = true := bne_iff_ne.mpr c37; simp only [Option.some.injEq, Prod.mk.injEq] at H; obtain ⟨rfl, rfl, rfl, rfl⟩ := H; have hnb46 := NB162_161.1; have hnc46 := NB161_162.1; obtain ⟨hcz47_0, hcz47_1, hcz47_2, hfz47_0, hfz47_1, hfz47_2⟩ := zc3f BK162.1; obtain ⟨Ao48, co48, eo48⟩ := Kd.R_slice HO_163002.1; subst eo48
       go_wp2_with (first | ((with_reducible refine gate_callee (f := 38) rfl ?_); refine zgL (some 64) Tryd.func38 #[.agg #[.int .i64 x163000_1, .int .i64 x163001_1, .slice Ao48 x163002_1.length co48]] ?_; (with_reducible refine (impl_IndexOk.calls k1 x163000_1 x163001_1 _ _ x163002_1 true _ ?side1 ?side2 A34.1).mono ?_); (case side1 => exact zC (Kd.R_reads' HO_163002.1).2.2); (case side2 => exact (Kd.R_reads' HO_163002.1).2.1); rintro e w49 ⟨rfl, hb⟩; refine ⟨_, rfl, ?_⟩; have _ := aM (Kd.R_below (zR HO_20.1) hb); have _ := aM (Kd.R_below (zR HO_163002.1) hb); have _ := aM (blk_below (zK BK161.1) hb); have _ := aM (blk_below (zK BK162.1) hb); have _ := aM (below_step (zB2 HB.1 GE161.1 GE162.1) hb); clear HO_20 HO_163002 BK161 BK162 HB; rename_i HO_20 HO_163002 BK161 BK162 HB; (try clear hb); (try clear hb2); (try clear hk); (try clear hi); obtain ⟨hcz50_0, hcz50_1, hcz50_2, hfz50_0, hfz50_1, hfz50_2⟩ := zc3f BK162.1) | (go_at_call 35; (with_reducible refine (impl_IndexText.calls k1 x163000_1 x163001_1 _ _ x163002_1 t181 _ ?side1 ?side2 ?sideL A36.1).mono ?_); (case sideL => exact HLD.1.on (zB2 HB.1 GE161.1 GE162.1)); (case side1 => exact zC (Kd.R_reads' HO_163002.1).2.2); (case side2 => exact (Kd.R_reads' HO_163002.1).2.1); rintro e w51 ⟨rfl, hb⟩; have _ := aM (Kd.R_below (zR HO_20.1) hb); have _ := aM (Kd.R_below (zR HO_163002.1) hb); have _ := aM (blk_below (zK BK161.1) hb); have _ := aM (blk_below (zK BK162.1) hb); have _ := aM (below_step (zB2 HB.1 GE161.1 GE162.1) hb); clear HO_20 HO_163002 BK161 BK162 HB; rename_i HO_20 HO_163002 BK161 BK162 HB; (try clear hb); (try clear hb2); (try clear hk); (try clear hi); obtain ⟨hcz52_0, hcz52_1, hcz52_2, hfz52_0, hfz52_1, hfz52_2⟩ := zc3f BK161.1))
       refine bodyPost_ret (results_ct rfl _ _ gb161 25 #[.int .i64 0, .int .i64 0, .slice none 0 0] (0, 0) _ rfl (by exact zP BK161.1 (by rfl)) Tryd.underlying25 rfl (by kernel_rfl)) rfl ?_; exact ⟨_, by first | rfl | (simp [errW_none, errW_some] <;> rfl) | (simp [*, errW_none, errW_some] <;> rfl), by first | exact Kd.R_nil _ _ _ _ _ | exact Kd.N_nil _ _ _ _ _ | exact Kd.V_nil _ _ _ _ _ | exact Kd.Q_nil _ _ _ _ _ | exact Kd.S_nil _ _ _ _ _, by exact zB2 HB.1 GE161.1 GE162.1⟩
     ·replace c35 := Bool.eq_false_iff.mpr c35; subst c35; replace H := zy0 H; simp only [Option.some.injEq, Prod.mk.injEq] at H; obtain ⟨rfl, rfl, rfl, rfl⟩ := H; have hnb53 := NB162_161.1; have hnc53 := NB161_162.1; obtain ⟨hcz54_0, hcz54_1, hcz54_2, hfz54_0, hfz54_1, hfz54_2⟩ := zc3f BK162.1; obtain ⟨Ao55, co55, eo55⟩ := Kd.R_slice HO_163002.1; subst eo55
      go_wp2_with (first | ((with_reducible refine gate_callee (f := 38) rfl ?_); refine zgL (some 64) Tryd.func38 #[.agg #[.int .i64 x163000_1, .int .i64 x163001_1, .slice Ao55 x163002_1.length co55]] ?_; (with_reducible refine (impl_IndexOk.calls k1 x163000_1 x163001_1 _ _ x163002_1 false _ ?side1 ?side2 A34.1).mono ?_); (case side1 => exact zC (Kd.R_reads' HO_163002.1).2.2); (case side2 => exact (Kd.R_reads' HO_163002.1).2.1); rintro e w56 ⟨rfl, hb⟩; refine ⟨_, rfl, ?_⟩; have _ := aM (Kd.R_below (zR HO_20.1) hb); have _ := aM (Kd.R_below (zR HO_163002.1) hb); have _ := aM (blk_below (zK BK161.1) hb); have _ := aM (blk_below (zK BK162.1) hb); have _ := aM (below_step (zB2 HB.1 GE161.1 GE162.1) hb); clear HO_20 HO_163002 BK161 BK162 HB; rename_i HO_20 HO_163002 BK161 BK162 HB; (try clear hb); (try clear hb2); (try clear hk); (try clear hi); obtain ⟨hcz57_0, hcz57_1, hcz57_2, hfz57_0, hfz57_1, hfz57_2⟩ := zc3f BK161.1))
      refine bodyPost_ret (results_ct rfl _ _ gb161 25 #[.int .i64 0, .int .i64 0, .slice none 0 0] (0, 0) _ rfl (by exact zP BK161.1 (by rfl)) Tryd.underlying25 rfl (by kernel_rfl)) rfl ?_; exact ⟨_, by first | rfl | (simp [errW_none, errW_some] <;> rfl) | (simp [*, errW_none, errW_some] <;> rfl), by first | exact Kd.R_nil _ _ _ _ _ | exact Kd.N_nil _ _ _ _ _ | exact Kd.V_nil _ _ _ _ _ | exact Kd.Q_nil _ _ _ _ _ | exact Kd.S_nil _ _ _ _ _, by exact zB2 HB.1 GE161.1 GE162.1⟩

attribute [local go_sem high] eqA40

/-! ### laws_luMetas: function 78 -/
def laws_luMetas.l0 : Nat → List (S40) → List (S40) → Int → Option (Bool)
 | 0, _, _, _ => none
 | k + 1, x0, x1, x5 => if x5 < (x0.length : Int) then (if 0 ≤ x5 then (if x5 < (x1.length : Int) then (if (!(((rd_T40 x0 x5).f0) == ((rd_T40 x1 x5).f0)) || (!(((rd_T40 x0 x5).f1) == ((rd_T40 x1 x5).f1)) || (!(((rd_T40 x0 x5).f2) == ((rd_T40 x1 x5).f2))))) = true then (some false) else (laws_luMetas.l0 k x0 x1 (wrap64 (x5 + 1)))) else (none)) else (none)) else (some true)
def laws_luMetas.f (k : Nat) (l0 : List (S40)) (l1 : List (S40)) : Option (Bool) := if (l0.length : Int) = (l1.length : Int) then (laws_luMetas.l0 k l0 l1 0) else (some false)
theorem laws_luMetas.mono_l : ∀ k, (∀ y0 y1 y2, LeO (laws_luMetas.l0 k y0 y1 y2) (laws_luMetas.l0 (k + 1) y0 y1 y2))
 | 0 => fun _ _ _ r h => by simp [laws_luMetas.l0] at h
 | k + 1 => by
  have ih0 := laws_luMetas.mono_l k
  ·intro y0 y1 y2
   unfold laws_luMetas.l0
   repeat' first
   | (with_reducible exact ih0 _ _ _)
   | (with_reducible exact LeO.refl _)
   | (with_reducible exact LeO.none _)
   | (with_reducible refine LeO.ite ?_ ?_)
   | (with_reducible refine LeO.bind ?_ (fun _ => ?_))
   | exact ih0 _ _ _
   | exact LeO.none _
   | refine LeO.ite ?_ ?_
   | refine LeO.bind ?_ (fun _ => ?_)
theorem laws_luMetas.mono : ∀ a0 a1 k, LeO (laws_luMetas.f k a0 a1) (laws_luMetas.f (k + 1) a0 a1) := by
 intro a0 a1 k
 have ih0 := laws_luMetas.mono_l k
 unfold laws_luMetas.f
 repeat' with_reducible first | apply ih0 | exact LeO.refl _ | exact LeO.none _ | refine LeO.ite ?_ ?_ | refine LeO.bind ?_ (fun _ => ?_)
set_option maxHeartbeats 8000000 in
set_option maxRecDepth 100000 in
theorem laws_luMetas.calls (k : Nat) (A0 : Option Addr) (c0 : Nat) (l0 : List (S40)) (A1 : Option Addr) (c1 : Nat) (l1 : List (S40)) (r : Bool) (w : World) (hr0 : Kd.C k40 w A0 l0.length l0) (hc0 : l0.length ≤ c0) (hr1 : Kd.C k40 w A1 l1.length l1) (hc1 : l1.length ≤ c1) (h : laws_luMetas.f k l0 l1 = some r) :
  Calls Tryd.prog 78 #[.slice A0 l0.length c0, .slice A1 l1.length c1] w fun e w' => e = .returned (.bool r) ∧ Drawn0 w w' := by
 have hu40 := Tryd.underlying40; have HR0 := aM hr0; have HC0 := aM hc0; clear hr0 hc0; have HR1 := aM hr1; have HC1 := aM hc1; clear hr1 hc1; have H : (if (l0.length : Int) = (l1.length : Int) then (laws_luMetas.l0 k l0 l1 0) else (some false)) = some r := h; clear h
 by_cases c3 : (l0.length : Int) = (l1.length : Int)
 ·rw [if_pos c3] at H; have c3b0 : ((l0.length : Int) == (l1.length : Int)) = true := beq_iff_eq.mpr c3; have c3b1 : ((l0.length : Int) != (l1.length : Int)) = false := bne_eq_false_iff_eq.mpr c3
  have c3b2 : (l0.length == l1.length) = true := by first | simpa using c3 | (simp at c3 ⊢; omega)
  clear c3; have H' := aM H; clear H
  go_enter Tryd.func78, Tryd.ntmps78
  go_wp2
  repeat (go_quiet (fail); try go_wp2)
  go_loopg [5] k (fun kq v5 w' => ∃ (x5_1 : Int), v5 = .int .i64 x5_1 ∧ Aside0 (laws_luMetas.l0 kq l0 l1 x5_1 = some r) ∧ Aside0 (kq ≤ k) ∧ Drawn0 w w')
  case atStart => exact ⟨(0), (by first | rfl | (simp; done) | (simp [*]; done)), H', ⟨Nat.le_refl _⟩, by repeat (first | exact Drawn0.refl _ | apply Drawn0.step)⟩
  case round =>
   clear H'
   try clear c1
   try clear p2
   try clear c3
   try clear c3b0
   try clear c3b1
   try clear c3b2
   obtain ⟨x5_1, rfl, HA, HK1, ⟨m1, rfl⟩⟩ := hrel; cases gk with
   | zero => exact absurd HA.1 (by simp [laws_luMetas.l0])
   | succ k1 =>
    have H := HA.1; clear HA; simp only [laws_luMetas.l0] at H
    by_cases c4 : x5_1 < (l0.length : Int)
    ·rw [if_pos c4] at H; have c4b0 : decide (x5_1 < (l0.length : Int)) = true := decide_eq_true c4; clear c4; replace H := zif H; obtain ⟨c5, H⟩ := H; have c5b0 : decide (0 ≤ x5_1) = true := decide_eq_true c5; clear c5; replace H := zif H; obtain ⟨c6, H⟩ := H; have c6b0 : decide (x5_1 < (l1.length : Int)) = true := decide_eq_true c6; clear c6
     by_cases c7 : (!(((rd_T40 l0 x5_1).f0) == ((rd_T40 l1 x5_1).f0)) || (!(((rd_T40 l0 x5_1).f1) == ((rd_T40 l1 x5_1).f1)) || (!(((rd_T40 l0 x5_1).f2) == ((rd_T40 l1 x5_1).f2))))) = true
     ·rw [if_pos c7] at H; have c7b0 : (!(((rd_T40 l0 x5_1).f0) == ((rd_T40 l1 x5_1).f0)) || (!(((rd_T40 l0 x5_1).f1) == ((rd_T40 l1 x5_1).f1)) || (!(((rd_T40 l0 x5_1).f2) == ((rd_T40 l1 x5_1).f2))))) = true := c7; clear c7; obtain rfl := Option.some.inj H; have p182 : 0 ≤ (x5_1 : Int) := zd; have q182 : x5_1 < (l0.length : Int) := zd; obtain ⟨ad182, e182, hx182_0, hx182_1, hx182_2⟩ := at_T40 HR0.1 x5_1 p182 q182; cases e182; replace p182 := eq_true p182; replace q182 := eq_true q182; have p183 : 0 ≤ (x5_1 : Int) := zd; have q183 : x5_1 < (l1.length : Int) := zd; obtain ⟨ad183, e183, hx183_0, hx183_1, hx183_2⟩ := at_T40 HR1.1 x5_1 p183 q183; cases e183; replace p183 := eq_true p183; replace q183 := eq_true q183
      by_cases hE0_ : (rd_T40 l0 x5_1).f0 = (rd_T40 l1 x5_1).f0
      ·replace hE0_ := eq_true hE0_
       by_cases hE1_ : (rd_T40 l0 x5_1).f1 = (rd_T40 l1 x5_1).f1
       ·replace hE1_ := eq_true hE1_
        by_cases hE2_ : (rd_T40 l0 x5_1).f2 = (rd_T40 l1 x5_1).f2
        ·exact absurd c7b0 (by rw [of_eq_true hE0_, of_eq_true hE1_, hE2_]; simp)
        ·replace hE2_ := eq_false hE2_
         go_wp2
         repeat (go_quiet (fail); try go_wp2)
         go_ret
         exact ⟨by first | rfl | (simp; done) | (simp [*]; done), by repeat (first | exact Drawn0.refl _ | apply Drawn0.step)⟩
       ·replace hE1_ := eq_false hE1_
        go_wp2
        repeat (go_quiet (fail); try go_wp2)
        go_ret
        exact ⟨by first | rfl | (simp; done) | (simp [*]; done), by repeat (first | exact Drawn0.refl _ | apply Drawn0.step)⟩
      ·replace hE0_ := eq_false hE0_
       go_wp2
       repeat (go_quiet (fail); try go_wp2)
       go_ret
       exact ⟨by first | rfl | (simp; done) | (simp [*]; done), by repeat (first | exact Drawn0.refl _ | apply Drawn0.step)⟩
     ·rw [if_neg c7] at H
      have c7b0 : (!(((rd_T40 l0 x5_1).f0) == ((rd_T40 l1 x5_1).f0)) || (!(((rd_T40 l0 x5_1).f1) == ((rd_T40 l1 x5_1).f1)) || (!(((rd_T40 l0 x5_1).f2) == ((rd_T40 l1 x5_1).f2))))) = false := by simpa using c7
      clear c7; have H' := aM H; clear H; have p182 : 0 ≤ (x5_1 : Int) := zd; have q182 : x5_1 < (l0.length : Int) := zd; obtain ⟨ad182, e182, hx182_0, hx182_1, hx182_2⟩ := at_T40 HR0.1 x5_1 p182 q182; cases e182; replace p182 := eq_true p182; replace q182 := eq_true q182; have p183 : 0 ≤ (x5_1 : Int) := zd; have q183 : x5_1 < (l1.length : Int) := zd; obtain ⟨ad183, e183, hx183_0, hx183_1, hx183_2⟩ := at_T40 HR1.1 x5_1 p183 q183; cases e183; replace p183 := eq_true p183; replace q183 := eq_true q183; have hE0_ := c7b0; rw [Bool.or_eq_false_iff, Bool.or_eq_false_iff, Bool.not_eq_false', Bool.not_eq_false', Bool.not_eq_false', beq_iff_eq, beq_iff_eq, beq_iff_eq] at hE0_; obtain ⟨hE1_, hE2_, hE3_⟩ := hE0_; replace hE1_ := eq_true hE1_; replace hE2_ := eq_true hE2_; replace hE3_ := eq_true hE3_
      go_wp2
      repeat (go_quiet (fail); try go_wp2)
      go_roundg k1
      case measure => have := HK1.1; omega
      case rel => exact ⟨(wrap64 (x5_1 + 1)), (by first | rfl | (simp; done) | (simp [*]; done)), H', ⟨by have := HK1.1; omega⟩, by repeat (first | exact Drawn0.refl _ | apply Drawn0.step)⟩
    ·rw [if_neg c4] at H; have c4b0 : decide (x5_1 < (l0.length : Int)) = false := decide_eq_false c4; clear c4; obtain rfl := Option.some.inj H
     go_wp2
     repeat (go_quiet (fail); try go_wp2)
     go_ret
     exact ⟨by first | rfl | (simp; done) | (simp [*]; done), by repeat (first | exact Drawn0.refl _ | apply Drawn0.step)⟩
 ·rw [if_neg c3] at H; have c3b0 : ((l0.length : Int) == (l1.length : Int)) = false := beq_eq_false_iff_ne.mpr c3; have c3b1 : ((l0.length : Int) != (l1.length : Int)) = true := bne_iff_ne.mpr c3
  have c3b2 : (l0.length == l1.length) = false := by first | simpa using c3 | (simp at c3 ⊢; omega)
  obtain rfl := Option.some.inj H
  go_enter Tryd.func78, Tryd.ntmps78
  go_wp2
  repeat (go_quiet (fail); try go_wp2)
  go_ret
  exact ⟨by first | rfl | (simp; done) | (simp [*]; done), by repeat (first | exact Drawn0.refl _ | apply Drawn0.step)⟩

/-! ### laws_luIndex: function 37 -/
def laws_luIndex.f (k : Nat) (a0_0 : Int) (a0_1 : Int) (l0_2 : List (S40)) (a1_0 : Int) (a1_1 : Int) (l1_2 : List (S40)) : Option (Bool) := if a0_0 = a1_0 then (if a0_1 = a1_1 then ((laws_luMetas.f k l0_2 l1_2).bind fun t186 => (some t186)) else (some false)) else (some false)
theorem laws_luIndex.mono : ∀ a0 a1 a2 a3 a4 a5 k, LeO (laws_luIndex.f k a0 a1 a2 a3 a4 a5) (laws_luIndex.f (k + 1) a0 a1 a2 a3 a4 a5) := by
 intro a0 a1 a2 a3 a4 a5 k
 unfold laws_luIndex.f
 repeat' with_reducible first | apply laws_luMetas.mono | exact LeO.refl _ | exact LeO.none _ | refine LeO.ite ?_ ?_ | refine LeO.bind ?_ (fun _ => ?_)
set_option maxHeartbeats 8000000 in
set_option maxRecDepth 100000 in
theorem laws_luIndex.calls (k : Nat) (a0_0 : Int) (a0_1 : Int) (A0_2 : Option Addr) (c0_2 : Nat) (l0_2 : List (S40)) (a1_0 : Int) (a1_1 : Int) (A1_2 : Option Addr) (c1_2 : Nat) (l1_2 : List (S40)) (r : Bool) (w : World) (hr0_2 : Kd.C k40 w A0_2 l0_2.length l0_2) (hc0_2 : l0_2.length ≤ c0_2) (hr1_2 : Kd.C k40 w A1_2 l1_2.length l1_2) (hc1_2 : l1_2.length ≤ c1_2) (h : laws_luIndex.f k a0_0 a0_1 l0_2 a1_0 a1_1 l1_2 = some r) :
  Calls Tryd.prog 37 #[.agg #[.int .i64 a0_0, .int .i64 a0_1, .slice A0_2 l0_2.length c0_2], .agg #[.int .i64 a1_0, .int .i64 a1_1, .slice A1_2 l1_2.length c1_2]] w fun e w' => e = .returned (.bool r) ∧ Below w.heap.size w w' := by
 have hu25 := Tryd.underlying25; have HR0_2 := aM hr0_2; have HC0_2 := aM hc0_2; clear hr0_2 hc0_2; have HR1_2 := aM hr1_2; have HC1_2 := aM hc1_2; clear hr1_2 hc1_2; have HB := aM (Below.refl w.heap.size w); have H : (if a0_0 = a1_0 then (if a0_1 = a1_1 then ((laws_luMetas.f k l0_2 l1_2).bind fun t186 => (some t186)) else (some false)) else (some false)) = some r := h; clear h
 by_cases c3 : a0_0 = a1_0
 ·rw [if_pos c3] at H; have c3b0 : (a0_0 == a1_0) = true := beq_iff_eq.mpr c3; have c3b1 : (a0_0 != a1_0) = false := bne_eq_false_iff_eq.mpr c3; clear c3
  by_cases c4 : a0_1 = a1_1
  ·rw [if_pos c4] at H; have c4b0 : (a0_1 == a1_1) = true := beq_iff_eq.mpr c4; have c4b1 : (a0_1 != a1_1) = false := bne_eq_false_iff_eq.mpr c4; clear c4; replace H := Option.bind_eq_some_iff.mp H; obtain ⟨t186, A50, H⟩ := H; (try dsimp only at H); have A5 := aM A50; clear A50; obtain rfl := Option.some.inj H
   go_enter Tryd.func37, Tryd.ntmps37
   go_wp2_with (first | ((with_reducible refine gate_dst (N := 2) rfl ?_); refine zbx 2 #[.int .i64 a0_0, .int .i64 a0_1, .slice A0_2 l0_2.length c0_2] 25 ?_; intro gb184 hg w6 hbox hb; have _ := aM (below_step (zB HB.1) hb); have _ := aM (hbox); have _ := aM (zge hg (zB HB.1)); have _ := aM (zge hg (zB HB.1)); clear HB; rename_i HB BK184 GW184 GE184; clear hb hbox hg) | ((with_reducible refine gate_dst (N := 3) rfl ?_); refine zbx 3 #[.int .i64 a1_0, .int .i64 a1_1, .slice A1_2 l1_2.length c1_2] 25 ?_; intro gb185 hg w7 hbox hb; have _ := aM (blk_below (zK BK184.1) hb); have _ := aM (below_step (zB1 HB.1 GE184.1) hb); have _ := aM (hbox); have _ := aM (zge hg (zB1 HB.1 GE184.1)); have _ := aM (zge hg (zB1 HB.1 GE184.1)); have _ := aM (znl hg (zK BK184.1)); have _ := aM (zng hg (zK BK184.1)); clear BK184 HB; rename_i BK184 HB BK185 GW185 GE185 NB184_185 NB185_184; clear hb hbox hg; have hnb8 := NB184_185.1; have hnc8 := NB185_184.1; obtain ⟨hcz9_0, hcz9_1, hcz9_2, hfz9_0, hfz9_1, hfz9_2⟩ := zc3f BK184.1; obtain ⟨hcz10_0, hcz10_1, hcz10_2, hfz10_0, hfz10_1, hfz10_2⟩ := zc3f BK185.1) | (go_at_call 78; (with_reducible refine (laws_luMetas.calls k _ _ l0_2 _ _ l1_2 t186 _ ?side1 ?side2 ?side3 ?side4 A5.1).mono ?_); (case side1 => exact zC (Kd.C_below HR0_2.1 HB.1)); (case side2 => exact HC0_2.1); (case side3 => exact zC (Kd.C_below HR1_2.1 HB.1)); (case side4 => exact HC1_2.1); rintro e w' ⟨rfl, ⟨nd, rfl⟩⟩))
   go_ret
   exact ⟨by first | rfl | (simp [errW_none, errW_some] <;> rfl) | (simp [*, errW_none, errW_some] <;> rfl), by exact zB2 HB.1 GE184.1 GE185.1⟩
  ·rw [if_neg c4] at H; have c4b0 : (a0_1 == a1_1) = false := beq_eq_false_iff_ne.mpr c4; have c4b1 : (a0_1 != a1_1) = true := bne_iff_ne.mpr c4; obtain rfl := Option.some.inj H
   go_enter Tryd.func37, Tryd.ntmps37
   go_wp2_with (first | ((with_reducible refine gate_dst (N := 2) rfl ?_); refine zbx 2 #[.int .i64 a0_0, .int .i64 a0_1, .slice A0_2 l0_2.length c0_2] 25 ?_; intro gb184 hg w11 hbox hb; have _ := aM (below_step (zB HB.1) hb); have _ := aM (hbox); have _ := aM (zge hg (zB HB.1)); have _ := aM (zge hg (zB HB.1)); clear HB; rename_i HB BK184 GW184 GE184; clear hb hbox hg) | ((with_reducible refine gate_dst (N := 3) rfl ?_); refine zbx 3 #[.int .i64 a1_0, .int .i64 a1_1, .slice A1_2 l1_2.length c1_2] 25 ?_; intro gb185 hg w12 hbox hb; have _ := aM (blk_below (zK BK184.1) hb); have _ := aM (below_step (zB1 HB.1 GE184.1) hb); have _ := aM (hbox); have _ := aM (zge hg (zB1 HB.1 GE184.1)); have _ := aM (zge hg (zB1 HB.1 GE184.1)); have _ := aM (znl hg (zK BK184.1)); have _ := aM (zng hg (zK BK184.1)); clear BK184 HB; rename_i BK184 HB BK185 GW185 GE185 NB184_185 NB185_184; clear hb hbox hg; have hnb13 := NB184_185.1; have hnc13 := NB185_184.1; obtain ⟨hcz14_0, hcz14_1, hcz14_2, hfz14_0, hfz14_1, hfz14_2⟩ := zc3f BK184.1; obtain ⟨hcz15_0, hcz15_1, hcz15_2, hfz15_0, hfz15_1, hfz15_2⟩ := zc3f BK185.1))
   go_ret
   exact ⟨by first | rfl | (simp [errW_none, errW_some] <;> rfl) | (simp [*, errW_none, errW_some] <;> rfl), by exact zB2 HB.1 GE184.1 GE185.1⟩
 ·rw [if_neg c3] at H; have c3b0 : (a0_0 == a1_0) = false := beq_eq_false_iff_ne.mpr c3; have c3b1 : (a0_0 != a1_0) = true := bne_iff_ne.mpr c3; obtain rfl := Option.some.inj H
  go_enter Tryd.func37, Tryd.ntmps37
  go_wp2_with (first | ((with_reducible refine gate_dst (N := 2) rfl ?_); refine zbx 2 #[.int .i64 a0_0, .int .i64 a0_1, .slice A0_2 l0_2.length c0_2] 25 ?_; intro gb184 hg w16 hbox hb; have _ := aM (below_step (zB HB.1) hb); have _ := aM (hbox); have _ := aM (zge hg (zB HB.1)); have _ := aM (zge hg (zB HB.1)); clear HB; rename_i HB BK184 GW184 GE184; clear hb hbox hg) | ((with_reducible refine gate_dst (N := 3) rfl ?_); refine zbx 3 #[.int .i64 a1_0, .int .i64 a1_1, .slice A1_2 l1_2.length c1_2] 25 ?_; intro gb185 hg w17 hbox hb; have _ := aM (blk_below (zK BK184.1) hb); have _ := aM (below_step (zB1 HB.1 GE184.1) hb); have _ := aM (hbox); have _ := aM (zge hg (zB1 HB.1 GE184.1)); have _ := aM (zge hg (zB1 HB.1 GE184.1)); have _ := aM (znl hg (zK BK184.1)); have _ := aM (zng hg (zK BK184.1)); clear BK184 HB; rename_i BK184 HB BK185 GW185 GE185 NB184_185 NB185_184; clear hb hbox hg; have hnb18 := NB184_185.1; have hnc18 := NB185_184.1; obtain ⟨hcz19_0, hcz19_1, hcz19_2, hfz19_0, hfz19_1, hfz19_2⟩ := zc3f BK184.1; obtain ⟨hcz20_0, hcz20_1, hcz20_2, hfz20_0, hfz20_1, hfz20_2⟩ := zc3f BK185.1))
  go_ret
  exact ⟨by first | rfl | (simp [errW_none, errW_some] <;> rfl) | (simp [*, errW_none, errW_some] <;> rfl), by exact zB2 HB.1 GE184.1 GE185.1⟩

/-- A state of type 97 at block g of W; what its slices lead to came in by w0. -/
def IsS97 (w0 W : World) (g : Nat) (f0 : List Int) (f1 : Int) : Prop := ∃ A0 c0, W.heap[g]? = some (.cells #[.slice A0 f0.length c0, .int .i64 f1] 97 (0, 0)) ∧ w0.heap.size ≤ g ∧ Kd.C (Kd.int .u8) w0 A0 f0.length f0
theorem IsS97.grown {w0 W : World} {g : Nat} {f0 : List Int} {f1 : Int} {W1 : World} {row : Option Nat} (h : IsS97 w0 W g f0 f1) (hw : W.grownBy W1 row) (hne : some g ≠ row) : IsS97 w0 W1 g f0 f1 := by
 obtain ⟨A0, c0, hb, hg, hr0⟩ := h
 exact ⟨A0, c0, blk_grown hb hw hne, hg, hr0⟩
theorem IsS97.own_neN {w0 W : World} {g : Nat} {f0 : List Int} {f1 : Int} {α : Type} {d : Kd α} {e : Nat} {base : Nat} {ok : Nat → Prop} {v : Value} {xs : List α} (h : IsS97 w0 W g f0 f1) (ho : Kd.N d e W base ok v xs) (ht : e ≠ 97) : some g ≠ v.ownBlock := by
 obtain ⟨A0, c0, hb, hg, hr0⟩ := h
 exact Kd.N_ne ho hb ht
theorem IsS97.fresh {w0 W : World} {g : Nat} {f0 : List Int} {f1 : Int} (h : IsS97 w0 W g f0 f1) : ∀ k, W.heap.size ≤ k → k ≠ g := by
 obtain ⟨A0, c0, hb, hg, hr0⟩ := h
 exact Kd.freshB hb
theorem IsS97.kept {w0 W : World} {g : Nat} {f0 : List Int} {f1 : Int} {W1 : World} {S : Nat → Prop} (h : IsS97 w0 W g f0 f1) (hk : Kept W W1 S) (hne : ¬ S g) : IsS97 w0 W1 g f0 f1 := by
 obtain ⟨A0, c0, hb, hg, hr0⟩ := h
 exact ⟨A0, c0, blk_kept hb hk hne, hg, hr0⟩
theorem IsS97.z0 {w0 W : World} {g : Nat} {f0 : List Int} {f1 : Int} {W1 : World} (h : IsS97 w0 W g f0 f1) [k : Zb [] W W1] : IsS97 w0 W1 g f0 f1 := h.kept k.z (fun hm => by simp only [List.not_mem_nil] at hm)
theorem IsS97.z1 {w0 W : World} {g : Nat} {f0 : List Int} {f1 : Int} {W1 : World} {b0 : Nat} (h : IsS97 w0 W g f0 f1) (n0 : g ≠ b0) [k : Zb [b0] W W1] : IsS97 w0 W1 g f0 f1 := h.kept k.z (fun hm => by simp only [List.mem_cons, List.not_mem_nil, or_false] at hm; rcases hm with e <;> contradiction)
theorem IsS97.z2 {w0 W : World} {g : Nat} {f0 : List Int} {f1 : Int} {W1 : World} {b0 b1 : Nat} (h : IsS97 w0 W g f0 f1) (n0 : g ≠ b0) (n1 : g ≠ b1) [k : Zb [b0, b1] W W1] : IsS97 w0 W1 g f0 f1 := h.kept k.z (fun hm => by simp only [List.mem_cons, List.not_mem_nil, or_false] at hm; rcases hm with e | e <;> contradiction)
theorem IsS97.z3 {w0 W : World} {g : Nat} {f0 : List Int} {f1 : Int} {W1 : World} {b0 b1 b2 : Nat} (h : IsS97 w0 W g f0 f1) (n0 : g ≠ b0) (n1 : g ≠ b1) (n2 : g ≠ b2) [k : Zb [b0, b1, b2] W W1] : IsS97 w0 W1 g f0 f1 := h.kept k.z (fun hm => by simp only [List.mem_cons, List.not_mem_nil, or_false] at hm; rcases hm with e | e | e <;> contradiction)
theorem IsS97.z4 {w0 W : World} {g : Nat} {f0 : List Int} {f1 : Int} {W1 : World} {b0 b1 b2 b3 : Nat} (h : IsS97 w0 W g f0 f1) (n0 : g ≠ b0) (n1 : g ≠ b1) (n2 : g ≠ b2) (n3 : g ≠ b3) [k : Zb [b0, b1, b2, b3] W W1] : IsS97 w0 W1 g f0 f1 := h.kept k.z (fun hm => by simp only [List.mem_cons, List.not_mem_nil, or_false] at hm; rcases hm with e | e | e | e <;> contradiction)
theorem IsS97.z5 {w0 W : World} {g : Nat} {f0 : List Int} {f1 : Int} {W1 : World} {b0 b1 b2 b3 b4 : Nat} (h : IsS97 w0 W g f0 f1) (n0 : g ≠ b0) (n1 : g ≠ b1) (n2 : g ≠ b2) (n3 : g ≠ b3) (n4 : g ≠ b4) [k : Zb [b0, b1, b2, b3, b4] W W1] : IsS97 w0 W1 g f0 f1 := h.kept k.z (fun hm => by simp only [List.mem_cons, List.not_mem_nil, or_false] at hm; rcases hm with e | e | e | e | e <;> contradiction)
theorem IsS97.z6 {w0 W : World} {g : Nat} {f0 : List Int} {f1 : Int} {W1 : World} {b0 b1 b2 b3 b4 b5 : Nat} (h : IsS97 w0 W g f0 f1) (n0 : g ≠ b0) (n1 : g ≠ b1) (n2 : g ≠ b2) (n3 : g ≠ b3) (n4 : g ≠ b4) (n5 : g ≠ b5) [k : Zb [b0, b1, b2, b3, b4, b5] W W1] : IsS97 w0 W1 g f0 f1 := h.kept k.z (fun hm => by simp only [List.mem_cons, List.not_mem_nil, or_false] at hm; rcases hm with e | e | e | e | e | e <;> contradiction)
theorem IsS97.below {w0 W : World} {g : Nat} {f0 : List Int} {f1 : Int} {W1 : World} (h : IsS97 w0 W g f0 f1) (hw : Below W.heap.size W W1) : IsS97 w0 W1 g f0 f1 := h.grown (grown_of_below hw none) (by simp)
theorem IsS97.alloc {w0 W : World} {g : Nat} {f0 : List Int} {f1 : Int} (h : IsS97 w0 W g f0 f1) (o : Obj) : IsS97 w0 (W.alloc o) g f0 f1 := h.below (below_alloc (Below.refl _ _) o)
theorem IsS97.drewN {w0 W : World} {g : Nat} {f0 : List Int} {f1 : Int} (h : IsS97 w0 W g f0 f1) (m : Nat) : IsS97 w0 (W.drewN m) g f0 f1 := h
theorem IsS97.drew {w0 W : World} {g : Nat} {f0 : List Int} {f1 : Int} (h : IsS97 w0 W g f0 f1) : IsS97 w0 W.drew g f0 f1 := h
theorem IsS97.at_ {w0 W : World} {g : Nat} {f0 : List Int} {f1 : Int} {w' : World} {m : Nat} (hq : W.drewN m = w') (h : IsS97 w0 W g f0 f1) : IsS97 w0 w' g f0 f1 := by subst hq; exact IsS97.drewN h m
theorem IsS97.apart {w0 W : World} {g : Nat} {f0 : List Int} {f1 : Int} {α : Type} {d : Kd α} {e : Nat} {base : Nat} {ok : Nat → Prop} {v : Value} {xs : List α} (h : IsS97 w0 W g f0 f1) (ho : d.R e W base ok v xs) (ht : ∀ q, q ∈ e :: d.E → q ≠ 97) : d.R e W base (fun k => ok k ∧ k ≠ g) v xs := by
 obtain ⟨A0, c0, hb, hg, hr0⟩ := h
 exact Kd.R_types ho hb ht
theorem IsS97.own_ne {w0 W : World} {g : Nat} {f0 : List Int} {f1 : Int} {α : Type} {d : Kd α} {e : Nat} {base : Nat} {ok : Nat → Prop} {v : Value} {xs : List α} (h : IsS97 w0 W g f0 f1) (ho : d.R e W base ok v xs) (ht : e ≠ 97) : some g ≠ v.ownBlock := by
 obtain ⟨A0, c0, hb, hg, hr0⟩ := h
 exact Kd.R_ne ho hb ht
theorem IsS97.apartQ {w0 W : World} {g : Nat} {f0 : List Int} {f1 : Int} {α : Type} {d : Kd α} {e : Nat} {base : Nat} {ok : Nat → Prop} {v : Value} {xs : List α} (h : IsS97 w0 W g f0 f1) (ho : d.Q e W base ok v xs) (ht : ∀ q, q ∈ e :: d.E → q ≠ 97) : d.Q e W base (fun k => ok k ∧ k ≠ g) v xs := by
 obtain ⟨A0, c0, hb, hg, hr0⟩ := h
 exact Kd.Q_types ho hb ht
theorem IsS97.own_neQ {w0 W : World} {g : Nat} {f0 : List Int} {f1 : Int} {α : Type} {d : Kd α} {e : Nat} {base : Nat} {ok : Nat → Prop} {v : Value} {xs : List α} (h : IsS97 w0 W g f0 f1) (ho : d.Q e W base ok v xs) (ht : e ≠ 97) : some g ≠ v.ownBlock := by
 obtain ⟨A0, c0, hb, hg, hr0⟩ := h
 exact Kd.Q_ne ho hb ht
theorem IsS97.apartS {w0 W : World} {g : Nat} {f0 : List Int} {f1 : Int} {α : Type} {d : Kd α} {e : Nat} {base : Nat} {ok : Nat → Prop} {v : Value} {xs : List α} (h : IsS97 w0 W g f0 f1) (ho : d.S e W base ok v xs) (ht : ∀ q, q ∈ e :: d.E → q ≠ 97) : d.S e W base (fun k => ok k ∧ k ≠ g) v xs := by
 obtain ⟨A0, c0, hb, hg, hr0⟩ := h
 exact Kd.S_types ho hb ht
theorem IsS97.own_neS {w0 W : World} {g : Nat} {f0 : List Int} {f1 : Int} {α : Type} {d : Kd α} {e : Nat} {base : Nat} {ok : Nat → Prop} {v : Value} {xs : List α} (h : IsS97 w0 W g f0 f1) (ho : d.S e W base ok v xs) (ht : e ≠ 97) : some g ≠ v.ownBlock := by
 obtain ⟨A0, c0, hb, hg, hr0⟩ := h
 exact Kd.S_ne ho hb ht
theorem IsS97.lt {w0 W : World} {g : Nat} {f0 : List Int} {f1 : Int} (h : IsS97 w0 W g f0 f1) : g < W.heap.size := by
 obtain ⟨A0, c0, hb, hg, hr0⟩ := h
 exact blk_lt hb
theorem IsS97.ge {w0 W : World} {g : Nat} {f0 : List Int} {f1 : Int} (h : IsS97 w0 W g f0 f1) : w0.heap.size ≤ g := by
 obtain ⟨A0, c0, hb, hg, hr0⟩ := h
 exact hg
theorem IsS97.ne_blk {w0 W : World} {g : Nat} {f0 : List Int} {f1 : Int} {a : Nat} {cs : Array Value} {t : TypeId} {fr : Nat × Nat} (h : IsS97 w0 W g f0 f1) (hb2 : W.heap[a]? = some (.cells cs t fr)) (ht : t ≠ 97) : g ≠ a := by
 obtain ⟨A0, c0, hb, hg, hr0⟩ := h
 rintro rfl
 rw [hb] at hb2
 injection hb2 with hb2
 injection hb2 with _ ht2
 exact ht ht2.symm
theorem IsS97.far {w0 W : World} {g : Nat} {f0 : List Int} {f1 : Int} {p : Addr} (h : IsS97 w0 W g f0 f1) (hne : g ≠ p.block) (u : Value) : IsS97 w0 (W.setCell p u) g f0 f1 := by
 obtain ⟨A0, c0, hb, hg, hr0⟩ := h
 exact ⟨A0, c0, blk_far hb hne u, hg, hr0⟩
theorem cellS97_0 {W : World} {g : Nat} {A0 : Option Addr} {c0 : Nat} {f0 : List Int} {f1 : Int} (h : W.heap[g]? = some (.cells #[.slice A0 f0.length c0, .int .i64 f1] 97 (0, 0))) : W.cell? ⟨g, 0, none⟩ = some (.slice A0 f0.length c0) := (blk_cell h 0).trans rfl
theorem cellS97_1 {W : World} {g : Nat} {A0 : Option Addr} {c0 : Nat} {f0 : List Int} {f1 : Int} (h : W.heap[g]? = some (.cells #[.slice A0 f0.length c0, .int .i64 f1] 97 (0, 0))) : W.cell? ⟨g, 1, none⟩ = some (.int .i64 f1) := (blk_cell h 1).trans rfl
theorem IsS97.set_1 {w0 W : World} {g : Nat} {f0 : List Int} {f1 : Int} (h : IsS97 w0 W g f0 f1) (x : Int) : IsS97 w0 (W.setCell ⟨g, 1, none⟩ (.int .i64 x)) g f0 x := by
 obtain ⟨A0, c0, hb, hg, hr0⟩ := h
 exact ⟨A0, c0, by simpa using blk_set hb 1 (.int .i64 x), hg, hr0⟩
theorem IsS97.new (w0 W : World) (A0 : Option Addr) (c0 : Nat) (f0 : List Int) (f1 : Int) (hB : Below w0.heap.size w0 W) (hr0 : Kd.C (Kd.int .u8) w0 A0 f0.length f0) : IsS97 w0 (W.alloc (.cells #[.slice A0 f0.length c0, .int .i64 f1] 97)) W.heap.size f0 f1 := ⟨A0, c0, by simpa using heap_alloc_new W _, hB.size, hr0⟩

/-! ### spec_l6Open: function 40 -/
def spec_l6Open.f (l0 : List Int) : Option (List Int × Int) := if (l0.length : Int) > 2000 then (if 2000 ≤ (l0.length : Int) then (some (l0.take 2000, 0)) else (none)) else (some (l0, 0))
set_option maxHeartbeats 8000000 in
set_option maxRecDepth 100000 in
theorem spec_l6Open.calls (A0 : Option Addr) (c0 : Nat) (l0 : List Int) (r1 : List Int) (r2 : Int) (w0 w : World) (hB : Below w0.heap.size w0 w) (hr0 : Kd.C (Kd.int .u8) w0 A0 l0.length l0) (hc0 : l0.length ≤ c0) (h : spec_l6Open.f l0 = some (r1, r2)) :
  Calls Tryd.prog 40 #[.slice A0 l0.length c0] w fun e w' => ∃ g_ : Nat, e = .returned (.pointer (some ⟨g_, 0, none⟩)) ∧ IsS97 w0 w' g_ r1 r2 ∧ Below w0.heap.size w0 w' ∧ Below w.heap.size w w' := by
 have hu97 := Tryd.underlying97; have HR0 := aM hr0; have HC0 := aM hc0; clear hr0 hc0; have HBW := aM (Below.refl w.heap.size w); have HW0 := aM hB.size; have HB := aM hB; clear hB; have H : (if (l0.length : Int) > 2000 then (if 2000 ≤ (l0.length : Int) then (some (l0.take 2000, 0)) else (none)) else (some (l0, 0))) = some (r1, r2) := h; clear h
 by_cases c2 : (l0.length : Int) > 2000
 ·rw [if_pos c2] at H; have c2b0 : decide (2000 < (l0.length : Int)) = true := decide_eq_true c2; have c2b1 : decide (2000 < l0.length) = true := decide_eq_true (by omega); clear c2; replace H := zif H; obtain ⟨c3, H⟩ := H; have c3b0 := eq_true c3; have c3b1 : decide (2000 ≤ (l0.length : Int)) = true := decide_eq_true c3; clear c3; simp only [Option.some.injEq, Prod.mk.injEq] at H; obtain ⟨rfl, rfl⟩ := H; obtain ⟨i04, hi04, _, hsz4, _⟩ := info_parts info5; obtain ⟨hcut4, hA4, hC4⟩ := print_take_of (P := Tryd.prog) (Value.int .u8) 0 22 5 .i64 Tryd.underlying22 hi04 hsz4 A0 c0 l0 2000 (by omega) (zd) HC0.1; have HR187 := aM (Kd.C_of_reads (h1 := fun _ => rfl) (hA4 _ (Kd.reads_of_C HR0.1))); have HC187 := aM hC4; clear hA4 hC4 hi04 hsz4
  go_enter Tryd.func40, Tryd.ntmps40
  go_wp2_with (first | ((with_reducible refine gate_dst (N := 10) rfl ?_); refine zbx 10 #[.slice A0 (l0.take 2000).length c0, .int .i64 0] 97 ?_; intro gb188 hg w5 hbox hb; have _ := aM (below_step HBW.1 hb); have _ := aM (below_step (zB HB.1) hb); have _ := aM (hbox); have _ := aM (zge hg (zB HBW.1)); have _ := aM ((Nat.le_trans HW0.1 (by rw [hg]; exact (below_size (zB HBW.1)) : w.heap.size ≤ gb188) : w0.heap.size ≤ gb188)); clear HBW HB; rename_i HBW HB BK188 GW188 GE188; clear hb hbox hg))
  go_ret
  exact ⟨_, rfl, (show IsS97 w0 _ gb188 (l0.take 2000) 0 from ⟨_, _, by exact zK BK188.1, GE188.1, HR187.1⟩), by exact zB1 HB.1 GE188.1, by exact zB1 HBW.1 GW188.1⟩
 ·rw [if_neg c2] at H; have c2b0 : decide (2000 < (l0.length : Int)) = false := decide_eq_false c2; have c2b1 : decide (2000 < l0.length) = false := decide_eq_false (by omega); clear c2; simp only [Option.some.injEq, Prod.mk.injEq] at H; obtain ⟨rfl, rfl⟩ := H
  go_enter Tryd.func40, Tryd.ntmps40
  go_wp2_with (first | ((with_reducible refine gate_dst (N := 10) rfl ?_); refine zbx 10 #[.slice A0 l0.length c0, .int .i64 0] 97 ?_; intro gb189 hg w6 hbox hb; have _ := aM (below_step HBW.1 hb); have _ := aM (below_step (zB HB.1) hb); have _ := aM (hbox); have _ := aM (zge hg (zB HBW.1)); have _ := aM ((Nat.le_trans HW0.1 (by rw [hg]; exact (below_size (zB HBW.1)) : w.heap.size ≤ gb189) : w0.heap.size ≤ gb189)); clear HBW HB; rename_i HBW HB BK189 GW189 GE189; clear hb hbox hg))
  go_ret
  exact ⟨_, rfl, (show IsS97 w0 _ gb189 l0 0 from ⟨_, _, by exact zK BK189.1, GE189.1, HR0.1⟩), by exact zB1 HB.1 GE189.1, by exact zB1 HBW.1 GW189.1⟩

/-! ### spec_l6Rd_pick: function 43 -/
def spec_l6Rd_pick.j0 : Nat → Int → Bool → List Int → Int → Option (Int × Int)
 | 0, _, _, _, _ => none
 | k + 1, x1, x24, x1000, x1001 => if x24 = true then (some (0, x1001)) else (if (wrap64 (x1001 - 1)) < (x1000.length : Int) then (if 0 ≤ (wrap64 (x1001 - 1)) then (if x1 = 0 then (none) else (some (Int.tmod (wrap64 (rd x1000 (wrap64 (x1001 - 1)))) x1, x1001))) else (none)) else (if (x1000.length : Int) = 0 then (none) else (if 0 ≤ (Int.tmod (wrap64 (x1001 - 1)) (x1000.length : Int)) then (if (Int.tmod (wrap64 (x1001 - 1)) (x1000.length : Int)) < (x1000.length : Int) then (if 0 ≤ (Int.tmod (wrap64 ((wrap64 ((wrap64 (x1001 - 1)) * 7)) + 3)) (x1000.length : Int)) then (if (Int.tmod (wrap64 ((wrap64 ((wrap64 (x1001 - 1)) * 7)) + 3)) (x1000.length : Int)) < (x1000.length : Int) then (if x1 = 0 then (none) else (some (Int.tmod (Go.bits .xor .i64 (wrap64 ((wrap64 ((wrap64 ((wrap64 ((wrap64 (rd x1000 (Int.tmod (wrap64 (x1001 - 1)) (x1000.length : Int)))) * 131)) + (wrap64 ((wrap64 (rd x1000 (Int.tmod (wrap64 ((wrap64 ((wrap64 (x1001 - 1)) * 7)) + 3)) (x1000.length : Int)))) * 1117)))) + (wrap64 ((wrap64 (x1001 - 1)) * 29)))) + (wrap64 ((wrap64 (Int.tdiv (wrap64 (x1001 - 1)) (x1000.length : Int))) * 53)))) (wrap64 (Int.tdiv (wrap64 ((wrap64 ((wrap64 ((wrap64 ((wrap64 (rd x1000 (Int.tmod (wrap64 (x1001 - 1)) (x1000.length : Int)))) * 131)) + (wrap64 ((wrap64 (rd x1000 (Int.tmod (wrap64 ((wrap64 ((wrap64 (x1001 - 1)) * 7)) + 3)) (x1000.length : Int)))) * 1117)))) + (wrap64 ((wrap64 (x1001 - 1)) * 29)))) + (wrap64 ((wrap64 (Int.tdiv (wrap64 (x1001 - 1)) (x1000.length : Int))) * 53)))) 64))) x1, x1001))) else (none)) else (none)) else (none)) else (none))))
def spec_l6Rd_pick.f (k : Nat) (s0_0 : List Int) (s0_1 : Int) (a1 : Int) : Option (Int × Int) := if a1 < 1 then (spec_l6Rd_pick.j0 k a1 true s0_0 (wrap64 (s0_1 + 1))) else (spec_l6Rd_pick.j0 k a1 ((s0_0.length : Int) == 0) s0_0 (wrap64 (s0_1 + 1)))
theorem spec_l6Rd_pick.mono_l : ∀ k, (∀ y0 y1 y2 y3, LeO (spec_l6Rd_pick.j0 k y0 y1 y2 y3) (spec_l6Rd_pick.j0 (k + 1) y0 y1 y2 y3))
 | 0 => fun _ _ _ _ r h => by simp [spec_l6Rd_pick.j0] at h
 | k + 1 => by
  have ih0 := spec_l6Rd_pick.mono_l k
  ·intro y0 y1 y2 y3
   unfold spec_l6Rd_pick.j0
   repeat' first
   | (with_reducible exact ih0 _ _ _ _)
   | (with_reducible exact LeO.refl _)
   | (with_reducible exact LeO.none _)
   | (with_reducible refine LeO.ite ?_ ?_)
   | (with_reducible refine LeO.bind ?_ (fun _ => ?_))
   | exact ih0 _ _ _ _
   | exact LeO.none _
   | refine LeO.ite ?_ ?_
   | refine LeO.bind ?_ (fun _ => ?_)
theorem spec_l6Rd_pick.mono : ∀ a0 a1 a2 k, LeO (spec_l6Rd_pick.f k a0 a1 a2) (spec_l6Rd_pick.f (k + 1) a0 a1 a2) := by
 intro a0 a1 a2 k
 have ih0 := spec_l6Rd_pick.mono_l k
 unfold spec_l6Rd_pick.f
 repeat' with_reducible first | apply ih0 | exact LeO.refl _ | exact LeO.none _ | refine LeO.ite ?_ ?_ | refine LeO.bind ?_ (fun _ => ?_)
set_option maxHeartbeats 8000000 in
set_option maxRecDepth 100000 in
theorem spec_l6Rd_pick.calls (k : Nat) (g : Nat) (s0_0 : List Int) (s0_1 : Int) (a1 : Int) (r1 : Int) (r2 : Int) (w0 w : World) (hI : IsS97 w0 w g s0_0 s0_1) (hB : Below w0.heap.size w0 w) (h : spec_l6Rd_pick.f k s0_0 s0_1 a1 = some (r1, r2)) :
  Calls Tryd.prog 43 #[.pointer (some ⟨g, 0, none⟩), .int .i64 a1] w fun e w' => e = .returned (.int .i64 r1) ∧ IsS97 w0 w' g s0_0 r2 ∧ Below w0.heap.size w0 w' ∧ KeepBut w w' g none := by
 have HI0 := Aside0.mk hI
 have HK := Aside0.mk (KeepBut.refl w g none)
 have HL := Aside0.mk hB.size
 clear hI
 have HW0 := Aside0.mk hB.size
 have HB := Aside0.mk hB
 clear hB
 have H : (if a1 < 1 then (spec_l6Rd_pick.j0 k a1 true s0_0 (wrap64 (s0_1 + 1))) else (spec_l6Rd_pick.j0 k a1 ((s0_0.length : Int) == 0) s0_0 (wrap64 (s0_1 + 1)))) = some (r1, r2) := h
 clear h
 have HC3 := Aside0.mk H
 clear H
 obtain ⟨ASz4_0, cSz4_0, HGz4, hgz4, HSz4_0⟩ := HI0.out
 have hcz4_0 := cellS97_0 HGz4
 have hcz4_1 := cellS97_1 HGz4
 have hfz4_1 := blk_frozen HGz4 1
 clear HGz4 hgz4
 go_enter Tryd.func43, Tryd.ntmps43
 go_upto_region 2 with (fail)
 repeat (go_quiet (fail); go_upto_region 2 with (fail))
 go_cut [24] (fun v24 wc => ∃ (kq : Nat) (x24_2 : Bool), v24 = .bool x24_2 ∧ Aside0 (spec_l6Rd_pick.j0 kq a1 x24_2 s0_0 (wrap64 (s0_1 + 1)) = some (r1, r2)) ∧ Aside0 (kq ≤ k) ∧ Aside0 (IsS97 w0 wc g s0_0 (wrap64 (s0_1 + 1))) ∧ Aside0 (KeepBut w wc g none) ∧ Aside0 (Below w0.heap.size w0 wc))
 case first =>
  have H := HC3.out
  clear HC3
  by_cases c5 : a1 < 1
  ·rw [if_pos c5] at H
   have c5b0 : decide (a1 < 1) = true := decide_eq_true c5
   clear c5
   (first | rw [c5b0] | (simp only [i64_w, i32_w]; rw [c5b0]) | skip)
   have H' := Aside0.mk H
   clear H
   go_wp2
   repeat (go_quiet (fail); try go_wp2)
   go_meet
   case rel => exact ⟨_, (true), (by first | rfl | (simp; done) | (simp [*]; done)), H', ⟨by first | omega | exact Nat.le_refl _⟩, ⟨by repeat (first | (with_reducible first | exact HI0.out | apply IsS97.alloc | apply IsS97.drewN | apply IsS97.drew | apply IsS97.set_1) | exact HI0.out)⟩, ⟨by repeat (first | (with_reducible first | exact HK.out | apply KeepBut.set_ | apply keep_drewN | apply keep_drew | apply keep_alloc) | exact HK.out)⟩, ⟨by exact zB1 HB.out (IsS97.ge HI0.out)⟩⟩
  ·rw [if_neg c5] at H
   have c5b0 : decide (a1 < 1) = false := decide_eq_false c5
   clear c5
   (first | rw [c5b0] | (simp only [i64_w, i32_w]; rw [c5b0]) | skip)
   have H' := Aside0.mk H
   clear H
   obtain ⟨ASz6_0, cSz6_0, HGz6, hgz6, HSz6_0⟩ := HI0.out
   have hcz6_0 := cellS97_0 HGz6
   have hcz6_1 := cellS97_1 HGz6
   have hfz6_1 := blk_frozen HGz6 1
   clear HGz6 hgz6
   go_wp2
   repeat (go_quiet (fail); try go_wp2)
   go_meet
   case rel => exact ⟨_, (((s0_0.length : Int) == 0)), (by first | rfl | (simp; done) | (simp [*]; done)), H', ⟨by first | omega | exact Nat.le_refl _⟩, ⟨by repeat (first | (with_reducible first | exact HI0.out | apply IsS97.alloc | apply IsS97.drewN | apply IsS97.drew | apply IsS97.set_1) | exact HI0.out)⟩, ⟨by repeat (first | (with_reducible first | exact HK.out | apply KeepBut.set_ | apply keep_drewN | apply keep_drew | apply keep_alloc) | exact HK.out)⟩, ⟨by exact zB1 HB.out (IsS97.ge HI0.out)⟩⟩
 case rest =>
  clear HC3
  try clear p2
  try clear c4
  try clear c5
  try clear c5b0
  try clear p6
  try clear hcz4_0
  try clear hcz4_1
  try clear hcz6_0
  try clear hcz6_1
  try clear hfz4_1
  try clear hfz6_1
  obtain ⟨kq, x24_2, rfl, HA, HJ2, HI0, HK, HB⟩ := hcut
  cases kq with
  | zero => exact absurd HA.out (by simp [spec_l6Rd_pick.j0])
  | succ kj2 =>
   have H := HA.out
   clear HA
   simp only [spec_l6Rd_pick.j0] at H
   by_cases c7 : x24_2 = true
   ·subst c7
    have H1 : (some (0, (wrap64 (s0_1 + 1)))) = some (r1, r2) := by rw [if_pos rfl] at H; exact H
    clear H
    have H := H1
    clear H1
    simp only [Option.some.injEq, Prod.mk.injEq] at H
    obtain ⟨rfl, rfl⟩ := H
    go_wp2
    repeat (go_quiet (fail); try go_wp2)
    go_ret
    exact ⟨by first | rfl | (simp [errW_none, errW_some] <;> rfl) | (simp [*, errW_none, errW_some] <;> rfl), by repeat (first | (with_reducible first | exact HI0.out | apply IsS97.alloc | apply IsS97.drewN | apply IsS97.drew | apply IsS97.set_1) | exact HI0.out), by exact zB1 HB.out (IsS97.ge HI0.out), by repeat (first | (with_reducible first | exact HK.out | apply KeepBut.set_ | apply keep_drewN | apply keep_drew | apply keep_alloc) | exact HK.out)⟩
   ·replace c7 := Bool.eq_false_iff.mpr c7
    subst c7
    have H1 : (if (wrap64 ((wrap64 (s0_1 + 1)) - 1)) < (s0_0.length : Int) then (if 0 ≤ (wrap64 ((wrap64 (s0_1 + 1)) - 1)) then (if a1 = 0 then (none) else (some (Int.tmod (wrap64 (rd s0_0 (wrap64 ((wrap64 (s0_1 + 1)) - 1)))) a1, (wrap64 (s0_1 + 1))))) else (none)) else (if (s0_0.length : Int) = 0 then (none) else (if 0 ≤ (Int.tmod (wrap64 ((wrap64 (s0_1 + 1)) - 1)) (s0_0.length : Int)) then (if (Int.tmod (wrap64 ((wrap64 (s0_1 + 1)) - 1)) (s0_0.length : Int)) < (s0_0.length : Int) then (if 0 ≤ (Int.tmod (wrap64 ((wrap64 ((wrap64 ((wrap64 (s0_1 + 1)) - 1)) * 7)) + 3)) (s0_0.length : Int)) then (if (Int.tmod (wrap64 ((wrap64 ((wrap64 ((wrap64 (s0_1 + 1)) - 1)) * 7)) + 3)) (s0_0.length : Int)) < (s0_0.length : Int) then (if a1 = 0 then (none) else (some (Int.tmod (Go.bits .xor .i64 (wrap64 ((wrap64 ((wrap64 ((wrap64 ((wrap64 (rd s0_0 (Int.tmod (wrap64 ((wrap64 (s0_1 + 1)) - 1)) (s0_0.length : Int)))) * 131)) + (wrap64 ((wrap64 (rd s0_0 (Int.tmod (wrap64 ((wrap64 ((wrap64 ((wrap64 (s0_1 + 1)) - 1)) * 7)) + 3)) (s0_0.length : Int)))) * 1117)))) + (wrap64 ((wrap64 ((wrap64 (s0_1 + 1)) - 1)) * 29)))) + (wrap64 ((wrap64 (Int.tdiv (wrap64 ((wrap64 (s0_1 + 1)) - 1)) (s0_0.length : Int))) * 53)))) (wrap64 (Int.tdiv (wrap64 ((wrap64 ((wrap64 ((wrap64 ((wrap64 (rd s0_0 (Int.tmod (wrap64 ((wrap64 (s0_1 + 1)) - 1)) (s0_0.length : Int)))) * 131)) + (wrap64 ((wrap64 (rd s0_0 (Int.tmod (wrap64 ((wrap64 ((wrap64 ((wrap64 (s0_1 + 1)) - 1)) * 7)) + 3)) (s0_0.length : Int)))) * 1117)))) + (wrap64 ((wrap64 ((wrap64 (s0_1 + 1)) - 1)) * 29)))) + (wrap64 ((wrap64 (Int.tdiv (wrap64 ((wrap64 (s0_1 + 1)) - 1)) (s0_0.length : Int))) * 53)))) 64))) a1, (wrap64 (s0_1 + 1))))) else (none)) else (none)) else (none)) else (none)))) = some (r1, r2) := by rw [if_neg (show ¬ (false = true) by decide)] at H; exact H
    clear H
    have H := H1
    clear H1
    by_cases c8 : (wrap64 ((wrap64 (s0_1 + 1)) - 1)) < (s0_0.length : Int)
    ·rw [if_pos c8] at H
     have c8b0 : decide ((wrap64 ((wrap64 (s0_1 + 1)) - 1)) < (s0_0.length : Int)) = true := decide_eq_true c8
     clear c8
     obtain ⟨ji9, hji9⟩ : ∃ j_ : Int, (wrap64 ((wrap64 (s0_1 + 1)) - 1)) = j_ := ⟨_, rfl⟩
     replace H : (if 0 ≤ (ji9) then (if a1 = 0 then (none) else (some (Int.tmod (wrap64 (rd s0_0 (ji9))) a1, (wrap64 (s0_1 + 1))))) else (none)) = some (r1, r2) := by first | (rw [hji9] at H; exact H) | (simp only [hji9] at H ⊢; exact H)
     (try rw [hji9] at c8b0)
     have hji9w : (IntKind.i64.wrap ((wrap64 (s0_1 + 1)) - 1)) = ji9 := (i64_w _).trans hji9
     by_cases c10 : 0 ≤ (ji9)
     ·rw [if_pos c10] at H
      have c10b0 : decide (0 ≤ (ji9)) = true := decide_eq_true c10
      clear c10
      by_cases c11 : a1 = 0
      ·rw [if_pos c11] at H
       exact absurd H (by simp)
      ·rw [if_neg c11] at H
       have c11b0 : (a1 == 0) = false := beq_eq_false_iff_ne.mpr c11
       have c11b1 : (a1 != 0) = true := bne_iff_ne.mpr c11
       simp only [Option.some.injEq, Prod.mk.injEq] at H
       obtain ⟨rfl, rfl⟩ := H
       obtain ⟨ASz12_0, cSz12_0, HGz12, hgz12, HSz12_0⟩ := HI0.out
       have hcz12_0 := cellS97_0 HGz12
       have hcz12_1 := cellS97_1 HGz12
       have hfz12_1 := blk_frozen HGz12 1
       clear HGz12 hgz12
       have p190 : 0 ≤ ((ji9) : Int) := of_decide_eq_true (by first | (with_reducible assumption) | assumption)
       have q190 : (ji9) < (s0_0.length : Int) := of_decide_eq_true (by first | (with_reducible assumption) | assumption)
       obtain ⟨ad190, e190, hx190_0⟩ := Kd.at_int HSz12_0 (ji9) p190 q190
       cases e190
       replace hx190_0 := pw_cell_below HB.out hx190_0
       replace p190 := eq_true p190
       replace q190 := eq_true q190
       go_wp2
       repeat (go_quiet (fail); try go_wp2)
       go_ret
       exact ⟨by first | rfl | (simp [errW_none, errW_some] <;> rfl) | (simp only [← hji9]; first | rfl | (simp [errW_none, errW_some] <;> rfl)) | (simp [*, errW_none, errW_some] <;> rfl), by repeat (first | (with_reducible first | exact HI0.out | apply IsS97.alloc | apply IsS97.drewN | apply IsS97.drew | apply IsS97.set_1) | exact HI0.out), by exact zB1 HB.out (IsS97.ge HI0.out), by repeat (first | (with_reducible first | exact HK.out | apply KeepBut.set_ | apply keep_drewN | apply keep_drew | apply keep_alloc) | exact HK.out)⟩
     ·rw [if_neg c10] at H
      exact absurd H (by simp)
    ·rw [if_neg c8] at H
     have c8b0 : decide ((wrap64 ((wrap64 (s0_1 + 1)) - 1)) < (s0_0.length : Int)) = false := decide_eq_false c8
     clear c8
     by_cases c13 : (s0_0.length : Int) = 0
     ·rw [if_pos c13] at H
      exact absurd H (by simp)
     ·rw [if_neg c13] at H
      have c13b0 : ((s0_0.length : Int) == 0) = false := beq_eq_false_iff_ne.mpr c13
      have c13b1 : ((s0_0.length : Int) != 0) = true := bne_iff_ne.mpr c13
      have c13b2 : ¬ (s0_0 = []) := fun h_ => c13 (by rw [h_]; rfl)
      obtain ⟨ji14, hji14⟩ : ∃ j_ : Int, (Int.tmod (wrap64 ((wrap64 (s0_1 + 1)) - 1)) (s0_0.length : Int)) = j_ := ⟨_, rfl⟩
      replace H : (if 0 ≤ (ji14) then (if (ji14) < (s0_0.length : Int) then (if 0 ≤ (Int.tmod (wrap64 ((wrap64 ((wrap64 ((wrap64 (s0_1 + 1)) - 1)) * 7)) + 3)) (s0_0.length : Int)) then (if (Int.tmod (wrap64 ((wrap64 ((wrap64 ((wrap64 (s0_1 + 1)) - 1)) * 7)) + 3)) (s0_0.length : Int)) < (s0_0.length : Int) then (if a1 = 0 then (none) else (some (Int.tmod (Go.bits .xor .i64 (wrap64 ((wrap64 ((wrap64 ((wrap64 ((wrap64 (rd s0_0 (ji14))) * 131)) + (wrap64 ((wrap64 (rd s0_0 (Int.tmod (wrap64 ((wrap64 ((wrap64 ((wrap64 (s0_1 + 1)) - 1)) * 7)) + 3)) (s0_0.length : Int)))) * 1117)))) + (wrap64 ((wrap64 ((wrap64 (s0_1 + 1)) - 1)) * 29)))) + (wrap64 ((wrap64 (Int.tdiv (wrap64 ((wrap64 (s0_1 + 1)) - 1)) (s0_0.length : Int))) * 53)))) (wrap64 (Int.tdiv (wrap64 ((wrap64 ((wrap64 ((wrap64 ((wrap64 (rd s0_0 (ji14))) * 131)) + (wrap64 ((wrap64 (rd s0_0 (Int.tmod (wrap64 ((wrap64 ((wrap64 ((wrap64 (s0_1 + 1)) - 1)) * 7)) + 3)) (s0_0.length : Int)))) * 1117)))) + (wrap64 ((wrap64 ((wrap64 (s0_1 + 1)) - 1)) * 29)))) + (wrap64 ((wrap64 (Int.tdiv (wrap64 ((wrap64 (s0_1 + 1)) - 1)) (s0_0.length : Int))) * 53)))) 64))) a1, (wrap64 (s0_1 + 1))))) else (none)) else (none)) else (none)) else (none)) = some (r1, r2) := by first | (rw [hji14] at H; exact H) | (simp only [hji14] at H ⊢; exact H)
      by_cases c15 : 0 ≤ (ji14)
      ·rw [if_pos c15] at H
       have c15b0 : decide (0 ≤ (ji14)) = true := decide_eq_true c15
       clear c15
       by_cases c16 : (ji14) < (s0_0.length : Int)
       ·rw [if_pos c16] at H
        have c16b0 : decide ((ji14) < (s0_0.length : Int)) = true := decide_eq_true c16
        clear c16
        obtain ⟨ji17, hji17⟩ : ∃ j_ : Int, (Int.tmod (wrap64 ((wrap64 ((wrap64 ((wrap64 (s0_1 + 1)) - 1)) * 7)) + 3)) (s0_0.length : Int)) = j_ := ⟨_, rfl⟩
        replace H : (if 0 ≤ (ji17) then (if (ji17) < (s0_0.length : Int) then (if a1 = 0 then (none) else (some (Int.tmod (Go.bits .xor .i64 (wrap64 ((wrap64 ((wrap64 ((wrap64 ((wrap64 (rd s0_0 (ji14))) * 131)) + (wrap64 ((wrap64 (rd s0_0 (ji17))) * 1117)))) + (wrap64 ((wrap64 ((wrap64 (s0_1 + 1)) - 1)) * 29)))) + (wrap64 ((wrap64 (Int.tdiv (wrap64 ((wrap64 (s0_1 + 1)) - 1)) (s0_0.length : Int))) * 53)))) (wrap64 (Int.tdiv (wrap64 ((wrap64 ((wrap64 ((wrap64 ((wrap64 (rd s0_0 (ji14))) * 131)) + (wrap64 ((wrap64 (rd s0_0 (ji17))) * 1117)))) + (wrap64 ((wrap64 ((wrap64 (s0_1 + 1)) - 1)) * 29)))) + (wrap64 ((wrap64 (Int.tdiv (wrap64 ((wrap64 (s0_1 + 1)) - 1)) (s0_0.length : Int))) * 53)))) 64))) a1, (wrap64 (s0_1 + 1))))) else (none)) else (none)) = some (r1, r2) := by first | (rw [hji17] at H; exact H) | (simp only [hji17] at H ⊢; exact H)
        by_cases c18 : 0 ≤ (ji17)
        ·rw [if_pos c18] at H
         have c18b0 : decide (0 ≤ (ji17)) = true := decide_eq_true c18
         clear c18
         by_cases c19 : (ji17) < (s0_0.length : Int)
         ·rw [if_pos c19] at H
          have c19b0 : decide ((ji17) < (s0_0.length : Int)) = true := decide_eq_true c19
          clear c19
          by_cases c20 : a1 = 0
          ·rw [if_pos c20] at H
           exact absurd H (by simp)
          ·rw [if_neg c20] at H
           have c20b0 : (a1 == 0) = false := beq_eq_false_iff_ne.mpr c20
           have c20b1 : (a1 != 0) = true := bne_iff_ne.mpr c20
           simp only [Option.some.injEq, Prod.mk.injEq] at H
           obtain ⟨rfl, rfl⟩ := H
           obtain ⟨ASz21_0, cSz21_0, HGz21, hgz21, HSz21_0⟩ := HI0.out
           have hcz21_0 := cellS97_0 HGz21
           have hcz21_1 := cellS97_1 HGz21
           have hfz21_1 := blk_frozen HGz21 1
           clear HGz21 hgz21
           have p191 : 0 ≤ ((ji14) : Int) := of_decide_eq_true (by first | (with_reducible assumption) | assumption)
           have q191 : (ji14) < (s0_0.length : Int) := of_decide_eq_true (by first | (with_reducible assumption) | assumption)
           obtain ⟨ad191, e191, hx191_0⟩ := Kd.at_int HSz21_0 (ji14) p191 q191
           cases e191
           replace hx191_0 := pw_cell_below HB.out hx191_0
           replace p191 := eq_true p191
           replace q191 := eq_true q191
           have p192 : 0 ≤ ((ji17) : Int) := of_decide_eq_true (by first | (with_reducible assumption) | assumption)
           have q192 : (ji17) < (s0_0.length : Int) := of_decide_eq_true (by first | (with_reducible assumption) | assumption)
           obtain ⟨ad192, e192, hx192_0⟩ := Kd.at_int HSz21_0 (ji17) p192 q192
           obtain rfl : ad191 = ad192 := (by injection e192)
           replace hx192_0 := pw_cell_below HB.out hx192_0
           replace p192 := eq_true p192
           replace q192 := eq_true q192
           go_wp2
           repeat (go_quiet (fail); try go_wp2)
           go_ret
           exact ⟨by first | rfl | (simp [errW_none, errW_some] <;> rfl) | (simp only [← hji14, ← hji17]; first | rfl | (simp [errW_none, errW_some] <;> rfl)) | (simp [*, errW_none, errW_some] <;> rfl), by repeat (first | (with_reducible first | exact HI0.out | apply IsS97.alloc | apply IsS97.drewN | apply IsS97.drew | apply IsS97.set_1) | exact HI0.out), by exact zB1 HB.out (IsS97.ge HI0.out), by repeat (first | (with_reducible first | exact HK.out | apply KeepBut.set_ | apply keep_drewN | apply keep_drew | apply keep_alloc) | exact HK.out)⟩
         ·rw [if_neg c19] at H
          exact absurd H (by simp)
        ·rw [if_neg c18] at H
         exact absurd H (by simp)
       ·rw [if_neg c16] at H
        exact absurd H (by simp)
      ·rw [if_neg c15] at H
       exact absurd H (by simp)

/-! ### spec_l71Pkg: function 79 -/
mutual
def spec_l71Pkg.l0 : Nat → Int → Int → Int → List Int → Int → Int → Int → List (S67) → List (S69) → Option (Int × Int × (List (S67)) × (List (S69)) × Int)
 | 0, _, _, _, _, _, _, _, _, _ => none
 | k + 1, x1, x8, x9, x1000, x1001, x201000, x201001, x201002, x201003 => if x9 > 0 then (spec_l71Pkg.j1 k x1 x8 x9 (decide (x8 < 6)) x1000 x1001 x201000 x201001 x201002 x201003) else (spec_l71Pkg.j1 k x1 x8 x9 false x1000 x1001 x201000 x201001 x201002 x201003)
def spec_l71Pkg.j1 : Nat → Int → Int → Int → Bool → List Int → Int → Int → Int → List (S67) → List (S69) → Option (Int × Int × (List (S67)) × (List (S69)) × Int)
 | 0, _, _, _, _, _, _, _, _, _, _ => none
 | k + 1, x1, x8, x9, x25, x1000, x1001, x201000, x201001, x201002, x201003 => if x25 = true then ((spec_l6Rd_pick.f k x1000 x1001 10).bind fun bt205 => (if x201002.length < 8796093022208 then ((spec_l6Rd_pick.f k x1000 bt205.2 3).bind fun bt210 => (spec_l71Pkg.l0 k x1 (wrap64 ((wrap64 (x8 + 1)) + bt210.1)) (wrap64 (x9 - 1)) x1000 bt210.2 x201000 x201001 (x201002 ++ [(⟨x8, bt205.1⟩ : S67)]) x201003)) else (none))) else (spec_l71Pkg.l1 k x1 1 x1000 x1001 x201000 x201001 x201002 x201003)
def spec_l71Pkg.l1 : Nat → Int → Int → List Int → Int → Int → Int → List (S67) → List (S69) → Option (Int × Int × (List (S67)) × (List (S69)) × Int)
 | 0, _, _, _, _, _, _, _, _ => none
 | k + 1, x1, x10, x1000, x1001, x201000, x201001, x201002, x201003 => if x10 ≤ 4 then (spec_l71Pkg.j3 k x1 x10 (decide ((x201003.length : Int) < 2)) x1000 x1001 x201000 x201001 x201002 x201003) else (spec_l71Pkg.j3 k x1 x10 false x1000 x1001 x201000 x201001 x201002 x201003)
def spec_l71Pkg.j3 : Nat → Int → Int → Bool → List Int → Int → Int → Int → List (S67) → List (S69) → Option (Int × Int × (List (S67)) × (List (S69)) × Int)
 | 0, _, _, _, _, _, _, _, _, _ => none
 | k + 1, x1, x10, x49, x1000, x1001, x201000, x201001, x201002, x201003 => if x49 = true then (if x10 = x1 then (spec_l71Pkg.l1 k x1 (wrap64 (x10 + 1)) x1000 x1001 x201000 x201001 x201002 x201003) else ((spec_l6Rd_pick.f k x1000 x1001 6).bind fun bt212 => (if bt212.1 = 0 then ((spec_l6Rd_pick.f k x1000 bt212.2 2).bind fun bt214 => (if x201003.length < 8796093022208 then (spec_l71Pkg.l1 k x1 (wrap64 (x10 + 1)) x1000 bt214.2 x201000 x201001 x201002 (x201003 ++ [(⟨x10, wrap64 (1 + bt214.1)⟩ : S69)])) else (none))) else (spec_l71Pkg.l1 k x1 (wrap64 (x10 + 1)) x1000 bt212.2 x201000 x201001 x201002 x201003)))) else (some (x201000, x201001, x201002, x201003, x1001))
end
def spec_l71Pkg.f (k : Nat) (s0_0 : List Int) (s0_1 : Int) (a1 : Int) (a2 : Int) : Option (Int × Int × (List (S67)) × (List (S69)) × Int) := (spec_l6Rd_pick.f k s0_0 s0_1 4).bind fun bt201 => ((spec_l6Rd_pick.f k s0_0 bt201.2 3).bind fun bt203 => (spec_l71Pkg.l0 k a1 bt201.1 bt203.1 s0_0 bt203.2 a1 a2 (([] : List (S67))) (([] : List (S69)))))
theorem spec_l71Pkg.mono_l : ∀ k, (∀ y0 y1 y2 y3 y4 y5 y6 y7 y8, LeO (spec_l71Pkg.l0 k y0 y1 y2 y3 y4 y5 y6 y7 y8) (spec_l71Pkg.l0 (k + 1) y0 y1 y2 y3 y4 y5 y6 y7 y8)) ∧ (∀ y0 y1 y2 y3 y4 y5 y6 y7 y8 y9, LeO (spec_l71Pkg.j1 k y0 y1 y2 y3 y4 y5 y6 y7 y8 y9) (spec_l71Pkg.j1 (k + 1) y0 y1 y2 y3 y4 y5 y6 y7 y8 y9)) ∧ (∀ y0 y1 y2 y3 y4 y5 y6 y7, LeO (spec_l71Pkg.l1 k y0 y1 y2 y3 y4 y5 y6 y7) (spec_l71Pkg.l1 (k + 1) y0 y1 y2 y3 y4 y5 y6 y7)) ∧ (∀ y0 y1 y2 y3 y4 y5 y6 y7 y8, LeO (spec_l71Pkg.j3 k y0 y1 y2 y3 y4 y5 y6 y7 y8) (spec_l71Pkg.j3 (k + 1) y0 y1 y2 y3 y4 y5 y6 y7 y8))
 | 0 => ⟨fun _ _ _ _ _ _ _ _ _ r h => by simp [spec_l71Pkg.l0] at h, fun _ _ _ _ _ _ _ _ _ _ r h => by simp [spec_l71Pkg.j1] at h, fun _ _ _ _ _ _ _ _ r h => by simp [spec_l71Pkg.l1] at h, fun _ _ _ _ _ _ _ _ _ r h => by simp [spec_l71Pkg.j3] at h⟩
 | k + 1 => by
  obtain ⟨ih0, ih1, ih2, ih3⟩ := spec_l71Pkg.mono_l k
  refine ⟨?_, ?_, ?_, ?_⟩
  ·intro y0 y1 y2 y3 y4 y5 y6 y7 y8
   unfold spec_l71Pkg.l0
   repeat' first
   | (with_reducible exact ih0 _ _ _ _ _ _ _ _ _)
   | (with_reducible exact ih1 _ _ _ _ _ _ _ _ _ _)
   | (with_reducible exact ih2 _ _ _ _ _ _ _ _)
   | (with_reducible exact ih3 _ _ _ _ _ _ _ _ _)
   | (with_reducible exact spec_l6Rd_pick.mono _ _ _ _)
   | (with_reducible exact LeO.refl _)
   | (with_reducible exact LeO.none _)
   | (with_reducible refine LeO.ite ?_ ?_)
   | (with_reducible refine LeO.bind ?_ (fun _ => ?_))
   | exact ih0 _ _ _ _ _ _ _ _ _
   | exact ih1 _ _ _ _ _ _ _ _ _ _
   | exact ih2 _ _ _ _ _ _ _ _
   | exact ih3 _ _ _ _ _ _ _ _ _
   | exact spec_l6Rd_pick.mono _ _ _ _
   | exact LeO.none _
   | refine LeO.ite ?_ ?_
   | refine LeO.bind ?_ (fun _ => ?_)
  ·intro y0 y1 y2 y3 y4 y5 y6 y7 y8 y9
   unfold spec_l71Pkg.j1
   repeat' first
   | (with_reducible exact ih0 _ _ _ _ _ _ _ _ _)
   | (with_reducible exact ih1 _ _ _ _ _ _ _ _ _ _)
   | (with_reducible exact ih2 _ _ _ _ _ _ _ _)
   | (with_reducible exact ih3 _ _ _ _ _ _ _ _ _)
   | (with_reducible exact spec_l6Rd_pick.mono _ _ _ _)
   | (with_reducible exact LeO.refl _)
   | (with_reducible exact LeO.none _)
   | (with_reducible refine LeO.ite ?_ ?_)
   | (with_reducible refine LeO.bind ?_ (fun _ => ?_))
   | exact ih0 _ _ _ _ _ _ _ _ _
   | exact ih1 _ _ _ _ _ _ _ _ _ _
   | exact ih2 _ _ _ _ _ _ _ _
   | exact ih3 _ _ _ _ _ _ _ _ _
   | exact spec_l6Rd_pick.mono _ _ _ _
   | exact LeO.none _
   | refine LeO.ite ?_ ?_
   | refine LeO.bind ?_ (fun _ => ?_)
  ·intro y0 y1 y2 y3 y4 y5 y6 y7
   unfold spec_l71Pkg.l1
   repeat' first
   | (with_reducible exact ih0 _ _ _ _ _ _ _ _ _)
   | (with_reducible exact ih1 _ _ _ _ _ _ _ _ _ _)
   | (with_reducible exact ih2 _ _ _ _ _ _ _ _)
   | (with_reducible exact ih3 _ _ _ _ _ _ _ _ _)
   | (with_reducible exact spec_l6Rd_pick.mono _ _ _ _)
   | (with_reducible exact LeO.refl _)
   | (with_reducible exact LeO.none _)
   | (with_reducible refine LeO.ite ?_ ?_)
   | (with_reducible refine LeO.bind ?_ (fun _ => ?_))
   | exact ih0 _ _ _ _ _ _ _ _ _
   | exact ih1 _ _ _ _ _ _ _ _ _ _
   | exact ih2 _ _ _ _ _ _ _ _
   | exact ih3 _ _ _ _ _ _ _ _ _
   | exact spec_l6Rd_pick.mono _ _ _ _
   | exact LeO.none _
   | refine LeO.ite ?_ ?_
   | refine LeO.bind ?_ (fun _ => ?_)
  ·intro y0 y1 y2 y3 y4 y5 y6 y7 y8
   unfold spec_l71Pkg.j3
   repeat' first
   | (with_reducible exact ih0 _ _ _ _ _ _ _ _ _)
   | (with_reducible exact ih1 _ _ _ _ _ _ _ _ _ _)
   | (with_reducible exact ih2 _ _ _ _ _ _ _ _)
   | (with_reducible exact ih3 _ _ _ _ _ _ _ _ _)
   | (with_reducible exact spec_l6Rd_pick.mono _ _ _ _)
   | (with_reducible exact LeO.refl _)
   | (with_reducible exact LeO.none _)
   | (with_reducible refine LeO.ite ?_ ?_)
   | (with_reducible refine LeO.bind ?_ (fun _ => ?_))
   | exact ih0 _ _ _ _ _ _ _ _ _
   | exact ih1 _ _ _ _ _ _ _ _ _ _
   | exact ih2 _ _ _ _ _ _ _ _
   | exact ih3 _ _ _ _ _ _ _ _ _
   | exact spec_l6Rd_pick.mono _ _ _ _
   | exact LeO.none _
   | refine LeO.ite ?_ ?_
   | refine LeO.bind ?_ (fun _ => ?_)
theorem spec_l71Pkg.mono : ∀ a0 a1 a2 a3 k, LeO (spec_l71Pkg.f k a0 a1 a2 a3) (spec_l71Pkg.f (k + 1) a0 a1 a2 a3) := by
 intro a0 a1 a2 a3 k
 obtain ⟨ih0, ih1, ih2, ih3⟩ := spec_l71Pkg.mono_l k
 unfold spec_l71Pkg.f
 repeat' with_reducible first | apply ih0 | apply ih1 | apply ih2 | apply ih3 | apply spec_l6Rd_pick.mono | exact LeO.refl _ | exact LeO.none _ | refine LeO.ite ?_ ?_ | refine LeO.bind ?_ (fun _ => ?_)
def spec_l71Pkg.T6 : Bool × List (List Nat × List Nat) := (true, [([], []), ([0], [0]), ([], []), ([], []), ([3], [3]), ([2, 4], [2, 4]), ([5], [5]), ([1, 6, 4], [1, 6]), ([0, 1, 2, 3, 4, 5, 6, 7], []), ([8, 7, 7, 0, 1, 2, 3, 4, 5, 6, 7], [7, 8])])
def spec_l71Pkg.B6 : List Nat := [0, 1, 0, 0, 8, 28, 60, 127, 255, 511]
theorem spec_l71Pkg.tab6 : rtab .any (opsOf Tryd.f79 6) = spec_l71Pkg.T6 := by kernel_rfl
theorem spec_l71Pkg.bits6 : waitsOk spec_l71Pkg.T6.2 spec_l71Pkg.B6 = true := by kernel_rfl
def spec_l71Pkg.T12 : Bool × List (List Nat × List Nat) := (true, [([], []), ([0], [0]), ([], []), ([], []), ([3], [3]), ([4], [4]), ([2, 5], [2, 5]), ([6], [6]), ([1, 7, 4], [1, 7]), ([0, 1, 2, 3, 4, 5, 6, 7, 8], []), ([9, 8, 8, 0, 1, 2, 3, 4, 5, 6, 7, 8], [8, 9])])
def spec_l71Pkg.B12 : List Nat := [0, 1, 0, 0, 8, 24, 60, 124, 255, 511, 1023]
theorem spec_l71Pkg.tab12 : rtab .any (opsOf Tryd.f79 12) = spec_l71Pkg.T12 := by kernel_rfl
theorem spec_l71Pkg.bits12 : waitsOk spec_l71Pkg.T12.2 spec_l71Pkg.B12 = true := by kernel_rfl
set_option maxHeartbeats 8000000 in
set_option maxRecDepth 100000 in
theorem spec_l71Pkg.calls (k : Nat) (g : Nat) (s0_0 : List Int) (s0_1 : Int) (a1 : Int) (a2 : Int) (r1 : Int) (r2 : Int) (r3 : List (S67)) (r4 : List (S69)) (r5 : Int) (w0 w : World) (hI : IsS97 w0 w g s0_0 s0_1) (hB : Below w0.heap.size w0 w) (h : spec_l71Pkg.f k s0_0 s0_1 a1 a2 = some (r1, r2, r3, r4, r5)) :
  Calls Tryd.prog 79 #[.pointer (some ⟨g, 0, none⟩), .int .i64 a1, .int .i64 a2] w fun e w' => ∃ v2_ v3_ : Value, e = .returned (.agg #[.int .i64 r1, .int .i64 r2, v2_, v3_]) ∧ Kd.R k67 67 w' w.heap.size (fun _ => True) v2_ r3 ∧ Kd.R k69 69 w' w.heap.size (fun _ => True) v3_ r4 ∧ IsS97 w0 w' g s0_0 r5 ∧ Below w0.heap.size w0 w' ∧ KeepBut w w' g none := by
 have hu31 := Tryd.underlying31; have hu67 := Tryd.underlying67; have hu69 := Tryd.underlying69; have HI0 := aM hI; have HK := aM (KeepBut.refl w g none); have HL := aM hB.size; clear hI; have HW0 := aM hB.size; have HB := aM hB; clear hB; have H : ((spec_l6Rd_pick.f k s0_0 s0_1 4).bind fun bt201 => ((spec_l6Rd_pick.f k s0_0 bt201.2 3).bind fun bt203 => (spec_l71Pkg.l0 k a1 bt201.1 bt203.1 s0_0 bt203.2 a1 a2 (([] : List (S67))) (([] : List (S69)))))) = some (r1, r2, r3, r4, r5) := h; clear h; obtain ⟨y194, hy194⟩ : ∃ y_ : List (S67), y_ = (([] : List (S67))) := ⟨_, rfl⟩
 replace H : ((spec_l6Rd_pick.f k s0_0 s0_1 4).bind fun bt201 => ((spec_l6Rd_pick.f k s0_0 bt201.2 3).bind fun bt203 => (spec_l71Pkg.l0 k a1 bt201.1 bt203.1 s0_0 bt203.2 a1 a2 y194 (([] : List (S69)))))) = some (r1, r2, r3, r4, r5) := by first | (rw [hy194]; with_reducible exact H) | (have H2_ := (Option.bind_some _ _).symm.trans H; rw [hy194]; with_reducible exact H2_) | (have H2_ := (Option.bind_some _ _).symm.trans H; with_reducible exact H2_) | with_reducible exact H | (rw [hy194]; exact H) | exact H
 have Ny194 := aM hy194; clear hy194; obtain ⟨y197, hy197⟩ : ∃ y_ : List (S69), y_ = (([] : List (S69))) := ⟨_, rfl⟩
 replace H : ((spec_l6Rd_pick.f k s0_0 s0_1 4).bind fun bt201 => ((spec_l6Rd_pick.f k s0_0 bt201.2 3).bind fun bt203 => (spec_l71Pkg.l0 k a1 bt201.1 bt203.1 s0_0 bt203.2 a1 a2 y194 y197))) = some (r1, r2, r3, r4, r5) := by first | (rw [hy197]; with_reducible exact H) | (have H2_ := (Option.bind_some _ _).symm.trans H; rw [hy197]; with_reducible exact H2_) | (have H2_ := (Option.bind_some _ _).symm.trans H; with_reducible exact H2_) | with_reducible exact H | (rw [hy197]; exact H) | exact H
 have Ny197 := aM hy197; clear hy197; replace H := Option.bind_eq_some_iff.mp H; obtain ⟨⟨t201, t202⟩, A40, H⟩ := H; (try dsimp only at H); have A4 := aM A40; clear A40; replace H := Option.bind_eq_some_iff.mp H; obtain ⟨⟨t203, t204⟩, A50, H⟩ := H; (try dsimp only at H); have A5 := aM A50; clear A50; have H' := aM H; clear H
 go_enter Tryd.func79, Tryd.ntmps79
 go_wp2_with (first | ((with_reducible refine gate_dst (N := 6) rfl ?_); (try (refine gate_guard (by rfl) ?_; dsimp only)); refine box_event ?hg (N := 6) ?hd (cs := #[.int .i64 0, .int .i64 0, .slice none 0 0, .slice none 0 0]) (t := 31) ?hr ?_; (case hd => rfl); (case hg => rfl); (case hr => first | (go_simp; done) | (go_simp; rfl)); intro gb193 hg w6 hbox hb; have _ := aM (IsS97.below (by exact IsS97.z0 HI0.1) hb); have _ := aM (KeepBut.trans (zQ0 HK.1) (KeepBut.of_below hb g none) (.inl rfl)); have _ := aM (below_step (zB1 HB.1 (IsS97.ge HI0.1)) hb); have _ := aM (hbox); have _ := aM (zgk hg (zQ0 HK.1)); have _ := aM ((Nat.le_trans HW0.1 (by rw [hg]; exact (keep_size (w := w) (g := g) (row := none) (zQ0 HK.1)) : w.heap.size ≤ gb193) : w0.heap.size ≤ gb193)); have _ := aM ((by rw [hg]; exact Nat.ne_of_lt (IsS97.lt (show IsS97 w0 _ g s0_0 s0_1 from by exact IsS97.z0 HI0.1)) : g ≠ gb193)); have _ := aM ((by rw [hg]; exact Nat.ne_of_gt (IsS97.lt (show IsS97 w0 _ g s0_0 s0_1 from by exact IsS97.z0 HI0.1)) : gb193 ≠ g)); clear HI0 HK HB; rename_i HI0 HK HB BK193 GW193 GE193 NB0_193 NB193_0; clear hb hbox hg) | ((with_reducible refine gate_dst (N := 13) rfl ?_); (try (refine gate_guard (by rfl) ?_; dsimp only)); refine Kd.R_lit k67 _ 67 ?hg (N := 13) ?hd (xs := ([] : List (S67))) (inner := []) (ok := fun _ => True) (okp := fun _ => True) ?hr ?hp (fun _ hk => hk) trivial (Below.refl _ _) (Nat.le_refl _) (by simp) ?_; (case hd => rfl); (case hg => rfl); (case hr => first | (go_simp; done) | (go_simp; rfl)); (case hp => exact (Reps.none _ _)); intro v195 w7 ho8 hb hg_ hnew_; clear hg_ hnew_; (first | rw [← Ny194.1] at ho8 | (simp only [Int.reduceToNat] at ho8; rw [← Ny194.1] at ho8)); have _ := aM (Kd.R_lower ho8 (keep_size (w := w) (g := g) (row := none) (zQ1 HK.1 GW193.1))); have _ := aM (IsS97.below (by exact IsS97.z1 HI0.1 NB0_193.1) hb); have _ := aM (blk_below (zK BK193.1) hb); have _ := aM (KeepBut.trans (zQ1 HK.1 GW193.1) (KeepBut.of_below hb g none) (.inl rfl)); have _ := aM (below_step (zB2 HB.1 (IsS97.ge HI0.1) GE193.1) hb); clear HI0 BK193 HK HB; rename_i HO196 HI0 BK193 HK HB; clear hb ho8) | ((with_reducible refine gate_dst (N := 14) rfl ?_); (try (refine gate_guard (by rfl) ?_; dsimp only)); refine Kd.R_lit k69 _ 69 ?hg (N := 14) ?hd (xs := ([] : List (S69))) (inner := []) (ok := fun _ => True) (okp := fun _ => True) ?hr ?hp (fun _ hk => hk) trivial (Below.refl _ _) (Nat.le_refl _) (by simp) ?_; (case hd => rfl); (case hg => rfl); (case hr => first | (go_simp; done) | (go_simp; rfl)); (case hp => exact (Reps.none _ _)); intro v198 w9 ho10 hb hg_ hnew_; clear hg_ hnew_; (first | rw [← Ny197.1] at ho10 | (simp only [Int.reduceToNat] at ho10; rw [← Ny197.1] at ho10)); have _ := aM (Kd.R_below (zR HO196.1) hb); have _ := aM (Kd.R_lower ho10 (keep_size (w := w) (g := g) (row := none) (zQ1 HK.1 GW193.1))); have _ := aM (IsS97.below (by exact IsS97.z1 HI0.1 NB0_193.1) hb); have _ := aM (blk_below (zK BK193.1) hb); have _ := aM (KeepBut.trans (zQ1 HK.1 GW193.1) (KeepBut.of_below hb g none) (.inl rfl)); have _ := aM (below_step (zB2 HB.1 (IsS97.ge HI0.1) GE193.1) hb); clear HO196 HI0 BK193 HK HB; rename_i HO196 HO199 HI0 BK193 HK HB; clear hb ho10; obtain ⟨Ao11, co11, eo11⟩ := Kd.R_slice HO199.1; subst eo11; obtain ⟨Ao12, co12, eo12⟩ := Kd.R_slice HO196.1; subst eo12) | ((with_reducible refine gate_dst (N := 7) rfl ?_); (try (refine gate_guard (by rfl) ?_; dsimp only)); refine box_event ?hg (N := 7) ?hd (cs := #[.int .i64 0, .int .i64 0, .slice none 0 0, .slice none 0 0]) (t := 31) ?hr ?_; (case hd => rfl); (case hg => rfl); (case hr => first | (go_simp; done) | (go_simp; rfl)); intro gb200 hg w13 hbox hb; have _ := aM (Kd.R_below (zR HO196.1) hb); have _ := aM (Kd.R_below (zR HO199.1) hb); have _ := aM (IsS97.below (by exact IsS97.z1 HI0.1 NB0_193.1) hb); have _ := aM (blk_below (zK BK193.1) hb); have _ := aM (KeepBut.trans (zQ1 HK.1 GW193.1) (KeepBut.of_below hb g none) (.inl rfl)); have _ := aM (below_step (zB2 HB.1 (IsS97.ge HI0.1) GE193.1) hb); have _ := aM (hbox); have _ := aM (zgk hg (zQ1 HK.1 GW193.1)); have _ := aM ((Nat.le_trans HW0.1 (by rw [hg]; exact (keep_size (w := w) (g := g) (row := none) (zQ1 HK.1 GW193.1)) : w.heap.size ≤ gb200) : w0.heap.size ≤ gb200)); have _ := aM (znl hg (zK BK193.1)); have _ := aM (zng hg (zK BK193.1)); have _ := aM ((by rw [hg]; exact Nat.ne_of_lt (IsS97.lt (show IsS97 w0 _ g s0_0 s0_1 from by exact IsS97.z1 HI0.1 NB0_193.1)) : g ≠ gb200)); have _ := aM ((by rw [hg]; exact Nat.ne_of_gt (IsS97.lt (show IsS97 w0 _ g s0_0 s0_1 from by exact IsS97.z1 HI0.1 NB0_193.1)) : gb200 ≠ g)); clear HO196 HO199 HI0 BK193 HK HB; rename_i HO196 HO199 HI0 BK193 HK HB BK200 GW200 GE200 NB193_200 NB200_193 NB0_200 NB200_0; clear hb hbox hg; have hnb14 := NB200_193.1; have hnc14 := NB193_200.1; have hnb15 := NB200_0.1; have hnc15 := NB0_200.1; obtain ⟨hcz16_0, hcz16_1, hcz16_2, hcz16_3, hfz16_0, hfz16_1, hfz16_2, hfz16_3⟩ := zc4f BK200.1) | ((with_reducible refine gate_callee (f := 43) rfl ?_); refine zgL (some 17) Tryd.func43 #[.pointer (some ⟨g, 0, none⟩), .int .i64 4] ?_; (with_reducible refine (spec_l6Rd_pick.calls k g s0_0 s0_1 4 t201 t202 w0 _ ?side1 ?side2 A4.1).mono ?_); (case side1 => exact IsS97.z2 HI0.1 NB0_193.1 NB0_200.1); (case side2 => exact zB3 HB.1 (IsS97.ge HI0.1) GE193.1 GE200.1); rintro e w17 ⟨rfl, hi, hb, hk⟩; refine ⟨_, rfl, ?_⟩; have _ := aM (KeepBut.blk hk (zK1 BK193.1 NB193_200.1) NB193_0.1 (by simp)); have _ := aM (Kd.R_mono (Kd.R_keep (IsS97.apart (show IsS97 w0 _ g s0_0 s0_1 from by exact IsS97.z2 HI0.1 NB0_193.1 NB0_200.1) (zT HO196.1 BK200.1 (by decide)) (by decide)) hk (fun _ h => h.2)) (fun _ h => h.1)); have _ := aM (Kd.R_mono (Kd.R_keep (IsS97.apart (show IsS97 w0 _ g s0_0 s0_1 from by exact IsS97.z2 HI0.1 NB0_193.1 NB0_200.1) (zT HO199.1 BK200.1 (by decide)) (by decide)) hk (fun _ h => h.2)) (fun _ h => h.1)); have _ := aM (KeepBut.blk hk (g' := gb200) (o := .cells #[.int .i64 a1, .int .i64 a2, .slice Ao12 y194.length co12, .slice Ao11 y197.length co11] 31 (0, 0)) (by exact zP BK200.1 (by rfl)) NB200_0.1 (by simp)); have _ := aM (KeepBut.trans (zQ2 HK.1 GW193.1 GW200.1) hk (.inl rfl)); have _ := aM (hb); have _ := aM (hi); clear BK193 HO196 HO199 BK200 HK HB HI0; rename_i BK193 HO196 HO199 BK200 HK HB HI0; (try clear hb); (try clear hb2); (try clear hk); (try clear hi)) | ((with_reducible refine gate_callee (f := 43) rfl ?_); refine zgL (some 19) Tryd.func43 #[.pointer (some ⟨g, 0, none⟩), .int .i64 3] ?_; (with_reducible refine (spec_l6Rd_pick.calls k g s0_0 t202 3 t203 t204 w0 _ ?side1 ?side2 A5.1).mono ?_); (case side1 => exact IsS97.z2 HI0.1 NB0_193.1 NB0_200.1); (case side2 => exact zB3 HB.1 (IsS97.ge HI0.1) GE193.1 GE200.1); rintro e w18 ⟨rfl, hi, hb, hk⟩; refine ⟨_, rfl, ?_⟩; have _ := aM (KeepBut.blk hk (zK BK193.1) NB193_0.1 (by simp)); have _ := aM (Kd.R_mono (Kd.R_keep (IsS97.apart (show IsS97 w0 _ g s0_0 t202 from by exact IsS97.z2 HI0.1 NB0_193.1 NB0_200.1) (zR HO196.1) (by decide)) hk (fun _ h => h.2)) (fun _ h => h.1)); have _ := aM (Kd.R_mono (Kd.R_keep (IsS97.apart (show IsS97 w0 _ g s0_0 t202 from by exact IsS97.z2 HI0.1 NB0_193.1 NB0_200.1) (zR HO199.1) (by decide)) hk (fun _ h => h.2)) (fun _ h => h.1)); have _ := aM (KeepBut.blk hk (zK BK200.1) NB200_0.1 (by simp)); have _ := aM (KeepBut.trans (zQ2 HK.1 GW193.1 GW200.1) hk (.inl rfl)); have _ := aM (hb); have _ := aM (hi); clear BK193 HO196 HO199 BK200 HK HB HI0; rename_i BK193 HO196 HO199 BK200 HK HB HI0; (try clear hb); (try clear hb2); (try clear hk); (try clear hi)))
 go_loopg [8, 9] k (fun kq v8 v9 w' => ∃ (x8_1 : Int) (x9_1 : Int) (x1001_1 : Int) (x201002_1 : List (S67)) (u201002 : Value), v8 = .int .i64 x8_1 ∧ v9 = .int .i64 x9_1 ∧ Aside0 (spec_l71Pkg.l0 kq a1 x8_1 x9_1 s0_0 x1001_1 a1 a2 x201002_1 y197 = some (r1, r2, r3, r4, r5)) ∧ Aside0 (kq ≤ k) ∧ Aside0 (Kd.R k67 67 w' w.heap.size (fun _ => True) u201002 x201002_1) ∧ Aside0 (Kd.R k69 69 w' w.heap.size (fun _ => True) (.slice Ao11 y197.length co11) y197) ∧ Aside0 (w'.heap[gb193]? = some (.cells #[.int .i64 0, .int .i64 0, (.slice none 0 0), (.slice none 0 0)] 31 (0, 0))) ∧ Aside0 (w'.heap[gb200]? = some (.cells #[.int .i64 a1, .int .i64 a2, u201002, (.slice Ao11 y197.length co11)] 31 (0, 0))) ∧ Aside0 (IsS97 w0 w' g s0_0 x1001_1) ∧ Aside0 (KeepBut w w' g none) ∧ Aside0 (Below w0.heap.size w0 w'))
 case atStart => exact ⟨(t201), (t203), (t204), (y194), (.slice Ao12 y194.length co12), (by first | rfl | (simp; done) | (simp [*]; done)), (by first | rfl | (simp; done) | (simp [*]; done)), H', ⟨Nat.le_refl _⟩, ⟨zR HO196.1⟩, ⟨zR HO199.1⟩, ⟨zK BK193.1⟩, ⟨zK BK200.1⟩, ⟨by exact IsS97.z2 HI0.1 NB0_193.1 NB0_200.1⟩, ⟨zQ2 HK.1 GW193.1 GW200.1⟩, ⟨zB3 HB.1 (IsS97.ge HI0.1) GE193.1 GE200.1⟩⟩
 case round =>
  clear H'
  try clear c1
  try clear p2
  try clear c4
  try clear c7
  try clear c14
  try clear c15
  try clear hcz16_0
  try clear hcz16_1
  try clear hcz16_2
  try clear hcz16_3
  try clear hfz16_0
  try clear hfz16_1
  try clear hfz16_2
  try clear hfz16_3
  obtain ⟨x8_1, x9_1, x1001_1, x201002_1, u201002, rfl, rfl, HA, HK1, HO_201002, HO_201003, BK193, BK200, HI0, HK, HB⟩ := hrel; cases gk with
  | zero => exact absurd HA.1 (by simp [spec_l71Pkg.l0])
  | succ k1 =>
   have H := HA.1; clear HA; simp only [spec_l71Pkg.l0] at H; have HC19 := aM H; clear H
   go_upto_region 4 with (fail)
   go_cut [25] (fun v25 wc => ∃ (kq : Nat) (x25_18 : Bool), v25 = .bool x25_18 ∧ Aside0 (spec_l71Pkg.j1 kq a1 x8_1 x9_1 x25_18 s0_0 x1001_1 a1 a2 x201002_1 y197 = some (r1, r2, r3, r4, r5)) ∧ Aside0 (kq ≤ k1) ∧ Aside0 (Kd.R k67 67 wc w.heap.size (fun _ => True) u201002 x201002_1) ∧ Aside0 (Kd.R k69 69 wc w.heap.size (fun _ => True) (.slice Ao11 y197.length co11) y197) ∧ Aside0 (wc.heap[gb193]? = some (.cells #[.int .i64 0, .int .i64 0, (.slice none 0 0), (.slice none 0 0)] 31 (0, 0))) ∧ Aside0 (wc.heap[gb200]? = some (.cells #[.int .i64 a1, .int .i64 a2, u201002, (.slice Ao11 y197.length co11)] 31 (0, 0))) ∧ Aside0 (IsS97 w0 wc g s0_0 x1001_1) ∧ Aside0 (KeepBut w wc g none) ∧ Aside0 (Below w0.heap.size w0 wc))
   case first =>
    have H := HC19.1; clear HC19
    by_cases c20 : x9_1 > 0
    ·rw [if_pos c20] at H; have c20b0 : decide (0 < x9_1) = true := decide_eq_true c20; clear c20; (first | rw [c20b0] | (simp only [i64_w, i32_w]; rw [c20b0]) | skip); have H' := aM H; clear H
     go_wp2
     go_meet
     case rel => exact ⟨_, (decide (x8_1 < 6)), (by first | rfl | (simp; done) | (simp [*]; done)), H', ⟨by have := HK1.1; first | omega | exact Nat.le_refl _⟩, ⟨zR HO_201002.1⟩, ⟨zR HO_201003.1⟩, ⟨zK BK193.1⟩, ⟨zK BK200.1⟩, ⟨by exact IsS97.z2 HI0.1 NB0_193.1 NB0_200.1⟩, ⟨zQ2 HK.1 GW193.1 GW200.1⟩, ⟨zB3 HB.1 (IsS97.ge HI0.1) GE193.1 GE200.1⟩⟩
    ·rw [if_neg c20] at H; have c20b0 : decide (0 < x9_1) = false := decide_eq_false c20; clear c20; (first | rw [c20b0] | (simp only [i64_w, i32_w]; rw [c20b0]) | skip); have H' := aM H; clear H
     go_wp2
     go_meet
     case rel => exact ⟨_, (false), (by first | rfl | (simp; done) | (simp [*]; done)), H', ⟨by have := HK1.1; first | omega | exact Nat.le_refl _⟩, ⟨zR HO_201002.1⟩, ⟨zR HO_201003.1⟩, ⟨zK BK193.1⟩, ⟨zK BK200.1⟩, ⟨by exact IsS97.z2 HI0.1 NB0_193.1 NB0_200.1⟩, ⟨zQ2 HK.1 GW193.1 GW200.1⟩, ⟨zB3 HB.1 (IsS97.ge HI0.1) GE193.1 GE200.1⟩⟩
   case rest =>
    clear HC19
    try clear c1
    try clear c2
    try clear p2
    try clear c4
    try clear c7
    try clear c14
    try clear c15
    try clear c20
    try clear c20b0
    try clear hcz16_0
    try clear hcz16_1
    try clear hcz16_2
    try clear hcz16_3
    try clear hfz16_0
    try clear hfz16_1
    try clear hfz16_2
    try clear hfz16_3
    try clear p2
    obtain ⟨kq, x25_18, rfl, HA, HJ18, HO_201002, HO_201003, BK193, BK200, HI0, HK, HB⟩ := hcut; cases kq with
    | zero => exact absurd HA.1 (by simp [spec_l71Pkg.j1])
    | succ kj18 =>
     have H := HA.1; clear HA; simp only [spec_l71Pkg.j1] at H
     by_cases c21 : x25_18 = true
     ·subst c21; replace H := zy1 H; replace H := Option.bind_eq_some_iff.mp H; obtain ⟨⟨t205, t206⟩, A220, H⟩ := H; (try dsimp only at H); have A22 := aM A220; clear A220; replace H := zif H; obtain ⟨c23, H⟩ := H; have LMc23 := aM c23; clear c23; obtain ⟨y207, hy207⟩ : ∃ y_ : List (S67), y_ = (x201002_1 ++ [(⟨x8_1, t205⟩ : S67)]) := ⟨_, rfl⟩; (first | (replace H := zbs hy207 H; try dsimp only at H) | rw [← hy207] at H); have Ny207 := aM hy207; clear hy207; replace H := Option.bind_eq_some_iff.mp H; obtain ⟨⟨t210, t211⟩, A240, H⟩ := H; (try dsimp only at H); have A24 := aM A240; clear A240; have H' := aM H; clear H
      try go_wp2
      have _ := aM (Kd.R_drew HO_201002.1); have _ := aM (Kd.R_drew HO_201003.1); have _ := aM (blk_drew BK193.1); have _ := aM (blk_drew BK200.1); have _ := aM (IsS97.drew HI0.1); have _ := aM (keep_drew HK.1); have _ := aM (below_drew1 HB.1); clear HO_201002 HO_201003 BK193 BK200 HI0 HK HB; rename_i HO_201002 HO_201003 BK193 BK200 HI0 HK HB
      refine start_ (n := 10) (S := fun w' => w'.cell? ⟨gb200, 0, none⟩ = some (.int .i64 a1) ∧ w'.cell? ⟨gb200, 1, none⟩ = some (.int .i64 a2) ∧ w'.cell? ⟨gb200, 2, none⟩ = some (u201002) ∧ w'.cell? ⟨gb200, 3, none⟩ = some (.slice Ao11 y197.length co11)) (ds := [9]) (zA 10 0) (by kernel_rfl) rfl rfl ⟨(blk_cell BK200.1 0).trans rfl, (blk_cell BK200.1 1).trans rfl, (blk_cell BK200.1 2).trans rfl, (blk_cell BK200.1 3).trans rfl⟩ (fun hHeld => ?_); refine with_tabW spec_l71Pkg.tab6 spec_l71Pkg.bits6 (fun HT_ HW_ => ?_)
      generalize wc.drew = w25 at HO_201002 HO_201003 BK193 BK200 HI0 HK HB hHeld ⊢; refine zu HT_ 0 (some 28) (zA 10 1) ?_; refine zu HT_ 2 (some 30) (zA 10 5) ?_; refine zu HT_ 3 (some 31) (zA 10 13) ?_; refine take_ (i := 1) (N := some 29) (v := ?_) (a' := ?_) (zA 10 15) rfl rfl (take_ofW HT_.1 HW_.1 (by kernel_rfl)) (fun _ _ _ h => h) (Or.inl ⟨by rfl, ?_⟩) hHeld ?_ ?_; rotate_left
      ·rintro w' ⟨s0, s1, s2, s3⟩
       go_simp
       (with_reducible rfl)
      rotate_left
      ·simp only [zp0, zp1, zp2, zp3, zp4, i64_w, i32_w]; rfl
      refine zo HT_ 4 (some 32) (zA 10 31) (fun K hK => ?_); refine zg Tryd.func43 #[.pointer (some ⟨g, 0, none⟩), .int .i64 10] ?_; (with_reducible refine (spec_l6Rd_pick.calls kj18 g s0_0 x1001_1 10 t205 t206 w0 _ ?side1 ?side2 A22.1).mono ?_); (case side1 => exact IsS97.z2 HI0.1 NB0_193.1 NB0_200.1); (case side2 => exact zB3 HB.1 (IsS97.ge HI0.1) GE193.1 GE200.1); rintro e w26 ⟨rfl, hi, hb, hk⟩; refine ⟨_, rfl, ?_⟩; have _ := aM (Kd.R_mono (Kd.R_keep (IsS97.apart (show IsS97 w0 _ g s0_0 x1001_1 from by exact IsS97.z2 HI0.1 NB0_193.1 NB0_200.1) (zR HO_201002.1) (by decide)) hk (fun _ h => h.2)) (fun _ h => h.1)); have _ := aM (Kd.R_mono (Kd.R_keep (IsS97.apart (show IsS97 w0 _ g s0_0 x1001_1 from by exact IsS97.z2 HI0.1 NB0_193.1 NB0_200.1) (zR HO_201003.1) (by decide)) hk (fun _ h => h.2)) (fun _ h => h.1)); have _ := aM (KeepBut.blk hk (zK BK193.1) NB193_0.1 (by simp)); have _ := aM (KeepBut.blk hk (zK BK200.1) NB200_0.1 (by simp)); have _ := aM (KeepBut.trans (zQ2 HK.1 GW193.1 GW200.1) hk (.inl rfl)); have _ := aM (hb); have _ := aM (hi); clear HO_201002 HO_201003 BK193 BK200 HK HB HI0; rename_i HO_201002 HO_201003 BK193 BK200 HK HB HI0; (try clear hb); (try clear hb2); (try clear hk); (try clear hi); refine hK.out _ _ ⟨(blk_cell BK200.1 0).trans rfl, (blk_cell BK200.1 1).trans rfl, (blk_cell BK200.1 2).trans rfl, (blk_cell BK200.1 3).trans rfl⟩ (fun hHeld => ?_); clear hK K; refine zn (some 32) ?_; refine zu HT_ 5 (some 33) (zA 10 63) ?_; refine zo HT_ 6 (some 34) (zA 10 127) (fun K hK => ?_); refine value_ (w1 := ?_) (v := ?_) (by rfl) rfl ?_ ?_; rotate_left 2
      ·go_simp
       constructor
       ·rfl
       ·rfl
      refine hK.out _ _ ⟨(blk_cell (blk_alloc BK200.1 _) 0).trans rfl, (blk_cell (blk_alloc BK200.1 _) 1).trans rfl, (blk_cell (blk_alloc BK200.1 _) 2).trans rfl, (blk_cell (blk_alloc BK200.1 _) 3).trans rfl⟩ (fun hHeld => ?_); clear hK K; refine zn (some 34) ?_; refine zo HT_ 7 (some 35) (zA 10 255) (fun K hK => ?_); refine Kd.R_append_step k67 w.heap.size (by rfl) (.tmp 29) (.tmp 34) 28 67 (.agg #[(.int .i64 0), (.int .i64 0)]) 16 rfl Tryd.underlying28 info67 rfl (by decide) (by omega) u201002 x201002_1 (⟨x8_1, t205⟩ : S67) [.int .i64 x8_1, .int .i64 t205] (fun _ => True) (fun _ => False) rfl rfl ?aP (fun _ hk => hk.elim) ?aF ?aO (Below.refl _ _) ?aS ?aL ?_; (case aP => exact k67_mkM _ _ _ (⟨x8_1, t205⟩ : S67)); (case aF => exact (fun _ _ => trivial)); (case aO => exact (zR HO_201002.1)); (case aS => exact (keep_size (w := w) (g := g) (row := none) (zQ2 HK.1 GW193.1 GW200.1))); (case aL => have := LMc23.1; omega); intro v208 w27 ho hb hg hat; rw [← Ny207.1] at ho; have _ := aM (Kd.R_over' (zR HO_201003.1) (Kd.R_typed (zR HO_201002.1)) (by decide) hg); have _ := aM (blk_grown (zK BK193.1) hg (Kd.R_ne HO_201002.1 BK193.1 (by decide))); have _ := aM (blk_grown (zK BK200.1) hg (Kd.R_ne HO_201002.1 BK200.1 (by decide))); have _ := aM (IsS97.grown (by exact IsS97.z2 HI0.1 NB0_193.1 NB0_200.1) hg (IsS97.own_ne HI0.1 HO_201002.1 (by decide))); have _ := aM (below_weaken (zB3 HB.1 (IsS97.ge HI0.1) GE193.1 GE200.1) HL.1 hb); have _ := aM (KeepBut.trans (zQ2 HK.1 GW193.1 GW200.1) (KeepBut.of_grown hg g) (Kd.R_base2 HO_201002.1)); have _ := aM (ho); clear HO_201003 BK193 BK200 HI0 HB HK HO_201002; rename_i HO_201003 BK193 BK200 HI0 HB HK HO209; clear ho hb hg hat; obtain ⟨Ao28, co28, eo28⟩ := Kd.R_slice HO209.1; (first | subst eo28 | (injection eo28 with f1_ f2_ f3_; have f4_ := f1_.symm; have f5_ := f3_.symm; clear f1_ f2_ f3_; subst f4_; subst f5_)); refine hK.out _ _ ⟨(blk_cell BK200.1 0).trans rfl, (blk_cell BK200.1 1).trans rfl, (blk_cell BK200.1 2).trans rfl, (blk_cell BK200.1 3).trans rfl⟩ (fun hHeld => ?_); clear hK K; refine zn (some 35) ?_; refine zu HT_ 8 (some 36) (zA 10 511) ?_; refine last_ (i := 9) (N := none) (zA 10 1023) rfl rfl (one_of HT_.1 (by kernel_rfl)) (by decide) (fun K hK => ?_); have hs29 : w27.cell? ⟨gb200, 2, none⟩ = some (u201002) := (blk_cell BK200.1 2).trans rfl; have hfs29 := blk_frozen BK200.1 2; have hns29_0 := NB193_200.1; have hms29_0 := NB200_193.1; refine skip_ (w1 := ?_) (by rfl) rfl ?_ ?_; rotate_left
      ·go_simp
       rfl
      refine hK.out _ _ ?_; clear hK K; refine done_ (done_of HT_.1 (by kernel_rfl)) ?_
      try go_wp2_with (first | ((with_reducible refine gate_callee (f := 43) rfl ?_); refine zgL (some 40) Tryd.func43 #[.pointer (some ⟨g, 0, none⟩), .int .i64 3] ?_; (with_reducible refine (spec_l6Rd_pick.calls kj18 g s0_0 t206 3 t210 t211 w0 _ ?side1 ?side2 A24.1).mono ?_); (case side1 => exact IsS97.z2 HI0.1 NB0_193.1 NB0_200.1); (case side2 => exact zB3 HB.1 (IsS97.ge HI0.1) GE193.1 GE200.1); rintro e w30 ⟨rfl, hi, hb, hk⟩; refine ⟨_, rfl, ?_⟩; have _ := aM (Kd.R_mono (Kd.R_keep (IsS97.apart (show IsS97 w0 _ g s0_0 t206 from by exact IsS97.z2 HI0.1 NB0_193.1 NB0_200.1) (zT HO_201003.1 BK200.1 (by decide)) (by decide)) hk (fun _ h => h.2)) (fun _ h => h.1)); have _ := aM (KeepBut.blk hk (zK1 BK193.1 NB193_200.1) NB193_0.1 (by simp)); have _ := aM (KeepBut.blk hk (g' := gb200) (o := .cells #[.int .i64 a1, .int .i64 a2, .slice Ao28 y207.length co28, .slice Ao11 y197.length co11] 31 (0, 0)) (by exact zP BK200.1 (by rfl)) NB200_0.1 (by simp)); have _ := aM (Kd.R_mono (Kd.R_keep (IsS97.apart (show IsS97 w0 _ g s0_0 t206 from by exact IsS97.z2 HI0.1 NB0_193.1 NB0_200.1) (zT HO209.1 BK200.1 (by decide)) (by decide)) hk (fun _ h => h.2)) (fun _ h => h.1)); have _ := aM (KeepBut.trans (zQ2 HK.1 GW193.1 GW200.1) hk (.inl rfl)); have _ := aM (hb); have _ := aM (hi); clear HO_201003 BK193 BK200 HO209 HK HB HI0; rename_i HO_201003 BK193 BK200 HO209 HK HB HI0; (try clear hb); (try clear hb2); (try clear hk); (try clear hi)))
      go_roundg kj18
      case measure => have := HK1.1; have := HJ18.1; omega
      case rel => exact ⟨(wrap64 ((wrap64 (x8_1 + 1)) + t210)), (wrap64 (x9_1 - 1)), (t211), (y207), (.slice Ao28 y207.length co28), (by first | rfl | (simp; done) | (simp [*]; done)), (by first | rfl | (simp; done) | (simp [*]; done)), H', ⟨by have := HK1.1; have := HJ18.1; omega⟩, ⟨zR HO209.1⟩, ⟨zR HO_201003.1⟩, ⟨zK BK193.1⟩, ⟨zK BK200.1⟩, ⟨by exact IsS97.z2 HI0.1 NB0_193.1 NB0_200.1⟩, ⟨zQ2 HK.1 GW193.1 GW200.1⟩, ⟨zB3 HB.1 (IsS97.ge HI0.1) GE193.1 GE200.1⟩⟩
     ·replace c21 := Bool.eq_false_iff.mpr c21; subst c21; replace H := zy0 H; have H' := aM H; clear H
      go_wp2
      go_loopg [10] kj18 (fun kq v10 w' => ∃ (x10_3 : Int) (x1001_3 : Int) (x201003_3 : List (S69)) (u201003 : Value), v10 = .int .i64 x10_3 ∧ Aside0 (spec_l71Pkg.l1 kq a1 x10_3 s0_0 x1001_3 a1 a2 x201002_1 x201003_3 = some (r1, r2, r3, r4, r5)) ∧ Aside0 (kq ≤ kj18) ∧ Aside0 (Kd.R k67 67 w' w.heap.size (fun _ => True) u201002 x201002_1) ∧ Aside0 (Kd.R k69 69 w' w.heap.size (fun _ => True) u201003 x201003_3) ∧ Aside0 (w'.heap[gb193]? = some (.cells #[.int .i64 0, .int .i64 0, (.slice none 0 0), (.slice none 0 0)] 31 (0, 0))) ∧ Aside0 (w'.heap[gb200]? = some (.cells #[.int .i64 a1, .int .i64 a2, u201002, u201003] 31 (0, 0))) ∧ Aside0 (IsS97 w0 w' g s0_0 x1001_3) ∧ Aside0 (KeepBut w w' g none) ∧ Aside0 (Below w0.heap.size w0 w'))
      case atStart => exact ⟨(1), (x1001_1), (y197), (.slice Ao11 y197.length co11), (by first | rfl | (simp; done) | (simp [*]; done)), H', ⟨Nat.le_refl _⟩, ⟨zR HO_201002.1⟩, ⟨zR HO_201003.1⟩, ⟨zK BK193.1⟩, ⟨zK BK200.1⟩, ⟨by exact IsS97.z2 HI0.1 NB0_193.1 NB0_200.1⟩, ⟨zQ2 HK.1 GW193.1 GW200.1⟩, ⟨zB3 HB.1 (IsS97.ge HI0.1) GE193.1 GE200.1⟩⟩
      case round =>
       clear H'
       try clear c1
       try clear c2
       try clear p2
       try clear c4
       try clear p6
       try clear c7
       try clear c14
       try clear c15
       try clear c20
       try clear c20b0
       try clear c21
       try clear c23
       try clear hcz16_0
       try clear hcz16_1
       try clear hcz16_2
       try clear hcz16_3
       try clear hfz16_0
       try clear hfz16_1
       try clear hfz16_2
       try clear hfz16_3
       try clear p2
       obtain ⟨x10_3, x1001_3, x201003_3, u201003, rfl, HA, HK3, HO_201002, HO_201003, BK193, BK200, HI0, HK, HB⟩ := hrel; cases gk with
       | zero => exact absurd HA.1 (by simp [spec_l71Pkg.l1])
       | succ k3 =>
        have H := HA.1; clear HA; simp only [spec_l71Pkg.l1] at H; have HC31 := aM H; clear H
        go_upto_region 9 with (fail)
        go_cut [49] (fun v49 wc => ∃ (kq : Nat) (x49_30 : Bool), v49 = .bool x49_30 ∧ Aside0 (spec_l71Pkg.j3 kq a1 x10_3 x49_30 s0_0 x1001_3 a1 a2 x201002_1 x201003_3 = some (r1, r2, r3, r4, r5)) ∧ Aside0 (kq ≤ k3) ∧ Aside0 (Kd.R k67 67 wc w.heap.size (fun _ => True) u201002 x201002_1) ∧ Aside0 (Kd.R k69 69 wc w.heap.size (fun _ => True) u201003 x201003_3) ∧ Aside0 (wc.heap[gb193]? = some (.cells #[.int .i64 0, .int .i64 0, (.slice none 0 0), (.slice none 0 0)] 31 (0, 0))) ∧ Aside0 (wc.heap[gb200]? = some (.cells #[.int .i64 a1, .int .i64 a2, u201002, u201003] 31 (0, 0))) ∧ Aside0 (IsS97 w0 wc g s0_0 x1001_3) ∧ Aside0 (KeepBut w wc g none) ∧ Aside0 (Below w0.heap.size w0 wc))
        case first =>
         have H := HC31.1; clear HC31
         by_cases c32 : x10_3 ≤ 4
         ·rw [if_pos c32] at H; have c32b0 : decide (x10_3 ≤ 4) = true := decide_eq_true c32; clear c32; (first | rw [c32b0] | (simp only [i64_w, i32_w]; rw [c32b0]) | skip); have H' := aM H; clear H; have hnb33 := NB200_193.1; have hnc33 := NB193_200.1; have hnb34 := NB200_0.1; have hnc34 := NB0_200.1; obtain ⟨hcz35_0, hcz35_1, hcz35_2, hcz35_3, hfz35_0, hfz35_1, hfz35_2, hfz35_3⟩ := zc4f BK200.1; obtain ⟨Ao36, co36, eo36⟩ := Kd.R_slice HO_201003.1; subst eo36
          go_wp2
          go_meet
          case rel => exact ⟨_, (decide ((x201003_3.length : Int) < 2)), (by first | rfl | (simp; done) | (simp [*]; done)), H', ⟨by have := HK1.1; have := HJ18.1; have := HK3.1; first | omega | exact Nat.le_refl _⟩, ⟨zR HO_201002.1⟩, ⟨zR HO_201003.1⟩, ⟨zK BK193.1⟩, ⟨zK BK200.1⟩, ⟨by exact IsS97.z2 HI0.1 NB0_193.1 NB0_200.1⟩, ⟨zQ2 HK.1 GW193.1 GW200.1⟩, ⟨zB3 HB.1 (IsS97.ge HI0.1) GE193.1 GE200.1⟩⟩
         ·rw [if_neg c32] at H; have c32b0 : decide (x10_3 ≤ 4) = false := decide_eq_false c32; clear c32; (first | rw [c32b0] | (simp only [i64_w, i32_w]; rw [c32b0]) | skip); have H' := aM H; clear H
          go_wp2
          go_meet
          case rel => exact ⟨_, (false), (by first | rfl | (simp; done) | (simp [*]; done)), H', ⟨by have := HK1.1; have := HJ18.1; have := HK3.1; first | omega | exact Nat.le_refl _⟩, ⟨zR HO_201002.1⟩, ⟨zR HO_201003.1⟩, ⟨zK BK193.1⟩, ⟨zK BK200.1⟩, ⟨by exact IsS97.z2 HI0.1 NB0_193.1 NB0_200.1⟩, ⟨zQ2 HK.1 GW193.1 GW200.1⟩, ⟨zB3 HB.1 (IsS97.ge HI0.1) GE193.1 GE200.1⟩⟩
        case rest =>
         clear HC31
         try clear c1
         try clear c2
         try clear p2
         try clear c3
         try clear c4
         try clear p6
         try clear c7
         try clear c14
         try clear c15
         try clear c20
         try clear c20b0
         try clear c21
         try clear c23
         try clear c32
         try clear c32b0
         try clear c33
         try clear c34
         try clear hcz16_0
         try clear hcz16_1
         try clear hcz16_2
         try clear hcz16_3
         try clear hcz35_0
         try clear hcz35_1
         try clear hcz35_2
         try clear hcz35_3
         try clear hfz16_0
         try clear hfz16_1
         try clear hfz16_2
         try clear hfz16_3
         try clear hfz35_0
         try clear hfz35_1
         try clear hfz35_2
         try clear hfz35_3
         try clear p2
         try clear p6
         obtain ⟨kq, x49_30, rfl, HA, HJ30, HO_201002, HO_201003, BK193, BK200, HI0, HK, HB⟩ := hcut; cases kq with
         | zero => exact absurd HA.1 (by simp [spec_l71Pkg.j3])
         | succ kj30 =>
          have H := HA.1; clear HA; simp only [spec_l71Pkg.j3] at H
          by_cases c37 : x49_30 = true
          ·subst c37; replace H := zy1 H
           by_cases c38 : x10_3 = a1
           ·rw [if_pos c38] at H; have c38b0 : (x10_3 == a1) = true := beq_iff_eq.mpr c38; have c38b1 : (x10_3 != a1) = false := bne_eq_false_iff_eq.mpr c38; clear c38; have H' := aM H; clear H
            go_wp2
            go_roundg kj30
            case measure => have := HK1.1; have := HJ18.1; have := HK3.1; have := HJ30.1; omega
            case rel => exact ⟨(wrap64 (x10_3 + 1)), (x1001_3), (x201003_3), (u201003), (by first | rfl | (simp; done) | (simp [*]; done)), H', ⟨by have := HK1.1; have := HJ18.1; have := HK3.1; have := HJ30.1; omega⟩, ⟨zR HO_201002.1⟩, ⟨zR HO_201003.1⟩, ⟨zK BK193.1⟩, ⟨zK BK200.1⟩, ⟨by exact IsS97.z2 HI0.1 NB0_193.1 NB0_200.1⟩, ⟨zQ2 HK.1 GW193.1 GW200.1⟩, ⟨zB3 HB.1 (IsS97.ge HI0.1) GE193.1 GE200.1⟩⟩
           ·rw [if_neg c38] at H; have c38b0 : (x10_3 == a1) = false := beq_eq_false_iff_ne.mpr c38; have c38b1 : (x10_3 != a1) = true := bne_iff_ne.mpr c38; replace H := Option.bind_eq_some_iff.mp H; obtain ⟨⟨t212, t213⟩, A390, H⟩ := H; (try dsimp only at H); have A39 := aM A390; clear A390
            by_cases c40 : t212 = 0
            ·rw [if_pos c40] at H; have c40b0 : (t212 == 0) = true := beq_iff_eq.mpr c40; have c40b1 : (t212 != 0) = false := bne_eq_false_iff_eq.mpr c40; clear c40; replace H := Option.bind_eq_some_iff.mp H; obtain ⟨⟨t214, t215⟩, A410, H⟩ := H; (try dsimp only at H); have A41 := aM A410; clear A410; replace H := zif H; obtain ⟨c42, H⟩ := H; have LMc42 := aM c42; clear c42; obtain ⟨y216, hy216⟩ : ∃ y_ : List (S69), y_ = (x201003_3 ++ [(⟨x10_3, wrap64 (1 + t214)⟩ : S69)]) := ⟨_, rfl⟩; (first | (replace H := zbs hy216 H; try dsimp only at H) | rw [← hy216] at H); have Ny216 := aM hy216; clear hy216; have H' := aM H; clear H
             try go_wp2_with (first | (go_at_call 43; (with_reducible refine (spec_l6Rd_pick.calls kj30 g s0_0 x1001_3 6 t212 t213 w0 _ ?side1 ?side2 A39.1).mono ?_); (case side1 => exact IsS97.z2 HI0.1 NB0_193.1 NB0_200.1); (case side2 => exact zB3 HB.1 (IsS97.ge HI0.1) GE193.1 GE200.1); rintro e w43 ⟨rfl, hi, hb, hk⟩; have _ := aM (Kd.R_mono (Kd.R_keep (IsS97.apart (show IsS97 w0 _ g s0_0 x1001_3 from by exact IsS97.z2 HI0.1 NB0_193.1 NB0_200.1) (zR HO_201002.1) (by decide)) hk (fun _ h => h.2)) (fun _ h => h.1)); have _ := aM (Kd.R_mono (Kd.R_keep (IsS97.apart (show IsS97 w0 _ g s0_0 x1001_3 from by exact IsS97.z2 HI0.1 NB0_193.1 NB0_200.1) (zR HO_201003.1) (by decide)) hk (fun _ h => h.2)) (fun _ h => h.1)); have _ := aM (KeepBut.blk hk (zK BK193.1) NB193_0.1 (by simp)); have _ := aM (KeepBut.blk hk (zK BK200.1) NB200_0.1 (by simp)); have _ := aM (KeepBut.trans (zQ2 HK.1 GW193.1 GW200.1) hk (.inl rfl)); have _ := aM (hb); have _ := aM (hi); clear HO_201002 HO_201003 BK193 BK200 HK HB HI0; rename_i HO_201002 HO_201003 BK193 BK200 HK HB HI0; (try clear hb); (try clear hb2); (try clear hk); (try clear hi)))
             have _ := aM (Kd.R_drew HO_201002.1); have _ := aM (Kd.R_drew HO_201003.1); have _ := aM (blk_drew BK193.1); have _ := aM (blk_drew BK200.1); have _ := aM (IsS97.drew HI0.1); have _ := aM (keep_drew HK.1); have _ := aM (below_drew1 HB.1); clear HO_201002 HO_201003 BK193 BK200 HI0 HK HB; rename_i HO_201002 HO_201003 BK193 BK200 HI0 HK HB
             refine start_ (n := 11) (S := fun w' => w'.cell? ⟨gb200, 0, none⟩ = some (.int .i64 a1) ∧ w'.cell? ⟨gb200, 1, none⟩ = some (.int .i64 a2) ∧ w'.cell? ⟨gb200, 2, none⟩ = some (u201002) ∧ w'.cell? ⟨gb200, 3, none⟩ = some (u201003)) (ds := [10]) (zA 11 0) (by kernel_rfl) rfl rfl ⟨(blk_cell BK200.1 0).trans rfl, (blk_cell BK200.1 1).trans rfl, (blk_cell BK200.1 2).trans rfl, (blk_cell BK200.1 3).trans rfl⟩ (fun hHeld => ?_); refine with_tabW spec_l71Pkg.tab12 spec_l71Pkg.bits12 (fun HT_ HW_ => ?_)
             generalize w43.drew = w44 at HO_201002 HO_201003 BK193 BK200 HI0 HK HB hHeld ⊢; refine zu HT_ 0 (some 60) (zA 11 1) ?_; refine zu HT_ 2 (some 62) (zA 11 5) ?_; refine zu HT_ 3 (some 63) (zA 11 13) ?_; refine take_ (i := 1) (N := some 61) (v := ?_) (a' := ?_) (zA 11 15) rfl rfl (take_ofW HT_.1 HW_.1 (by kernel_rfl)) (fun _ _ _ h => h) (Or.inl ⟨by rfl, ?_⟩) hHeld ?_ ?_; rotate_left
             ·rintro w' ⟨s0, s1, s2, s3⟩
              go_simp
              (with_reducible rfl)
             rotate_left
             ·simp only [zp0, zp1, zp2, zp3, zp4, i64_w, i32_w]; rfl
             refine zo HT_ 4 (some 64) (zA 11 31) (fun K hK => ?_); refine zg Tryd.func43 #[.pointer (some ⟨g, 0, none⟩), .int .i64 2] ?_; (with_reducible refine (spec_l6Rd_pick.calls kj30 g s0_0 t213 2 t214 t215 w0 _ ?side1 ?side2 A41.1).mono ?_); (case side1 => exact IsS97.z2 HI0.1 NB0_193.1 NB0_200.1); (case side2 => exact zB3 HB.1 (IsS97.ge HI0.1) GE193.1 GE200.1); rintro e w45 ⟨rfl, hi, hb, hk⟩; refine ⟨_, rfl, ?_⟩; have _ := aM (Kd.R_mono (Kd.R_keep (IsS97.apart (show IsS97 w0 _ g s0_0 t213 from by exact IsS97.z2 HI0.1 NB0_193.1 NB0_200.1) (zR HO_201002.1) (by decide)) hk (fun _ h => h.2)) (fun _ h => h.1)); have _ := aM (Kd.R_mono (Kd.R_keep (IsS97.apart (show IsS97 w0 _ g s0_0 t213 from by exact IsS97.z2 HI0.1 NB0_193.1 NB0_200.1) (zR HO_201003.1) (by decide)) hk (fun _ h => h.2)) (fun _ h => h.1)); have _ := aM (KeepBut.blk hk (zK BK193.1) NB193_0.1 (by simp)); have _ := aM (KeepBut.blk hk (zK BK200.1) NB200_0.1 (by simp)); have _ := aM (KeepBut.trans (zQ2 HK.1 GW193.1 GW200.1) hk (.inl rfl)); have _ := aM (hb); have _ := aM (hi); clear HO_201002 HO_201003 BK193 BK200 HK HB HI0; rename_i HO_201002 HO_201003 BK193 BK200 HK HB HI0; (try clear hb); (try clear hb2); (try clear hk); (try clear hi); refine hK.out _ _ ⟨(blk_cell BK200.1 0).trans rfl, (blk_cell BK200.1 1).trans rfl, (blk_cell BK200.1 2).trans rfl, (blk_cell BK200.1 3).trans rfl⟩ (fun hHeld => ?_); clear hK K; refine zn (some 64) ?_; refine zu HT_ 5 (some 65) (zA 11 63) ?_; refine zu HT_ 6 (some 66) (zA 11 127) ?_; refine zo HT_ 7 (some 67) (zA 11 255) (fun K hK => ?_); refine value_ (w1 := ?_) (v := ?_) (by rfl) rfl ?_ ?_; rotate_left 2
             ·go_simp
              constructor
              ·rfl
              ·rfl
             refine hK.out _ _ ⟨(blk_cell (blk_alloc BK200.1 _) 0).trans rfl, (blk_cell (blk_alloc BK200.1 _) 1).trans rfl, (blk_cell (blk_alloc BK200.1 _) 2).trans rfl, (blk_cell (blk_alloc BK200.1 _) 3).trans rfl⟩ (fun hHeld => ?_); clear hK K; refine zn (some 67) ?_; refine zo HT_ 8 (some 68) (zA 11 511) (fun K hK => ?_); refine Kd.R_append_step k69 w.heap.size (by rfl) (.tmp 61) (.tmp 67) 29 69 (.agg #[(.int .i64 0), (.int .i64 0)]) 16 rfl Tryd.underlying29 info69 rfl (by decide) (by omega) u201003 x201003_3 (⟨x10_3, wrap64 (1 + t214)⟩ : S69) [.int .i64 x10_3, .int .i64 (wrap64 (1 + t214))] (fun _ => True) (fun _ => False) rfl rfl ?aP (fun _ hk => hk.elim) ?aF ?aO (Below.refl _ _) ?aS ?aL ?_; (case aP => exact k69_mkM _ _ _ (⟨x10_3, wrap64 (1 + t214)⟩ : S69)); (case aF => exact (fun _ _ => trivial)); (case aO => exact (zR HO_201003.1)); (case aS => exact (keep_size (w := w) (g := g) (row := none) (zQ2 HK.1 GW193.1 GW200.1))); (case aL => have := LMc42.1; omega); intro v217 w46 ho hb hg hat; rw [← Ny216.1] at ho; have _ := aM (Kd.R_over' (zR HO_201002.1) (Kd.R_typed (zR HO_201003.1)) (by decide) hg); have _ := aM (blk_grown (zK BK193.1) hg (Kd.R_ne HO_201003.1 BK193.1 (by decide))); have _ := aM (blk_grown (zK BK200.1) hg (Kd.R_ne HO_201003.1 BK200.1 (by decide))); have _ := aM (IsS97.grown (by exact IsS97.z2 HI0.1 NB0_193.1 NB0_200.1) hg (IsS97.own_ne HI0.1 HO_201003.1 (by decide))); have _ := aM (below_weaken (zB3 HB.1 (IsS97.ge HI0.1) GE193.1 GE200.1) HL.1 hb); have _ := aM (KeepBut.trans (zQ2 HK.1 GW193.1 GW200.1) (KeepBut.of_grown hg g) (Kd.R_base2 HO_201003.1)); have _ := aM (ho); clear HO_201002 BK193 BK200 HI0 HB HK HO_201003; rename_i HO_201002 BK193 BK200 HI0 HB HK HO218; clear ho hb hg hat; obtain ⟨Ao47, co47, eo47⟩ := Kd.R_slice HO218.1; (first | subst eo47 | (injection eo47 with f1_ f2_ f3_; have f4_ := f1_.symm; have f5_ := f3_.symm; clear f1_ f2_ f3_; subst f4_; subst f5_)); refine hK.out _ _ ⟨(blk_cell BK200.1 0).trans rfl, (blk_cell BK200.1 1).trans rfl, (blk_cell BK200.1 2).trans rfl, (blk_cell BK200.1 3).trans rfl⟩ (fun hHeld => ?_); clear hK K; refine zn (some 68) ?_; refine zu HT_ 9 (some 69) (zA 11 1023) ?_; refine last_ (i := 10) (N := none) (zA 11 2047) rfl rfl (one_of HT_.1 (by kernel_rfl)) (by decide) (fun K hK => ?_); have hs48 : w46.cell? ⟨gb200, 3, none⟩ = some (u201003) := (blk_cell BK200.1 3).trans rfl; have hfs48 := blk_frozen BK200.1 3; have hns48_0 := NB193_200.1; have hms48_0 := NB200_193.1; refine skip_ (w1 := ?_) (by rfl) rfl ?_ ?_; rotate_left
             ·go_simp
              rfl
             refine hK.out _ _ ?_; clear hK K; refine done_ (done_of HT_.1 (by kernel_rfl)) ?_
             try go_wp2
             go_roundg kj30
             case measure => have := HK1.1; have := HJ18.1; have := HK3.1; have := HJ30.1; omega
             case rel => exact ⟨(wrap64 (x10_3 + 1)), (t215), (y216), (.slice Ao47 y216.length co47), (by first | rfl | (simp; done) | (simp [*]; done)), H', ⟨by have := HK1.1; have := HJ18.1; have := HK3.1; have := HJ30.1; omega⟩, ⟨by exact (Kd.R_mono (zFR (g := gb200) (Kd.R_types HO_201002.1 BK200.1 (by decide)) (fun _ hk => hk.2)) (fun _ hk => trivial))⟩, ⟨by exact (Kd.R_mono (zFR (g := gb200) (Kd.R_types HO218.1 BK200.1 (by decide)) (fun _ hk => hk.2)) (fun _ hk => trivial))⟩, ⟨zK1 BK193.1 NB193_200.1⟩, ⟨by exact zP BK200.1 (by rfl)⟩, ⟨by exact IsS97.z2 HI0.1 NB0_193.1 NB0_200.1⟩, ⟨zQ2 HK.1 GW193.1 GW200.1⟩, ⟨zB3 HB.1 (IsS97.ge HI0.1) GE193.1 GE200.1⟩⟩
            ·rw [if_neg c40] at H; have c40b0 : (t212 == 0) = false := beq_eq_false_iff_ne.mpr c40; have c40b1 : (t212 != 0) = true := bne_iff_ne.mpr c40; have H' := aM H; clear H
             go_wp2_with (first | (go_at_call 43; (with_reducible refine (spec_l6Rd_pick.calls kj30 g s0_0 x1001_3 6 t212 t213 w0 _ ?side1 ?side2 A39.1).mono ?_); (case side1 => exact IsS97.z2 HI0.1 NB0_193.1 NB0_200.1); (case side2 => exact zB3 HB.1 (IsS97.ge HI0.1) GE193.1 GE200.1); rintro e w49 ⟨rfl, hi, hb, hk⟩; have _ := aM (Kd.R_mono (Kd.R_keep (IsS97.apart (show IsS97 w0 _ g s0_0 x1001_3 from by exact IsS97.z2 HI0.1 NB0_193.1 NB0_200.1) (zR HO_201002.1) (by decide)) hk (fun _ h => h.2)) (fun _ h => h.1)); have _ := aM (Kd.R_mono (Kd.R_keep (IsS97.apart (show IsS97 w0 _ g s0_0 x1001_3 from by exact IsS97.z2 HI0.1 NB0_193.1 NB0_200.1) (zR HO_201003.1) (by decide)) hk (fun _ h => h.2)) (fun _ h => h.1)); have _ := aM (KeepBut.blk hk (zK BK193.1) NB193_0.1 (by simp)); have _ := aM (KeepBut.blk hk (zK BK200.1) NB200_0.1 (by simp)); have _ := aM (KeepBut.trans (zQ2 HK.1 GW193.1 GW200.1) hk (.inl rfl)); have _ := aM (hb); have _ := aM (hi); clear HO_201002 HO_201003 BK193 BK200 HK HB HI0; rename_i HO_201002 HO_201003 BK193 BK200 HK HB HI0; (try clear hb); (try clear hb2); (try clear hk); (try clear hi)))
             go_roundg kj30
             case measure => have := HK1.1; have := HJ18.1; have := HK3.1; have := HJ30.1; omega
             case rel => exact ⟨(wrap64 (x10_3 + 1)), (t213), (x201003_3), (u201003), (by first | rfl | (simp; done) | (simp [*]; done)), H', ⟨by have := HK1.1; have := HJ18.1; have := HK3.1; have := HJ30.1; omega⟩, ⟨zR HO_201002.1⟩, ⟨zR HO_201003.1⟩, ⟨zK BK193.1⟩, ⟨zK BK200.1⟩, ⟨by exact IsS97.z2 HI0.1 NB0_193.1 NB0_200.1⟩, ⟨zQ2 HK.1 GW193.1 GW200.1⟩, ⟨zB3 HB.1 (IsS97.ge HI0.1) GE193.1 GE200.1⟩⟩
          ·replace c37 := Bool.eq_false_iff.mpr c37; subst c37; replace H := zy0 H; simp only [Option.some.injEq, Prod.mk.injEq] at H; obtain ⟨rfl, rfl, rfl, rfl, rfl⟩ := H; have hnb50 := NB200_193.1; have hnc50 := NB193_200.1; have hnb51 := NB200_0.1; have hnc51 := NB0_200.1; obtain ⟨hcz52_0, hcz52_1, hcz52_2, hcz52_3, hfz52_0, hfz52_1, hfz52_2, hfz52_3⟩ := zc4f BK200.1; have hnb53 := NB193_0.1; have hnc53 := NB0_193.1; obtain ⟨hcz54_0, hcz54_1, hcz54_2, hcz54_3, hfz54_0, hfz54_1, hfz54_2, hfz54_3⟩ := zc4f BK193.1; obtain ⟨Ao55, co55, eo55⟩ := Kd.R_slice HO_201002.1; subst eo55; obtain ⟨Ao56, co56, eo56⟩ := Kd.R_slice HO_201003.1; subst eo56
           go_wp2
           refine bodyPost_ret (results_cell_row rfl _ _ gb193 31 #[.int .i64 a1, .int .i64 a2, .slice Ao55 x201002_1.length co55, .slice Ao56 x201003_3.length co56] (0, 0) _ rfl (by exact zP BK193.1 (by rfl)) Tryd.underlying31 rfl (by kernel_rfl)) rfl ?_; exact ⟨_, _, by first | rfl | (simp [errW_none, errW_some] <;> rfl) | (simp [*, errW_none, errW_some] <;> rfl), by exact (Kd.R_mono (zFR (g := gb193) (Kd.R_types HO_201002.1 BK193.1 (by decide)) (fun _ hk => hk.2)) (fun _ hk => trivial)), by exact (Kd.R_mono (zFR (g := gb193) (Kd.R_types HO_201003.1 BK193.1 (by decide)) (fun _ hk => hk.2)) (fun _ hk => trivial)), by exact IsS97.z2 HI0.1 NB0_193.1 NB0_200.1, by exact zB3 HB.1 (IsS97.ge HI0.1) GE193.1 GE200.1, by exact zQ2 HK.1 GW193.1 GW200.1⟩

/-! ### spec_l12Find: function 80 -/
def spec_l12Find.l0 : Nat → List (S31) → Int → Int → Int → Option (Int)
 | 0, _, _, _, _ => none
 | k + 1, x0, x1, x2, x7 => if x7 < (x0.length : Int) then (if 0 ≤ x7 then (if ((rd_T31 x0 x7).f0) = x1 then (if ((rd_T31 x0 x7).f1) = x2 then (some x7) else (spec_l12Find.l0 k x0 x1 x2 (wrap64 (x7 + 1)))) else (spec_l12Find.l0 k x0 x1 x2 (wrap64 (x7 + 1)))) else (none)) else (some (-1))
def spec_l12Find.f (k : Nat) (l0 : List (S31)) (a1 : Int) (a2 : Int) : Option (Int) := spec_l12Find.l0 k l0 a1 a2 0
theorem spec_l12Find.mono_l : ∀ k, (∀ y0 y1 y2 y3, LeO (spec_l12Find.l0 k y0 y1 y2 y3) (spec_l12Find.l0 (k + 1) y0 y1 y2 y3))
 | 0 => fun _ _ _ _ r h => by simp [spec_l12Find.l0] at h
 | k + 1 => by
  have ih0 := spec_l12Find.mono_l k
  ·intro y0 y1 y2 y3
   unfold spec_l12Find.l0
   repeat' first
   | (with_reducible exact ih0 _ _ _ _)
   | (with_reducible exact LeO.refl _)
   | (with_reducible exact LeO.none _)
   | (with_reducible refine LeO.ite ?_ ?_)
   | (with_reducible refine LeO.bind ?_ (fun _ => ?_))
   | exact ih0 _ _ _ _
   | exact LeO.none _
   | refine LeO.ite ?_ ?_
   | refine LeO.bind ?_ (fun _ => ?_)
theorem spec_l12Find.mono : ∀ a0 a1 a2 k, LeO (spec_l12Find.f k a0 a1 a2) (spec_l12Find.f (k + 1) a0 a1 a2) := by
 intro a0 a1 a2 k
 have ih0 := spec_l12Find.mono_l k
 unfold spec_l12Find.f
 repeat' with_reducible first | apply ih0 | exact LeO.refl _ | exact LeO.none _ | refine LeO.ite ?_ ?_ | refine LeO.bind ?_ (fun _ => ?_)
set_option maxHeartbeats 8000000 in
set_option maxRecDepth 100000 in
theorem spec_l12Find.calls (k : Nat) (A0 : Option Addr) (c0 : Nat) (l0 : List (S31)) (a1 : Int) (a2 : Int) (r : Int) (w : World) (hr0 : Kd.C k31 w A0 l0.length l0) (hc0 : l0.length ≤ c0) (h : spec_l12Find.f k l0 a1 a2 = some r) :
  Calls Tryd.prog 80 #[.slice A0 l0.length c0, .int .i64 a1, .int .i64 a2] w fun e w' => e = .returned (.int .i64 r) ∧ Drawn0 w w' := by
 have HR0 := aM hr0; have HC0 := aM hc0; clear hr0 hc0; have H : (spec_l12Find.l0 k l0 a1 a2 0) = some r := h; clear h; have H' := aM H; clear H
 go_enter Tryd.func80, Tryd.ntmps80
 go_wp2
 go_loopg [7] k (fun kq v7 w' => ∃ (x7_1 : Int), v7 = .int .i64 x7_1 ∧ Aside0 (spec_l12Find.l0 kq l0 a1 a2 x7_1 = some r) ∧ Aside0 (kq ≤ k) ∧ Drawn0 w w')
 case atStart => exact ⟨(0), (by first | rfl | (simp; done) | (simp [*]; done)), H', ⟨Nat.le_refl _⟩, by repeat (first | exact Drawn0.refl _ | apply Drawn0.step)⟩
 case round =>
  clear H'
  try clear p2
  obtain ⟨x7_1, rfl, HA, HK1, ⟨m1, rfl⟩⟩ := hrel; cases gk with
  | zero => exact absurd HA.1 (by simp [spec_l12Find.l0])
  | succ k1 =>
   have H := HA.1; clear HA; simp only [spec_l12Find.l0] at H
   by_cases c4 : x7_1 < (l0.length : Int)
   ·rw [if_pos c4] at H; have c4b0 : decide (x7_1 < (l0.length : Int)) = true := decide_eq_true c4; clear c4; replace H := zif H; obtain ⟨c5, H⟩ := H; have c5b0 : decide (0 ≤ x7_1) = true := decide_eq_true c5; clear c5
    by_cases c6 : ((rd_T31 l0 x7_1).f0) = a1
    ·rw [if_pos c6] at H; have c6b0 : (((rd_T31 l0 x7_1).f0) == a1) = true := beq_iff_eq.mpr c6; have c6b1 : (((rd_T31 l0 x7_1).f0) != a1) = false := bne_eq_false_iff_eq.mpr c6; clear c6
     by_cases c7 : ((rd_T31 l0 x7_1).f1) = a2
     ·rw [if_pos c7] at H; have c7b0 : (((rd_T31 l0 x7_1).f1) == a2) = true := beq_iff_eq.mpr c7; have c7b1 : (((rd_T31 l0 x7_1).f1) != a2) = false := bne_eq_false_iff_eq.mpr c7; clear c7; obtain rfl := Option.some.inj H; have p219 : 0 ≤ (x7_1 : Int) := zd; have q219 : x7_1 < (l0.length : Int) := zd; obtain ⟨ad219, A219_2, c219_2, A219_3, c219_3, e219, hx219_0, hx219_1, hx219_2, hx219_3, hl219_2, hi219_2, hl219_3, hi219_3⟩ := at_T31 HR0.1 x7_1 p219 q219; cases e219; have HR219_2 := aM hi219_2; have HC219_2 := aM hl219_2; clear hi219_2 hl219_2; have HR219_3 := aM hi219_3; have HC219_3 := aM hl219_3; clear hi219_3 hl219_3; replace p219 := eq_true p219; replace q219 := eq_true q219; have p220 : 0 ≤ (x7_1 : Int) := zd; have q220 : x7_1 < (l0.length : Int) := zd; obtain ⟨ad220, A220_2, c220_2, A220_3, c220_3, e220, hx220_0, hx220_1, hx220_2, hx220_3, hl220_2, hi220_2, hl220_3, hi220_3⟩ := at_T31 HR0.1 x7_1 p220 q220; obtain rfl : ad219 = ad220 := (by injection e220); have HR220_2 := aM hi220_2; have HC220_2 := aM hl220_2; clear hi220_2 hl220_2; have HR220_3 := aM hi220_3; have HC220_3 := aM hl220_3; clear hi220_3 hl220_3; replace p220 := eq_true p220; replace q220 := eq_true q220; have ea_ := Option.some.inj (hx219_2.symm.trans hx220_2); injection ea_ with ea_ en_ ec_; subst ea_; subst ec_; clear en_; have ea_ := Option.some.inj (hx219_3.symm.trans hx220_3); injection ea_ with ea_ en_ ec_; subst ea_; subst ec_; clear en_
      go_wp2
      go_ret
      exact ⟨by first | rfl | (simp; done) | (simp [*]; done), by repeat (first | exact Drawn0.refl _ | apply Drawn0.step)⟩
     ·rw [if_neg c7] at H; have c7b0 : (((rd_T31 l0 x7_1).f1) == a2) = false := beq_eq_false_iff_ne.mpr c7; have c7b1 : (((rd_T31 l0 x7_1).f1) != a2) = true := bne_iff_ne.mpr c7; have H' := aM H; clear H; have p219 : 0 ≤ (x7_1 : Int) := zd; have q219 : x7_1 < (l0.length : Int) := zd; obtain ⟨ad219, A219_2, c219_2, A219_3, c219_3, e219, hx219_0, hx219_1, hx219_2, hx219_3, hl219_2, hi219_2, hl219_3, hi219_3⟩ := at_T31 HR0.1 x7_1 p219 q219; cases e219; have HR219_2 := aM hi219_2; have HC219_2 := aM hl219_2; clear hi219_2 hl219_2; have HR219_3 := aM hi219_3; have HC219_3 := aM hl219_3; clear hi219_3 hl219_3; replace p219 := eq_true p219; replace q219 := eq_true q219; have p220 : 0 ≤ (x7_1 : Int) := zd; have q220 : x7_1 < (l0.length : Int) := zd; obtain ⟨ad220, A220_2, c220_2, A220_3, c220_3, e220, hx220_0, hx220_1, hx220_2, hx220_3, hl220_2, hi220_2, hl220_3, hi220_3⟩ := at_T31 HR0.1 x7_1 p220 q220; obtain rfl : ad219 = ad220 := (by injection e220); have HR220_2 := aM hi220_2; have HC220_2 := aM hl220_2; clear hi220_2 hl220_2; have HR220_3 := aM hi220_3; have HC220_3 := aM hl220_3; clear hi220_3 hl220_3; replace p220 := eq_true p220; replace q220 := eq_true q220; have ea_ := Option.some.inj (hx219_2.symm.trans hx220_2); injection ea_ with ea_ en_ ec_; subst ea_; subst ec_; clear en_; have ea_ := Option.some.inj (hx219_3.symm.trans hx220_3); injection ea_ with ea_ en_ ec_; subst ea_; subst ec_; clear en_
      go_wp2
      go_roundg k1
      case measure => have := HK1.1; omega
      case rel => exact ⟨(wrap64 (x7_1 + 1)), (by first | rfl | (simp; done) | (simp [*]; done)), H', ⟨by have := HK1.1; omega⟩, by repeat (first | exact Drawn0.refl _ | apply Drawn0.step)⟩
    ·rw [if_neg c6] at H; have c6b0 : (((rd_T31 l0 x7_1).f0) == a1) = false := beq_eq_false_iff_ne.mpr c6; have c6b1 : (((rd_T31 l0 x7_1).f0) != a1) = true := bne_iff_ne.mpr c6; have H' := aM H; clear H; have p219 : 0 ≤ (x7_1 : Int) := zd; have q219 : x7_1 < (l0.length : Int) := zd; obtain ⟨ad219, A219_2, c219_2, A219_3, c219_3, e219, hx219_0, hx219_1, hx219_2, hx219_3, hl219_2, hi219_2, hl219_3, hi219_3⟩ := at_T31 HR0.1 x7_1 p219 q219; cases e219; have HR219_2 := aM hi219_2; have HC219_2 := aM hl219_2; clear hi219_2 hl219_2; have HR219_3 := aM hi219_3; have HC219_3 := aM hl219_3; clear hi219_3 hl219_3; replace p219 := eq_true p219; replace q219 := eq_true q219
     go_wp2
     go_roundg k1
     case measure => have := HK1.1; omega
     case rel => exact ⟨(wrap64 (x7_1 + 1)), (by first | rfl | (simp; done) | (simp [*]; done)), H', ⟨by have := HK1.1; omega⟩, by repeat (first | exact Drawn0.refl _ | apply Drawn0.step)⟩
   ·rw [if_neg c4] at H; have c4b0 : decide (x7_1 < (l0.length : Int)) = false := decide_eq_false c4; clear c4; obtain rfl := Option.some.inj H
    go_wp2
    go_ret
    exact ⟨by first | rfl | (simp; done) | (simp [*]; done), by repeat (first | exact Drawn0.refl _ | apply Drawn0.step)⟩

end Go.Proofs.YtkjgnnjcjkphbaaDoor.PFnIndexStrict
