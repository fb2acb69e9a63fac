-- printed for this claim by a program out of the translation, its tactics shortened by another
import Derived.Test.YtlmgnnpmcdeclaaDoorPFnIndexOnex2
namespace Go.Proofs.YtlmgnnpmcdeclaaDoor.PFnIndexOne
open Go.RowKit Go.Proofs.YtlmgnnpmcdeclaaDoorW.PrintWords Go.Proofs.YtlmgnnpmcdeclaaDoorW.PrintLast Go.Proofs.YtlmgnnpmcdeclaaDoorW.PrintMore
attribute [local go_sem] max2_int min2_int max_two min_two max_three min_three max_four min_four   -- for this text's walks alone
set_option linter.unusedVariables false
set_option linter.unusedSimpArgs false

/-! ### spec_l71Pkg: function 48 -/
mutual
def spec_l71Pkg.l0 : Nat → Int → Int → Int → List Int → Int → Int → Int → List (S63) → List (S66) → Option (Int × Int × (List (S63)) × (List (S66)) × Int)
 | 0, _, _, _, _, _, _, _, _, _ => none
 | k + 1, x1, x8, x9, x1000, x1001, x184000, x184001, x184002, x184003 => if x9 > 0 then (spec_l71Pkg.j1 k x1 x8 x9 (decide (x8 < 6)) x1000 x1001 x184000 x184001 x184002 x184003) else (spec_l71Pkg.j1 k x1 x8 x9 false x1000 x1001 x184000 x184001 x184002 x184003)
def spec_l71Pkg.j1 : Nat → Int → Int → Int → Bool → List Int → Int → Int → Int → List (S63) → List (S66) → Option (Int × Int × (List (S63)) × (List (S66)) × Int)
 | 0, _, _, _, _, _, _, _, _, _, _ => none
 | k + 1, x1, x8, x9, x25, x1000, x1001, x184000, x184001, x184002, x184003 => if x25 = true then ((spec_l6Rd_pick.f k x1000 x1001 10).bind fun bt188 => (if x184002.length < 8796093022208 then ((spec_l6Rd_pick.f k x1000 bt188.2 3).bind fun bt193 => (spec_l71Pkg.l0 k x1 (wrap64 ((wrap64 (x8 + 1)) + bt193.1)) (wrap64 (x9 - 1)) x1000 bt193.2 x184000 x184001 (x184002 ++ [(⟨x8, bt188.1⟩ : S63)]) x184003)) else (none))) else (spec_l71Pkg.l1 k x1 1 x1000 x1001 x184000 x184001 x184002 x184003)
def spec_l71Pkg.l1 : Nat → Int → Int → List Int → Int → Int → Int → List (S63) → List (S66) → Option (Int × Int × (List (S63)) × (List (S66)) × Int)
 | 0, _, _, _, _, _, _, _, _ => none
 | k + 1, x1, x10, x1000, x1001, x184000, x184001, x184002, x184003 => if x10 ≤ 4 then (spec_l71Pkg.j3 k x1 x10 (decide ((x184003.length : Int) < 2)) x1000 x1001 x184000 x184001 x184002 x184003) else (spec_l71Pkg.j3 k x1 x10 false x1000 x1001 x184000 x184001 x184002 x184003)
def spec_l71Pkg.j3 : Nat → Int → Int → Bool → List Int → Int → Int → Int → List (S63) → List (S66) → Option (Int × Int × (List (S63)) × (List (S66)) × Int)
 | 0, _, _, _, _, _, _, _, _, _ => none
 | k + 1, x1, x10, x49, x1000, x1001, x184000, x184001, x184002, x184003 => if x49 = true then (if x10 = x1 then (spec_l71Pkg.l1 k x1 (wrap64 (x10 + 1)) x1000 x1001 x184000 x184001 x184002 x184003) else ((spec_l6Rd_pick.f k x1000 x1001 6).bind fun bt195 => (if bt195.1 = 0 then ((spec_l6Rd_pick.f k x1000 bt195.2 2).bind fun bt197 => (if x184003.length < 8796093022208 then (spec_l71Pkg.l1 k x1 (wrap64 (x10 + 1)) x1000 bt197.2 x184000 x184001 x184002 (x184003 ++ [(⟨x10, wrap64 (1 + bt197.1)⟩ : S66)])) else (none))) else (spec_l71Pkg.l1 k x1 (wrap64 (x10 + 1)) x1000 bt195.2 x184000 x184001 x184002 x184003)))) else (some (x184000, x184001, x184002, x184003, x1001))
end
def spec_l71Pkg.f (k : Nat) (s0_0 : List Int) (s0_1 : Int) (a1 : Int) (a2 : Int) : Option (Int × Int × (List (S63)) × (List (S66)) × Int) := (spec_l6Rd_pick.f k s0_0 s0_1 4).bind fun bt184 => ((spec_l6Rd_pick.f k s0_0 bt184.2 3).bind fun bt186 => (spec_l71Pkg.l0 k a1 bt184.1 bt186.1 s0_0 bt186.2 a1 a2 (([] : List (S63))) (([] : List (S66)))))
theorem spec_l71Pkg.mono_l : ∀ k, (∀ y0 y1 y2 y3 y4 y5 y6 y7 y8, LeO (spec_l71Pkg.l0 k y0 y1 y2 y3 y4 y5 y6 y7 y8) (spec_l71Pkg.l0 (k + 1) y0 y1 y2 y3 y4 y5 y6 y7 y8)) ∧ (∀ y0 y1 y2 y3 y4 y5 y6 y7 y8 y9, LeO (spec_l71Pkg.j1 k y0 y1 y2 y3 y4 y5 y6 y7 y8 y9) (spec_l71Pkg.j1 (k + 1) y0 y1 y2 y3 y4 y5 y6 y7 y8 y9)) ∧ (∀ y0 y1 y2 y3 y4 y5 y6 y7, LeO (spec_l71Pkg.l1 k y0 y1 y2 y3 y4 y5 y6 y7) (spec_l71Pkg.l1 (k + 1) y0 y1 y2 y3 y4 y5 y6 y7)) ∧ (∀ y0 y1 y2 y3 y4 y5 y6 y7 y8, LeO (spec_l71Pkg.j3 k y0 y1 y2 y3 y4 y5 y6 y7 y8) (spec_l71Pkg.j3 (k + 1) y0 y1 y2 y3 y4 y5 y6 y7 y8))
 | 0 => ⟨fun _ _ _ _ _ _ _ _ _ r h => by simp [spec_l71Pkg.l0] at h, fun _ _ _ _ _ _ _ _ _ _ r h => by simp [spec_l71Pkg.j1] at h, fun _ _ _ _ _ _ _ _ r h => by simp [spec_l71Pkg.l1] at h, fun _ _ _ _ _ _ _ _ _ r h => by simp [spec_l71Pkg.j3] at h⟩
 | k + 1 => by
  obtain ⟨ih0, ih1, ih2, ih3⟩ := spec_l71Pkg.mono_l k
  refine ⟨?_, ?_, ?_, ?_⟩
  ·intro y0 y1 y2 y3 y4 y5 y6 y7 y8
   unfold spec_l71Pkg.l0
   repeat' first
   | (with_reducible exact ih0 _ _ _ _ _ _ _ _ _)
   | (with_reducible exact ih1 _ _ _ _ _ _ _ _ _ _)
   | (with_reducible exact ih2 _ _ _ _ _ _ _ _)
   | (with_reducible exact ih3 _ _ _ _ _ _ _ _ _)
   | (with_reducible exact spec_l6Rd_pick.mono _ _ _ _)
   | (with_reducible exact LeO.refl _)
   | (with_reducible exact LeO.none _)
   | (with_reducible refine LeO.ite ?_ ?_)
   | (with_reducible refine LeO.bind ?_ (fun _ => ?_))
   | exact ih0 _ _ _ _ _ _ _ _ _
   | exact ih1 _ _ _ _ _ _ _ _ _ _
   | exact ih2 _ _ _ _ _ _ _ _
   | exact ih3 _ _ _ _ _ _ _ _ _
   | exact spec_l6Rd_pick.mono _ _ _ _
   | exact LeO.none _
   | refine LeO.ite ?_ ?_
   | refine LeO.bind ?_ (fun _ => ?_)
  ·intro y0 y1 y2 y3 y4 y5 y6 y7 y8 y9
   unfold spec_l71Pkg.j1
   repeat' first
   | (with_reducible exact ih0 _ _ _ _ _ _ _ _ _)
   | (with_reducible exact ih1 _ _ _ _ _ _ _ _ _ _)
   | (with_reducible exact ih2 _ _ _ _ _ _ _ _)
   | (with_reducible exact ih3 _ _ _ _ _ _ _ _ _)
   | (with_reducible exact spec_l6Rd_pick.mono _ _ _ _)
   | (with_reducible exact LeO.refl _)
   | (with_reducible exact LeO.none _)
   | (with_reducible refine LeO.ite ?_ ?_)
   | (with_reducible refine LeO.bind ?_ (fun _ => ?_))
   | exact ih0 _ _ _ _ _ _ _ _ _
   | exact ih1 _ _ _ _ _ _ _ _ _ _
   | exact ih2 _ _ _ _ _ _ _ _
   | exact ih3 _ _ _ _ _ _ _ _ _
   | exact spec_l6Rd_pick.mono _ _ _ _
   | exact LeO.none _
   | refine LeO.ite ?_ ?_
   | refine LeO.bind ?_ (fun _ => ?_)
  ·intro y0 y1 y2 y3 y4 y5 y6 y7
   unfold spec_l71Pkg.l1
   repeat' first
   | (with_reducible exact ih0 _ _ _ _ _ _ _ _ _)
   | (with_reducible exact ih1 _ _ _ _ _ _ _ _ _ _)
   | (with_reducible exact ih2 _ _ _ _ _ _ _ _)
   | (with_reducible exact ih3 _ _ _ _ _ _ _ _ _)
   | (with_reducible exact spec_l6Rd_pick.mono _ _ _ _)
   | (with_reducible exact LeO.refl _)
   | (with_reducible exact LeO.none _)
   | (with_reducible refine LeO.ite ?_ ?_)
   | (with_reducible refine LeO.bind ?_ (fun _ => ?_))
   | exact ih0 _ _ _ _ _ _ _ _ _
   | exact ih1 _ _ _ _ _ _ _ _ _ _
   | exact ih2 _ _ _ _ _ _ _ _
   | exact ih3 _ _ _ _ _ _ _ _ _
   | exact spec_l6Rd_pick.mono _ _ _ _
   | exact LeO.none _
   | refine LeO.ite ?_ ?_
   | refine LeO.bind ?_ (fun _ => ?_)
  ·intro y0 y1 y2 y3 y4 y5 y6 y7 y8
   unfold spec_l71Pkg.j3
   repeat' first
   | (with_reducible exact ih0 _ _ _ _ _ _ _ _ _)
   | (with_reducible exact ih1 _ _ _ _ _ _ _ _ _ _)
   | (with_reducible exact ih2 _ _ _ _ _ _ _ _)
   | (with_reducible exact ih3 _ _ _ _ _ _ _ _ _)
   | (with_reducible exact spec_l6Rd_pick.mono _ _ _ _)
   | (with_reducible exact LeO.refl _)
   | (with_reducible exact LeO.none _)
   | (with_reducible refine LeO.ite ?_ ?_)
   | (with_reducible refine LeO.bind ?_ (fun _ => ?_))
   | exact ih0 _ _ _ _ _ _ _ _ _
   | exact ih1 _ _ _ _ _ _ _ _ _ _
   | exact ih2 _ _ _ _ _ _ _ _
   | exact ih3 _ _ _ _ _ _ _ _ _
   | exact spec_l6Rd_pick.mono _ _ _ _
   | exact LeO.none _
   | refine LeO.ite ?_ ?_
   | refine LeO.bind ?_ (fun _ => ?_)
theorem spec_l71Pkg.mono : ∀ a0 a1 a2 a3 k, LeO (spec_l71Pkg.f k a0 a1 a2 a3) (spec_l71Pkg.f (k + 1) a0 a1 a2 a3) := by
 intro a0 a1 a2 a3 k
 obtain ⟨ih0, ih1, ih2, ih3⟩ := spec_l71Pkg.mono_l k
 unfold spec_l71Pkg.f
 repeat' first
   | (with_reducible exact ih0 _ _ _ _ _ _ _ _ _)
   | (with_reducible exact ih1 _ _ _ _ _ _ _ _ _ _)
   | (with_reducible exact ih2 _ _ _ _ _ _ _ _)
   | (with_reducible exact ih3 _ _ _ _ _ _ _ _ _)
   | (with_reducible exact spec_l6Rd_pick.mono _ _ _ _)
   | (with_reducible exact LeO.refl _)
   | (with_reducible exact LeO.none _)
   | (with_reducible refine LeO.ite ?_ ?_)
   | (with_reducible refine LeO.bind ?_ (fun _ => ?_))
   | exact ih0 _ _ _ _ _ _ _ _ _
   | exact ih1 _ _ _ _ _ _ _ _ _ _
   | exact ih2 _ _ _ _ _ _ _ _
   | exact ih3 _ _ _ _ _ _ _ _ _
   | exact spec_l6Rd_pick.mono _ _ _ _
   | exact LeO.none _
   | refine LeO.ite ?_ ?_
   | refine LeO.bind ?_ (fun _ => ?_)
def spec_l71Pkg.T6 : Bool × List (List Nat × List Nat) := (true, [([], []), ([0], [0]), ([], []), ([], []), ([3], [3]), ([2, 4], [2, 4]), ([5], [5]), ([1, 6, 4], [1, 6]), ([0, 1, 2, 3, 4, 5, 6, 7], []), ([8, 7, 7, 0, 1, 2, 3, 4, 5, 6, 7], [7, 8])])
def spec_l71Pkg.B6 : List Nat := [0, 1, 0, 0, 8, 28, 60, 127, 255, 511]
theorem spec_l71Pkg.tab6 : rtab .any (opsOf Tryd.f48 6) = spec_l71Pkg.T6 := by kernel_rfl
theorem spec_l71Pkg.bits6 : waitsOk spec_l71Pkg.T6.2 spec_l71Pkg.B6 = true := by kernel_rfl
def spec_l71Pkg.T12 : Bool × List (List Nat × List Nat) := (true, [([], []), ([0], [0]), ([], []), ([], []), ([3], [3]), ([4], [4]), ([2, 5], [2, 5]), ([6], [6]), ([1, 7, 4], [1, 7]), ([0, 1, 2, 3, 4, 5, 6, 7, 8], []), ([9, 8, 8, 0, 1, 2, 3, 4, 5, 6, 7, 8], [8, 9])])
def spec_l71Pkg.B12 : List Nat := [0, 1, 0, 0, 8, 24, 60, 124, 255, 511, 1023]
theorem spec_l71Pkg.tab12 : rtab .any (opsOf Tryd.f48 12) = spec_l71Pkg.T12 := by kernel_rfl
theorem spec_l71Pkg.bits12 : waitsOk spec_l71Pkg.T12.2 spec_l71Pkg.B12 = true := by kernel_rfl
set_option maxHeartbeats 8000000 in
set_option maxRecDepth 100000 in
theorem spec_l71Pkg.calls (k : Nat) (g : Nat) (s0_0 : List Int) (s0_1 : Int) (a1 : Int) (a2 : Int) (r1 : Int) (r2 : Int) (r3 : List (S63)) (r4 : List (S66)) (r5 : Int) (w0 w : World) (hI : IsS87 w0 w g s0_0 s0_1) (hB : Below w0.heap.size w0 w) (h : spec_l71Pkg.f k s0_0 s0_1 a1 a2 = some (r1, r2, r3, r4, r5)) :
  Calls Tryd.prog 48 #[.pointer (some ⟨g, 0, none⟩), .int .i64 a1, .int .i64 a2] w fun e w' => ∃ v2_ v3_ : Value, e = .returned (.agg #[.int .i64 r1, .int .i64 r2, v2_, v3_]) ∧ Kd.R k63 63 w' w.heap.size (fun _ => True) v2_ r3 ∧ Kd.R k66 66 w' w.heap.size (fun _ => True) v3_ r4 ∧ IsS87 w0 w' g s0_0 r5 ∧ Below w0.heap.size w0 w' ∧ KeepBut w w' g none := by
 have hu26 := Tryd.underlying26
 have hu63 := Tryd.underlying63
 have hu66 := Tryd.underlying66
 have HI0 := Aside0.mk hI
 have HK := Aside0.mk (KeepBut.refl w g none)
 have HL := Aside0.mk hB.size
 clear hI
 have HW0 := Aside0.mk hB.size
 have HB := Aside0.mk hB
 clear hB
 have H : ((spec_l6Rd_pick.f k s0_0 s0_1 4).bind fun bt184 => ((spec_l6Rd_pick.f k s0_0 bt184.2 3).bind fun bt186 => (spec_l71Pkg.l0 k a1 bt184.1 bt186.1 s0_0 bt186.2 a1 a2 (([] : List (S63))) (([] : List (S66)))))) = some (r1, r2, r3, r4, r5) := h
 clear h
 obtain ⟨y177, hy177⟩ : ∃ y_ : List (S63), y_ = (([] : List (S63))) := ⟨_, rfl⟩
 replace H : ((spec_l6Rd_pick.f k s0_0 s0_1 4).bind fun bt184 => ((spec_l6Rd_pick.f k s0_0 bt184.2 3).bind fun bt186 => (spec_l71Pkg.l0 k a1 bt184.1 bt186.1 s0_0 bt186.2 a1 a2 y177 (([] : List (S66)))))) = some (r1, r2, r3, r4, r5) := by first | (rw [hy177]; with_reducible exact H) | (have H2_ := (Option.bind_some _ _).symm.trans H; rw [hy177]; with_reducible exact H2_) | (have H2_ := (Option.bind_some _ _).symm.trans H; with_reducible exact H2_) | with_reducible exact H | (rw [hy177]; exact H) | exact H
 have Ny177 := Aside0.mk hy177
 clear hy177
 obtain ⟨y180, hy180⟩ : ∃ y_ : List (S66), y_ = (([] : List (S66))) := ⟨_, rfl⟩
 replace H : ((spec_l6Rd_pick.f k s0_0 s0_1 4).bind fun bt184 => ((spec_l6Rd_pick.f k s0_0 bt184.2 3).bind fun bt186 => (spec_l71Pkg.l0 k a1 bt184.1 bt186.1 s0_0 bt186.2 a1 a2 y177 y180))) = some (r1, r2, r3, r4, r5) := by first | (rw [hy180]; with_reducible exact H) | (have H2_ := (Option.bind_some _ _).symm.trans H; rw [hy180]; with_reducible exact H2_) | (have H2_ := (Option.bind_some _ _).symm.trans H; with_reducible exact H2_) | with_reducible exact H | (rw [hy180]; exact H) | exact H
 have Ny180 := Aside0.mk hy180
 clear hy180
 replace H := Option.bind_eq_some_iff.mp H
 obtain ⟨⟨t184, t185⟩, A40, H⟩ := H
 replace H : ((spec_l6Rd_pick.f k s0_0 t185 3).bind fun bt186 => (spec_l71Pkg.l0 k a1 t184 bt186.1 s0_0 bt186.2 a1 a2 y177 y180)) = some (r1, r2, r3, r4, r5) := H
 have A4 := Aside0.mk A40
 clear A40
 replace H := Option.bind_eq_some_iff.mp H
 obtain ⟨⟨t186, t187⟩, A50, H⟩ := H
 replace H : (spec_l71Pkg.l0 k a1 t184 t186 s0_0 t187 a1 a2 y177 y180) = some (r1, r2, r3, r4, r5) := H
 have A5 := Aside0.mk A50
 clear A50
 have H' := Aside0.mk H
 clear H
 go_enter Tryd.func48, Tryd.ntmps48
 go_wp2_with (first | ((with_reducible refine gate_dst (N := 6) rfl ?_); (try (refine gate_guard (by rfl) ?_; dsimp only)); refine box_event ?hg (N := 6) ?hd (cs := #[.int .i64 0, .int .i64 0, .slice none 0 0, .slice none 0 0]) (t := 26) ?hr ?_; (case hd => rfl); (case hg => rfl); (case hr => first | (go_simp; done) | (go_simp; rfl)); intro gb176 hg w6 hbox hb; have n0_ := Aside0.mk (IsS87.below (by repeat (first | (with_reducible first | exact HI0.out | apply IsS87.alloc | apply IsS87.drewN | apply IsS87.drew | apply IsS87.set_1) | exact HI0.out)) hb); have n1_ := Aside0.mk (KeepBut.trans (by repeat (first | (with_reducible first | exact HK.out | apply KeepBut.set_ | apply keep_drewN | apply keep_drew | apply keep_alloc) | exact HK.out)) (KeepBut.of_below hb g none) (.inl rfl)); have n2_ := Aside0.mk (below_step (by exact zB1 HB.out (IsS87.ge HI0.out)) hb); have n3_ := Aside0.mk (hbox); have n4_ := Aside0.mk ((by rw [hg]; exact (keep_size (w := w) (g := g) (row := none) (by repeat (first | (with_reducible first | exact HK.out | apply KeepBut.set_ | apply keep_drewN | apply keep_drew | apply keep_alloc) | exact HK.out))) : w.heap.size ≤ gb176)); have n5_ := Aside0.mk ((Nat.le_trans HW0.out (by rw [hg]; exact (keep_size (w := w) (g := g) (row := none) (by repeat (first | (with_reducible first | exact HK.out | apply KeepBut.set_ | apply keep_drewN | apply keep_drew | apply keep_alloc) | exact HK.out))) : w.heap.size ≤ gb176) : w0.heap.size ≤ gb176)); have n6_ := Aside0.mk ((by rw [hg]; exact Nat.ne_of_lt (IsS87.lt (show IsS87 w0 _ g s0_0 s0_1 from by repeat (first | (with_reducible first | exact HI0.out | apply IsS87.alloc | apply IsS87.drewN | apply IsS87.drew | apply IsS87.set_1) | exact HI0.out))) : g ≠ gb176)); have n7_ := Aside0.mk ((by rw [hg]; exact Nat.ne_of_gt (IsS87.lt (show IsS87 w0 _ g s0_0 s0_1 from by repeat (first | (with_reducible first | exact HI0.out | apply IsS87.alloc | apply IsS87.drewN | apply IsS87.drew | apply IsS87.set_1) | exact HI0.out))) : gb176 ≠ g)); clear HI0; clear HK; clear HB; have HI0 := n0_; have HK := n1_; have HB := n2_; have BK176 := n3_; have GW176 := n4_; have GE176 := n5_; have NB0_176 := n6_; have NB176_0 := n7_; clear n0_ n1_ n2_ n3_ n4_ n5_ n6_ n7_; clear hb hbox hg) | ((with_reducible refine gate_dst (N := 13) rfl ?_); (try (refine gate_guard (by rfl) ?_; dsimp only)); refine Kd.R_lit k63 _ 63 ?hg (N := 13) ?hd (xs := ([] : List (S63))) (inner := []) (ok := fun _ => True) (okp := fun _ => True) ?hr ?hp (fun _ hk => hk) trivial (Below.refl _ _) (Nat.le_refl _) (by simp) ?_; (case hd => rfl); (case hg => rfl); (case hr => first | (go_simp; done) | (go_simp; rfl)); (case hp => exact (Reps.none _ _)); intro v178 w7 ho8 hb hg_ hnew_; clear hg_ hnew_; (first | rw [← Ny177.out] at ho8 | (simp only [Int.reduceToNat] at ho8; rw [← Ny177.out] at ho8)); have n0_ := Aside0.mk (Kd.R_lower ho8 (keep_size (w := w) (g := g) (row := none) (by repeat (first | (with_reducible first | exact HK.out | apply KeepBut.set_ | apply keep_drewN | apply keep_drew | apply keep_alloc | refine keep_far ?_ GW176.out _) | exact HK.out)))); have n1_ := Aside0.mk (IsS87.below (by repeat (first | (with_reducible first | exact HI0.out | apply IsS87.alloc | apply IsS87.drewN | apply IsS87.drew | apply IsS87.set_1 | refine IsS87.far ?_ NB0_176.out _) | exact HI0.out)) hb); have n2_ := Aside0.mk (blk_below (g := gb176) (o := .cells #[.int .i64 0, .int .i64 0, .slice none 0 0, .slice none 0 0] 26 (0, 0)) (by exact zK BK176.out) hb); have n3_ := Aside0.mk (KeepBut.trans (by repeat (first | (with_reducible first | exact HK.out | apply KeepBut.set_ | apply keep_drewN | apply keep_drew | apply keep_alloc | refine keep_far ?_ GW176.out _) | exact HK.out)) (KeepBut.of_below hb g none) (.inl rfl)); have n4_ := Aside0.mk (below_step (by exact zB2 HB.out (IsS87.ge HI0.out) GE176.out) hb); clear HI0; clear BK176; clear HK; clear HB; have HO179 := n0_; have HI0 := n1_; have BK176 := n2_; have HK := n3_; have HB := n4_; clear n0_ n1_ n2_ n3_ n4_; clear hb ho8) | ((with_reducible refine gate_dst (N := 14) rfl ?_); (try (refine gate_guard (by rfl) ?_; dsimp only)); refine Kd.R_lit k66 _ 66 ?hg (N := 14) ?hd (xs := ([] : List (S66))) (inner := []) (ok := fun _ => True) (okp := fun _ => True) ?hr ?hp (fun _ hk => hk) trivial (Below.refl _ _) (Nat.le_refl _) (by simp) ?_; (case hd => rfl); (case hg => rfl); (case hr => first | (go_simp; done) | (go_simp; rfl)); (case hp => exact (Reps.none _ _)); intro v181 w9 ho10 hb hg_ hnew_; clear hg_ hnew_; (first | rw [← Ny180.out] at ho10 | (simp only [Int.reduceToNat] at ho10; rw [← Ny180.out] at ho10)); have n0_ := Aside0.mk (Kd.R_below (by exact zR HO179.out) hb); have n1_ := Aside0.mk (Kd.R_lower ho10 (keep_size (w := w) (g := g) (row := none) (by repeat (first | (with_reducible first | exact HK.out | apply KeepBut.set_ | apply keep_drewN | apply keep_drew | apply keep_alloc | refine keep_far ?_ GW176.out _) | exact HK.out)))); have n2_ := Aside0.mk (IsS87.below (by repeat (first | (with_reducible first | exact HI0.out | apply IsS87.alloc | apply IsS87.drewN | apply IsS87.drew | apply IsS87.set_1 | refine IsS87.far ?_ NB0_176.out _) | exact HI0.out)) hb); have n3_ := Aside0.mk (blk_below (g := gb176) (o := .cells #[.int .i64 0, .int .i64 0, .slice none 0 0, .slice none 0 0] 26 (0, 0)) (by exact zK BK176.out) hb); have n4_ := Aside0.mk (KeepBut.trans (by repeat (first | (with_reducible first | exact HK.out | apply KeepBut.set_ | apply keep_drewN | apply keep_drew | apply keep_alloc | refine keep_far ?_ GW176.out _) | exact HK.out)) (KeepBut.of_below hb g none) (.inl rfl)); have n5_ := Aside0.mk (below_step (by exact zB2 HB.out (IsS87.ge HI0.out) GE176.out) hb); clear HO179; clear HI0; clear BK176; clear HK; clear HB; have HO179 := n0_; have HO182 := n1_; have HI0 := n2_; have BK176 := n3_; have HK := n4_; have HB := n5_; clear n0_ n1_ n2_ n3_ n4_ n5_; clear hb ho10; obtain ⟨Ao11, co11, eo11⟩ := Kd.R_slice HO182.out; subst eo11; obtain ⟨Ao12, co12, eo12⟩ := Kd.R_slice HO179.out; subst eo12) | ((with_reducible refine gate_dst (N := 7) rfl ?_); (try (refine gate_guard (by rfl) ?_; dsimp only)); refine box_event ?hg (N := 7) ?hd (cs := #[.int .i64 0, .int .i64 0, .slice none 0 0, .slice none 0 0]) (t := 26) ?hr ?_; (case hd => rfl); (case hg => rfl); (case hr => first | (go_simp; done) | (go_simp; rfl)); intro gb183 hg w13 hbox hb; have n0_ := Aside0.mk (Kd.R_below (by exact zR HO179.out) hb); have n1_ := Aside0.mk (Kd.R_below (by exact zR HO182.out) hb); have n2_ := Aside0.mk (IsS87.below (by repeat (first | (with_reducible first | exact HI0.out | apply IsS87.alloc | apply IsS87.drewN | apply IsS87.drew | apply IsS87.set_1 | refine IsS87.far ?_ NB0_176.out _) | exact HI0.out)) hb); have n3_ := Aside0.mk (blk_below (g := gb176) (o := .cells #[.int .i64 0, .int .i64 0, .slice none 0 0, .slice none 0 0] 26 (0, 0)) (by exact zK BK176.out) hb); have n4_ := Aside0.mk (KeepBut.trans (by repeat (first | (with_reducible first | exact HK.out | apply KeepBut.set_ | apply keep_drewN | apply keep_drew | apply keep_alloc | refine keep_far ?_ GW176.out _) | exact HK.out)) (KeepBut.of_below hb g none) (.inl rfl)); have n5_ := Aside0.mk (below_step (by exact zB2 HB.out (IsS87.ge HI0.out) GE176.out) hb); have n6_ := Aside0.mk (hbox); have n7_ := Aside0.mk ((by rw [hg]; exact (keep_size (w := w) (g := g) (row := none) (by repeat (first | (with_reducible first | exact HK.out | apply KeepBut.set_ | apply keep_drewN | apply keep_drew | apply keep_alloc | refine keep_far ?_ GW176.out _) | exact HK.out))) : w.heap.size ≤ gb183)); have n8_ := Aside0.mk ((Nat.le_trans HW0.out (by rw [hg]; exact (keep_size (w := w) (g := g) (row := none) (by repeat (first | (with_reducible first | exact HK.out | apply KeepBut.set_ | apply keep_drewN | apply keep_drew | apply keep_alloc | refine keep_far ?_ GW176.out _) | exact HK.out))) : w.heap.size ≤ gb183) : w0.heap.size ≤ gb183)); have n9_ := Aside0.mk ((by rw [hg]; exact Nat.ne_of_lt (blk_lt (g := gb176) (o := .cells #[.int .i64 0, .int .i64 0, .slice none 0 0, .slice none 0 0] 26 (0, 0)) (by exact zK BK176.out)) : gb176 ≠ gb183)); have n10_ := Aside0.mk ((by rw [hg]; exact Nat.ne_of_gt (blk_lt (g := gb176) (o := .cells #[.int .i64 0, .int .i64 0, .slice none 0 0, .slice none 0 0] 26 (0, 0)) (by exact zK BK176.out)) : gb183 ≠ gb176)); have n11_ := Aside0.mk ((by rw [hg]; exact Nat.ne_of_lt (IsS87.lt (show IsS87 w0 _ g s0_0 s0_1 from by repeat (first | (with_reducible first | exact HI0.out | apply IsS87.alloc | apply IsS87.drewN | apply IsS87.drew | apply IsS87.set_1 | refine IsS87.far ?_ NB0_176.out _) | exact HI0.out))) : g ≠ gb183)); have n12_ := Aside0.mk ((by rw [hg]; exact Nat.ne_of_gt (IsS87.lt (show IsS87 w0 _ g s0_0 s0_1 from by repeat (first | (with_reducible first | exact HI0.out | apply IsS87.alloc | apply IsS87.drewN | apply IsS87.drew | apply IsS87.set_1 | refine IsS87.far ?_ NB0_176.out _) | exact HI0.out))) : gb183 ≠ g)); clear HO179; clear HO182; clear HI0; clear BK176; clear HK; clear HB; have HO179 := n0_; have HO182 := n1_; have HI0 := n2_; have BK176 := n3_; have HK := n4_; have HB := n5_; have BK183 := n6_; have GW183 := n7_; have GE183 := n8_; have NB176_183 := n9_; have NB183_176 := n10_; have NB0_183 := n11_; have NB183_0 := n12_; clear n0_ n1_ n2_ n3_ n4_ n5_ n6_ n7_ n8_ n9_ n10_ n11_ n12_; clear hb hbox hg; have hnb14 := NB183_176.out; have hnc14 := NB176_183.out; have hnb15 := NB183_0.out; have hnc15 := NB0_183.out; obtain ⟨hcz16_0, hcz16_1, hcz16_2, hcz16_3, hfz16_0, hfz16_1, hfz16_2, hfz16_3⟩ := zc4f BK183.out) | ((with_reducible refine gate_callee (f := 49) rfl ?_); refine goesL_ (some 17) rfl rfl Tryd.func49 (by kernel_rfl) rfl #[.pointer (some ⟨g, 0, none⟩), .int .i64 4] rfl (by (try simp only [zm1, zm2, zm3]); first | done | rfl | (simp only [List.length_drop, List.length_take]; rfl)) ?_; (with_reducible refine (spec_l6Rd_pick.calls k g s0_0 s0_1 4 t184 t185 w0 _ ?side1 ?side2 A4.out).mono ?_); (case side1 => repeat (first | (with_reducible first | exact HI0.out | apply IsS87.alloc | apply IsS87.drewN | apply IsS87.drew | apply IsS87.set_1 | refine IsS87.far ?_ NB0_176.out _ | refine IsS87.far ?_ NB0_183.out _) | exact HI0.out)); (case side2 => exact zB3 HB.out (IsS87.ge HI0.out) GE176.out GE183.out); rintro e w17 ⟨rfl, hi, hb, hk⟩; refine ⟨_, rfl, ?_⟩; have n0_ := Aside0.mk (KeepBut.blk hk (g' := gb176) (o := .cells #[.int .i64 0, .int .i64 0, .slice none 0 0, .slice none 0 0] 26 (0, 0)) (by (with_reducible repeat (first | refine blk_drewN ?_ _ | refine blk_drew ?_ | refine blk_alloc ?_ _)); refine blk_far ?_ NB176_183.out _; (with_reducible repeat (first | refine blk_drewN ?_ _ | refine blk_drew ?_ | refine blk_alloc ?_ _)); refine blk_far ?_ NB176_183.out _; (with_reducible repeat (first | refine blk_drewN ?_ _ | refine blk_drew ?_ | refine blk_alloc ?_ _)); refine blk_far ?_ NB176_183.out _; (with_reducible repeat (first | refine blk_drewN ?_ _ | refine blk_drew ?_ | refine blk_alloc ?_ _)); refine blk_far ?_ NB176_183.out _; exact zK BK176.out) NB176_0.out (by simp)); have n1_ := Aside0.mk (Kd.R_mono (Kd.R_keep (IsS87.apart (show IsS87 w0 _ g s0_0 s0_1 from by repeat (first | (with_reducible first | exact HI0.out | apply IsS87.alloc | apply IsS87.drewN | apply IsS87.drew | apply IsS87.set_1 | refine IsS87.far ?_ NB0_176.out _ | refine IsS87.far ?_ NB0_183.out _) | exact HI0.out)) (by exact zR (Kd.R_mono (Kd.R_far (p := ⟨gb183, 3, none⟩) (Kd.R_far (p := ⟨gb183, 2, none⟩) (Kd.R_far (p := ⟨gb183, 1, none⟩) (Kd.R_far (p := ⟨gb183, 0, none⟩) (Kd.R_types HO179.out BK183.out (by decide)) (fun _ hk => hk.2) (.int .i64 a1)) (fun _ hk => hk.2) (.int .i64 a2)) (fun _ hk => hk.2) (.slice Ao12 y177.length co12)) (fun _ hk => hk.2) (.slice Ao11 y180.length co11)) (fun _ h_ => h_.1))) (by decide)) hk (fun _ h => h.2)) (fun _ h => h.1)); have n2_ := Aside0.mk (Kd.R_mono (Kd.R_keep (IsS87.apart (show IsS87 w0 _ g s0_0 s0_1 from by repeat (first | (with_reducible first | exact HI0.out | apply IsS87.alloc | apply IsS87.drewN | apply IsS87.drew | apply IsS87.set_1 | refine IsS87.far ?_ NB0_176.out _ | refine IsS87.far ?_ NB0_183.out _) | exact HI0.out)) (by exact zR (Kd.R_mono (Kd.R_far (p := ⟨gb183, 3, none⟩) (Kd.R_far (p := ⟨gb183, 2, none⟩) (Kd.R_far (p := ⟨gb183, 1, none⟩) (Kd.R_far (p := ⟨gb183, 0, none⟩) (Kd.R_types HO182.out BK183.out (by decide)) (fun _ hk => hk.2) (.int .i64 a1)) (fun _ hk => hk.2) (.int .i64 a2)) (fun _ hk => hk.2) (.slice Ao12 y177.length co12)) (fun _ hk => hk.2) (.slice Ao11 y180.length co11)) (fun _ h_ => h_.1))) (by decide)) hk (fun _ h => h.2)) (fun _ h => h.1)); have n3_ := Aside0.mk (KeepBut.blk hk (g' := gb183) (o := .cells #[.int .i64 a1, .int .i64 a2, .slice Ao12 y177.length co12, .slice Ao11 y180.length co11] 26 (0, 0)) (by (with_reducible repeat (first | refine blk_drewN ?_ _ | refine blk_drew ?_ | refine blk_alloc ?_ _)); refine blk_put (cs := #[.int .i64 a1, .int .i64 a2, .slice Ao12 y177.length co12, .slice none 0 0]) ?_ 3 _ rfl; (with_reducible repeat (first | refine blk_drewN ?_ _ | refine blk_drew ?_ | refine blk_alloc ?_ _)); refine blk_put (cs := #[.int .i64 a1, .int .i64 a2, .slice none 0 0, .slice none 0 0]) ?_ 2 _ rfl; (with_reducible repeat (first | refine blk_drewN ?_ _ | refine blk_drew ?_ | refine blk_alloc ?_ _)); refine blk_put (cs := #[.int .i64 a1, .int .i64 0, .slice none 0 0, .slice none 0 0]) ?_ 1 _ rfl; (with_reducible repeat (first | refine blk_drewN ?_ _ | refine blk_drew ?_ | refine blk_alloc ?_ _)); refine blk_put (cs := #[.int .i64 0, .int .i64 0, .slice none 0 0, .slice none 0 0]) ?_ 0 _ rfl; exact zK BK183.out) NB183_0.out (by simp)); have n4_ := Aside0.mk (KeepBut.trans (by repeat (first | (with_reducible first | exact HK.out | apply KeepBut.set_ | apply keep_drewN | apply keep_drew | apply keep_alloc | refine keep_far ?_ GW176.out _ | refine keep_far ?_ GW183.out _) | exact HK.out)) hk (.inl rfl)); have n5_ := Aside0.mk (hb); have n6_ := Aside0.mk (hi); clear BK176; clear HO179; clear HO182; clear BK183; clear HK; clear HB; clear HI0; have BK176 := n0_; have HO179 := n1_; have HO182 := n2_; have BK183 := n3_; have HK := n4_; have HB := n5_; have HI0 := n6_; clear n0_ n1_ n2_ n3_ n4_ n5_ n6_; (try clear hb); (try clear hb2); (try clear hk); (try clear hi)) | ((with_reducible refine gate_callee (f := 49) rfl ?_); refine goesL_ (some 19) rfl rfl Tryd.func49 (by kernel_rfl) rfl #[.pointer (some ⟨g, 0, none⟩), .int .i64 3] rfl (by (try simp only [zm1, zm2, zm3]); first | done | rfl | (simp only [List.length_drop, List.length_take]; rfl)) ?_; (with_reducible refine (spec_l6Rd_pick.calls k g s0_0 t185 3 t186 t187 w0 _ ?side1 ?side2 A5.out).mono ?_); (case side1 => repeat (first | (with_reducible first | exact HI0.out | apply IsS87.alloc | apply IsS87.drewN | apply IsS87.drew | apply IsS87.set_1 | refine IsS87.far ?_ NB0_176.out _ | refine IsS87.far ?_ NB0_183.out _) | exact HI0.out)); (case side2 => exact zB3 HB.out (IsS87.ge HI0.out) GE176.out GE183.out); rintro e w18 ⟨rfl, hi, hb, hk⟩; refine ⟨_, rfl, ?_⟩; have n0_ := Aside0.mk (KeepBut.blk hk (g' := gb176) (o := .cells #[.int .i64 0, .int .i64 0, .slice none 0 0, .slice none 0 0] 26 (0, 0)) (by exact zK BK176.out) NB176_0.out (by simp)); have n1_ := Aside0.mk (Kd.R_mono (Kd.R_keep (IsS87.apart (show IsS87 w0 _ g s0_0 t185 from by repeat (first | (with_reducible first | exact HI0.out | apply IsS87.alloc | apply IsS87.drewN | apply IsS87.drew | apply IsS87.set_1 | refine IsS87.far ?_ NB0_176.out _ | refine IsS87.far ?_ NB0_183.out _) | exact HI0.out)) (by exact zR HO179.out) (by decide)) hk (fun _ h => h.2)) (fun _ h => h.1)); have n2_ := Aside0.mk (Kd.R_mono (Kd.R_keep (IsS87.apart (show IsS87 w0 _ g s0_0 t185 from by repeat (first | (with_reducible first | exact HI0.out | apply IsS87.alloc | apply IsS87.drewN | apply IsS87.drew | apply IsS87.set_1 | refine IsS87.far ?_ NB0_176.out _ | refine IsS87.far ?_ NB0_183.out _) | exact HI0.out)) (by exact zR HO182.out) (by decide)) hk (fun _ h => h.2)) (fun _ h => h.1)); have n3_ := Aside0.mk (KeepBut.blk hk (g' := gb183) (o := .cells #[.int .i64 a1, .int .i64 a2, .slice Ao12 y177.length co12, .slice Ao11 y180.length co11] 26 (0, 0)) (by exact zK BK183.out) NB183_0.out (by simp)); have n4_ := Aside0.mk (KeepBut.trans (by repeat (first | (with_reducible first | exact HK.out | apply KeepBut.set_ | apply keep_drewN | apply keep_drew | apply keep_alloc | refine keep_far ?_ GW176.out _ | refine keep_far ?_ GW183.out _) | exact HK.out)) hk (.inl rfl)); have n5_ := Aside0.mk (hb); have n6_ := Aside0.mk (hi); clear BK176; clear HO179; clear HO182; clear BK183; clear HK; clear HB; clear HI0; have BK176 := n0_; have HO179 := n1_; have HO182 := n2_; have BK183 := n3_; have HK := n4_; have HB := n5_; have HI0 := n6_; clear n0_ n1_ n2_ n3_ n4_ n5_ n6_; (try clear hb); (try clear hb2); (try clear hk); (try clear hi)))
 go_loopg [8, 9] k (fun kq v8 v9 w' => ∃ (x8_1 : Int) (x9_1 : Int) (x1001_1 : Int) (x184002_1 : List (S63)) (u184002 : Value), v8 = .int .i64 x8_1 ∧ v9 = .int .i64 x9_1 ∧ Aside0 (spec_l71Pkg.l0 kq a1 x8_1 x9_1 s0_0 x1001_1 a1 a2 x184002_1 y180 = some (r1, r2, r3, r4, r5)) ∧ Aside0 (kq ≤ k) ∧ Aside0 (Kd.R k63 63 w' w.heap.size (fun _ => True) u184002 x184002_1) ∧ Aside0 (Kd.R k66 66 w' w.heap.size (fun _ => True) (.slice Ao11 y180.length co11) y180) ∧ Aside0 (w'.heap[gb176]? = some (.cells #[.int .i64 0, .int .i64 0, (.slice none 0 0), (.slice none 0 0)] 26 (0, 0))) ∧ Aside0 (w'.heap[gb183]? = some (.cells #[.int .i64 a1, .int .i64 a2, u184002, (.slice Ao11 y180.length co11)] 26 (0, 0))) ∧ Aside0 (IsS87 w0 w' g s0_0 x1001_1) ∧ Aside0 (KeepBut w w' g none) ∧ Aside0 (Below w0.heap.size w0 w'))
 case atStart => exact ⟨(t184), (t186), (t187), (y177), (.slice Ao12 y177.length co12), (by first | rfl | (simp; done) | (simp [*]; done)), (by first | rfl | (simp; done) | (simp [*]; done)), H', ⟨Nat.le_refl _⟩, ⟨by exact zR HO179.out⟩, ⟨by exact zR HO182.out⟩, ⟨by exact zK BK176.out⟩, ⟨by exact zK BK183.out⟩, ⟨by repeat (first | (with_reducible first | exact HI0.out | apply IsS87.alloc | apply IsS87.drewN | apply IsS87.drew | apply IsS87.set_1 | refine IsS87.far ?_ NB0_176.out _ | refine IsS87.far ?_ NB0_183.out _) | exact HI0.out)⟩, ⟨by repeat (first | (with_reducible first | exact HK.out | apply KeepBut.set_ | apply keep_drewN | apply keep_drew | apply keep_alloc | refine keep_far ?_ GW176.out _ | refine keep_far ?_ GW183.out _) | exact HK.out)⟩, ⟨by exact zB3 HB.out (IsS87.ge HI0.out) GE176.out GE183.out⟩⟩
 case round =>
  clear H'
  try clear c1
  try clear p2
  try clear c4
  try clear c14
  try clear c15
  try clear hcz16_0
  try clear hcz16_1
  try clear hcz16_2
  try clear hcz16_3
  try clear hfz16_0
  try clear hfz16_1
  try clear hfz16_2
  try clear hfz16_3
  obtain ⟨x8_1, x9_1, x1001_1, x184002_1, u184002, rfl, rfl, HA, HK1, HO_184002, HO_184003, BK176, BK183, HI0, HK, HB⟩ := hrel
  cases gk with
  | zero => exact absurd HA.out (by simp [spec_l71Pkg.l0])
  | succ k1 =>
   have H := HA.out
   clear HA
   simp only [spec_l71Pkg.l0] at H
   have HC19 := Aside0.mk H
   clear H
   go_upto_region 4 with (fail)
   go_cut [25] (fun v25 wc => ∃ (kq : Nat) (x25_18 : Bool), v25 = .bool x25_18 ∧ Aside0 (spec_l71Pkg.j1 kq a1 x8_1 x9_1 x25_18 s0_0 x1001_1 a1 a2 x184002_1 y180 = some (r1, r2, r3, r4, r5)) ∧ Aside0 (kq ≤ k1) ∧ Aside0 (Kd.R k63 63 wc w.heap.size (fun _ => True) u184002 x184002_1) ∧ Aside0 (Kd.R k66 66 wc w.heap.size (fun _ => True) (.slice Ao11 y180.length co11) y180) ∧ Aside0 (wc.heap[gb176]? = some (.cells #[.int .i64 0, .int .i64 0, (.slice none 0 0), (.slice none 0 0)] 26 (0, 0))) ∧ Aside0 (wc.heap[gb183]? = some (.cells #[.int .i64 a1, .int .i64 a2, u184002, (.slice Ao11 y180.length co11)] 26 (0, 0))) ∧ Aside0 (IsS87 w0 wc g s0_0 x1001_1) ∧ Aside0 (KeepBut w wc g none) ∧ Aside0 (Below w0.heap.size w0 wc))
   case first =>
    have H := HC19.out
    clear HC19
    by_cases c20 : x9_1 > 0
    ·rw [if_pos c20] at H
     have c20b0 : decide (0 < x9_1) = true := decide_eq_true c20
     clear c20
     (first | rw [c20b0] | (simp only [i64_w, i32_w]; rw [c20b0]) | skip)
     have H' := Aside0.mk H
     clear H
     go_wp2
     go_meet
     case rel => exact ⟨_, (decide (x8_1 < 6)), (by first | rfl | (simp; done) | (simp [*]; done)), H', ⟨by have := HK1.out; first | omega | exact Nat.le_refl _⟩, ⟨by exact zR HO_184002.out⟩, ⟨by exact zR HO_184003.out⟩, ⟨by exact zK BK176.out⟩, ⟨by exact zK BK183.out⟩, ⟨by repeat (first | (with_reducible first | exact HI0.out | apply IsS87.alloc | apply IsS87.drewN | apply IsS87.drew | apply IsS87.set_1 | refine IsS87.far ?_ NB0_176.out _ | refine IsS87.far ?_ NB0_183.out _) | exact HI0.out)⟩, ⟨by repeat (first | (with_reducible first | exact HK.out | apply KeepBut.set_ | apply keep_drewN | apply keep_drew | apply keep_alloc | refine keep_far ?_ GW176.out _ | refine keep_far ?_ GW183.out _) | exact HK.out)⟩, ⟨by exact zB3 HB.out (IsS87.ge HI0.out) GE176.out GE183.out⟩⟩
    ·rw [if_neg c20] at H
     have c20b0 : decide (0 < x9_1) = false := decide_eq_false c20
     clear c20
     (first | rw [c20b0] | (simp only [i64_w, i32_w]; rw [c20b0]) | skip)
     have H' := Aside0.mk H
     clear H
     go_wp2
     go_meet
     case rel => exact ⟨_, (false), (by first | rfl | (simp; done) | (simp [*]; done)), H', ⟨by have := HK1.out; first | omega | exact Nat.le_refl _⟩, ⟨by exact zR HO_184002.out⟩, ⟨by exact zR HO_184003.out⟩, ⟨by exact zK BK176.out⟩, ⟨by exact zK BK183.out⟩, ⟨by repeat (first | (with_reducible first | exact HI0.out | apply IsS87.alloc | apply IsS87.drewN | apply IsS87.drew | apply IsS87.set_1 | refine IsS87.far ?_ NB0_176.out _ | refine IsS87.far ?_ NB0_183.out _) | exact HI0.out)⟩, ⟨by repeat (first | (with_reducible first | exact HK.out | apply KeepBut.set_ | apply keep_drewN | apply keep_drew | apply keep_alloc | refine keep_far ?_ GW176.out _ | refine keep_far ?_ GW183.out _) | exact HK.out)⟩, ⟨by exact zB3 HB.out (IsS87.ge HI0.out) GE176.out GE183.out⟩⟩
   case rest =>
    clear HC19
    try clear c1
    try clear c2
    try clear p2
    try clear c4
    try clear c14
    try clear c15
    try clear c20
    try clear c20b0
    try clear hcz16_0
    try clear hcz16_1
    try clear hcz16_2
    try clear hcz16_3
    try clear hfz16_0
    try clear hfz16_1
    try clear hfz16_2
    try clear hfz16_3
    try clear p2
    obtain ⟨kq, x25_18, rfl, HA, HJ18, HO_184002, HO_184003, BK176, BK183, HI0, HK, HB⟩ := hcut
    cases kq with
    | zero => exact absurd HA.out (by simp [spec_l71Pkg.j1])
    | succ kj18 =>
     have H := HA.out
     clear HA
     simp only [spec_l71Pkg.j1] at H
     by_cases c21 : x25_18 = true
     ·subst c21
      have H1 : ((spec_l6Rd_pick.f kj18 s0_0 x1001_1 10).bind fun bt188 => (if x184002_1.length < 8796093022208 then ((spec_l6Rd_pick.f kj18 s0_0 bt188.2 3).bind fun bt193 => (spec_l71Pkg.l0 kj18 a1 (wrap64 ((wrap64 (x8_1 + 1)) + bt193.1)) (wrap64 (x9_1 - 1)) s0_0 bt193.2 a1 a2 (x184002_1 ++ [(⟨x8_1, bt188.1⟩ : S63)]) y180)) else (none))) = some (r1, r2, r3, r4, r5) := by rw [if_pos rfl] at H; exact H
      clear H
      have H := H1
      clear H1
      replace H := Option.bind_eq_some_iff.mp H
      obtain ⟨⟨t188, t189⟩, A220, H⟩ := H
      replace H : (if x184002_1.length < 8796093022208 then ((spec_l6Rd_pick.f kj18 s0_0 t189 3).bind fun bt193 => (spec_l71Pkg.l0 kj18 a1 (wrap64 ((wrap64 (x8_1 + 1)) + bt193.1)) (wrap64 (x9_1 - 1)) s0_0 bt193.2 a1 a2 (x184002_1 ++ [(⟨x8_1, t188⟩ : S63)]) y180)) else (none)) = some (r1, r2, r3, r4, r5) := H
      have A22 := Aside0.mk A220
      clear A220
      by_cases c23 : x184002_1.length < 8796093022208
      ·rw [if_pos c23] at H
       have LMc23 := Aside0.mk c23
       clear c23
       obtain ⟨y190, hy190⟩ : ∃ y_ : List (S63), y_ = (x184002_1 ++ [(⟨x8_1, t188⟩ : S63)]) := ⟨_, rfl⟩
       replace H : ((spec_l6Rd_pick.f kj18 s0_0 t189 3).bind fun bt193 => (spec_l71Pkg.l0 kj18 a1 (wrap64 ((wrap64 (x8_1 + 1)) + bt193.1)) (wrap64 (x9_1 - 1)) s0_0 bt193.2 a1 a2 y190 y180)) = some (r1, r2, r3, r4, r5) := by first | (rw [hy190]; with_reducible exact H) | (have H2_ := (Option.bind_some _ _).symm.trans H; rw [hy190]; with_reducible exact H2_) | (have H2_ := (Option.bind_some _ _).symm.trans H; with_reducible exact H2_) | with_reducible exact H | (rw [hy190]; exact H) | exact H
       have Ny190 := Aside0.mk hy190
       clear hy190
       replace H := Option.bind_eq_some_iff.mp H
       obtain ⟨⟨t193, t194⟩, A240, H⟩ := H
       replace H : (spec_l71Pkg.l0 kj18 a1 (wrap64 ((wrap64 (x8_1 + 1)) + t193)) (wrap64 (x9_1 - 1)) s0_0 t194 a1 a2 y190 y180) = some (r1, r2, r3, r4, r5) := H
       have A24 := Aside0.mk A240
       clear A240
       have H' := Aside0.mk H
       clear H
       try go_wp2
       have n0_ := Aside0.mk (Kd.R_drew HO_184002.out)
       have n1_ := Aside0.mk (Kd.R_drew HO_184003.out)
       have n2_ := Aside0.mk (blk_drew BK176.out)
       have n3_ := Aside0.mk (blk_drew BK183.out)
       have n4_ := Aside0.mk (IsS87.drew HI0.out)
       have n5_ := Aside0.mk (keep_drew HK.out)
       have n6_ := Aside0.mk (below_drew1 HB.out)
       clear HO_184002
       clear HO_184003
       clear BK176
       clear BK183
       clear HI0
       clear HK
       clear HB
       have HO_184002 := n0_
       have HO_184003 := n1_
       have BK176 := n2_
       have BK183 := n3_
       have HI0 := n4_
       have HK := n5_
       have HB := n6_
       clear n0_ n1_ n2_ n3_ n4_ n5_ n6_
       refine start_ (n := 10) (S := fun w' => w'.cell? ⟨gb183, 0, none⟩ = some (.int .i64 a1) ∧ w'.cell? ⟨gb183, 1, none⟩ = some (.int .i64 a2) ∧ w'.cell? ⟨gb183, 2, none⟩ = some (u184002) ∧ w'.cell? ⟨gb183, 3, none⟩ = some (.slice Ao11 y180.length co11)) (ds := [9]) #[false, false, false, false, false, false, false, false, false, false] (by kernel_rfl) rfl rfl ⟨(blk_cell BK183.out 0).trans rfl, (blk_cell BK183.out 1).trans rfl, (blk_cell BK183.out 2).trans rfl, (blk_cell BK183.out 3).trans rfl⟩ (fun hHeld => ?_); refine with_tabW spec_l71Pkg.tab6 spec_l71Pkg.bits6 (fun HT_ HW_ => ?_)
       generalize wc.drew = w25 at HO_184002 HO_184003 BK176 BK183 HI0 HK HB hHeld ⊢
       refine pure_ (i := 0) (N := some 28) (v := ?_) (a' := ?_) #[true, false, false, false, false, false, false, false, false, false] rfl rfl (any_of HT_.out (by kernel_rfl)) (fun _ _ _ h => h) (Or.inl ⟨by rfl, ?_⟩) ?_ ?_
       rotate_left
       ·intro w'
        go_simp
        with_reducible rfl
       rotate_left
       ·simp only [zp0, zp1, zp2, zp3, zp4, i64_w, i32_w]
        rfl
       refine pure_ (i := 2) (N := some 30) (v := ?_) (a' := ?_) #[true, false, true, false, false, false, false, false, false, false] rfl rfl (any_of HT_.out (by kernel_rfl)) (fun _ _ _ h => h) (Or.inl ⟨by rfl, ?_⟩) ?_ ?_
       rotate_left
       ·intro w'
        go_simp
        with_reducible rfl
       rotate_left
       ·simp only [zp0, zp1, zp2, zp3, zp4, i64_w, i32_w]
        rfl
       refine pure_ (i := 3) (N := some 31) (v := ?_) (a' := ?_) #[true, false, true, true, false, false, false, false, false, false] rfl rfl (any_of HT_.out (by kernel_rfl)) (fun _ _ _ h => h) (Or.inl ⟨by rfl, ?_⟩) ?_ ?_
       rotate_left
       ·intro w'
        go_simp
        with_reducible rfl
       rotate_left
       ·simp only [zp0, zp1, zp2, zp3, zp4, i64_w, i32_w]
        rfl
       refine take_ (i := 1) (N := some 29) (v := ?_) (a' := ?_) #[true, true, true, true, false, false, false, false, false, false] rfl rfl (take_ofW HT_.out HW_.out (by kernel_rfl)) (fun _ _ _ h => h) (Or.inl ⟨by rfl, ?_⟩) hHeld ?_ ?_
       rotate_left
       ·rintro w' ⟨s0, s1, s2, s3⟩
        go_simp
        with_reducible rfl
       rotate_left
       ·simp only [zp0, zp1, zp2, zp3, zp4, i64_w, i32_w]
        rfl
       refine one_ (i := 4) (N := some 32) #[true, true, true, true, true, false, false, false, false, false] rfl rfl (one_of HT_.out (by kernel_rfl)) (by decide) (fun K hK => ?_)
       refine goes_ Tryd.func49 (by kernel_rfl) rfl #[.pointer (some ⟨g, 0, none⟩), .int .i64 10] (by rfl) rfl rfl (by (try simp only [zm1, zm2, zm3]); first | done | rfl | (simp only [List.length_drop, List.length_take]; rfl)) ?_
       with_reducible refine (spec_l6Rd_pick.calls kj18 g s0_0 x1001_1 10 t188 t189 w0 _ ?side1 ?side2 A22.out).mono ?_
       (case side1 => repeat (first | (with_reducible first | exact HI0.out | apply IsS87.alloc | apply IsS87.drewN | apply IsS87.drew | apply IsS87.set_1 | refine IsS87.far ?_ NB0_176.out _ | refine IsS87.far ?_ NB0_183.out _) | exact HI0.out))
       (case side2 => exact zB3 HB.out (IsS87.ge HI0.out) GE176.out GE183.out)
       rintro e w26 ⟨rfl, hi, hb, hk⟩
       refine ⟨_, rfl, ?_⟩
       have n0_ := Aside0.mk (Kd.R_mono (Kd.R_keep (IsS87.apart (show IsS87 w0 _ g s0_0 x1001_1 from by repeat (first | (with_reducible first | exact HI0.out | apply IsS87.alloc | apply IsS87.drewN | apply IsS87.drew | apply IsS87.set_1 | refine IsS87.far ?_ NB0_176.out _ | refine IsS87.far ?_ NB0_183.out _) | exact HI0.out)) (by exact zR HO_184002.out) (by decide)) hk (fun _ h => h.2)) (fun _ h => h.1))
       have n1_ := Aside0.mk (Kd.R_mono (Kd.R_keep (IsS87.apart (show IsS87 w0 _ g s0_0 x1001_1 from by repeat (first | (with_reducible first | exact HI0.out | apply IsS87.alloc | apply IsS87.drewN | apply IsS87.drew | apply IsS87.set_1 | refine IsS87.far ?_ NB0_176.out _ | refine IsS87.far ?_ NB0_183.out _) | exact HI0.out)) (by exact zR HO_184003.out) (by decide)) hk (fun _ h => h.2)) (fun _ h => h.1))
       have n2_ := Aside0.mk (KeepBut.blk hk (g' := gb176) (o := .cells #[.int .i64 0, .int .i64 0, .slice none 0 0, .slice none 0 0] 26 (0, 0)) (by exact zK BK176.out) NB176_0.out (by simp))
       have n3_ := Aside0.mk (KeepBut.blk hk (g' := gb183) (o := .cells #[.int .i64 a1, .int .i64 a2, u184002, .slice Ao11 y180.length co11] 26 (0, 0)) (by exact zK BK183.out) NB183_0.out (by simp))
       have n4_ := Aside0.mk (KeepBut.trans (by repeat (first | (with_reducible first | exact HK.out | apply KeepBut.set_ | apply keep_drewN | apply keep_drew | apply keep_alloc | refine keep_far ?_ GW176.out _ | refine keep_far ?_ GW183.out _) | exact HK.out)) hk (.inl rfl))
       have n5_ := Aside0.mk (hb)
       have n6_ := Aside0.mk (hi)
       clear HO_184002
       clear HO_184003
       clear BK176
       clear BK183
       clear HK
       clear HB
       clear HI0
       have HO_184002 := n0_
       have HO_184003 := n1_
       have BK176 := n2_
       have BK183 := n3_
       have HK := n4_
       have HB := n5_
       have HI0 := n6_
       clear n0_ n1_ n2_ n3_ n4_ n5_ n6_
       (try clear hb)
       (try clear hb2)
       (try clear hk)
       (try clear hi)
       refine hK.out _ _ ⟨(blk_cell BK183.out 0).trans rfl, (blk_cell BK183.out 1).trans rfl, (blk_cell BK183.out 2).trans rfl, (blk_cell BK183.out 3).trans rfl⟩ (fun hHeld => ?_)
       clear hK K
       refine norm_ (a' := ?_) ?_ ?_
       rotate_left
       ·show Act.put _ (some 32) _ = _
        simp only [zp0, zp1, zp2, zp3, zp4, i64_w, i32_w]
        rfl
       refine pure_ (i := 5) (N := some 33) (v := ?_) (a' := ?_) #[true, true, true, true, true, true, false, false, false, false] rfl rfl (any_of HT_.out (by kernel_rfl)) (fun _ _ _ h => h) (Or.inl ⟨by rfl, ?_⟩) ?_ ?_
       rotate_left
       ·intro w'
        go_simp
        with_reducible rfl
       rotate_left
       ·simp only [zp0, zp1, zp2, zp3, zp4, i64_w, i32_w]
        rfl
       refine one_ (i := 6) (N := some 34) #[true, true, true, true, true, true, true, false, false, false] rfl rfl (one_of HT_.out (by kernel_rfl)) (by decide) (fun K hK => ?_)
       refine value_ (w1 := ?_) (v := ?_) (by rfl) rfl ?_ ?_
       rotate_left 2
       ·go_simp
        constructor
        ·rfl
        ·rfl
       refine hK.out _ _ ⟨(blk_cell (blk_alloc BK183.out _) 0).trans rfl, (blk_cell (blk_alloc BK183.out _) 1).trans rfl, (blk_cell (blk_alloc BK183.out _) 2).trans rfl, (blk_cell (blk_alloc BK183.out _) 3).trans rfl⟩ (fun hHeld => ?_)
       clear hK K
       refine norm_ (a' := ?_) ?_ ?_
       rotate_left
       ·show Act.put _ (some 34) _ = _
        simp only [zp0, zp1, zp2, zp3, zp4, i64_w, i32_w]
        rfl
       refine one_ (i := 7) (N := some 35) #[true, true, true, true, true, true, true, true, false, false] rfl rfl (one_of HT_.out (by kernel_rfl)) (by decide) (fun K hK => ?_)
       refine Kd.R_append_step k63 w.heap.size (by rfl) (.tmp 29) (.tmp 34) 23 63 (.agg #[(.int .i64 0), (.int .i64 0)]) 16 rfl Tryd.underlying23 info63 rfl (by decide) (by omega) u184002 x184002_1 (⟨x8_1, t188⟩ : S63) [.int .i64 x8_1, .int .i64 t188] (fun _ => True) (fun _ => False) rfl rfl ?aP (fun _ hk => hk.elim) ?aF ?aO (Below.refl _ _) ?aS ?aL ?_
       (case aP => exact k63_mkM _ _ _ (⟨x8_1, t188⟩ : S63))
       (case aF => exact (fun _ _ => trivial))
       (case aO => exact (by exact zR HO_184002.out))
       (case aS => exact (keep_size (w := w) (g := g) (row := none) (by repeat (first | (with_reducible first | exact HK.out | apply KeepBut.set_ | apply keep_drewN | apply keep_drew | apply keep_alloc | refine keep_far ?_ GW176.out _ | refine keep_far ?_ GW183.out _) | exact HK.out))))
       (case aL => have := LMc23.out; omega)
       intro v191 w27 ho hb hg hat
       rw [← Ny190.out] at ho
       have n0_ := Aside0.mk (Kd.R_over' (by exact zR HO_184003.out) (Kd.R_typed (by exact zR HO_184002.out)) (by decide) hg)
       have n1_ := Aside0.mk (blk_grown (g := gb176) (o := .cells #[.int .i64 0, .int .i64 0, .slice none 0 0, .slice none 0 0] 26 (0, 0)) (by exact zK BK176.out) hg (Kd.R_ne HO_184002.out BK176.out (by decide)))
       have n2_ := Aside0.mk (blk_grown (g := gb183) (o := .cells #[.int .i64 a1, .int .i64 a2, u184002, .slice Ao11 y180.length co11] 26 (0, 0)) (by exact zK BK183.out) hg (Kd.R_ne HO_184002.out BK183.out (by decide)))
       have n3_ := Aside0.mk (IsS87.grown (by repeat (first | (with_reducible first | exact HI0.out | apply IsS87.alloc | apply IsS87.drewN | apply IsS87.drew | apply IsS87.set_1 | refine IsS87.far ?_ NB0_176.out _ | refine IsS87.far ?_ NB0_183.out _) | exact HI0.out)) hg (IsS87.own_ne HI0.out HO_184002.out (by decide)))
       have n4_ := Aside0.mk (below_weaken (by exact zB3 HB.out (IsS87.ge HI0.out) GE176.out GE183.out) HL.out hb)
       have n5_ := Aside0.mk (KeepBut.trans (by repeat (first | (with_reducible first | exact HK.out | apply KeepBut.set_ | apply keep_drewN | apply keep_drew | apply keep_alloc | refine keep_far ?_ GW176.out _ | refine keep_far ?_ GW183.out _) | exact HK.out)) (KeepBut.of_grown hg g) (Kd.R_base2 HO_184002.out))
       have n6_ := Aside0.mk (ho)
       clear HO_184003
       clear BK176
       clear BK183
       clear HI0
       clear HB
       clear HK
       clear HO_184002
       have HO_184003 := n0_
       have BK176 := n1_
       have BK183 := n2_
       have HI0 := n3_
       have HB := n4_
       have HK := n5_
       have HO192 := n6_
       clear n0_ n1_ n2_ n3_ n4_ n5_ n6_
       clear ho hb hg hat
       obtain ⟨Ao28, co28, eo28⟩ := Kd.R_slice HO192.out
       (first | subst eo28 | (injection eo28 with f1_ f2_ f3_; have f4_ := f1_.symm; have f5_ := f3_.symm; clear f1_ f2_ f3_; subst f4_; subst f5_))
       refine hK.out _ _ ⟨(blk_cell BK183.out 0).trans rfl, (blk_cell BK183.out 1).trans rfl, (blk_cell BK183.out 2).trans rfl, (blk_cell BK183.out 3).trans rfl⟩ (fun hHeld => ?_)
       clear hK K
       refine norm_ (a' := ?_) ?_ ?_
       rotate_left
       ·show Act.put _ (some 35) _ = _
        simp only [zp0, zp1, zp2, zp3, zp4, i64_w, i32_w]
        rfl
       refine pure_ (i := 8) (N := some 36) (v := ?_) (a' := ?_) #[true, true, true, true, true, true, true, true, true, false] rfl rfl (any_of HT_.out (by kernel_rfl)) (fun _ _ _ h => h) (Or.inl ⟨by rfl, ?_⟩) ?_ ?_
       rotate_left
       ·intro w'
        go_simp
        with_reducible rfl
       rotate_left
       ·simp only [zp0, zp1, zp2, zp3, zp4, i64_w, i32_w]
        rfl
       refine last_ (i := 9) (N := none) #[true, true, true, true, true, true, true, true, true, true] rfl rfl (one_of HT_.out (by kernel_rfl)) (by decide) (fun K hK => ?_)
       have hs29 : w27.cell? ⟨gb183, 2, none⟩ = some (u184002) := (blk_cell BK183.out 2).trans rfl
       have hfs29 := blk_frozen BK183.out 2
       have hns29_0 := NB176_183.out
       have hms29_0 := NB183_176.out
       refine skip_ (w1 := ?_) (by rfl) rfl ?_ ?_
       rotate_left
       ·go_simp
        rfl
       refine hK.out _ _ ?_
       clear hK K
       refine done_ (done_of HT_.out (by kernel_rfl)) ?_
       try go_wp2_with (first | ((with_reducible refine gate_callee (f := 49) rfl ?_); refine goesL_ (some 40) rfl rfl Tryd.func49 (by kernel_rfl) rfl #[.pointer (some ⟨g, 0, none⟩), .int .i64 3] rfl (by (try simp only [zm1, zm2, zm3]); first | done | rfl | (simp only [List.length_drop, List.length_take]; rfl)) ?_; (with_reducible refine (spec_l6Rd_pick.calls kj18 g s0_0 t189 3 t193 t194 w0 _ ?side1 ?side2 A24.out).mono ?_); (case side1 => repeat (first | (with_reducible first | exact HI0.out | apply IsS87.alloc | apply IsS87.drewN | apply IsS87.drew | apply IsS87.set_1 | refine IsS87.far ?_ NB0_176.out _ | refine IsS87.far ?_ NB0_183.out _) | exact HI0.out)); (case side2 => exact zB3 HB.out (IsS87.ge HI0.out) GE176.out GE183.out); rintro e w30 ⟨rfl, hi, hb, hk⟩; refine ⟨_, rfl, ?_⟩; have n0_ := Aside0.mk (Kd.R_mono (Kd.R_keep (IsS87.apart (show IsS87 w0 _ g s0_0 t189 from by repeat (first | (with_reducible first | exact HI0.out | apply IsS87.alloc | apply IsS87.drewN | apply IsS87.drew | apply IsS87.set_1 | refine IsS87.far ?_ NB0_176.out _ | refine IsS87.far ?_ NB0_183.out _) | exact HI0.out)) (by exact zR (Kd.R_mono (Kd.R_far (p := ⟨gb183, 2, none⟩) (Kd.R_types HO_184003.out BK183.out (by decide)) (fun _ hk => hk.2) (.slice Ao28 y190.length co28)) (fun _ h_ => h_.1))) (by decide)) hk (fun _ h => h.2)) (fun _ h => h.1)); have n1_ := Aside0.mk (KeepBut.blk hk (g' := gb176) (o := .cells #[.int .i64 0, .int .i64 0, .slice none 0 0, .slice none 0 0] 26 (0, 0)) (by (with_reducible repeat (first | refine blk_drewN ?_ _ | refine blk_drew ?_ | refine blk_alloc ?_ _)); refine blk_far ?_ NB176_183.out _; exact zK BK176.out) NB176_0.out (by simp)); have n2_ := Aside0.mk (KeepBut.blk hk (g' := gb183) (o := .cells #[.int .i64 a1, .int .i64 a2, .slice Ao28 y190.length co28, .slice Ao11 y180.length co11] 26 (0, 0)) (by (with_reducible repeat (first | refine blk_drewN ?_ _ | refine blk_drew ?_ | refine blk_alloc ?_ _)); refine blk_put (cs := #[.int .i64 a1, .int .i64 a2, u184002, .slice Ao11 y180.length co11]) ?_ 2 _ rfl; exact zK BK183.out) NB183_0.out (by simp)); have n3_ := Aside0.mk (Kd.R_mono (Kd.R_keep (IsS87.apart (show IsS87 w0 _ g s0_0 t189 from by repeat (first | (with_reducible first | exact HI0.out | apply IsS87.alloc | apply IsS87.drewN | apply IsS87.drew | apply IsS87.set_1 | refine IsS87.far ?_ NB0_176.out _ | refine IsS87.far ?_ NB0_183.out _) | exact HI0.out)) (by exact zR (Kd.R_mono (Kd.R_far (p := ⟨gb183, 2, none⟩) (Kd.R_types HO192.out BK183.out (by decide)) (fun _ hk => hk.2) (.slice Ao28 y190.length co28)) (fun _ h_ => h_.1))) (by decide)) hk (fun _ h => h.2)) (fun _ h => h.1)); have n4_ := Aside0.mk (KeepBut.trans (by repeat (first | (with_reducible first | exact HK.out | apply KeepBut.set_ | apply keep_drewN | apply keep_drew | apply keep_alloc | refine keep_far ?_ GW176.out _ | refine keep_far ?_ GW183.out _) | exact HK.out)) hk (.inl rfl)); have n5_ := Aside0.mk (hb); have n6_ := Aside0.mk (hi); clear HO_184003; clear BK176; clear BK183; clear HO192; clear HK; clear HB; clear HI0; have HO_184003 := n0_; have BK176 := n1_; have BK183 := n2_; have HO192 := n3_; have HK := n4_; have HB := n5_; have HI0 := n6_; clear n0_ n1_ n2_ n3_ n4_ n5_ n6_; (try clear hb); (try clear hb2); (try clear hk); (try clear hi)))
       go_roundg kj18
       case measure => have := HK1.out; have := HJ18.out; omega
       case rel => exact ⟨(wrap64 ((wrap64 (x8_1 + 1)) + t193)), (wrap64 (x9_1 - 1)), (t194), (y190), (.slice Ao28 y190.length co28), (by first | rfl | (simp; done) | (simp [*]; done)), (by first | rfl | (simp; done) | (simp [*]; done)), H', ⟨by have := HK1.out; have := HJ18.out; omega⟩, ⟨by exact zR HO192.out⟩, ⟨by exact zR HO_184003.out⟩, ⟨by exact zK BK176.out⟩, ⟨by exact zK BK183.out⟩, ⟨by repeat (first | (with_reducible first | exact HI0.out | apply IsS87.alloc | apply IsS87.drewN | apply IsS87.drew | apply IsS87.set_1 | refine IsS87.far ?_ NB0_176.out _ | refine IsS87.far ?_ NB0_183.out _) | exact HI0.out)⟩, ⟨by repeat (first | (with_reducible first | exact HK.out | apply KeepBut.set_ | apply keep_drewN | apply keep_drew | apply keep_alloc | refine keep_far ?_ GW176.out _ | refine keep_far ?_ GW183.out _) | exact HK.out)⟩, ⟨by exact zB3 HB.out (IsS87.ge HI0.out) GE176.out GE183.out⟩⟩
      ·rw [if_neg c23] at H
       exact absurd H (by simp)
     ·replace c21 := Bool.eq_false_iff.mpr c21
      subst c21
      have H1 : (spec_l71Pkg.l1 kj18 a1 1 s0_0 x1001_1 a1 a2 x184002_1 y180) = some (r1, r2, r3, r4, r5) := by rw [if_neg (show ¬ (false = true) by decide)] at H; exact H
      clear H
      have H := H1
      clear H1
      have H' := Aside0.mk H
      clear H
      go_wp2
      go_loopg [10] kj18 (fun kq v10 w' => ∃ (x10_3 : Int) (x1001_3 : Int) (x184003_3 : List (S66)) (u184003 : Value), v10 = .int .i64 x10_3 ∧ Aside0 (spec_l71Pkg.l1 kq a1 x10_3 s0_0 x1001_3 a1 a2 x184002_1 x184003_3 = some (r1, r2, r3, r4, r5)) ∧ Aside0 (kq ≤ kj18) ∧ Aside0 (Kd.R k63 63 w' w.heap.size (fun _ => True) u184002 x184002_1) ∧ Aside0 (Kd.R k66 66 w' w.heap.size (fun _ => True) u184003 x184003_3) ∧ Aside0 (w'.heap[gb176]? = some (.cells #[.int .i64 0, .int .i64 0, (.slice none 0 0), (.slice none 0 0)] 26 (0, 0))) ∧ Aside0 (w'.heap[gb183]? = some (.cells #[.int .i64 a1, .int .i64 a2, u184002, u184003] 26 (0, 0))) ∧ Aside0 (IsS87 w0 w' g s0_0 x1001_3) ∧ Aside0 (KeepBut w w' g none) ∧ Aside0 (Below w0.heap.size w0 w'))
      case atStart => exact ⟨(1), (x1001_1), (y180), (.slice Ao11 y180.length co11), (by first | rfl | (simp; done) | (simp [*]; done)), H', ⟨Nat.le_refl _⟩, ⟨by exact zR HO_184002.out⟩, ⟨by exact zR HO_184003.out⟩, ⟨by exact zK BK176.out⟩, ⟨by exact zK BK183.out⟩, ⟨by repeat (first | (with_reducible first | exact HI0.out | apply IsS87.alloc | apply IsS87.drewN | apply IsS87.drew | apply IsS87.set_1 | refine IsS87.far ?_ NB0_176.out _ | refine IsS87.far ?_ NB0_183.out _) | exact HI0.out)⟩, ⟨by repeat (first | (with_reducible first | exact HK.out | apply KeepBut.set_ | apply keep_drewN | apply keep_drew | apply keep_alloc | refine keep_far ?_ GW176.out _ | refine keep_far ?_ GW183.out _) | exact HK.out)⟩, ⟨by exact zB3 HB.out (IsS87.ge HI0.out) GE176.out GE183.out⟩⟩
      case round =>
       clear H'
       try clear c1
       try clear c2
       try clear p2
       try clear c4
       try clear p6
       try clear c14
       try clear c15
       try clear c20
       try clear c20b0
       try clear c21
       try clear c23
       try clear hcz16_0
       try clear hcz16_1
       try clear hcz16_2
       try clear hcz16_3
       try clear hfz16_0
       try clear hfz16_1
       try clear hfz16_2
       try clear hfz16_3
       try clear p2
       obtain ⟨x10_3, x1001_3, x184003_3, u184003, rfl, HA, HK3, HO_184002, HO_184003, BK176, BK183, HI0, HK, HB⟩ := hrel
       cases gk with
       | zero => exact absurd HA.out (by simp [spec_l71Pkg.l1])
       | succ k3 =>
        have H := HA.out
        clear HA
        simp only [spec_l71Pkg.l1] at H
        have HC31 := Aside0.mk H
        clear H
        go_upto_region 9 with (fail)
        go_cut [49] (fun v49 wc => ∃ (kq : Nat) (x49_30 : Bool), v49 = .bool x49_30 ∧ Aside0 (spec_l71Pkg.j3 kq a1 x10_3 x49_30 s0_0 x1001_3 a1 a2 x184002_1 x184003_3 = some (r1, r2, r3, r4, r5)) ∧ Aside0 (kq ≤ k3) ∧ Aside0 (Kd.R k63 63 wc w.heap.size (fun _ => True) u184002 x184002_1) ∧ Aside0 (Kd.R k66 66 wc w.heap.size (fun _ => True) u184003 x184003_3) ∧ Aside0 (wc.heap[gb176]? = some (.cells #[.int .i64 0, .int .i64 0, (.slice none 0 0), (.slice none 0 0)] 26 (0, 0))) ∧ Aside0 (wc.heap[gb183]? = some (.cells #[.int .i64 a1, .int .i64 a2, u184002, u184003] 26 (0, 0))) ∧ Aside0 (IsS87 w0 wc g s0_0 x1001_3) ∧ Aside0 (KeepBut w wc g none) ∧ Aside0 (Below w0.heap.size w0 wc))
        case first =>
         have H := HC31.out
         clear HC31
         by_cases c32 : x10_3 ≤ 4
         ·rw [if_pos c32] at H
          have c32b0 : decide (x10_3 ≤ 4) = true := decide_eq_true c32
          clear c32
          (first | rw [c32b0] | (simp only [i64_w, i32_w]; rw [c32b0]) | skip)
          have H' := Aside0.mk H
          clear H
          have hnb33 := NB183_176.out
          have hnc33 := NB176_183.out
          have hnb34 := NB183_0.out
          have hnc34 := NB0_183.out
          obtain ⟨hcz35_0, hcz35_1, hcz35_2, hcz35_3, hfz35_0, hfz35_1, hfz35_2, hfz35_3⟩ := zc4f BK183.out
          obtain ⟨Ao36, co36, eo36⟩ := Kd.R_slice HO_184003.out
          subst eo36
          go_wp2
          go_meet
          case rel => exact ⟨_, (decide ((x184003_3.length : Int) < 2)), (by first | rfl | (simp; done) | (simp [*]; done)), H', ⟨by have := HK1.out; have := HJ18.out; have := HK3.out; first | omega | exact Nat.le_refl _⟩, ⟨by exact zR HO_184002.out⟩, ⟨by exact zR HO_184003.out⟩, ⟨by exact zK BK176.out⟩, ⟨by exact zK BK183.out⟩, ⟨by repeat (first | (with_reducible first | exact HI0.out | apply IsS87.alloc | apply IsS87.drewN | apply IsS87.drew | apply IsS87.set_1 | refine IsS87.far ?_ NB0_176.out _ | refine IsS87.far ?_ NB0_183.out _) | exact HI0.out)⟩, ⟨by repeat (first | (with_reducible first | exact HK.out | apply KeepBut.set_ | apply keep_drewN | apply keep_drew | apply keep_alloc | refine keep_far ?_ GW176.out _ | refine keep_far ?_ GW183.out _) | exact HK.out)⟩, ⟨by exact zB3 HB.out (IsS87.ge HI0.out) GE176.out GE183.out⟩⟩
         ·rw [if_neg c32] at H
          have c32b0 : decide (x10_3 ≤ 4) = false := decide_eq_false c32
          clear c32
          (first | rw [c32b0] | (simp only [i64_w, i32_w]; rw [c32b0]) | skip)
          have H' := Aside0.mk H
          clear H
          go_wp2
          go_meet
          case rel => exact ⟨_, (false), (by first | rfl | (simp; done) | (simp [*]; done)), H', ⟨by have := HK1.out; have := HJ18.out; have := HK3.out; first | omega | exact Nat.le_refl _⟩, ⟨by exact zR HO_184002.out⟩, ⟨by exact zR HO_184003.out⟩, ⟨by exact zK BK176.out⟩, ⟨by exact zK BK183.out⟩, ⟨by repeat (first | (with_reducible first | exact HI0.out | apply IsS87.alloc | apply IsS87.drewN | apply IsS87.drew | apply IsS87.set_1 | refine IsS87.far ?_ NB0_176.out _ | refine IsS87.far ?_ NB0_183.out _) | exact HI0.out)⟩, ⟨by repeat (first | (with_reducible first | exact HK.out | apply KeepBut.set_ | apply keep_drewN | apply keep_drew | apply keep_alloc | refine keep_far ?_ GW176.out _ | refine keep_far ?_ GW183.out _) | exact HK.out)⟩, ⟨by exact zB3 HB.out (IsS87.ge HI0.out) GE176.out GE183.out⟩⟩
        case rest =>
         clear HC31
         try clear c1
         try clear c2
         try clear p2
         try clear c3
         try clear c4
         try clear p6
         try clear c14
         try clear c15
         try clear c20
         try clear c20b0
         try clear c21
         try clear c23
         try clear c32
         try clear c32b0
         try clear c33
         try clear c34
         try clear hcz16_0
         try clear hcz16_1
         try clear hcz16_2
         try clear hcz16_3
         try clear hcz35_0
         try clear hcz35_1
         try clear hcz35_2
         try clear hcz35_3
         try clear hfz16_0
         try clear hfz16_1
         try clear hfz16_2
         try clear hfz16_3
         try clear hfz35_0
         try clear hfz35_1
         try clear hfz35_2
         try clear hfz35_3
         try clear p2
         try clear p6
         obtain ⟨kq, x49_30, rfl, HA, HJ30, HO_184002, HO_184003, BK176, BK183, HI0, HK, HB⟩ := hcut
         cases kq with
         | zero => exact absurd HA.out (by simp [spec_l71Pkg.j3])
         | succ kj30 =>
          have H := HA.out
          clear HA
          simp only [spec_l71Pkg.j3] at H
          by_cases c37 : x49_30 = true
          ·subst c37
           have H1 : (if x10_3 = a1 then (spec_l71Pkg.l1 kj30 a1 (wrap64 (x10_3 + 1)) s0_0 x1001_3 a1 a2 x184002_1 x184003_3) else ((spec_l6Rd_pick.f kj30 s0_0 x1001_3 6).bind fun bt195 => (if bt195.1 = 0 then ((spec_l6Rd_pick.f kj30 s0_0 bt195.2 2).bind fun bt197 => (if x184003_3.length < 8796093022208 then (spec_l71Pkg.l1 kj30 a1 (wrap64 (x10_3 + 1)) s0_0 bt197.2 a1 a2 x184002_1 (x184003_3 ++ [(⟨x10_3, wrap64 (1 + bt197.1)⟩ : S66)])) else (none))) else (spec_l71Pkg.l1 kj30 a1 (wrap64 (x10_3 + 1)) s0_0 bt195.2 a1 a2 x184002_1 x184003_3)))) = some (r1, r2, r3, r4, r5) := by rw [if_pos rfl] at H; exact H
           clear H
           have H := H1
           clear H1
           by_cases c38 : x10_3 = a1
           ·rw [if_pos c38] at H
            have c38b0 : (x10_3 == a1) = true := beq_iff_eq.mpr c38
            have c38b1 : (x10_3 != a1) = false := bne_eq_false_iff_eq.mpr c38
            clear c38
            have H' := Aside0.mk H
            clear H
            go_wp2
            go_roundg kj30
            case measure => have := HK1.out; have := HJ18.out; have := HK3.out; have := HJ30.out; omega
            case rel => exact ⟨(wrap64 (x10_3 + 1)), (x1001_3), (x184003_3), (u184003), (by first | rfl | (simp; done) | (simp [*]; done)), H', ⟨by have := HK1.out; have := HJ18.out; have := HK3.out; have := HJ30.out; omega⟩, ⟨by exact zR HO_184002.out⟩, ⟨by exact zR HO_184003.out⟩, ⟨by exact zK BK176.out⟩, ⟨by exact zK BK183.out⟩, ⟨by repeat (first | (with_reducible first | exact HI0.out | apply IsS87.alloc | apply IsS87.drewN | apply IsS87.drew | apply IsS87.set_1 | refine IsS87.far ?_ NB0_176.out _ | refine IsS87.far ?_ NB0_183.out _) | exact HI0.out)⟩, ⟨by repeat (first | (with_reducible first | exact HK.out | apply KeepBut.set_ | apply keep_drewN | apply keep_drew | apply keep_alloc | refine keep_far ?_ GW176.out _ | refine keep_far ?_ GW183.out _) | exact HK.out)⟩, ⟨by exact zB3 HB.out (IsS87.ge HI0.out) GE176.out GE183.out⟩⟩
           ·rw [if_neg c38] at H
            have c38b0 : (x10_3 == a1) = false := beq_eq_false_iff_ne.mpr c38
            have c38b1 : (x10_3 != a1) = true := bne_iff_ne.mpr c38
            replace H := Option.bind_eq_some_iff.mp H
            obtain ⟨⟨t195, t196⟩, A390, H⟩ := H
            replace H : (if t195 = 0 then ((spec_l6Rd_pick.f kj30 s0_0 t196 2).bind fun bt197 => (if x184003_3.length < 8796093022208 then (spec_l71Pkg.l1 kj30 a1 (wrap64 (x10_3 + 1)) s0_0 bt197.2 a1 a2 x184002_1 (x184003_3 ++ [(⟨x10_3, wrap64 (1 + bt197.1)⟩ : S66)])) else (none))) else (spec_l71Pkg.l1 kj30 a1 (wrap64 (x10_3 + 1)) s0_0 t196 a1 a2 x184002_1 x184003_3)) = some (r1, r2, r3, r4, r5) := H
            have A39 := Aside0.mk A390
            clear A390
            by_cases c40 : t195 = 0
            ·rw [if_pos c40] at H
             have c40b0 : (t195 == 0) = true := beq_iff_eq.mpr c40
             have c40b1 : (t195 != 0) = false := bne_eq_false_iff_eq.mpr c40
             clear c40
             replace H := Option.bind_eq_some_iff.mp H
             obtain ⟨⟨t197, t198⟩, A410, H⟩ := H
             replace H : (if x184003_3.length < 8796093022208 then (spec_l71Pkg.l1 kj30 a1 (wrap64 (x10_3 + 1)) s0_0 t198 a1 a2 x184002_1 (x184003_3 ++ [(⟨x10_3, wrap64 (1 + t197)⟩ : S66)])) else (none)) = some (r1, r2, r3, r4, r5) := H
             have A41 := Aside0.mk A410
             clear A410
             by_cases c42 : x184003_3.length < 8796093022208
             ·rw [if_pos c42] at H
              have LMc42 := Aside0.mk c42
              clear c42
              obtain ⟨y199, hy199⟩ : ∃ y_ : List (S66), y_ = (x184003_3 ++ [(⟨x10_3, wrap64 (1 + t197)⟩ : S66)]) := ⟨_, rfl⟩
              replace H : (spec_l71Pkg.l1 kj30 a1 (wrap64 (x10_3 + 1)) s0_0 t198 a1 a2 x184002_1 y199) = some (r1, r2, r3, r4, r5) := by first | (rw [hy199]; with_reducible exact H) | (have H2_ := (Option.bind_some _ _).symm.trans H; rw [hy199]; with_reducible exact H2_) | (have H2_ := (Option.bind_some _ _).symm.trans H; with_reducible exact H2_) | with_reducible exact H | (rw [hy199]; exact H) | exact H
              have Ny199 := Aside0.mk hy199
              clear hy199
              have H' := Aside0.mk H
              clear H
              try go_wp2_with (first | (go_at_call 49; (with_reducible refine (spec_l6Rd_pick.calls kj30 g s0_0 x1001_3 6 t195 t196 w0 _ ?side1 ?side2 A39.out).mono ?_); (case side1 => repeat (first | (with_reducible first | exact HI0.out | apply IsS87.alloc | apply IsS87.drewN | apply IsS87.drew | apply IsS87.set_1 | refine IsS87.far ?_ NB0_176.out _ | refine IsS87.far ?_ NB0_183.out _) | exact HI0.out)); (case side2 => exact zB3 HB.out (IsS87.ge HI0.out) GE176.out GE183.out); rintro e w43 ⟨rfl, hi, hb, hk⟩; have n0_ := Aside0.mk (Kd.R_mono (Kd.R_keep (IsS87.apart (show IsS87 w0 _ g s0_0 x1001_3 from by repeat (first | (with_reducible first | exact HI0.out | apply IsS87.alloc | apply IsS87.drewN | apply IsS87.drew | apply IsS87.set_1 | refine IsS87.far ?_ NB0_176.out _ | refine IsS87.far ?_ NB0_183.out _) | exact HI0.out)) (by exact zR HO_184002.out) (by decide)) hk (fun _ h => h.2)) (fun _ h => h.1)); have n1_ := Aside0.mk (Kd.R_mono (Kd.R_keep (IsS87.apart (show IsS87 w0 _ g s0_0 x1001_3 from by repeat (first | (with_reducible first | exact HI0.out | apply IsS87.alloc | apply IsS87.drewN | apply IsS87.drew | apply IsS87.set_1 | refine IsS87.far ?_ NB0_176.out _ | refine IsS87.far ?_ NB0_183.out _) | exact HI0.out)) (by exact zR HO_184003.out) (by decide)) hk (fun _ h => h.2)) (fun _ h => h.1)); have n2_ := Aside0.mk (KeepBut.blk hk (g' := gb176) (o := .cells #[.int .i64 0, .int .i64 0, .slice none 0 0, .slice none 0 0] 26 (0, 0)) (by exact zK BK176.out) NB176_0.out (by simp)); have n3_ := Aside0.mk (KeepBut.blk hk (g' := gb183) (o := .cells #[.int .i64 a1, .int .i64 a2, u184002, u184003] 26 (0, 0)) (by exact zK BK183.out) NB183_0.out (by simp)); have n4_ := Aside0.mk (KeepBut.trans (by repeat (first | (with_reducible first | exact HK.out | apply KeepBut.set_ | apply keep_drewN | apply keep_drew | apply keep_alloc | refine keep_far ?_ GW176.out _ | refine keep_far ?_ GW183.out _) | exact HK.out)) hk (.inl rfl)); have n5_ := Aside0.mk (hb); have n6_ := Aside0.mk (hi); clear HO_184002; clear HO_184003; clear BK176; clear BK183; clear HK; clear HB; clear HI0; have HO_184002 := n0_; have HO_184003 := n1_; have BK176 := n2_; have BK183 := n3_; have HK := n4_; have HB := n5_; have HI0 := n6_; clear n0_ n1_ n2_ n3_ n4_ n5_ n6_; (try clear hb); (try clear hb2); (try clear hk); (try clear hi)))
              have n0_ := Aside0.mk (Kd.R_drew HO_184002.out)
              have n1_ := Aside0.mk (Kd.R_drew HO_184003.out)
              have n2_ := Aside0.mk (blk_drew BK176.out)
              have n3_ := Aside0.mk (blk_drew BK183.out)
              have n4_ := Aside0.mk (IsS87.drew HI0.out)
              have n5_ := Aside0.mk (keep_drew HK.out)
              have n6_ := Aside0.mk (below_drew1 HB.out)
              clear HO_184002
              clear HO_184003
              clear BK176
              clear BK183
              clear HI0
              clear HK
              clear HB
              have HO_184002 := n0_
              have HO_184003 := n1_
              have BK176 := n2_
              have BK183 := n3_
              have HI0 := n4_
              have HK := n5_
              have HB := n6_
              clear n0_ n1_ n2_ n3_ n4_ n5_ n6_
              refine start_ (n := 11) (S := fun w' => w'.cell? ⟨gb183, 0, none⟩ = some (.int .i64 a1) ∧ w'.cell? ⟨gb183, 1, none⟩ = some (.int .i64 a2) ∧ w'.cell? ⟨gb183, 2, none⟩ = some (u184002) ∧ w'.cell? ⟨gb183, 3, none⟩ = some (u184003)) (ds := [10]) #[false, false, false, false, false, false, false, false, false, false, false] (by kernel_rfl) rfl rfl ⟨(blk_cell BK183.out 0).trans rfl, (blk_cell BK183.out 1).trans rfl, (blk_cell BK183.out 2).trans rfl, (blk_cell BK183.out 3).trans rfl⟩ (fun hHeld => ?_); refine with_tabW spec_l71Pkg.tab12 spec_l71Pkg.bits12 (fun HT_ HW_ => ?_)
              generalize w43.drew = w44 at HO_184002 HO_184003 BK176 BK183 HI0 HK HB hHeld ⊢
              refine pure_ (i := 0) (N := some 60) (v := ?_) (a' := ?_) #[true, false, false, false, false, false, false, false, false, false, false] rfl rfl (any_of HT_.out (by kernel_rfl)) (fun _ _ _ h => h) (Or.inl ⟨by rfl, ?_⟩) ?_ ?_
              rotate_left
              ·intro w'
               go_simp
               with_reducible rfl
              rotate_left
              ·simp only [zp0, zp1, zp2, zp3, zp4, i64_w, i32_w]
               rfl
              refine pure_ (i := 2) (N := some 62) (v := ?_) (a' := ?_) #[true, false, true, false, false, false, false, false, false, false, false] rfl rfl (any_of HT_.out (by kernel_rfl)) (fun _ _ _ h => h) (Or.inl ⟨by rfl, ?_⟩) ?_ ?_
              rotate_left
              ·intro w'
               go_simp
               with_reducible rfl
              rotate_left
              ·simp only [zp0, zp1, zp2, zp3, zp4, i64_w, i32_w]
               rfl
              refine pure_ (i := 3) (N := some 63) (v := ?_) (a' := ?_) #[true, false, true, true, false, false, false, false, false, false, false] rfl rfl (any_of HT_.out (by kernel_rfl)) (fun _ _ _ h => h) (Or.inl ⟨by rfl, ?_⟩) ?_ ?_
              rotate_left
              ·intro w'
               go_simp
               with_reducible rfl
              rotate_left
              ·simp only [zp0, zp1, zp2, zp3, zp4, i64_w, i32_w]
               rfl
              refine take_ (i := 1) (N := some 61) (v := ?_) (a' := ?_) #[true, true, true, true, false, false, false, false, false, false, false] rfl rfl (take_ofW HT_.out HW_.out (by kernel_rfl)) (fun _ _ _ h => h) (Or.inl ⟨by rfl, ?_⟩) hHeld ?_ ?_
              rotate_left
              ·rintro w' ⟨s0, s1, s2, s3⟩
               go_simp
               with_reducible rfl
              rotate_left
              ·simp only [zp0, zp1, zp2, zp3, zp4, i64_w, i32_w]
               rfl
              refine one_ (i := 4) (N := some 64) #[true, true, true, true, true, false, false, false, false, false, false] rfl rfl (one_of HT_.out (by kernel_rfl)) (by decide) (fun K hK => ?_)
              refine goes_ Tryd.func49 (by kernel_rfl) rfl #[.pointer (some ⟨g, 0, none⟩), .int .i64 2] (by rfl) rfl rfl (by (try simp only [zm1, zm2, zm3]); first | done | rfl | (simp only [List.length_drop, List.length_take]; rfl)) ?_
              with_reducible refine (spec_l6Rd_pick.calls kj30 g s0_0 t196 2 t197 t198 w0 _ ?side1 ?side2 A41.out).mono ?_
              (case side1 => repeat (first | (with_reducible first | exact HI0.out | apply IsS87.alloc | apply IsS87.drewN | apply IsS87.drew | apply IsS87.set_1 | refine IsS87.far ?_ NB0_176.out _ | refine IsS87.far ?_ NB0_183.out _) | exact HI0.out))
              (case side2 => exact zB3 HB.out (IsS87.ge HI0.out) GE176.out GE183.out)
              rintro e w45 ⟨rfl, hi, hb, hk⟩
              refine ⟨_, rfl, ?_⟩
              have n0_ := Aside0.mk (Kd.R_mono (Kd.R_keep (IsS87.apart (show IsS87 w0 _ g s0_0 t196 from by repeat (first | (with_reducible first | exact HI0.out | apply IsS87.alloc | apply IsS87.drewN | apply IsS87.drew | apply IsS87.set_1 | refine IsS87.far ?_ NB0_176.out _ | refine IsS87.far ?_ NB0_183.out _) | exact HI0.out)) (by exact zR HO_184002.out) (by decide)) hk (fun _ h => h.2)) (fun _ h => h.1))
              have n1_ := Aside0.mk (Kd.R_mono (Kd.R_keep (IsS87.apart (show IsS87 w0 _ g s0_0 t196 from by repeat (first | (with_reducible first | exact HI0.out | apply IsS87.alloc | apply IsS87.drewN | apply IsS87.drew | apply IsS87.set_1 | refine IsS87.far ?_ NB0_176.out _ | refine IsS87.far ?_ NB0_183.out _) | exact HI0.out)) (by exact zR HO_184003.out) (by decide)) hk (fun _ h => h.2)) (fun _ h => h.1))
              have n2_ := Aside0.mk (KeepBut.blk hk (g' := gb176) (o := .cells #[.int .i64 0, .int .i64 0, .slice none 0 0, .slice none 0 0] 26 (0, 0)) (by exact zK BK176.out) NB176_0.out (by simp))
              have n3_ := Aside0.mk (KeepBut.blk hk (g' := gb183) (o := .cells #[.int .i64 a1, .int .i64 a2, u184002, u184003] 26 (0, 0)) (by exact zK BK183.out) NB183_0.out (by simp))
              have n4_ := Aside0.mk (KeepBut.trans (by repeat (first | (with_reducible first | exact HK.out | apply KeepBut.set_ | apply keep_drewN | apply keep_drew | apply keep_alloc | refine keep_far ?_ GW176.out _ | refine keep_far ?_ GW183.out _) | exact HK.out)) hk (.inl rfl))
              have n5_ := Aside0.mk (hb)
              have n6_ := Aside0.mk (hi)
              clear HO_184002
              clear HO_184003
              clear BK176
              clear BK183
              clear HK
              clear HB
              clear HI0
              have HO_184002 := n0_
              have HO_184003 := n1_
              have BK176 := n2_
              have BK183 := n3_
              have HK := n4_
              have HB := n5_
              have HI0 := n6_
              clear n0_ n1_ n2_ n3_ n4_ n5_ n6_
              (try clear hb)
              (try clear hb2)
              (try clear hk)
              (try clear hi)
              refine hK.out _ _ ⟨(blk_cell BK183.out 0).trans rfl, (blk_cell BK183.out 1).trans rfl, (blk_cell BK183.out 2).trans rfl, (blk_cell BK183.out 3).trans rfl⟩ (fun hHeld => ?_)
              clear hK K
              refine norm_ (a' := ?_) ?_ ?_
              rotate_left
              ·show Act.put _ (some 64) _ = _
               simp only [zp0, zp1, zp2, zp3, zp4, i64_w, i32_w]
               rfl
              refine pure_ (i := 5) (N := some 65) (v := ?_) (a' := ?_) #[true, true, true, true, true, true, false, false, false, false, false] rfl rfl (any_of HT_.out (by kernel_rfl)) (fun _ _ _ h => h) (Or.inl ⟨by rfl, ?_⟩) ?_ ?_
              rotate_left
              ·intro w'
               go_simp
               with_reducible rfl
              rotate_left
              ·simp only [zp0, zp1, zp2, zp3, zp4, i64_w, i32_w]
               rfl
              refine pure_ (i := 6) (N := some 66) (v := ?_) (a' := ?_) #[true, true, true, true, true, true, true, false, false, false, false] rfl rfl (any_of HT_.out (by kernel_rfl)) (fun _ _ _ h => h) (Or.inl ⟨by rfl, ?_⟩) ?_ ?_
              rotate_left
              ·intro w'
               go_simp
               with_reducible rfl
              rotate_left
              ·simp only [zp0, zp1, zp2, zp3, zp4, i64_w, i32_w]
               rfl
              refine one_ (i := 7) (N := some 67) #[true, true, true, true, true, true, true, true, false, false, false] rfl rfl (one_of HT_.out (by kernel_rfl)) (by decide) (fun K hK => ?_)
              refine value_ (w1 := ?_) (v := ?_) (by rfl) rfl ?_ ?_
              rotate_left 2
              ·go_simp
               constructor
               ·rfl
               ·rfl
              refine hK.out _ _ ⟨(blk_cell (blk_alloc BK183.out _) 0).trans rfl, (blk_cell (blk_alloc BK183.out _) 1).trans rfl, (blk_cell (blk_alloc BK183.out _) 2).trans rfl, (blk_cell (blk_alloc BK183.out _) 3).trans rfl⟩ (fun hHeld => ?_)
              clear hK K
              refine norm_ (a' := ?_) ?_ ?_
              rotate_left
              ·show Act.put _ (some 67) _ = _
               simp only [zp0, zp1, zp2, zp3, zp4, i64_w, i32_w]
               rfl
              refine one_ (i := 8) (N := some 68) #[true, true, true, true, true, true, true, true, true, false, false] rfl rfl (one_of HT_.out (by kernel_rfl)) (by decide) (fun K hK => ?_)
              refine Kd.R_append_step k66 w.heap.size (by rfl) (.tmp 61) (.tmp 67) 24 66 (.agg #[(.int .i64 0), (.int .i64 0)]) 16 rfl Tryd.underlying24 info66 rfl (by decide) (by omega) u184003 x184003_3 (⟨x10_3, wrap64 (1 + t197)⟩ : S66) [.int .i64 x10_3, .int .i64 (wrap64 (1 + t197))] (fun _ => True) (fun _ => False) rfl rfl ?aP (fun _ hk => hk.elim) ?aF ?aO (Below.refl _ _) ?aS ?aL ?_
              (case aP => exact k66_mkM _ _ _ (⟨x10_3, wrap64 (1 + t197)⟩ : S66))
              (case aF => exact (fun _ _ => trivial))
              (case aO => exact (by exact zR HO_184003.out))
              (case aS => exact (keep_size (w := w) (g := g) (row := none) (by repeat (first | (with_reducible first | exact HK.out | apply KeepBut.set_ | apply keep_drewN | apply keep_drew | apply keep_alloc | refine keep_far ?_ GW176.out _ | refine keep_far ?_ GW183.out _) | exact HK.out))))
              (case aL => have := LMc42.out; omega)
              intro v200 w46 ho hb hg hat
              rw [← Ny199.out] at ho
              have n0_ := Aside0.mk (Kd.R_over' (by exact zR HO_184002.out) (Kd.R_typed (by exact zR HO_184003.out)) (by decide) hg)
              have n1_ := Aside0.mk (blk_grown (g := gb176) (o := .cells #[.int .i64 0, .int .i64 0, .slice none 0 0, .slice none 0 0] 26 (0, 0)) (by exact zK BK176.out) hg (Kd.R_ne HO_184003.out BK176.out (by decide)))
              have n2_ := Aside0.mk (blk_grown (g := gb183) (o := .cells #[.int .i64 a1, .int .i64 a2, u184002, u184003] 26 (0, 0)) (by exact zK BK183.out) hg (Kd.R_ne HO_184003.out BK183.out (by decide)))
              have n3_ := Aside0.mk (IsS87.grown (by repeat (first | (with_reducible first | exact HI0.out | apply IsS87.alloc | apply IsS87.drewN | apply IsS87.drew | apply IsS87.set_1 | refine IsS87.far ?_ NB0_176.out _ | refine IsS87.far ?_ NB0_183.out _) | exact HI0.out)) hg (IsS87.own_ne HI0.out HO_184003.out (by decide)))
              have n4_ := Aside0.mk (below_weaken (by exact zB3 HB.out (IsS87.ge HI0.out) GE176.out GE183.out) HL.out hb)
              have n5_ := Aside0.mk (KeepBut.trans (by repeat (first | (with_reducible first | exact HK.out | apply KeepBut.set_ | apply keep_drewN | apply keep_drew | apply keep_alloc | refine keep_far ?_ GW176.out _ | refine keep_far ?_ GW183.out _) | exact HK.out)) (KeepBut.of_grown hg g) (Kd.R_base2 HO_184003.out))
              have n6_ := Aside0.mk (ho)
              clear HO_184002
              clear BK176
              clear BK183
              clear HI0
              clear HB
              clear HK
              clear HO_184003
              have HO_184002 := n0_
              have BK176 := n1_
              have BK183 := n2_
              have HI0 := n3_
              have HB := n4_
              have HK := n5_
              have HO201 := n6_
              clear n0_ n1_ n2_ n3_ n4_ n5_ n6_
              clear ho hb hg hat
              obtain ⟨Ao47, co47, eo47⟩ := Kd.R_slice HO201.out
              (first | subst eo47 | (injection eo47 with f1_ f2_ f3_; have f4_ := f1_.symm; have f5_ := f3_.symm; clear f1_ f2_ f3_; subst f4_; subst f5_))
              refine hK.out _ _ ⟨(blk_cell BK183.out 0).trans rfl, (blk_cell BK183.out 1).trans rfl, (blk_cell BK183.out 2).trans rfl, (blk_cell BK183.out 3).trans rfl⟩ (fun hHeld => ?_)
              clear hK K
              refine norm_ (a' := ?_) ?_ ?_
              rotate_left
              ·show Act.put _ (some 68) _ = _
               simp only [zp0, zp1, zp2, zp3, zp4, i64_w, i32_w]
               rfl
              refine pure_ (i := 9) (N := some 69) (v := ?_) (a' := ?_) #[true, true, true, true, true, true, true, true, true, true, false] rfl rfl (any_of HT_.out (by kernel_rfl)) (fun _ _ _ h => h) (Or.inl ⟨by rfl, ?_⟩) ?_ ?_
              rotate_left
              ·intro w'
               go_simp
               with_reducible rfl
              rotate_left
              ·simp only [zp0, zp1, zp2, zp3, zp4, i64_w, i32_w]
               rfl
              refine last_ (i := 10) (N := none) #[true, true, true, true, true, true, true, true, true, true, true] rfl rfl (one_of HT_.out (by kernel_rfl)) (by decide) (fun K hK => ?_)
              have hs48 : w46.cell? ⟨gb183, 3, none⟩ = some (u184003) := (blk_cell BK183.out 3).trans rfl
              have hfs48 := blk_frozen BK183.out 3
              have hns48_0 := NB176_183.out
              have hms48_0 := NB183_176.out
              refine skip_ (w1 := ?_) (by rfl) rfl ?_ ?_
              rotate_left
              ·go_simp
               rfl
              refine hK.out _ _ ?_
              clear hK K
              refine done_ (done_of HT_.out (by kernel_rfl)) ?_
              try go_wp2
              go_roundg kj30
              case measure => have := HK1.out; have := HJ18.out; have := HK3.out; have := HJ30.out; omega
              case rel => exact ⟨(wrap64 (x10_3 + 1)), (t198), (y199), (.slice Ao47 y199.length co47), (by first | rfl | (simp; done) | (simp [*]; done)), H', ⟨by have := HK1.out; have := HJ18.out; have := HK3.out; have := HJ30.out; omega⟩, ⟨by exact zR (Kd.R_mono (Kd.R_far (p := ⟨gb183, 3, none⟩) (Kd.R_types HO_184002.out BK183.out (by decide)) (fun _ hk => hk.2) (.slice Ao47 y199.length co47)) (fun _ hk => trivial))⟩, ⟨by exact zR (Kd.R_mono (Kd.R_far (p := ⟨gb183, 3, none⟩) (Kd.R_types HO201.out BK183.out (by decide)) (fun _ hk => hk.2) (.slice Ao47 y199.length co47)) (fun _ hk => trivial))⟩, ⟨by (with_reducible repeat (first | refine blk_drewN ?_ _ | refine blk_drew ?_ | refine blk_alloc ?_ _)); refine blk_far ?_ NB176_183.out _; exact zK BK176.out⟩, ⟨by (with_reducible repeat (first | refine blk_drewN ?_ _ | refine blk_drew ?_ | refine blk_alloc ?_ _)); refine blk_put (cs := #[.int .i64 a1, .int .i64 a2, u184002, u184003]) ?_ 3 _ rfl; exact zK BK183.out⟩, ⟨by repeat (first | (with_reducible first | exact HI0.out | apply IsS87.alloc | apply IsS87.drewN | apply IsS87.drew | apply IsS87.set_1 | refine IsS87.far ?_ NB0_176.out _ | refine IsS87.far ?_ NB0_183.out _) | exact HI0.out)⟩, ⟨by repeat (first | (with_reducible first | exact HK.out | apply KeepBut.set_ | apply keep_drewN | apply keep_drew | apply keep_alloc | refine keep_far ?_ GW176.out _ | refine keep_far ?_ GW183.out _) | exact HK.out)⟩, ⟨by exact zB3 HB.out (IsS87.ge HI0.out) GE176.out GE183.out⟩⟩
             ·rw [if_neg c42] at H
              exact absurd H (by simp)
            ·rw [if_neg c40] at H
             have c40b0 : (t195 == 0) = false := beq_eq_false_iff_ne.mpr c40
             have c40b1 : (t195 != 0) = true := bne_iff_ne.mpr c40
             have H' := Aside0.mk H
             clear H
             go_wp2_with (first | (go_at_call 49; (with_reducible refine (spec_l6Rd_pick.calls kj30 g s0_0 x1001_3 6 t195 t196 w0 _ ?side1 ?side2 A39.out).mono ?_); (case side1 => repeat (first | (with_reducible first | exact HI0.out | apply IsS87.alloc | apply IsS87.drewN | apply IsS87.drew | apply IsS87.set_1 | refine IsS87.far ?_ NB0_176.out _ | refine IsS87.far ?_ NB0_183.out _) | exact HI0.out)); (case side2 => exact zB3 HB.out (IsS87.ge HI0.out) GE176.out GE183.out); rintro e w49 ⟨rfl, hi, hb, hk⟩; have n0_ := Aside0.mk (Kd.R_mono (Kd.R_keep (IsS87.apart (show IsS87 w0 _ g s0_0 x1001_3 from by repeat (first | (with_reducible first | exact HI0.out | apply IsS87.alloc | apply IsS87.drewN | apply IsS87.drew | apply IsS87.set_1 | refine IsS87.far ?_ NB0_176.out _ | refine IsS87.far ?_ NB0_183.out _) | exact HI0.out)) (by exact zR HO_184002.out) (by decide)) hk (fun _ h => h.2)) (fun _ h => h.1)); have n1_ := Aside0.mk (Kd.R_mono (Kd.R_keep (IsS87.apart (show IsS87 w0 _ g s0_0 x1001_3 from by repeat (first | (with_reducible first | exact HI0.out | apply IsS87.alloc | apply IsS87.drewN | apply IsS87.drew | apply IsS87.set_1 | refine IsS87.far ?_ NB0_176.out _ | refine IsS87.far ?_ NB0_183.out _) | exact HI0.out)) (by exact zR HO_184003.out) (by decide)) hk (fun _ h => h.2)) (fun _ h => h.1)); have n2_ := Aside0.mk (KeepBut.blk hk (g' := gb176) (o := .cells #[.int .i64 0, .int .i64 0, .slice none 0 0, .slice none 0 0] 26 (0, 0)) (by exact zK BK176.out) NB176_0.out (by simp)); have n3_ := Aside0.mk (KeepBut.blk hk (g' := gb183) (o := .cells #[.int .i64 a1, .int .i64 a2, u184002, u184003] 26 (0, 0)) (by exact zK BK183.out) NB183_0.out (by simp)); have n4_ := Aside0.mk (KeepBut.trans (by repeat (first | (with_reducible first | exact HK.out | apply KeepBut.set_ | apply keep_drewN | apply keep_drew | apply keep_alloc | refine keep_far ?_ GW176.out _ | refine keep_far ?_ GW183.out _) | exact HK.out)) hk (.inl rfl)); have n5_ := Aside0.mk (hb); have n6_ := Aside0.mk (hi); clear HO_184002; clear HO_184003; clear BK176; clear BK183; clear HK; clear HB; clear HI0; have HO_184002 := n0_; have HO_184003 := n1_; have BK176 := n2_; have BK183 := n3_; have HK := n4_; have HB := n5_; have HI0 := n6_; clear n0_ n1_ n2_ n3_ n4_ n5_ n6_; (try clear hb); (try clear hb2); (try clear hk); (try clear hi)))
             go_roundg kj30
             case measure => have := HK1.out; have := HJ18.out; have := HK3.out; have := HJ30.out; omega
             case rel => exact ⟨(wrap64 (x10_3 + 1)), (t196), (x184003_3), (u184003), (by first | rfl | (simp; done) | (simp [*]; done)), H', ⟨by have := HK1.out; have := HJ18.out; have := HK3.out; have := HJ30.out; omega⟩, ⟨by exact zR HO_184002.out⟩, ⟨by exact zR HO_184003.out⟩, ⟨by exact zK BK176.out⟩, ⟨by exact zK BK183.out⟩, ⟨by repeat (first | (with_reducible first | exact HI0.out | apply IsS87.alloc | apply IsS87.drewN | apply IsS87.drew | apply IsS87.set_1 | refine IsS87.far ?_ NB0_176.out _ | refine IsS87.far ?_ NB0_183.out _) | exact HI0.out)⟩, ⟨by repeat (first | (with_reducible first | exact HK.out | apply KeepBut.set_ | apply keep_drewN | apply keep_drew | apply keep_alloc | refine keep_far ?_ GW176.out _ | refine keep_far ?_ GW183.out _) | exact HK.out)⟩, ⟨by exact zB3 HB.out (IsS87.ge HI0.out) GE176.out GE183.out⟩⟩
          ·replace c37 := Bool.eq_false_iff.mpr c37
           subst c37
           have H1 : (some (a1, a2, x184002_1, x184003_3, x1001_3)) = some (r1, r2, r3, r4, r5) := by rw [if_neg (show ¬ (false = true) by decide)] at H; exact H
           clear H
           have H := H1
           clear H1
           simp only [Option.some.injEq, Prod.mk.injEq] at H
           obtain ⟨rfl, rfl, rfl, rfl, rfl⟩ := H
           have hnb50 := NB183_176.out
           have hnc50 := NB176_183.out
           have hnb51 := NB183_0.out
           have hnc51 := NB0_183.out
           obtain ⟨hcz52_0, hcz52_1, hcz52_2, hcz52_3, hfz52_0, hfz52_1, hfz52_2, hfz52_3⟩ := zc4f BK183.out
           have hnb53 := NB176_0.out
           have hnc53 := NB0_176.out
           obtain ⟨hcz54_0, hcz54_1, hcz54_2, hcz54_3, hfz54_0, hfz54_1, hfz54_2, hfz54_3⟩ := zc4f BK176.out
           obtain ⟨Ao55, co55, eo55⟩ := Kd.R_slice HO_184002.out
           subst eo55
           obtain ⟨Ao56, co56, eo56⟩ := Kd.R_slice HO_184003.out
           subst eo56
           go_wp2
           refine bodyPost_ret (results_cell_row rfl _ _ gb176 26 #[.int .i64 a1, .int .i64 a2, .slice Ao55 x184002_1.length co55, .slice Ao56 x184003_3.length co56] (0, 0) _ rfl (by (with_reducible repeat (first | refine blk_drewN ?_ _ | refine blk_drew ?_ | refine blk_alloc ?_ _)); refine blk_put (cs := #[.int .i64 a1, .int .i64 a2, .slice Ao55 x184002_1.length co55, .slice none 0 0]) ?_ 3 _ rfl; (with_reducible repeat (first | refine blk_drewN ?_ _ | refine blk_drew ?_ | refine blk_alloc ?_ _)); refine blk_put (cs := #[.int .i64 a1, .int .i64 a2, .slice none 0 0, .slice none 0 0]) ?_ 2 _ rfl; (with_reducible repeat (first | refine blk_drewN ?_ _ | refine blk_drew ?_ | refine blk_alloc ?_ _)); refine blk_put (cs := #[.int .i64 a1, .int .i64 0, .slice none 0 0, .slice none 0 0]) ?_ 1 _ rfl; (with_reducible repeat (first | refine blk_drewN ?_ _ | refine blk_drew ?_ | refine blk_alloc ?_ _)); refine blk_put (cs := #[.int .i64 0, .int .i64 0, .slice none 0 0, .slice none 0 0]) ?_ 0 _ rfl; exact zK BK176.out) Tryd.underlying26 rfl (by kernel_rfl)) rfl ?_
           exact ⟨_, _, by first | rfl | (simp [errW_none, errW_some] <;> rfl) | (simp [*, errW_none, errW_some] <;> rfl), by exact zR (Kd.R_mono (Kd.R_far (p := ⟨gb176, 3, none⟩) (Kd.R_far (p := ⟨gb176, 2, none⟩) (Kd.R_far (p := ⟨gb176, 1, none⟩) (Kd.R_far (p := ⟨gb176, 0, none⟩) (Kd.R_types HO_184002.out BK176.out (by decide)) (fun _ hk => hk.2) (.int .i64 a1)) (fun _ hk => hk.2) (.int .i64 a2)) (fun _ hk => hk.2) (.slice Ao55 x184002_1.length co55)) (fun _ hk => hk.2) (.slice Ao56 x184003_3.length co56)) (fun _ hk => trivial)), by exact zR (Kd.R_mono (Kd.R_far (p := ⟨gb176, 3, none⟩) (Kd.R_far (p := ⟨gb176, 2, none⟩) (Kd.R_far (p := ⟨gb176, 1, none⟩) (Kd.R_far (p := ⟨gb176, 0, none⟩) (Kd.R_types HO_184003.out BK176.out (by decide)) (fun _ hk => hk.2) (.int .i64 a1)) (fun _ hk => hk.2) (.int .i64 a2)) (fun _ hk => hk.2) (.slice Ao55 x184002_1.length co55)) (fun _ hk => hk.2) (.slice Ao56 x184003_3.length co56)) (fun _ hk => trivial)), by repeat (first | (with_reducible first | exact HI0.out | apply IsS87.alloc | apply IsS87.drewN | apply IsS87.drew | apply IsS87.set_1 | refine IsS87.far ?_ NB0_176.out _ | refine IsS87.far ?_ NB0_183.out _) | exact HI0.out), by exact zB3 HB.out (IsS87.ge HI0.out) GE176.out GE183.out, by repeat (first | (with_reducible first | exact HK.out | apply KeepBut.set_ | apply keep_drewN | apply keep_drew | apply keep_alloc | refine keep_far ?_ GW176.out _ | refine keep_far ?_ GW183.out _) | exact HK.out)⟩

/-! ### spec_l12Find: function 68 -/
def spec_l12Find.l0 : Nat → List (S26) → Int → Int → Int → Option (Int)
 | 0, _, _, _, _ => none
 | k + 1, x0, x1, x2, x7 => if x7 < (x0.length : Int) then (if 0 ≤ x7 then (if ((rd_T26 x0 x7).f0) = x1 then (if ((rd_T26 x0 x7).f1) = x2 then (some x7) else (spec_l12Find.l0 k x0 x1 x2 (wrap64 (x7 + 1)))) else (spec_l12Find.l0 k x0 x1 x2 (wrap64 (x7 + 1)))) else (none)) else (some (-1))
def spec_l12Find.f (k : Nat) (l0 : List (S26)) (a1 : Int) (a2 : Int) : Option (Int) := spec_l12Find.l0 k l0 a1 a2 0
theorem spec_l12Find.mono_l : ∀ k, (∀ y0 y1 y2 y3, LeO (spec_l12Find.l0 k y0 y1 y2 y3) (spec_l12Find.l0 (k + 1) y0 y1 y2 y3))
 | 0 => fun _ _ _ _ r h => by simp [spec_l12Find.l0] at h
 | k + 1 => by
  have ih0 := spec_l12Find.mono_l k
  ·intro y0 y1 y2 y3
   unfold spec_l12Find.l0
   repeat' first
   | (with_reducible exact ih0 _ _ _ _)
   | (with_reducible exact LeO.refl _)
   | (with_reducible exact LeO.none _)
   | (with_reducible refine LeO.ite ?_ ?_)
   | (with_reducible refine LeO.bind ?_ (fun _ => ?_))
   | exact ih0 _ _ _ _
   | exact LeO.none _
   | refine LeO.ite ?_ ?_
   | refine LeO.bind ?_ (fun _ => ?_)
theorem spec_l12Find.mono : ∀ a0 a1 a2 k, LeO (spec_l12Find.f k a0 a1 a2) (spec_l12Find.f (k + 1) a0 a1 a2) := by
 intro a0 a1 a2 k
 have ih0 := spec_l12Find.mono_l k
 unfold spec_l12Find.f
 repeat' first
   | (with_reducible exact ih0 _ _ _ _)
   | (with_reducible exact LeO.refl _)
   | (with_reducible exact LeO.none _)
   | (with_reducible refine LeO.ite ?_ ?_)
   | (with_reducible refine LeO.bind ?_ (fun _ => ?_))
   | exact ih0 _ _ _ _
   | exact LeO.none _
   | refine LeO.ite ?_ ?_
   | refine LeO.bind ?_ (fun _ => ?_)
set_option maxHeartbeats 8000000 in
set_option maxRecDepth 100000 in
theorem spec_l12Find.calls (k : Nat) (A0 : Option Addr) (c0 : Nat) (l0 : List (S26)) (a1 : Int) (a2 : Int) (r : Int) (w : World) (hr0 : Kd.C k26 w A0 l0.length l0) (hc0 : l0.length ≤ c0) (h : spec_l12Find.f k l0 a1 a2 = some r) :
  Calls Tryd.prog 68 #[.slice A0 l0.length c0, .int .i64 a1, .int .i64 a2] w fun e w' => e = .returned (.int .i64 r) ∧ Drawn0 w w' := by
 have HR0 := Aside0.mk hr0
 have HC0 := Aside0.mk hc0
 clear hr0 hc0
 have H : (spec_l12Find.l0 k l0 a1 a2 0) = some r := h
 clear h
 have H' := Aside0.mk H
 clear H
 go_enter Tryd.func68, Tryd.ntmps68
 go_wp2
 go_loopg [7] k (fun kq v7 w' => ∃ (x7_1 : Int), v7 = .int .i64 x7_1 ∧ Aside0 (spec_l12Find.l0 kq l0 a1 a2 x7_1 = some r) ∧ Aside0 (kq ≤ k) ∧ Drawn0 w w')
 case atStart => exact ⟨(0), (by first | rfl | (simp; done) | (simp [*]; done)), H', ⟨Nat.le_refl _⟩, by repeat (first | exact Drawn0.refl _ | apply Drawn0.step)⟩
 case round =>
  clear H'
  try clear p2
  obtain ⟨x7_1, rfl, HA, HK1, ⟨m1, rfl⟩⟩ := hrel
  cases gk with
  | zero => exact absurd HA.out (by simp [spec_l12Find.l0])
  | succ k1 =>
   have H := HA.out
   clear HA
   simp only [spec_l12Find.l0] at H
   by_cases c4 : x7_1 < (l0.length : Int)
   ·rw [if_pos c4] at H
    have c4b0 : decide (x7_1 < (l0.length : Int)) = true := decide_eq_true c4
    clear c4
    by_cases c5 : 0 ≤ x7_1
    ·rw [if_pos c5] at H
     have c5b0 : decide (0 ≤ x7_1) = true := decide_eq_true c5
     clear c5
     by_cases c6 : ((rd_T26 l0 x7_1).f0) = a1
     ·rw [if_pos c6] at H
      have c6b0 : (((rd_T26 l0 x7_1).f0) == a1) = true := beq_iff_eq.mpr c6
      have c6b1 : (((rd_T26 l0 x7_1).f0) != a1) = false := bne_eq_false_iff_eq.mpr c6
      clear c6
      by_cases c7 : ((rd_T26 l0 x7_1).f1) = a2
      ·rw [if_pos c7] at H
       have c7b0 : (((rd_T26 l0 x7_1).f1) == a2) = true := beq_iff_eq.mpr c7
       have c7b1 : (((rd_T26 l0 x7_1).f1) != a2) = false := bne_eq_false_iff_eq.mpr c7
       clear c7
       obtain rfl := Option.some.inj H
       have p202 : 0 ≤ (x7_1 : Int) := of_decide_eq_true (by first | (with_reducible assumption) | assumption)
       have q202 : x7_1 < (l0.length : Int) := of_decide_eq_true (by first | (with_reducible assumption) | assumption)
       obtain ⟨ad202, A202_2, c202_2, A202_3, c202_3, e202, hx202_0, hx202_1, hx202_2, hx202_3, hl202_2, hi202_2, hl202_3, hi202_3⟩ := at_T26 HR0.out x7_1 p202 q202
       cases e202
       have HR202_2 := Aside0.mk hi202_2
       have HC202_2 := Aside0.mk hl202_2
       clear hi202_2 hl202_2
       have HR202_3 := Aside0.mk hi202_3
       have HC202_3 := Aside0.mk hl202_3
       clear hi202_3 hl202_3
       replace p202 := eq_true p202
       replace q202 := eq_true q202
       have p203 : 0 ≤ (x7_1 : Int) := of_decide_eq_true (by first | (with_reducible assumption) | assumption)
       have q203 : x7_1 < (l0.length : Int) := of_decide_eq_true (by first | (with_reducible assumption) | assumption)
       obtain ⟨ad203, A203_2, c203_2, A203_3, c203_3, e203, hx203_0, hx203_1, hx203_2, hx203_3, hl203_2, hi203_2, hl203_3, hi203_3⟩ := at_T26 HR0.out x7_1 p203 q203
       obtain rfl : ad202 = ad203 := (by injection e203)
       have HR203_2 := Aside0.mk hi203_2
       have HC203_2 := Aside0.mk hl203_2
       clear hi203_2 hl203_2
       have HR203_3 := Aside0.mk hi203_3
       have HC203_3 := Aside0.mk hl203_3
       clear hi203_3 hl203_3
       replace p203 := eq_true p203
       replace q203 := eq_true q203
       have ea_ := Option.some.inj (hx202_2.symm.trans hx203_2)
       injection ea_ with ea_ en_ ec_
       subst ea_
       subst ec_
       clear en_
       have ea_ := Option.some.inj (hx202_3.symm.trans hx203_3)
       injection ea_ with ea_ en_ ec_
       subst ea_
       subst ec_
       clear en_
       go_wp2
       go_ret
       exact ⟨by first | rfl | (simp; done) | (simp [*]; done), by repeat (first | exact Drawn0.refl _ | apply Drawn0.step)⟩
      ·rw [if_neg c7] at H
       have c7b0 : (((rd_T26 l0 x7_1).f1) == a2) = false := beq_eq_false_iff_ne.mpr c7
       have c7b1 : (((rd_T26 l0 x7_1).f1) != a2) = true := bne_iff_ne.mpr c7
       have H' := Aside0.mk H
       clear H
       have p202 : 0 ≤ (x7_1 : Int) := of_decide_eq_true (by first | (with_reducible assumption) | assumption)
       have q202 : x7_1 < (l0.length : Int) := of_decide_eq_true (by first | (with_reducible assumption) | assumption)
       obtain ⟨ad202, A202_2, c202_2, A202_3, c202_3, e202, hx202_0, hx202_1, hx202_2, hx202_3, hl202_2, hi202_2, hl202_3, hi202_3⟩ := at_T26 HR0.out x7_1 p202 q202
       cases e202
       have HR202_2 := Aside0.mk hi202_2
       have HC202_2 := Aside0.mk hl202_2
       clear hi202_2 hl202_2
       have HR202_3 := Aside0.mk hi202_3
       have HC202_3 := Aside0.mk hl202_3
       clear hi202_3 hl202_3
       replace p202 := eq_true p202
       replace q202 := eq_true q202
       have p203 : 0 ≤ (x7_1 : Int) := of_decide_eq_true (by first | (with_reducible assumption) | assumption)
       have q203 : x7_1 < (l0.length : Int) := of_decide_eq_true (by first | (with_reducible assumption) | assumption)
       obtain ⟨ad203, A203_2, c203_2, A203_3, c203_3, e203, hx203_0, hx203_1, hx203_2, hx203_3, hl203_2, hi203_2, hl203_3, hi203_3⟩ := at_T26 HR0.out x7_1 p203 q203
       obtain rfl : ad202 = ad203 := (by injection e203)
       have HR203_2 := Aside0.mk hi203_2
       have HC203_2 := Aside0.mk hl203_2
       clear hi203_2 hl203_2
       have HR203_3 := Aside0.mk hi203_3
       have HC203_3 := Aside0.mk hl203_3
       clear hi203_3 hl203_3
       replace p203 := eq_true p203
       replace q203 := eq_true q203
       have ea_ := Option.some.inj (hx202_2.symm.trans hx203_2)
       injection ea_ with ea_ en_ ec_
       subst ea_
       subst ec_
       clear en_
       have ea_ := Option.some.inj (hx202_3.symm.trans hx203_3)
       injection ea_ with ea_ en_ ec_
       subst ea_
       subst ec_
       clear en_
       go_wp2
       go_roundg k1
       case measure => have := HK1.out; omega
       case rel => exact ⟨(wrap64 (x7_1 + 1)), (by first | rfl | (simp; done) | (simp [*]; done)), H', ⟨by have := HK1.out; omega⟩, by repeat (first | exact Drawn0.refl _ | apply Drawn0.step)⟩
     ·rw [if_neg c6] at H
      have c6b0 : (((rd_T26 l0 x7_1).f0) == a1) = false := beq_eq_false_iff_ne.mpr c6
      have c6b1 : (((rd_T26 l0 x7_1).f0) != a1) = true := bne_iff_ne.mpr c6
      have H' := Aside0.mk H
      clear H
      have p202 : 0 ≤ (x7_1 : Int) := of_decide_eq_true (by first | (with_reducible assumption) | assumption)
      have q202 : x7_1 < (l0.length : Int) := of_decide_eq_true (by first | (with_reducible assumption) | assumption)
      obtain ⟨ad202, A202_2, c202_2, A202_3, c202_3, e202, hx202_0, hx202_1, hx202_2, hx202_3, hl202_2, hi202_2, hl202_3, hi202_3⟩ := at_T26 HR0.out x7_1 p202 q202
      cases e202
      have HR202_2 := Aside0.mk hi202_2
      have HC202_2 := Aside0.mk hl202_2
      clear hi202_2 hl202_2
      have HR202_3 := Aside0.mk hi202_3
      have HC202_3 := Aside0.mk hl202_3
      clear hi202_3 hl202_3
      replace p202 := eq_true p202
      replace q202 := eq_true q202
      go_wp2
      go_roundg k1
      case measure => have := HK1.out; omega
      case rel => exact ⟨(wrap64 (x7_1 + 1)), (by first | rfl | (simp; done) | (simp [*]; done)), H', ⟨by have := HK1.out; omega⟩, by repeat (first | exact Drawn0.refl _ | apply Drawn0.step)⟩
    ·rw [if_neg c5] at H
     exact absurd H (by simp)
   ·rw [if_neg c4] at H
    have c4b0 : decide (x7_1 < (l0.length : Int)) = false := decide_eq_false c4
    clear c4
    obtain rfl := Option.some.inj H
    go_wp2
    go_ret
    exact ⟨by first | rfl | (simp; done) | (simp [*]; done), by repeat (first | exact Drawn0.refl _ | apply Drawn0.step)⟩

/-! ### spec_l12With: function 69 -/
mutual
def spec_l12With.l0 : Nat → List (S26) → List (S26) → Int → Int → Int → List (S63) → List (S66) → Option ((List (S26)))
 | 0, _, _, _, _, _, _, _ => none
 | k + 1, x0, x5, x6, x205000, x205001, x205002, x205003 => if x6 < (x0.length : Int) then (if 0 ≤ x6 then ((spec_l3Less.f ((rd_T26 x0 x6).f0) ((rd_T26 x0 x6).f1) x205000 x205001).bind fun t210 => (if t210 = true then (if x5.length < 2199023255552 then (spec_l12With.l0 k x0 (x5 ++ [(⟨(rd_T26 x0 x6).f0, (rd_T26 x0 x6).f1, (rd_T26 x0 x6).f2, (rd_T26 x0 x6).f3⟩ : S26)]) (wrap64 (x6 + 1)) x205000 x205001 x205002 x205003) else (none)) else (spec_l12With.l0 k x0 x5 (wrap64 (x6 + 1)) x205000 x205001 x205002 x205003))) else (none)) else (if x5.length < 2199023255552 then (spec_l12With.l1 k x0 (x5 ++ [(⟨x205000, x205001, x205002, x205003⟩ : S26)]) 0 x205000 x205001 x205002 x205003) else (none))
def spec_l12With.l1 : Nat → List (S26) → List (S26) → Int → Int → Int → List (S63) → List (S66) → Option ((List (S26)))
 | 0, _, _, _, _, _, _, _ => none
 | k + 1, x0, x5, x7, x205000, x205001, x205002, x205003 => if x7 < (x0.length : Int) then (if 0 ≤ x7 then ((spec_l3Less.f x205000 x205001 ((rd_T26 x0 x7).f0) ((rd_T26 x0 x7).f1)).bind fun t220 => (if t220 = true then (if x5.length < 2199023255552 then (spec_l12With.l1 k x0 (x5 ++ [(⟨(rd_T26 x0 x7).f0, (rd_T26 x0 x7).f1, (rd_T26 x0 x7).f2, (rd_T26 x0 x7).f3⟩ : S26)]) (wrap64 (x7 + 1)) x205000 x205001 x205002 x205003) else (none)) else (spec_l12With.l1 k x0 x5 (wrap64 (x7 + 1)) x205000 x205001 x205002 x205003))) else (none)) else (some x5)
end
def spec_l12With.f (k : Nat) (l0 : List (S26)) (a1_0 : Int) (a1_1 : Int) (l1_2 : List (S63)) (l1_3 : List (S66)) : Option ((List (S26))) := spec_l12With.l0 k l0 (([] : List (S26))) 0 a1_0 a1_1 l1_2 l1_3
theorem spec_l12With.mono_l : ∀ k, (∀ y0 y1 y2 y3 y4 y5 y6, LeO (spec_l12With.l0 k y0 y1 y2 y3 y4 y5 y6) (spec_l12With.l0 (k + 1) y0 y1 y2 y3 y4 y5 y6)) ∧ (∀ y0 y1 y2 y3 y4 y5 y6, LeO (spec_l12With.l1 k y0 y1 y2 y3 y4 y5 y6) (spec_l12With.l1 (k + 1) y0 y1 y2 y3 y4 y5 y6))
 | 0 => ⟨fun _ _ _ _ _ _ _ r h => by simp [spec_l12With.l0] at h, fun _ _ _ _ _ _ _ r h => by simp [spec_l12With.l1] at h⟩
 | k + 1 => by
  obtain ⟨ih0, ih1⟩ := spec_l12With.mono_l k
  refine ⟨?_, ?_⟩
  ·intro y0 y1 y2 y3 y4 y5 y6
   unfold spec_l12With.l0
   repeat' first
   | (with_reducible exact ih0 _ _ _ _ _ _ _)
   | (with_reducible exact ih1 _ _ _ _ _ _ _)
   | (with_reducible exact LeO.refl _)
   | (with_reducible exact LeO.none _)
   | (with_reducible refine LeO.ite ?_ ?_)
   | (with_reducible refine LeO.bind ?_ (fun _ => ?_))
   | exact ih0 _ _ _ _ _ _ _
   | exact ih1 _ _ _ _ _ _ _
   | exact LeO.none _
   | refine LeO.ite ?_ ?_
   | refine LeO.bind ?_ (fun _ => ?_)
  ·intro y0 y1 y2 y3 y4 y5 y6
   unfold spec_l12With.l1
   repeat' first
   | (with_reducible exact ih0 _ _ _ _ _ _ _)
   | (with_reducible exact ih1 _ _ _ _ _ _ _)
   | (with_reducible exact LeO.refl _)
   | (with_reducible exact LeO.none _)
   | (with_reducible refine LeO.ite ?_ ?_)
   | (with_reducible refine LeO.bind ?_ (fun _ => ?_))
   | exact ih0 _ _ _ _ _ _ _
   | exact ih1 _ _ _ _ _ _ _
   | exact LeO.none _
   | refine LeO.ite ?_ ?_
   | refine LeO.bind ?_ (fun _ => ?_)
theorem spec_l12With.mono : ∀ a0 a1 a2 a3 a4 k, LeO (spec_l12With.f k a0 a1 a2 a3 a4) (spec_l12With.f (k + 1) a0 a1 a2 a3 a4) := by
 intro a0 a1 a2 a3 a4 k
 obtain ⟨ih0, ih1⟩ := spec_l12With.mono_l k
 unfold spec_l12With.f
 repeat' first
   | (with_reducible exact ih0 _ _ _ _ _ _ _)
   | (with_reducible exact ih1 _ _ _ _ _ _ _)
   | (with_reducible exact LeO.refl _)
   | (with_reducible exact LeO.none _)
   | (with_reducible refine LeO.ite ?_ ?_)
   | (with_reducible refine LeO.bind ?_ (fun _ => ?_))
   | exact ih0 _ _ _ _ _ _ _
   | exact ih1 _ _ _ _ _ _ _
   | exact LeO.none _
   | refine LeO.ite ?_ ?_
   | refine LeO.bind ?_ (fun _ => ?_)
set_option maxHeartbeats 8000000 in
set_option maxRecDepth 100000 in
theorem spec_l12With.calls (k : Nat) (P0_ : Nat → Prop) (A0 : Option Addr) (c0 : Nat) (l0 : List (S26)) (a1_0 : Int) (a1_1 : Int) (P1_2_ : Nat → Prop) (A1_2 : Option Addr) (c1_2 : Nat) (l1_2 : List (S63)) (P1_3_ : Nat → Prop) (A1_3 : Option Addr) (c1_3 : Nat) (l1_3 : List (S66)) (r : List (S26)) (w : World) (hs0 : Kd.V k26 26 w w.heap.size (fun k_ => P0_ k_) (.slice A0 l0.length c0) l0) (hs1_2 : Kd.V k63 63 w w.heap.size (fun k_ => P1_2_ k_) (.slice A1_2 l1_2.length c1_2) l1_2) (hs1_3 : Kd.V k66 66 w w.heap.size (fun k_ => P1_3_ k_) (.slice A1_3 l1_3.length c1_3) l1_3) (h : spec_l12With.f k l0 a1_0 a1_1 l1_2 l1_3 = some r) :
  Calls Tryd.prog 69 #[.slice A0 l0.length c0, .agg #[.int .i64 a1_0, .int .i64 a1_1, .slice A1_2 l1_2.length c1_2, .slice A1_3 l1_3.length c1_3]] w fun e w' => ∃ v0_ : Value, e = .returned (v0_) ∧ Kd.N k26 26 w' w.heap.size (fun k_ => ((P0_ k_ ∨ P1_2_ k_ ∨ P1_3_ k_) ∨ w.heap.size ≤ k_)) v0_ r ∧ Below w.heap.size w w' := by
 have hu26 := Tryd.underlying26
 have HO0 := Aside0.mk (show Kd.V k26 26 w w.heap.size (fun k_ => ((P0_ k_ ∨ P1_2_ k_ ∨ P1_3_ k_) ∨ w.heap.size ≤ k_)) (.slice A0 l0.length c0) l0 from Kd.V_mono hs0 (fun k_ hk => .inl (.inl hk)))
 have HO1_2 := Aside0.mk (show Kd.V k63 63 w w.heap.size (fun k_ => ((P0_ k_ ∨ P1_2_ k_ ∨ P1_3_ k_) ∨ w.heap.size ≤ k_)) (.slice A1_2 l1_2.length c1_2) l1_2 from Kd.V_mono hs1_2 (fun k_ hk => .inl (.inr (.inl hk))))
 have HO1_3 := Aside0.mk (show Kd.V k66 66 w w.heap.size (fun k_ => ((P0_ k_ ∨ P1_2_ k_ ∨ P1_3_ k_) ∨ w.heap.size ≤ k_)) (.slice A1_3 l1_3.length c1_3) l1_3 from Kd.V_mono hs1_3 (fun k_ hk => .inl (.inr (.inr hk))))
 have HB := Aside0.mk (Below.refl w.heap.size w)
 have H : (spec_l12With.l0 k l0 (([] : List (S26))) 0 a1_0 a1_1 l1_2 l1_3) = some r := h
 clear h
 obtain ⟨y205, hy205⟩ : ∃ y_ : List (S26), y_ = (([] : List (S26))) := ⟨_, rfl⟩
 replace H : (spec_l12With.l0 k l0 y205 0 a1_0 a1_1 l1_2 l1_3) = some r := by first | (rw [hy205]; with_reducible exact H) | (have H2_ := (Option.bind_some _ _).symm.trans H; rw [hy205]; with_reducible exact H2_) | (have H2_ := (Option.bind_some _ _).symm.trans H; with_reducible exact H2_) | with_reducible exact H | (rw [hy205]; exact H) | exact H
 have Ny205 := Aside0.mk hy205
 clear hy205
 have H' := Aside0.mk H
 clear H
 go_enter Tryd.func69, Tryd.ntmps69
 go_wp2_with (first | ((with_reducible refine gate_dst (N := 3) rfl ?_); refine box_event ?hg (N := 3) ?hd (cs := #[.int .i64 a1_0, .int .i64 a1_1, .slice A1_2 l1_2.length c1_2, .slice A1_3 l1_3.length c1_3]) (t := 26) ?hr ?_; (case hd => rfl); (case hg => rfl); (case hr => first | (go_simp; done) | (go_simp; rfl)); intro gb204 hg w3 hbox hb; have n0_ := Aside0.mk (Kd.V_below (Kd.V_elderB (by (with_reducible repeat (first | apply Kd.V_alloc | apply Kd.V_drewN | apply Kd.V_drew)); exact HO0.out) gb204 (Nat.le_of_eq hg.symm)) hb); have n1_ := Aside0.mk (Kd.V_below (Kd.V_elderB (by (with_reducible repeat (first | apply Kd.V_alloc | apply Kd.V_drewN | apply Kd.V_drew)); exact HO1_2.out) gb204 (Nat.le_of_eq hg.symm)) hb); have n2_ := Aside0.mk (Kd.V_below (Kd.V_elderB (by (with_reducible repeat (first | apply Kd.V_alloc | apply Kd.V_drewN | apply Kd.V_drew)); exact HO1_3.out) gb204 (Nat.le_of_eq hg.symm)) hb); have n3_ := Aside0.mk (below_step (by exact zB HB.out) hb); have n4_ := Aside0.mk (hbox); have n5_ := Aside0.mk ((by rw [hg]; exact (below_size (by exact zB HB.out)) : w.heap.size ≤ gb204)); have n6_ := Aside0.mk ((by rw [hg]; exact (below_size (by exact zB HB.out)) : w.heap.size ≤ gb204)); clear HO0; clear HO1_2; clear HO1_3; clear HB; have HO0 := n0_; have HO1_2 := n1_; have HO1_3 := n2_; have HB := n3_; have BK204 := n4_; have GW204 := n5_; have GE204 := n6_; clear n0_ n1_ n2_ n3_ n4_ n5_ n6_; clear hb hbox hg) | ((with_reducible refine gate_dst (N := 8) rfl ?_); refine Kd.N_lit k26 _ 26 ?hg (N' := 8) ?hd (xs := ([] : List (S26))) (inner := []) (ok := (fun k_ => ((P0_ k_ ∨ P1_2_ k_ ∨ P1_3_ k_) ∨ w.heap.size ≤ k_) ∧ k_ ≠ gb204)) (okp := (fun k_ => ((P0_ k_ ∨ P1_2_ k_ ∨ P1_3_ k_) ∨ w.heap.size ≤ k_) ∧ k_ ≠ gb204)) ?hr ?hp (fun _ hk => hk) ((show ∀ k_, w3.heap.size ≤ k_ → (fun k_ => ((P0_ k_ ∨ P1_2_ k_ ∨ P1_3_ k_) ∨ w.heap.size ≤ k_) ∧ k_ ≠ gb204) k_ from fun k_ hk => ⟨(.inr (Nat.le_trans (below_size (by exact zB1 HB.out GE204.out)) hk)), Kd.freshB (g := gb204) (o := .cells #[.int .i64 a1_0, .int .i64 a1_1, .slice A1_2 l1_2.length c1_2, .slice A1_3 l1_3.length c1_3] 26 (0, 0)) (by exact zK BK204.out) k_ hk⟩) _ (Nat.le_refl _)) (Below.refl _ _) (Nat.le_refl _) (by simp) ?_; (case hd => rfl); (case hg => rfl); (case hr => first | (go_simp; done) | (go_simp; rfl)); (case hp => exact (Reps.none _ _)); intro v206 w4 ho5 hb hg_ hnew_; clear hg_ hnew_; (first | rw [← Ny205.out] at ho5 | (simp only [Int.reduceToNat] at ho5; rw [← Ny205.out] at ho5)); have n0_ := Aside0.mk (Kd.V_elder' (by (with_reducible repeat (first | apply Kd.V_alloc | apply Kd.V_drewN | apply Kd.V_drew)); exact HO0.out) (Kd.N_base ho5) hb); have n1_ := Aside0.mk (Kd.V_elder' (by (with_reducible repeat (first | apply Kd.V_alloc | apply Kd.V_drewN | apply Kd.V_drew)); exact HO1_2.out) (Kd.N_base ho5) hb); have n2_ := Aside0.mk (Kd.V_elder' (by (with_reducible repeat (first | apply Kd.V_alloc | apply Kd.V_drewN | apply Kd.V_drew)); exact HO1_3.out) (Kd.N_base ho5) hb); have n3_ := Aside0.mk (Kd.N_lower ho5 (below_size (by exact zB1 HB.out GE204.out))); have n4_ := Aside0.mk (blk_below (g := gb204) (o := .cells #[.int .i64 a1_0, .int .i64 a1_1, .slice A1_2 l1_2.length c1_2, .slice A1_3 l1_3.length c1_3] 26 (0, 0)) (by exact zK BK204.out) hb); have n5_ := Aside0.mk (below_step (by exact zB1 HB.out GE204.out) hb); clear HO0; clear HO1_2; clear HO1_3; clear BK204; clear HB; have HO0 := n0_; have HO1_2 := n1_; have HO1_3 := n2_; have HO207 := n3_; have BK204 := n4_; have HB := n5_; clear n0_ n1_ n2_ n3_ n4_ n5_; clear hb ho5))
 repeat (go_quiet (first | ((with_reducible refine gate_dst (N := 3) rfl ?_); refine box_event ?hg (N := 3) ?hd (cs := #[.int .i64 a1_0, .int .i64 a1_1, .slice A1_2 l1_2.length c1_2, .slice A1_3 l1_3.length c1_3]) (t := 26) ?hr ?_; (case hd => rfl); (case hg => rfl); (case hr => first | (go_simp; done) | (go_simp; rfl)); intro gb204 hg w3 hbox hb; have n0_ := Aside0.mk (Kd.V_below (Kd.V_elderB (by (with_reducible repeat (first | apply Kd.V_alloc | apply Kd.V_drewN | apply Kd.V_drew)); exact HO0.out) gb204 (Nat.le_of_eq hg.symm)) hb); have n1_ := Aside0.mk (Kd.V_below (Kd.V_elderB (by (with_reducible repeat (first | apply Kd.V_alloc | apply Kd.V_drewN | apply Kd.V_drew)); exact HO1_2.out) gb204 (Nat.le_of_eq hg.symm)) hb); have n2_ := Aside0.mk (Kd.V_below (Kd.V_elderB (by (with_reducible repeat (first | apply Kd.V_alloc | apply Kd.V_drewN | apply Kd.V_drew)); exact HO1_3.out) gb204 (Nat.le_of_eq hg.symm)) hb); have n3_ := Aside0.mk (below_step (by exact zB HB.out) hb); have n4_ := Aside0.mk (hbox); have n5_ := Aside0.mk ((by rw [hg]; exact (below_size (by exact zB HB.out)) : w.heap.size ≤ gb204)); have n6_ := Aside0.mk ((by rw [hg]; exact (below_size (by exact zB HB.out)) : w.heap.size ≤ gb204)); clear HO0; clear HO1_2; clear HO1_3; clear HB; have HO0 := n0_; have HO1_2 := n1_; have HO1_3 := n2_; have HB := n3_; have BK204 := n4_; have GW204 := n5_; have GE204 := n6_; clear n0_ n1_ n2_ n3_ n4_ n5_ n6_; clear hb hbox hg) | ((with_reducible refine gate_dst (N := 8) rfl ?_); refine Kd.N_lit k26 _ 26 ?hg (N' := 8) ?hd (xs := ([] : List (S26))) (inner := []) (ok := (fun k_ => ((P0_ k_ ∨ P1_2_ k_ ∨ P1_3_ k_) ∨ w.heap.size ≤ k_) ∧ k_ ≠ gb204)) (okp := (fun k_ => ((P0_ k_ ∨ P1_2_ k_ ∨ P1_3_ k_) ∨ w.heap.size ≤ k_) ∧ k_ ≠ gb204)) ?hr ?hp (fun _ hk => hk) ((show ∀ k_, w3.heap.size ≤ k_ → (fun k_ => ((P0_ k_ ∨ P1_2_ k_ ∨ P1_3_ k_) ∨ w.heap.size ≤ k_) ∧ k_ ≠ gb204) k_ from fun k_ hk => ⟨(.inr (Nat.le_trans (below_size (by exact zB1 HB.out GE204.out)) hk)), Kd.freshB (g := gb204) (o := .cells #[.int .i64 a1_0, .int .i64 a1_1, .slice A1_2 l1_2.length c1_2, .slice A1_3 l1_3.length c1_3] 26 (0, 0)) (by exact zK BK204.out) k_ hk⟩) _ (Nat.le_refl _)) (Below.refl _ _) (Nat.le_refl _) (by simp) ?_; (case hd => rfl); (case hg => rfl); (case hr => first | (go_simp; done) | (go_simp; rfl)); (case hp => exact (Reps.none _ _)); intro v206 w4 ho5 hb hg_ hnew_; clear hg_ hnew_; (first | rw [← Ny205.out] at ho5 | (simp only [Int.reduceToNat] at ho5; rw [← Ny205.out] at ho5)); have n0_ := Aside0.mk (Kd.V_elder' (by (with_reducible repeat (first | apply Kd.V_alloc | apply Kd.V_drewN | apply Kd.V_drew)); exact HO0.out) (Kd.N_base ho5) hb); have n1_ := Aside0.mk (Kd.V_elder' (by (with_reducible repeat (first | apply Kd.V_alloc | apply Kd.V_drewN | apply Kd.V_drew)); exact HO1_2.out) (Kd.N_base ho5) hb); have n2_ := Aside0.mk (Kd.V_elder' (by (with_reducible repeat (first | apply Kd.V_alloc | apply Kd.V_drewN | apply Kd.V_drew)); exact HO1_3.out) (Kd.N_base ho5) hb); have n3_ := Aside0.mk (Kd.N_lower ho5 (below_size (by exact zB1 HB.out GE204.out))); have n4_ := Aside0.mk (blk_below (g := gb204) (o := .cells #[.int .i64 a1_0, .int .i64 a1_1, .slice A1_2 l1_2.length c1_2, .slice A1_3 l1_3.length c1_3] 26 (0, 0)) (by exact zK BK204.out) hb); have n5_ := Aside0.mk (below_step (by exact zB1 HB.out GE204.out) hb); clear HO0; clear HO1_2; clear HO1_3; clear BK204; clear HB; have HO0 := n0_; have HO1_2 := n1_; have HO1_3 := n2_; have HO207 := n3_; have BK204 := n4_; have HB := n5_; clear n0_ n1_ n2_ n3_ n4_ n5_; clear hb ho5)); try go_wp2_with (first | ((with_reducible refine gate_dst (N := 3) rfl ?_); refine box_event ?hg (N := 3) ?hd (cs := #[.int .i64 a1_0, .int .i64 a1_1, .slice A1_2 l1_2.length c1_2, .slice A1_3 l1_3.length c1_3]) (t := 26) ?hr ?_; (case hd => rfl); (case hg => rfl); (case hr => first | (go_simp; done) | (go_simp; rfl)); intro gb204 hg w3 hbox hb; have n0_ := Aside0.mk (Kd.V_below (Kd.V_elderB (by (with_reducible repeat (first | apply Kd.V_alloc | apply Kd.V_drewN | apply Kd.V_drew)); exact HO0.out) gb204 (Nat.le_of_eq hg.symm)) hb); have n1_ := Aside0.mk (Kd.V_below (Kd.V_elderB (by (with_reducible repeat (first | apply Kd.V_alloc | apply Kd.V_drewN | apply Kd.V_drew)); exact HO1_2.out) gb204 (Nat.le_of_eq hg.symm)) hb); have n2_ := Aside0.mk (Kd.V_below (Kd.V_elderB (by (with_reducible repeat (first | apply Kd.V_alloc | apply Kd.V_drewN | apply Kd.V_drew)); exact HO1_3.out) gb204 (Nat.le_of_eq hg.symm)) hb); have n3_ := Aside0.mk (below_step (by exact zB HB.out) hb); have n4_ := Aside0.mk (hbox); have n5_ := Aside0.mk ((by rw [hg]; exact (below_size (by exact zB HB.out)) : w.heap.size ≤ gb204)); have n6_ := Aside0.mk ((by rw [hg]; exact (below_size (by exact zB HB.out)) : w.heap.size ≤ gb204)); clear HO0; clear HO1_2; clear HO1_3; clear HB; have HO0 := n0_; have HO1_2 := n1_; have HO1_3 := n2_; have HB := n3_; have BK204 := n4_; have GW204 := n5_; have GE204 := n6_; clear n0_ n1_ n2_ n3_ n4_ n5_ n6_; clear hb hbox hg) | ((with_reducible refine gate_dst (N := 8) rfl ?_); refine Kd.N_lit k26 _ 26 ?hg (N' := 8) ?hd (xs := ([] : List (S26))) (inner := []) (ok := (fun k_ => ((P0_ k_ ∨ P1_2_ k_ ∨ P1_3_ k_) ∨ w.heap.size ≤ k_) ∧ k_ ≠ gb204)) (okp := (fun k_ => ((P0_ k_ ∨ P1_2_ k_ ∨ P1_3_ k_) ∨ w.heap.size ≤ k_) ∧ k_ ≠ gb204)) ?hr ?hp (fun _ hk => hk) ((show ∀ k_, w3.heap.size ≤ k_ → (fun k_ => ((P0_ k_ ∨ P1_2_ k_ ∨ P1_3_ k_) ∨ w.heap.size ≤ k_) ∧ k_ ≠ gb204) k_ from fun k_ hk => ⟨(.inr (Nat.le_trans (below_size (by exact zB1 HB.out GE204.out)) hk)), Kd.freshB (g := gb204) (o := .cells #[.int .i64 a1_0, .int .i64 a1_1, .slice A1_2 l1_2.length c1_2, .slice A1_3 l1_3.length c1_3] 26 (0, 0)) (by exact zK BK204.out) k_ hk⟩) _ (Nat.le_refl _)) (Below.refl _ _) (Nat.le_refl _) (by simp) ?_; (case hd => rfl); (case hg => rfl); (case hr => first | (go_simp; done) | (go_simp; rfl)); (case hp => exact (Reps.none _ _)); intro v206 w4 ho5 hb hg_ hnew_; clear hg_ hnew_; (first | rw [← Ny205.out] at ho5 | (simp only [Int.reduceToNat] at ho5; rw [← Ny205.out] at ho5)); have n0_ := Aside0.mk (Kd.V_elder' (by (with_reducible repeat (first | apply Kd.V_alloc | apply Kd.V_drewN | apply Kd.V_drew)); exact HO0.out) (Kd.N_base ho5) hb); have n1_ := Aside0.mk (Kd.V_elder' (by (with_reducible repeat (first | apply Kd.V_alloc | apply Kd.V_drewN | apply Kd.V_drew)); exact HO1_2.out) (Kd.N_base ho5) hb); have n2_ := Aside0.mk (Kd.V_elder' (by (with_reducible repeat (first | apply Kd.V_alloc | apply Kd.V_drewN | apply Kd.V_drew)); exact HO1_3.out) (Kd.N_base ho5) hb); have n3_ := Aside0.mk (Kd.N_lower ho5 (below_size (by exact zB1 HB.out GE204.out))); have n4_ := Aside0.mk (blk_below (g := gb204) (o := .cells #[.int .i64 a1_0, .int .i64 a1_1, .slice A1_2 l1_2.length c1_2, .slice A1_3 l1_3.length c1_3] 26 (0, 0)) (by exact zK BK204.out) hb); have n5_ := Aside0.mk (below_step (by exact zB1 HB.out GE204.out) hb); clear HO0; clear HO1_2; clear HO1_3; clear BK204; clear HB; have HO0 := n0_; have HO1_2 := n1_; have HO1_3 := n2_; have HO207 := n3_; have BK204 := n4_; have HB := n5_; clear n0_ n1_ n2_ n3_ n4_ n5_; clear hb ho5)))
 go_loopg [5, 6] k (fun kq v5 v6 w' => ∃ (x5_1 : List (S26)) (x6_1 : Int), v6 = .int .i64 x6_1 ∧ Aside0 (spec_l12With.l0 kq l0 x5_1 x6_1 a1_0 a1_1 l1_2 l1_3 = some r) ∧ Aside0 (kq ≤ k) ∧ Aside0 (Kd.V k26 26 w' w.heap.size (fun k_ => ((P0_ k_ ∨ P1_2_ k_ ∨ P1_3_ k_) ∨ w.heap.size ≤ k_) ∧ some k_ ≠ (v5 : Value).ownBlock ∧ k_ ≠ gb204) (.slice A0 l0.length c0) l0) ∧ Aside0 (Kd.N k26 26 w' w.heap.size (fun k_ => ((P0_ k_ ∨ P1_2_ k_ ∨ P1_3_ k_) ∨ w.heap.size ≤ k_) ∧ k_ ≠ gb204) v5 x5_1) ∧ Aside0 (Kd.V k63 63 w' w.heap.size (fun k_ => ((P0_ k_ ∨ P1_2_ k_ ∨ P1_3_ k_) ∨ w.heap.size ≤ k_) ∧ some k_ ≠ (v5 : Value).ownBlock ∧ k_ ≠ gb204) (.slice A1_2 l1_2.length c1_2) l1_2) ∧ Aside0 (Kd.V k66 66 w' w.heap.size (fun k_ => ((P0_ k_ ∨ P1_2_ k_ ∨ P1_3_ k_) ∨ w.heap.size ≤ k_) ∧ some k_ ≠ (v5 : Value).ownBlock ∧ k_ ≠ gb204) (.slice A1_3 l1_3.length c1_3) l1_3) ∧ Aside0 (w'.heap[gb204]? = some (.cells #[.int .i64 a1_0, .int .i64 a1_1, (.slice A1_2 l1_2.length c1_2), (.slice A1_3 l1_3.length c1_3)] 26 (0, 0))) ∧ Aside0 (Below w.heap.size w w'))
 case atStart => exact ⟨(y205), (0), (by first | rfl | (simp; done) | (simp [*]; done)), H', ⟨Nat.le_refl _⟩, ⟨by (with_reducible repeat (first | apply Kd.V_alloc | apply Kd.V_drewN | apply Kd.V_drew)); exact Kd.V_mono HO0.out (fun _ hk => ⟨hk.1.1, ⟨hk.2, hk.1.2⟩⟩)⟩, ⟨by exact zN HO207.out⟩, ⟨by (with_reducible repeat (first | apply Kd.V_alloc | apply Kd.V_drewN | apply Kd.V_drew)); exact Kd.V_mono HO1_2.out (fun _ hk => ⟨hk.1.1, ⟨hk.2, hk.1.2⟩⟩)⟩, ⟨by (with_reducible repeat (first | apply Kd.V_alloc | apply Kd.V_drewN | apply Kd.V_drew)); exact Kd.V_mono HO1_3.out (fun _ hk => ⟨hk.1.1, ⟨hk.2, hk.1.2⟩⟩)⟩, ⟨by exact zK BK204.out⟩, ⟨by exact zB1 HB.out GE204.out⟩⟩
 case round =>
  clear H'
  try clear c1
  try clear p2
  obtain ⟨x5_1, x6_1, rfl, HA, HK1, HO_0, HO_5, HO_205002, HO_205003, BK204, HB⟩ := hrel
  cases gk with
  | zero => exact absurd HA.out (by simp [spec_l12With.l0])
  | succ k1 =>
   have H := HA.out
   clear HA
   simp only [spec_l12With.l0] at H
   by_cases c6 : x6_1 < (l0.length : Int)
   ·rw [if_pos c6] at H
    have c6b0 : decide (x6_1 < (l0.length : Int)) = true := decide_eq_true c6
    clear c6
    by_cases c7 : 0 ≤ x6_1
    ·rw [if_pos c7] at H
     have c7b0 : decide (0 ≤ x6_1) = true := decide_eq_true c7
     clear c7
     replace H := Option.bind_eq_some_iff.mp H
     obtain ⟨t210, A80, H⟩ := H
     replace H : (if t210 = true then (if x5_1.length < 2199023255552 then (spec_l12With.l0 k1 l0 (x5_1 ++ [(⟨(rd_T26 l0 x6_1).f0, (rd_T26 l0 x6_1).f1, (rd_T26 l0 x6_1).f2, (rd_T26 l0 x6_1).f3⟩ : S26)]) (wrap64 (x6_1 + 1)) a1_0 a1_1 l1_2 l1_3) else (none)) else (spec_l12With.l0 k1 l0 x5_1 (wrap64 (x6_1 + 1)) a1_0 a1_1 l1_2 l1_3)) = some r := H
     have A8 := Aside0.mk A80
     clear A80
     by_cases c9 : t210 = true
     ·subst c9
      have H1 : (if x5_1.length < 2199023255552 then (spec_l12With.l0 k1 l0 (x5_1 ++ [(⟨(rd_T26 l0 x6_1).f0, (rd_T26 l0 x6_1).f1, (rd_T26 l0 x6_1).f2, (rd_T26 l0 x6_1).f3⟩ : S26)]) (wrap64 (x6_1 + 1)) a1_0 a1_1 l1_2 l1_3) else (none)) = some r := by rw [if_pos rfl] at H; exact H
      clear H
      have H := H1
      clear H1
      by_cases c10 : x5_1.length < 2199023255552
      ·rw [if_pos c10] at H
       have LMc10 := Aside0.mk c10
       clear c10
       obtain ⟨y212, hy212⟩ : ∃ y_ : List (S26), y_ = (x5_1 ++ [(⟨(rd_T26 l0 x6_1).f0, (rd_T26 l0 x6_1).f1, (rd_T26 l0 x6_1).f2, (rd_T26 l0 x6_1).f3⟩ : S26)]) := ⟨_, rfl⟩
       replace H : (spec_l12With.l0 k1 l0 y212 (wrap64 (x6_1 + 1)) a1_0 a1_1 l1_2 l1_3) = some r := by first | (rw [hy212]; with_reducible exact H) | (have H2_ := (Option.bind_some _ _).symm.trans H; rw [hy212]; with_reducible exact H2_) | (have H2_ := (Option.bind_some _ _).symm.trans H; with_reducible exact H2_) | with_reducible exact H | (rw [hy212]; exact H) | exact H
       have Ny212 := Aside0.mk hy212
       clear hy212
       have H' := Aside0.mk H
       clear H
       have p208 : 0 ≤ (x6_1 : Int) := of_decide_eq_true (by first | (with_reducible assumption) | assumption)
       have q208 : x6_1 < (l0.length : Int) := of_decide_eq_true (by first | (with_reducible assumption) | assumption)
       obtain ⟨ad208, A208_2, c208_2, A208_3, c208_3, e208, hx208_0, hx208_1, hx208_2, hx208_3, hl208_2, hi208_2, hl208_3, hi208_3⟩ := at_T26 (Kd.V_reads' HO_0.out).2.2 x6_1 p208 q208
       cases e208
       obtain ⟨ce208, hce208, hMe208, hcc208⟩ := Kd.V_get HO_0.out z26 x6_1 p208 (by first | exact q208 | exact of_decide_eq_true (by first | (with_reducible assumption) | assumption) | (have e_ := (Kd.V_reads' HO_0.out).1; omega))
       obtain ⟨ua208_2, uc208_2, ua208_3, uc208_3, rfl, ul208_2, ge208_2, ul208_3, ge208_3⟩ := k26_openF hMe208
       have hv208_2 := hcc208 2 _ rfl
       rw [add_field _ _ 2 (by omega)] at hv208_2
       replace hv208_2 := Option.some.inj (hv208_2.symm.trans hx208_2)
       injection hv208_2 with hva_ hvn_ hvc_
       rw [hva_] at ge208_2
       rw [hvc_] at ul208_2
       have HL208_2 := Aside0.mk (show Kd.V k63 63 _ w.heap.size _ _ ((rd_T26 l0 x6_1).f2) from Kd.V_mk ul208_2 ge208_2)
       clear hva_ hvn_ hvc_ ge208_2 ul208_2
       have hv208_3 := hcc208 3 _ rfl
       rw [add_field _ _ 3 (by omega)] at hv208_3
       replace hv208_3 := Option.some.inj (hv208_3.symm.trans hx208_3)
       injection hv208_3 with hva_ hvn_ hvc_
       rw [hva_] at ge208_3
       rw [hvc_] at ul208_3
       have HL208_3 := Aside0.mk (show Kd.V k66 66 _ w.heap.size _ _ ((rd_T26 l0 x6_1).f3) from Kd.V_mk ul208_3 ge208_3)
       clear hva_ hvn_ hvc_ ge208_3 ul208_3
       clear hcc208 hce208
       have HR208_2 := Aside0.mk hi208_2
       have HC208_2 := Aside0.mk hl208_2
       clear hi208_2 hl208_2
       have HR208_3 := Aside0.mk hi208_3
       have HC208_3 := Aside0.mk hl208_3
       clear hi208_3 hl208_3
       replace p208 := eq_true p208
       replace q208 := eq_true q208
       have p209 : 0 ≤ (x6_1 : Int) := of_decide_eq_true (by first | (with_reducible assumption) | assumption)
       have q209 : x6_1 < (l0.length : Int) := of_decide_eq_true (by first | (with_reducible assumption) | assumption)
       obtain ⟨ad209, A209_2, c209_2, A209_3, c209_3, e209, hx209_0, hx209_1, hx209_2, hx209_3, hl209_2, hi209_2, hl209_3, hi209_3⟩ := at_T26 (Kd.V_reads' HO_0.out).2.2 x6_1 p209 q209
       obtain rfl : ad208 = ad209 := (by injection e209)
       obtain ⟨ce209, hce209, hMe209, hcc209⟩ := Kd.V_get HO_0.out z26 x6_1 p209 (by first | exact q209 | exact of_decide_eq_true (by first | (with_reducible assumption) | assumption) | (have e_ := (Kd.V_reads' HO_0.out).1; omega))
       obtain ⟨ua209_2, uc209_2, ua209_3, uc209_3, rfl, ul209_2, ge209_2, ul209_3, ge209_3⟩ := k26_openF hMe209
       have hv209_2 := hcc209 2 _ rfl
       rw [add_field _ _ 2 (by omega)] at hv209_2
       replace hv209_2 := Option.some.inj (hv209_2.symm.trans hx209_2)
       injection hv209_2 with hva_ hvn_ hvc_
       rw [hva_] at ge209_2
       rw [hvc_] at ul209_2
       have HL209_2 := Aside0.mk (show Kd.V k63 63 _ w.heap.size _ _ ((rd_T26 l0 x6_1).f2) from Kd.V_mk ul209_2 ge209_2)
       clear hva_ hvn_ hvc_ ge209_2 ul209_2
       have hv209_3 := hcc209 3 _ rfl
       rw [add_field _ _ 3 (by omega)] at hv209_3
       replace hv209_3 := Option.some.inj (hv209_3.symm.trans hx209_3)
       injection hv209_3 with hva_ hvn_ hvc_
       rw [hva_] at ge209_3
       rw [hvc_] at ul209_3
       have HL209_3 := Aside0.mk (show Kd.V k66 66 _ w.heap.size _ _ ((rd_T26 l0 x6_1).f3) from Kd.V_mk ul209_3 ge209_3)
       clear hva_ hvn_ hvc_ ge209_3 ul209_3
       clear hcc209 hce209
       have HR209_2 := Aside0.mk hi209_2
       have HC209_2 := Aside0.mk hl209_2
       clear hi209_2 hl209_2
       have HR209_3 := Aside0.mk hi209_3
       have HC209_3 := Aside0.mk hl209_3
       clear hi209_3 hl209_3
       replace p209 := eq_true p209
       replace q209 := eq_true q209
       have ea_ := Option.some.inj (hx208_2.symm.trans hx209_2)
       injection ea_ with ea_ en_ ec_
       subst ea_
       subst ec_
       clear en_
       have ea_ := Option.some.inj (hx208_3.symm.trans hx209_3)
       injection ea_ with ea_ en_ ec_
       subst ea_
       subst ec_
       clear en_
       obtain ⟨hcz11_0, hcz11_1, hcz11_2, hcz11_3, hfz11_0, hfz11_1, hfz11_2, hfz11_3⟩ := zc4f BK204.out
       go_wp2_with (first | (go_at_call 55; (with_reducible refine (spec_l3Less.calls ((rd_T26 l0 x6_1).f0) ((rd_T26 l0 x6_1).f1) a1_0 a1_1 true _ A8.out).mono ?_); rintro e w' ⟨rfl, ⟨nd, rfl⟩⟩; (try first | exact ⟨rfl, _, World.drewN_drewN _ _ _⟩ | exact ⟨rfl, _, Eq.trans (World.drewN_drewN _ _ _) (congrArg (World.drewN _) (Nat.add_assoc _ _ _))⟩); have p211 : 0 ≤ (x6_1 : Int) := of_decide_eq_true (by first | (with_reducible assumption) | assumption); have q211 : x6_1 < (l0.length : Int) := of_decide_eq_true (by first | (with_reducible assumption) | assumption); obtain ⟨ad211, A211_2, c211_2, A211_3, c211_3, e211, hx211_0, hx211_1, hx211_2, hx211_3, hl211_2, hi211_2, hl211_3, hi211_3⟩ := at_T26 (Kd.V_reads' HO_0.out).2.2 x6_1 p211 q211; obtain rfl : ad208 = ad211 := (by injection e211); obtain ⟨ce211, hce211, hMe211, hcc211⟩ := Kd.V_get HO_0.out z26 x6_1 p211 (by first | exact q211 | exact of_decide_eq_true (by first | (with_reducible assumption) | assumption) | (have e_ := (Kd.V_reads' HO_0.out).1; omega)); obtain ⟨ua211_2, uc211_2, ua211_3, uc211_3, rfl, ul211_2, ge211_2, ul211_3, ge211_3⟩ := k26_openF hMe211; have hv211_2 := hcc211 2 _ rfl; rw [add_field _ _ 2 (by omega)] at hv211_2; replace hv211_2 := Option.some.inj (hv211_2.symm.trans hx211_2); injection hv211_2 with hva_ hvn_ hvc_; rw [hva_] at ge211_2; rw [hvc_] at ul211_2; have HL211_2 := Aside0.mk (show Kd.V k63 63 _ w.heap.size _ _ ((rd_T26 l0 x6_1).f2) from Kd.V_mk ul211_2 ge211_2); clear hva_ hvn_ hvc_ ge211_2 ul211_2; have hv211_3 := hcc211 3 _ rfl; rw [add_field _ _ 3 (by omega)] at hv211_3; replace hv211_3 := Option.some.inj (hv211_3.symm.trans hx211_3); injection hv211_3 with hva_ hvn_ hvc_; rw [hva_] at ge211_3; rw [hvc_] at ul211_3; have HL211_3 := Aside0.mk (show Kd.V k66 66 _ w.heap.size _ _ ((rd_T26 l0 x6_1).f3) from Kd.V_mk ul211_3 ge211_3); clear hva_ hvn_ hvc_ ge211_3 ul211_3; clear hcc211 hce211; have HR211_2 := Aside0.mk hi211_2; have HC211_2 := Aside0.mk hl211_2; clear hi211_2 hl211_2; have HR211_3 := Aside0.mk hi211_3; have HC211_3 := Aside0.mk hl211_3; clear hi211_3 hl211_3; replace p211 := eq_true p211; replace q211 := eq_true q211; have ea_ := Option.some.inj (hx208_2.symm.trans hx211_2); injection ea_ with ea_ en_ ec_; subst ea_; subst ec_; clear en_; have ea_ := Option.some.inj (hx208_3.symm.trans hx211_3); injection ea_ with ea_ en_ ec_; subst ea_; subst ec_; clear en_) | ((with_reducible refine gate_builtin (b := .append) (xs := #[.tmp 30, .tmp 35]) rfl ?_); at_builtin; refine Kd.N_append k26 (w0 := w) w.heap.size rfl (.tmp 30) (.tmp 35) 103 26 (.agg #[(.int .i64 0), (.int .i64 0), (.slice none 0 0), (.slice none 0 0)]) 64 rfl Tryd.underlying103 info26 rfl (by decide) (by omega) u5 x5_1 (⟨(rd_T26 l0 x6_1).f0, (rd_T26 l0 x6_1).f1, (rd_T26 l0 x6_1).f2, (rd_T26 l0 x6_1).f3⟩ : S26) [.int .i64 ((rd_T26 l0 x6_1).f0), .int .i64 ((rd_T26 l0 x6_1).f1), .slice A208_2 ((rd_T26 l0 x6_1).f2).length c208_2, .slice A208_3 ((rd_T26 l0 x6_1).f3).length c208_3] (fun k_ => ((P0_ k_ ∨ P1_2_ k_ ∨ P1_3_ k_) ∨ w.heap.size ≤ k_) ∧ k_ ≠ gb204) (fun k_ => ((fun k_ => ((P0_ k_ ∨ P1_2_ k_ ∨ P1_3_ k_) ∨ w.heap.size ≤ k_) ∧ k_ ≠ gb204)) k_ ∧ some k_ ≠ (u5 : Value).ownBlock) rfl rfl ?aP (fun _ hk => hk) ?aF ?aO ?aB ?aS ?aL ?_; (case aP => exact (k26_mkF _ _ (⟨(rd_T26 l0 x6_1).f0, (rd_T26 l0 x6_1).f1, (rd_T26 l0 x6_1).f2, (rd_T26 l0 x6_1).f3⟩ : S26) (Kd.V_reads' (Kd.V_mono (ok' := (fun k_ => ((fun k_ => ((P0_ k_ ∨ P1_2_ k_ ∨ P1_3_ k_) ∨ w.heap.size ≤ k_) ∧ k_ ≠ gb204)) k_ ∧ some k_ ≠ (u5 : Value).ownBlock)) (HL211_2.out) (fun k_ hk => ⟨⟨hk.1, hk.2.2⟩, hk.2.1⟩))).2.1 (Kd.V_F (Kd.V_mono (ok' := (fun k_ => ((fun k_ => ((P0_ k_ ∨ P1_2_ k_ ∨ P1_3_ k_) ∨ w.heap.size ≤ k_) ∧ k_ ≠ gb204)) k_ ∧ some k_ ≠ (u5 : Value).ownBlock)) (HL211_2.out) (fun k_ hk => ⟨⟨hk.1, hk.2.2⟩, hk.2.1⟩))) (Kd.V_reads' (Kd.V_mono (ok' := (fun k_ => ((fun k_ => ((P0_ k_ ∨ P1_2_ k_ ∨ P1_3_ k_) ∨ w.heap.size ≤ k_) ∧ k_ ≠ gb204)) k_ ∧ some k_ ≠ (u5 : Value).ownBlock)) (HL211_3.out) (fun k_ hk => ⟨⟨hk.1, hk.2.2⟩, hk.2.1⟩))).2.1 (Kd.V_F (Kd.V_mono (ok' := (fun k_ => ((fun k_ => ((P0_ k_ ∨ P1_2_ k_ ∨ P1_3_ k_) ∨ w.heap.size ≤ k_) ∧ k_ ≠ gb204)) k_ ∧ some k_ ≠ (u5 : Value).ownBlock)) (HL211_3.out) (fun k_ hk => ⟨⟨hk.1, hk.2.2⟩, hk.2.1⟩))))); (case aB => exact (by exact zB1 HB.out GE204.out)); (case aF => exact (fun k_ hk => ⟨(.inr (Nat.le_trans (below_size (by exact zB1 HB.out GE204.out)) hk)), Kd.freshB (g := gb204) (o := .cells #[.int .i64 a1_0, .int .i64 a1_1, .slice A1_2 l1_2.length c1_2, .slice A1_3 l1_3.length c1_3] 26 (0, 0)) (by exact zK BK204.out) k_ hk⟩)); (case aO => exact (by exact zN HO_5.out)); (case aS => exact (below_size (by exact zB1 HB.out GE204.out))); (case aL => have := LMc10.out; omega); intro v213 w12 ho hb hg hat; rw [← Ny212.out] at ho; have n0_ := Aside0.mk (Kd.V_afterv (ok := (fun k_ => ((P0_ k_ ∨ P1_2_ k_ ∨ P1_3_ k_) ∨ w.heap.size ≤ k_) ∧ k_ ≠ gb204)) (by (with_reducible repeat (first | apply Kd.V_alloc | apply Kd.V_drewN | apply Kd.V_drew)); exact Kd.V_mono HO_0.out (fun _ hk => ⟨⟨hk.1, hk.2.2⟩, hk.2.1⟩)) hg hat); have n1_ := Aside0.mk (Kd.V_afterv (ok := (fun k_ => ((P0_ k_ ∨ P1_2_ k_ ∨ P1_3_ k_) ∨ w.heap.size ≤ k_) ∧ k_ ≠ gb204)) (by (with_reducible repeat (first | apply Kd.V_alloc | apply Kd.V_drewN | apply Kd.V_drew)); exact Kd.V_mono HO_205002.out (fun _ hk => ⟨⟨hk.1, hk.2.2⟩, hk.2.1⟩)) hg hat); have n2_ := Aside0.mk (Kd.V_afterv (ok := (fun k_ => ((P0_ k_ ∨ P1_2_ k_ ∨ P1_3_ k_) ∨ w.heap.size ≤ k_) ∧ k_ ≠ gb204)) (by (with_reducible repeat (first | apply Kd.V_alloc | apply Kd.V_drewN | apply Kd.V_drew)); exact Kd.V_mono HO_205003.out (fun _ hk => ⟨⟨hk.1, hk.2.2⟩, hk.2.1⟩)) hg hat); have n3_ := Aside0.mk (blk_grown (g := gb204) (o := .cells #[.int .i64 a1_0, .int .i64 a1_1, .slice A1_2 l1_2.length c1_2, .slice A1_3 l1_3.length c1_3] 26 (0, 0)) (by exact zK BK204.out) hg (Kd.N_away HO_5.out (fun _ hk => hk.2))); have n4_ := Aside0.mk (Kd.V_afterv (ok := (fun k_ => ((P0_ k_ ∨ P1_2_ k_ ∨ P1_3_ k_) ∨ w.heap.size ≤ k_) ∧ k_ ≠ gb204)) (by (with_reducible repeat (first | apply Kd.V_alloc | apply Kd.V_drewN | apply Kd.V_drew)); exact Kd.V_mono HL208_2.out (fun _ hk => ⟨⟨hk.1, hk.2.2⟩, hk.2.1⟩)) hg hat); have n5_ := Aside0.mk (Kd.V_afterv (ok := (fun k_ => ((P0_ k_ ∨ P1_2_ k_ ∨ P1_3_ k_) ∨ w.heap.size ≤ k_) ∧ k_ ≠ gb204)) (by (with_reducible repeat (first | apply Kd.V_alloc | apply Kd.V_drewN | apply Kd.V_drew)); exact Kd.V_mono HL208_3.out (fun _ hk => ⟨⟨hk.1, hk.2.2⟩, hk.2.1⟩)) hg hat); have n6_ := Aside0.mk (Kd.V_afterv (ok := (fun k_ => ((P0_ k_ ∨ P1_2_ k_ ∨ P1_3_ k_) ∨ w.heap.size ≤ k_) ∧ k_ ≠ gb204)) (by (with_reducible repeat (first | apply Kd.V_alloc | apply Kd.V_drewN | apply Kd.V_drew)); exact Kd.V_mono HL209_2.out (fun _ hk => ⟨⟨hk.1, hk.2.2⟩, hk.2.1⟩)) hg hat); have n7_ := Aside0.mk (Kd.V_afterv (ok := (fun k_ => ((P0_ k_ ∨ P1_2_ k_ ∨ P1_3_ k_) ∨ w.heap.size ≤ k_) ∧ k_ ≠ gb204)) (by (with_reducible repeat (first | apply Kd.V_alloc | apply Kd.V_drewN | apply Kd.V_drew)); exact Kd.V_mono HL209_3.out (fun _ hk => ⟨⟨hk.1, hk.2.2⟩, hk.2.1⟩)) hg hat); have n8_ := Aside0.mk (Kd.V_afterv (ok := (fun k_ => ((P0_ k_ ∨ P1_2_ k_ ∨ P1_3_ k_) ∨ w.heap.size ≤ k_) ∧ k_ ≠ gb204)) (by (with_reducible repeat (first | apply Kd.V_alloc | apply Kd.V_drewN | apply Kd.V_drew)); exact Kd.V_mono HL211_2.out (fun _ hk => ⟨⟨hk.1, hk.2.2⟩, hk.2.1⟩)) hg hat); have n9_ := Aside0.mk (Kd.V_afterv (ok := (fun k_ => ((P0_ k_ ∨ P1_2_ k_ ∨ P1_3_ k_) ∨ w.heap.size ≤ k_) ∧ k_ ≠ gb204)) (by (with_reducible repeat (first | apply Kd.V_alloc | apply Kd.V_drewN | apply Kd.V_drew)); exact Kd.V_mono HL211_3.out (fun _ hk => ⟨⟨hk.1, hk.2.2⟩, hk.2.1⟩)) hg hat); have n10_ := Aside0.mk (hb); have n11_ := Aside0.mk (ho); clear HO_0; clear HO_205002; clear HO_205003; clear BK204; clear HL208_2; clear HL208_3; clear HL209_2; clear HL209_3; clear HL211_2; clear HL211_3; clear HB; clear HO_5; have HO_0 := n0_; have HO_205002 := n1_; have HO_205003 := n2_; have BK204 := n3_; have HL208_2 := n4_; have HL208_3 := n5_; have HL209_2 := n6_; have HL209_3 := n7_; have HL211_2 := n8_; have HL211_3 := n9_; have HB := n10_; have HO214 := n11_; clear n0_ n1_ n2_ n3_ n4_ n5_ n6_ n7_ n8_ n9_ n10_ n11_; clear ho hb hg hat))
       repeat (go_quiet (first | (go_at_call 55; (with_reducible refine (spec_l3Less.calls ((rd_T26 l0 x6_1).f0) ((rd_T26 l0 x6_1).f1) a1_0 a1_1 true _ A8.out).mono ?_); rintro e w' ⟨rfl, ⟨nd, rfl⟩⟩; (try first | exact ⟨rfl, _, World.drewN_drewN _ _ _⟩ | exact ⟨rfl, _, Eq.trans (World.drewN_drewN _ _ _) (congrArg (World.drewN _) (Nat.add_assoc _ _ _))⟩); have p211 : 0 ≤ (x6_1 : Int) := of_decide_eq_true (by first | (with_reducible assumption) | assumption); have q211 : x6_1 < (l0.length : Int) := of_decide_eq_true (by first | (with_reducible assumption) | assumption); obtain ⟨ad211, A211_2, c211_2, A211_3, c211_3, e211, hx211_0, hx211_1, hx211_2, hx211_3, hl211_2, hi211_2, hl211_3, hi211_3⟩ := at_T26 (Kd.V_reads' HO_0.out).2.2 x6_1 p211 q211; obtain rfl : ad208 = ad211 := (by injection e211); obtain ⟨ce211, hce211, hMe211, hcc211⟩ := Kd.V_get HO_0.out z26 x6_1 p211 (by first | exact q211 | exact of_decide_eq_true (by first | (with_reducible assumption) | assumption) | (have e_ := (Kd.V_reads' HO_0.out).1; omega)); obtain ⟨ua211_2, uc211_2, ua211_3, uc211_3, rfl, ul211_2, ge211_2, ul211_3, ge211_3⟩ := k26_openF hMe211; have hv211_2 := hcc211 2 _ rfl; rw [add_field _ _ 2 (by omega)] at hv211_2; replace hv211_2 := Option.some.inj (hv211_2.symm.trans hx211_2); injection hv211_2 with hva_ hvn_ hvc_; rw [hva_] at ge211_2; rw [hvc_] at ul211_2; have HL211_2 := Aside0.mk (show Kd.V k63 63 _ w.heap.size _ _ ((rd_T26 l0 x6_1).f2) from Kd.V_mk ul211_2 ge211_2); clear hva_ hvn_ hvc_ ge211_2 ul211_2; have hv211_3 := hcc211 3 _ rfl; rw [add_field _ _ 3 (by omega)] at hv211_3; replace hv211_3 := Option.some.inj (hv211_3.symm.trans hx211_3); injection hv211_3 with hva_ hvn_ hvc_; rw [hva_] at ge211_3; rw [hvc_] at ul211_3; have HL211_3 := Aside0.mk (show Kd.V k66 66 _ w.heap.size _ _ ((rd_T26 l0 x6_1).f3) from Kd.V_mk ul211_3 ge211_3); clear hva_ hvn_ hvc_ ge211_3 ul211_3; clear hcc211 hce211; have HR211_2 := Aside0.mk hi211_2; have HC211_2 := Aside0.mk hl211_2; clear hi211_2 hl211_2; have HR211_3 := Aside0.mk hi211_3; have HC211_3 := Aside0.mk hl211_3; clear hi211_3 hl211_3; replace p211 := eq_true p211; replace q211 := eq_true q211; have ea_ := Option.some.inj (hx208_2.symm.trans hx211_2); injection ea_ with ea_ en_ ec_; subst ea_; subst ec_; clear en_; have ea_ := Option.some.inj (hx208_3.symm.trans hx211_3); injection ea_ with ea_ en_ ec_; subst ea_; subst ec_; clear en_) | ((with_reducible refine gate_builtin (b := .append) (xs := #[.tmp 30, .tmp 35]) rfl ?_); at_builtin; refine Kd.N_append k26 (w0 := w) w.heap.size rfl (.tmp 30) (.tmp 35) 103 26 (.agg #[(.int .i64 0), (.int .i64 0), (.slice none 0 0), (.slice none 0 0)]) 64 rfl Tryd.underlying103 info26 rfl (by decide) (by omega) u5 x5_1 (⟨(rd_T26 l0 x6_1).f0, (rd_T26 l0 x6_1).f1, (rd_T26 l0 x6_1).f2, (rd_T26 l0 x6_1).f3⟩ : S26) [.int .i64 ((rd_T26 l0 x6_1).f0), .int .i64 ((rd_T26 l0 x6_1).f1), .slice A208_2 ((rd_T26 l0 x6_1).f2).length c208_2, .slice A208_3 ((rd_T26 l0 x6_1).f3).length c208_3] (fun k_ => ((P0_ k_ ∨ P1_2_ k_ ∨ P1_3_ k_) ∨ w.heap.size ≤ k_) ∧ k_ ≠ gb204) (fun k_ => ((fun k_ => ((P0_ k_ ∨ P1_2_ k_ ∨ P1_3_ k_) ∨ w.heap.size ≤ k_) ∧ k_ ≠ gb204)) k_ ∧ some k_ ≠ (u5 : Value).ownBlock) rfl rfl ?aP (fun _ hk => hk) ?aF ?aO ?aB ?aS ?aL ?_; (case aP => exact (k26_mkF _ _ (⟨(rd_T26 l0 x6_1).f0, (rd_T26 l0 x6_1).f1, (rd_T26 l0 x6_1).f2, (rd_T26 l0 x6_1).f3⟩ : S26) (Kd.V_reads' (Kd.V_mono (ok' := (fun k_ => ((fun k_ => ((P0_ k_ ∨ P1_2_ k_ ∨ P1_3_ k_) ∨ w.heap.size ≤ k_) ∧ k_ ≠ gb204)) k_ ∧ some k_ ≠ (u5 : Value).ownBlock)) (HL211_2.out) (fun k_ hk => ⟨⟨hk.1, hk.2.2⟩, hk.2.1⟩))).2.1 (Kd.V_F (Kd.V_mono (ok' := (fun k_ => ((fun k_ => ((P0_ k_ ∨ P1_2_ k_ ∨ P1_3_ k_) ∨ w.heap.size ≤ k_) ∧ k_ ≠ gb204)) k_ ∧ some k_ ≠ (u5 : Value).ownBlock)) (HL211_2.out) (fun k_ hk => ⟨⟨hk.1, hk.2.2⟩, hk.2.1⟩))) (Kd.V_reads' (Kd.V_mono (ok' := (fun k_ => ((fun k_ => ((P0_ k_ ∨ P1_2_ k_ ∨ P1_3_ k_) ∨ w.heap.size ≤ k_) ∧ k_ ≠ gb204)) k_ ∧ some k_ ≠ (u5 : Value).ownBlock)) (HL211_3.out) (fun k_ hk => ⟨⟨hk.1, hk.2.2⟩, hk.2.1⟩))).2.1 (Kd.V_F (Kd.V_mono (ok' := (fun k_ => ((fun k_ => ((P0_ k_ ∨ P1_2_ k_ ∨ P1_3_ k_) ∨ w.heap.size ≤ k_) ∧ k_ ≠ gb204)) k_ ∧ some k_ ≠ (u5 : Value).ownBlock)) (HL211_3.out) (fun k_ hk => ⟨⟨hk.1, hk.2.2⟩, hk.2.1⟩))))); (case aB => exact (by exact zB1 HB.out GE204.out)); (case aF => exact (fun k_ hk => ⟨(.inr (Nat.le_trans (below_size (by exact zB1 HB.out GE204.out)) hk)), Kd.freshB (g := gb204) (o := .cells #[.int .i64 a1_0, .int .i64 a1_1, .slice A1_2 l1_2.length c1_2, .slice A1_3 l1_3.length c1_3] 26 (0, 0)) (by exact zK BK204.out) k_ hk⟩)); (case aO => exact (by exact zN HO_5.out)); (case aS => exact (below_size (by exact zB1 HB.out GE204.out))); (case aL => have := LMc10.out; omega); intro v213 w12 ho hb hg hat; rw [← Ny212.out] at ho; have n0_ := Aside0.mk (Kd.V_afterv (ok := (fun k_ => ((P0_ k_ ∨ P1_2_ k_ ∨ P1_3_ k_) ∨ w.heap.size ≤ k_) ∧ k_ ≠ gb204)) (by (with_reducible repeat (first | apply Kd.V_alloc | apply Kd.V_drewN | apply Kd.V_drew)); exact Kd.V_mono HO_0.out (fun _ hk => ⟨⟨hk.1, hk.2.2⟩, hk.2.1⟩)) hg hat); have n1_ := Aside0.mk (Kd.V_afterv (ok := (fun k_ => ((P0_ k_ ∨ P1_2_ k_ ∨ P1_3_ k_) ∨ w.heap.size ≤ k_) ∧ k_ ≠ gb204)) (by (with_reducible repeat (first | apply Kd.V_alloc | apply Kd.V_drewN | apply Kd.V_drew)); exact Kd.V_mono HO_205002.out (fun _ hk => ⟨⟨hk.1, hk.2.2⟩, hk.2.1⟩)) hg hat); have n2_ := Aside0.mk (Kd.V_afterv (ok := (fun k_ => ((P0_ k_ ∨ P1_2_ k_ ∨ P1_3_ k_) ∨ w.heap.size ≤ k_) ∧ k_ ≠ gb204)) (by (with_reducible repeat (first | apply Kd.V_alloc | apply Kd.V_drewN | apply Kd.V_drew)); exact Kd.V_mono HO_205003.out (fun _ hk => ⟨⟨hk.1, hk.2.2⟩, hk.2.1⟩)) hg hat); have n3_ := Aside0.mk (blk_grown (g := gb204) (o := .cells #[.int .i64 a1_0, .int .i64 a1_1, .slice A1_2 l1_2.length c1_2, .slice A1_3 l1_3.length c1_3] 26 (0, 0)) (by exact zK BK204.out) hg (Kd.N_away HO_5.out (fun _ hk => hk.2))); have n4_ := Aside0.mk (Kd.V_afterv (ok := (fun k_ => ((P0_ k_ ∨ P1_2_ k_ ∨ P1_3_ k_) ∨ w.heap.size ≤ k_) ∧ k_ ≠ gb204)) (by (with_reducible repeat (first | apply Kd.V_alloc | apply Kd.V_drewN | apply Kd.V_drew)); exact Kd.V_mono HL208_2.out (fun _ hk => ⟨⟨hk.1, hk.2.2⟩, hk.2.1⟩)) hg hat); have n5_ := Aside0.mk (Kd.V_afterv (ok := (fun k_ => ((P0_ k_ ∨ P1_2_ k_ ∨ P1_3_ k_) ∨ w.heap.size ≤ k_) ∧ k_ ≠ gb204)) (by (with_reducible repeat (first | apply Kd.V_alloc | apply Kd.V_drewN | apply Kd.V_drew)); exact Kd.V_mono HL208_3.out (fun _ hk => ⟨⟨hk.1, hk.2.2⟩, hk.2.1⟩)) hg hat); have n6_ := Aside0.mk (Kd.V_afterv (ok := (fun k_ => ((P0_ k_ ∨ P1_2_ k_ ∨ P1_3_ k_) ∨ w.heap.size ≤ k_) ∧ k_ ≠ gb204)) (by (with_reducible repeat (first | apply Kd.V_alloc | apply Kd.V_drewN | apply Kd.V_drew)); exact Kd.V_mono HL209_2.out (fun _ hk => ⟨⟨hk.1, hk.2.2⟩, hk.2.1⟩)) hg hat); have n7_ := Aside0.mk (Kd.V_afterv (ok := (fun k_ => ((P0_ k_ ∨ P1_2_ k_ ∨ P1_3_ k_) ∨ w.heap.size ≤ k_) ∧ k_ ≠ gb204)) (by (with_reducible repeat (first | apply Kd.V_alloc | apply Kd.V_drewN | apply Kd.V_drew)); exact Kd.V_mono HL209_3.out (fun _ hk => ⟨⟨hk.1, hk.2.2⟩, hk.2.1⟩)) hg hat); have n8_ := Aside0.mk (Kd.V_afterv (ok := (fun k_ => ((P0_ k_ ∨ P1_2_ k_ ∨ P1_3_ k_) ∨ w.heap.size ≤ k_) ∧ k_ ≠ gb204)) (by (with_reducible repeat (first | apply Kd.V_alloc | apply Kd.V_drewN | apply Kd.V_drew)); exact Kd.V_mono HL211_2.out (fun _ hk => ⟨⟨hk.1, hk.2.2⟩, hk.2.1⟩)) hg hat); have n9_ := Aside0.mk (Kd.V_afterv (ok := (fun k_ => ((P0_ k_ ∨ P1_2_ k_ ∨ P1_3_ k_) ∨ w.heap.size ≤ k_) ∧ k_ ≠ gb204)) (by (with_reducible repeat (first | apply Kd.V_alloc | apply Kd.V_drewN | apply Kd.V_drew)); exact Kd.V_mono HL211_3.out (fun _ hk => ⟨⟨hk.1, hk.2.2⟩, hk.2.1⟩)) hg hat); have n10_ := Aside0.mk (hb); have n11_ := Aside0.mk (ho); clear HO_0; clear HO_205002; clear HO_205003; clear BK204; clear HL208_2; clear HL208_3; clear HL209_2; clear HL209_3; clear HL211_2; clear HL211_3; clear HB; clear HO_5; have HO_0 := n0_; have HO_205002 := n1_; have HO_205003 := n2_; have BK204 := n3_; have HL208_2 := n4_; have HL208_3 := n5_; have HL209_2 := n6_; have HL209_3 := n7_; have HL211_2 := n8_; have HL211_3 := n9_; have HB := n10_; have HO214 := n11_; clear n0_ n1_ n2_ n3_ n4_ n5_ n6_ n7_ n8_ n9_ n10_ n11_; clear ho hb hg hat)); try go_wp2_with (first | (go_at_call 55; (with_reducible refine (spec_l3Less.calls ((rd_T26 l0 x6_1).f0) ((rd_T26 l0 x6_1).f1) a1_0 a1_1 true _ A8.out).mono ?_); rintro e w' ⟨rfl, ⟨nd, rfl⟩⟩; (try first | exact ⟨rfl, _, World.drewN_drewN _ _ _⟩ | exact ⟨rfl, _, Eq.trans (World.drewN_drewN _ _ _) (congrArg (World.drewN _) (Nat.add_assoc _ _ _))⟩); have p211 : 0 ≤ (x6_1 : Int) := of_decide_eq_true (by first | (with_reducible assumption) | assumption); have q211 : x6_1 < (l0.length : Int) := of_decide_eq_true (by first | (with_reducible assumption) | assumption); obtain ⟨ad211, A211_2, c211_2, A211_3, c211_3, e211, hx211_0, hx211_1, hx211_2, hx211_3, hl211_2, hi211_2, hl211_3, hi211_3⟩ := at_T26 (Kd.V_reads' HO_0.out).2.2 x6_1 p211 q211; obtain rfl : ad208 = ad211 := (by injection e211); obtain ⟨ce211, hce211, hMe211, hcc211⟩ := Kd.V_get HO_0.out z26 x6_1 p211 (by first | exact q211 | exact of_decide_eq_true (by first | (with_reducible assumption) | assumption) | (have e_ := (Kd.V_reads' HO_0.out).1; omega)); obtain ⟨ua211_2, uc211_2, ua211_3, uc211_3, rfl, ul211_2, ge211_2, ul211_3, ge211_3⟩ := k26_openF hMe211; have hv211_2 := hcc211 2 _ rfl; rw [add_field _ _ 2 (by omega)] at hv211_2; replace hv211_2 := Option.some.inj (hv211_2.symm.trans hx211_2); injection hv211_2 with hva_ hvn_ hvc_; rw [hva_] at ge211_2; rw [hvc_] at ul211_2; have HL211_2 := Aside0.mk (show Kd.V k63 63 _ w.heap.size _ _ ((rd_T26 l0 x6_1).f2) from Kd.V_mk ul211_2 ge211_2); clear hva_ hvn_ hvc_ ge211_2 ul211_2; have hv211_3 := hcc211 3 _ rfl; rw [add_field _ _ 3 (by omega)] at hv211_3; replace hv211_3 := Option.some.inj (hv211_3.symm.trans hx211_3); injection hv211_3 with hva_ hvn_ hvc_; rw [hva_] at ge211_3; rw [hvc_] at ul211_3; have HL211_3 := Aside0.mk (show Kd.V k66 66 _ w.heap.size _ _ ((rd_T26 l0 x6_1).f3) from Kd.V_mk ul211_3 ge211_3); clear hva_ hvn_ hvc_ ge211_3 ul211_3; clear hcc211 hce211; have HR211_2 := Aside0.mk hi211_2; have HC211_2 := Aside0.mk hl211_2; clear hi211_2 hl211_2; have HR211_3 := Aside0.mk hi211_3; have HC211_3 := Aside0.mk hl211_3; clear hi211_3 hl211_3; replace p211 := eq_true p211; replace q211 := eq_true q211; have ea_ := Option.some.inj (hx208_2.symm.trans hx211_2); injection ea_ with ea_ en_ ec_; subst ea_; subst ec_; clear en_; have ea_ := Option.some.inj (hx208_3.symm.trans hx211_3); injection ea_ with ea_ en_ ec_; subst ea_; subst ec_; clear en_) | ((with_reducible refine gate_builtin (b := .append) (xs := #[.tmp 30, .tmp 35]) rfl ?_); at_builtin; refine Kd.N_append k26 (w0 := w) w.heap.size rfl (.tmp 30) (.tmp 35) 103 26 (.agg #[(.int .i64 0), (.int .i64 0), (.slice none 0 0), (.slice none 0 0)]) 64 rfl Tryd.underlying103 info26 rfl (by decide) (by omega) u5 x5_1 (⟨(rd_T26 l0 x6_1).f0, (rd_T26 l0 x6_1).f1, (rd_T26 l0 x6_1).f2, (rd_T26 l0 x6_1).f3⟩ : S26) [.int .i64 ((rd_T26 l0 x6_1).f0), .int .i64 ((rd_T26 l0 x6_1).f1), .slice A208_2 ((rd_T26 l0 x6_1).f2).length c208_2, .slice A208_3 ((rd_T26 l0 x6_1).f3).length c208_3] (fun k_ => ((P0_ k_ ∨ P1_2_ k_ ∨ P1_3_ k_) ∨ w.heap.size ≤ k_) ∧ k_ ≠ gb204) (fun k_ => ((fun k_ => ((P0_ k_ ∨ P1_2_ k_ ∨ P1_3_ k_) ∨ w.heap.size ≤ k_) ∧ k_ ≠ gb204)) k_ ∧ some k_ ≠ (u5 : Value).ownBlock) rfl rfl ?aP (fun _ hk => hk) ?aF ?aO ?aB ?aS ?aL ?_; (case aP => exact (k26_mkF _ _ (⟨(rd_T26 l0 x6_1).f0, (rd_T26 l0 x6_1).f1, (rd_T26 l0 x6_1).f2, (rd_T26 l0 x6_1).f3⟩ : S26) (Kd.V_reads' (Kd.V_mono (ok' := (fun k_ => ((fun k_ => ((P0_ k_ ∨ P1_2_ k_ ∨ P1_3_ k_) ∨ w.heap.size ≤ k_) ∧ k_ ≠ gb204)) k_ ∧ some k_ ≠ (u5 : Value).ownBlock)) (HL211_2.out) (fun k_ hk => ⟨⟨hk.1, hk.2.2⟩, hk.2.1⟩))).2.1 (Kd.V_F (Kd.V_mono (ok' := (fun k_ => ((fun k_ => ((P0_ k_ ∨ P1_2_ k_ ∨ P1_3_ k_) ∨ w.heap.size ≤ k_) ∧ k_ ≠ gb204)) k_ ∧ some k_ ≠ (u5 : Value).ownBlock)) (HL211_2.out) (fun k_ hk => ⟨⟨hk.1, hk.2.2⟩, hk.2.1⟩))) (Kd.V_reads' (Kd.V_mono (ok' := (fun k_ => ((fun k_ => ((P0_ k_ ∨ P1_2_ k_ ∨ P1_3_ k_) ∨ w.heap.size ≤ k_) ∧ k_ ≠ gb204)) k_ ∧ some k_ ≠ (u5 : Value).ownBlock)) (HL211_3.out) (fun k_ hk => ⟨⟨hk.1, hk.2.2⟩, hk.2.1⟩))).2.1 (Kd.V_F (Kd.V_mono (ok' := (fun k_ => ((fun k_ => ((P0_ k_ ∨ P1_2_ k_ ∨ P1_3_ k_) ∨ w.heap.size ≤ k_) ∧ k_ ≠ gb204)) k_ ∧ some k_ ≠ (u5 : Value).ownBlock)) (HL211_3.out) (fun k_ hk => ⟨⟨hk.1, hk.2.2⟩, hk.2.1⟩))))); (case aB => exact (by exact zB1 HB.out GE204.out)); (case aF => exact (fun k_ hk => ⟨(.inr (Nat.le_trans (below_size (by exact zB1 HB.out GE204.out)) hk)), Kd.freshB (g := gb204) (o := .cells #[.int .i64 a1_0, .int .i64 a1_1, .slice A1_2 l1_2.length c1_2, .slice A1_3 l1_3.length c1_3] 26 (0, 0)) (by exact zK BK204.out) k_ hk⟩)); (case aO => exact (by exact zN HO_5.out)); (case aS => exact (below_size (by exact zB1 HB.out GE204.out))); (case aL => have := LMc10.out; omega); intro v213 w12 ho hb hg hat; rw [← Ny212.out] at ho; have n0_ := Aside0.mk (Kd.V_afterv (ok := (fun k_ => ((P0_ k_ ∨ P1_2_ k_ ∨ P1_3_ k_) ∨ w.heap.size ≤ k_) ∧ k_ ≠ gb204)) (by (with_reducible repeat (first | apply Kd.V_alloc | apply Kd.V_drewN | apply Kd.V_drew)); exact Kd.V_mono HO_0.out (fun _ hk => ⟨⟨hk.1, hk.2.2⟩, hk.2.1⟩)) hg hat); have n1_ := Aside0.mk (Kd.V_afterv (ok := (fun k_ => ((P0_ k_ ∨ P1_2_ k_ ∨ P1_3_ k_) ∨ w.heap.size ≤ k_) ∧ k_ ≠ gb204)) (by (with_reducible repeat (first | apply Kd.V_alloc | apply Kd.V_drewN | apply Kd.V_drew)); exact Kd.V_mono HO_205002.out (fun _ hk => ⟨⟨hk.1, hk.2.2⟩, hk.2.1⟩)) hg hat); have n2_ := Aside0.mk (Kd.V_afterv (ok := (fun k_ => ((P0_ k_ ∨ P1_2_ k_ ∨ P1_3_ k_) ∨ w.heap.size ≤ k_) ∧ k_ ≠ gb204)) (by (with_reducible repeat (first | apply Kd.V_alloc | apply Kd.V_drewN | apply Kd.V_drew)); exact Kd.V_mono HO_205003.out (fun _ hk => ⟨⟨hk.1, hk.2.2⟩, hk.2.1⟩)) hg hat); have n3_ := Aside0.mk (blk_grown (g := gb204) (o := .cells #[.int .i64 a1_0, .int .i64 a1_1, .slice A1_2 l1_2.length c1_2, .slice A1_3 l1_3.length c1_3] 26 (0, 0)) (by exact zK BK204.out) hg (Kd.N_away HO_5.out (fun _ hk => hk.2))); have n4_ := Aside0.mk (Kd.V_afterv (ok := (fun k_ => ((P0_ k_ ∨ P1_2_ k_ ∨ P1_3_ k_) ∨ w.heap.size ≤ k_) ∧ k_ ≠ gb204)) (by (with_reducible repeat (first | apply Kd.V_alloc | apply Kd.V_drewN | apply Kd.V_drew)); exact Kd.V_mono HL208_2.out (fun _ hk => ⟨⟨hk.1, hk.2.2⟩, hk.2.1⟩)) hg hat); have n5_ := Aside0.mk (Kd.V_afterv (ok := (fun k_ => ((P0_ k_ ∨ P1_2_ k_ ∨ P1_3_ k_) ∨ w.heap.size ≤ k_) ∧ k_ ≠ gb204)) (by (with_reducible repeat (first | apply Kd.V_alloc | apply Kd.V_drewN | apply Kd.V_drew)); exact Kd.V_mono HL208_3.out (fun _ hk => ⟨⟨hk.1, hk.2.2⟩, hk.2.1⟩)) hg hat); have n6_ := Aside0.mk (Kd.V_afterv (ok := (fun k_ => ((P0_ k_ ∨ P1_2_ k_ ∨ P1_3_ k_) ∨ w.heap.size ≤ k_) ∧ k_ ≠ gb204)) (by (with_reducible repeat (first | apply Kd.V_alloc | apply Kd.V_drewN | apply Kd.V_drew)); exact Kd.V_mono HL209_2.out (fun _ hk => ⟨⟨hk.1, hk.2.2⟩, hk.2.1⟩)) hg hat); have n7_ := Aside0.mk (Kd.V_afterv (ok := (fun k_ => ((P0_ k_ ∨ P1_2_ k_ ∨ P1_3_ k_) ∨ w.heap.size ≤ k_) ∧ k_ ≠ gb204)) (by (with_reducible repeat (first | apply Kd.V_alloc | apply Kd.V_drewN | apply Kd.V_drew)); exact Kd.V_mono HL209_3.out (fun _ hk => ⟨⟨hk.1, hk.2.2⟩, hk.2.1⟩)) hg hat); have n8_ := Aside0.mk (Kd.V_afterv (ok := (fun k_ => ((P0_ k_ ∨ P1_2_ k_ ∨ P1_3_ k_) ∨ w.heap.size ≤ k_) ∧ k_ ≠ gb204)) (by (with_reducible repeat (first | apply Kd.V_alloc | apply Kd.V_drewN | apply Kd.V_drew)); exact Kd.V_mono HL211_2.out (fun _ hk => ⟨⟨hk.1, hk.2.2⟩, hk.2.1⟩)) hg hat); have n9_ := Aside0.mk (Kd.V_afterv (ok := (fun k_ => ((P0_ k_ ∨ P1_2_ k_ ∨ P1_3_ k_) ∨ w.heap.size ≤ k_) ∧ k_ ≠ gb204)) (by (with_reducible repeat (first | apply Kd.V_alloc | apply Kd.V_drewN | apply Kd.V_drew)); exact Kd.V_mono HL211_3.out (fun _ hk => ⟨⟨hk.1, hk.2.2⟩, hk.2.1⟩)) hg hat); have n10_ := Aside0.mk (hb); have n11_ := Aside0.mk (ho); clear HO_0; clear HO_205002; clear HO_205003; clear BK204; clear HL208_2; clear HL208_3; clear HL209_2; clear HL209_3; clear HL211_2; clear HL211_3; clear HB; clear HO_5; have HO_0 := n0_; have HO_205002 := n1_; have HO_205003 := n2_; have BK204 := n3_; have HL208_2 := n4_; have HL208_3 := n5_; have HL209_2 := n6_; have HL209_3 := n7_; have HL211_2 := n8_; have HL211_3 := n9_; have HB := n10_; have HO214 := n11_; clear n0_ n1_ n2_ n3_ n4_ n5_ n6_ n7_ n8_ n9_ n10_ n11_; clear ho hb hg hat)))
       go_roundg k1
       case measure => have := HK1.out; omega
       case rel => exact ⟨(y212), (wrap64 (x6_1 + 1)), (by first | rfl | (simp; done) | (simp [*]; done)), H', ⟨by have := HK1.out; omega⟩, ⟨by (with_reducible repeat (first | apply Kd.V_alloc | apply Kd.V_drewN | apply Kd.V_drew)); exact Kd.V_mono HO_0.out (fun _ hk => ⟨hk.1.1, ⟨hk.2, hk.1.2⟩⟩)⟩, ⟨by exact zN HO214.out⟩, ⟨by (with_reducible repeat (first | apply Kd.V_alloc | apply Kd.V_drewN | apply Kd.V_drew)); exact Kd.V_mono HO_205002.out (fun _ hk => ⟨hk.1.1, ⟨hk.2, hk.1.2⟩⟩)⟩, ⟨by (with_reducible repeat (first | apply Kd.V_alloc | apply Kd.V_drewN | apply Kd.V_drew)); exact Kd.V_mono HO_205003.out (fun _ hk => ⟨hk.1.1, ⟨hk.2, hk.1.2⟩⟩)⟩, ⟨by exact zK BK204.out⟩, ⟨by exact zB1 HB.out GE204.out⟩⟩
      ·rw [if_neg c10] at H
       exact absurd H (by simp)
     ·replace c9 := Bool.eq_false_iff.mpr c9
      subst c9
      have H1 : (spec_l12With.l0 k1 l0 x5_1 (wrap64 (x6_1 + 1)) a1_0 a1_1 l1_2 l1_3) = some r := by rw [if_neg (show ¬ (false = true) by decide)] at H; exact H
      clear H
      have H := H1
      clear H1
      have H' := Aside0.mk H
      clear H
      have p208 : 0 ≤ (x6_1 : Int) := of_decide_eq_true (by first | (with_reducible assumption) | assumption)
      have q208 : x6_1 < (l0.length : Int) := of_decide_eq_true (by first | (with_reducible assumption) | assumption)
      obtain ⟨ad208, A208_2, c208_2, A208_3, c208_3, e208, hx208_0, hx208_1, hx208_2, hx208_3, hl208_2, hi208_2, hl208_3, hi208_3⟩ := at_T26 (Kd.V_reads' HO_0.out).2.2 x6_1 p208 q208
      cases e208
      obtain ⟨ce208, hce208, hMe208, hcc208⟩ := Kd.V_get HO_0.out z26 x6_1 p208 (by first | exact q208 | exact of_decide_eq_true (by first | (with_reducible assumption) | assumption) | (have e_ := (Kd.V_reads' HO_0.out).1; omega))
      obtain ⟨ua208_2, uc208_2, ua208_3, uc208_3, rfl, ul208_2, ge208_2, ul208_3, ge208_3⟩ := k26_openF hMe208
      have hv208_2 := hcc208 2 _ rfl
      rw [add_field _ _ 2 (by omega)] at hv208_2
      replace hv208_2 := Option.some.inj (hv208_2.symm.trans hx208_2)
      injection hv208_2 with hva_ hvn_ hvc_
      rw [hva_] at ge208_2
      rw [hvc_] at ul208_2
      have HL208_2 := Aside0.mk (show Kd.V k63 63 _ w.heap.size _ _ ((rd_T26 l0 x6_1).f2) from Kd.V_mk ul208_2 ge208_2)
      clear hva_ hvn_ hvc_ ge208_2 ul208_2
      have hv208_3 := hcc208 3 _ rfl
      rw [add_field _ _ 3 (by omega)] at hv208_3
      replace hv208_3 := Option.some.inj (hv208_3.symm.trans hx208_3)
      injection hv208_3 with hva_ hvn_ hvc_
      rw [hva_] at ge208_3
      rw [hvc_] at ul208_3
      have HL208_3 := Aside0.mk (show Kd.V k66 66 _ w.heap.size _ _ ((rd_T26 l0 x6_1).f3) from Kd.V_mk ul208_3 ge208_3)
      clear hva_ hvn_ hvc_ ge208_3 ul208_3
      clear hcc208 hce208
      have HR208_2 := Aside0.mk hi208_2
      have HC208_2 := Aside0.mk hl208_2
      clear hi208_2 hl208_2
      have HR208_3 := Aside0.mk hi208_3
      have HC208_3 := Aside0.mk hl208_3
      clear hi208_3 hl208_3
      replace p208 := eq_true p208
      replace q208 := eq_true q208
      have p209 : 0 ≤ (x6_1 : Int) := of_decide_eq_true (by first | (with_reducible assumption) | assumption)
      have q209 : x6_1 < (l0.length : Int) := of_decide_eq_true (by first | (with_reducible assumption) | assumption)
      obtain ⟨ad209, A209_2, c209_2, A209_3, c209_3, e209, hx209_0, hx209_1, hx209_2, hx209_3, hl209_2, hi209_2, hl209_3, hi209_3⟩ := at_T26 (Kd.V_reads' HO_0.out).2.2 x6_1 p209 q209
      obtain rfl : ad208 = ad209 := (by injection e209)
      obtain ⟨ce209, hce209, hMe209, hcc209⟩ := Kd.V_get HO_0.out z26 x6_1 p209 (by first | exact q209 | exact of_decide_eq_true (by first | (with_reducible assumption) | assumption) | (have e_ := (Kd.V_reads' HO_0.out).1; omega))
      obtain ⟨ua209_2, uc209_2, ua209_3, uc209_3, rfl, ul209_2, ge209_2, ul209_3, ge209_3⟩ := k26_openF hMe209
      have hv209_2 := hcc209 2 _ rfl
      rw [add_field _ _ 2 (by omega)] at hv209_2
      replace hv209_2 := Option.some.inj (hv209_2.symm.trans hx209_2)
      injection hv209_2 with hva_ hvn_ hvc_
      rw [hva_] at ge209_2
      rw [hvc_] at ul209_2
      have HL209_2 := Aside0.mk (show Kd.V k63 63 _ w.heap.size _ _ ((rd_T26 l0 x6_1).f2) from Kd.V_mk ul209_2 ge209_2)
      clear hva_ hvn_ hvc_ ge209_2 ul209_2
      have hv209_3 := hcc209 3 _ rfl
      rw [add_field _ _ 3 (by omega)] at hv209_3
      replace hv209_3 := Option.some.inj (hv209_3.symm.trans hx209_3)
      injection hv209_3 with hva_ hvn_ hvc_
      rw [hva_] at ge209_3
      rw [hvc_] at ul209_3
      have HL209_3 := Aside0.mk (show Kd.V k66 66 _ w.heap.size _ _ ((rd_T26 l0 x6_1).f3) from Kd.V_mk ul209_3 ge209_3)
      clear hva_ hvn_ hvc_ ge209_3 ul209_3
      clear hcc209 hce209
      have HR209_2 := Aside0.mk hi209_2
      have HC209_2 := Aside0.mk hl209_2
      clear hi209_2 hl209_2
      have HR209_3 := Aside0.mk hi209_3
      have HC209_3 := Aside0.mk hl209_3
      clear hi209_3 hl209_3
      replace p209 := eq_true p209
      replace q209 := eq_true q209
      have ea_ := Option.some.inj (hx208_2.symm.trans hx209_2)
      injection ea_ with ea_ en_ ec_
      subst ea_
      subst ec_
      clear en_
      have ea_ := Option.some.inj (hx208_3.symm.trans hx209_3)
      injection ea_ with ea_ en_ ec_
      subst ea_
      subst ec_
      clear en_
      obtain ⟨hcz13_0, hcz13_1, hcz13_2, hcz13_3, hfz13_0, hfz13_1, hfz13_2, hfz13_3⟩ := zc4f BK204.out
      go_wp2_with (first | (go_at_call 55; (with_reducible refine (spec_l3Less.calls ((rd_T26 l0 x6_1).f0) ((rd_T26 l0 x6_1).f1) a1_0 a1_1 false _ A8.out).mono ?_); rintro e w' ⟨rfl, ⟨nd, rfl⟩⟩; (try first | exact ⟨rfl, _, World.drewN_drewN _ _ _⟩ | exact ⟨rfl, _, Eq.trans (World.drewN_drewN _ _ _) (congrArg (World.drewN _) (Nat.add_assoc _ _ _))⟩)))
      repeat (go_quiet (first | (go_at_call 55; (with_reducible refine (spec_l3Less.calls ((rd_T26 l0 x6_1).f0) ((rd_T26 l0 x6_1).f1) a1_0 a1_1 false _ A8.out).mono ?_); rintro e w' ⟨rfl, ⟨nd, rfl⟩⟩; (try first | exact ⟨rfl, _, World.drewN_drewN _ _ _⟩ | exact ⟨rfl, _, Eq.trans (World.drewN_drewN _ _ _) (congrArg (World.drewN _) (Nat.add_assoc _ _ _))⟩))); try go_wp2_with (first | (go_at_call 55; (with_reducible refine (spec_l3Less.calls ((rd_T26 l0 x6_1).f0) ((rd_T26 l0 x6_1).f1) a1_0 a1_1 false _ A8.out).mono ?_); rintro e w' ⟨rfl, ⟨nd, rfl⟩⟩; (try first | exact ⟨rfl, _, World.drewN_drewN _ _ _⟩ | exact ⟨rfl, _, Eq.trans (World.drewN_drewN _ _ _) (congrArg (World.drewN _) (Nat.add_assoc _ _ _))⟩))))
      go_roundg k1
      case measure => have := HK1.out; omega
      case rel => exact ⟨(x5_1), (wrap64 (x6_1 + 1)), (by first | rfl | (simp; done) | (simp [*]; done)), H', ⟨by have := HK1.out; omega⟩, ⟨by (with_reducible repeat (first | apply Kd.V_alloc | apply Kd.V_drewN | apply Kd.V_drew)); exact HO_0.out⟩, ⟨by exact zN HO_5.out⟩, ⟨by (with_reducible repeat (first | apply Kd.V_alloc | apply Kd.V_drewN | apply Kd.V_drew)); exact HO_205002.out⟩, ⟨by (with_reducible repeat (first | apply Kd.V_alloc | apply Kd.V_drewN | apply Kd.V_drew)); exact HO_205003.out⟩, ⟨by exact zK BK204.out⟩, ⟨by exact zB1 HB.out GE204.out⟩⟩
    ·rw [if_neg c7] at H
     exact absurd H (by simp)
   ·rw [if_neg c6] at H
    have c6b0 : decide (x6_1 < (l0.length : Int)) = false := decide_eq_false c6
    clear c6
    by_cases c14 : x5_1.length < 2199023255552
    ·rw [if_pos c14] at H
     have LMc14 := Aside0.mk c14
     clear c14
     obtain ⟨y215, hy215⟩ : ∃ y_ : List (S26), y_ = (x5_1 ++ [(⟨a1_0, a1_1, l1_2, l1_3⟩ : S26)]) := ⟨_, rfl⟩
     replace H : (spec_l12With.l1 k1 l0 y215 0 a1_0 a1_1 l1_2 l1_3) = some r := by first | (rw [hy215]; with_reducible exact H) | (have H2_ := (Option.bind_some _ _).symm.trans H; rw [hy215]; with_reducible exact H2_) | (have H2_ := (Option.bind_some _ _).symm.trans H; with_reducible exact H2_) | with_reducible exact H | (rw [hy215]; exact H) | exact H
     have Ny215 := Aside0.mk hy215
     clear hy215
     have H' := Aside0.mk H
     clear H
     obtain ⟨hcz15_0, hcz15_1, hcz15_2, hcz15_3, hfz15_0, hfz15_1, hfz15_2, hfz15_3⟩ := zc4f BK204.out
     go_wp2_with (first | ((with_reducible refine gate_builtin (b := .append) (xs := #[.tmp 37, .tmp 39]) rfl ?_); at_builtin; refine Kd.N_append k26 (w0 := w) w.heap.size rfl (.tmp 37) (.tmp 39) 103 26 (.agg #[(.int .i64 0), (.int .i64 0), (.slice none 0 0), (.slice none 0 0)]) 64 rfl Tryd.underlying103 info26 rfl (by decide) (by omega) u5 x5_1 (⟨a1_0, a1_1, l1_2, l1_3⟩ : S26) [.int .i64 a1_0, .int .i64 a1_1, .slice A1_2 l1_2.length c1_2, .slice A1_3 l1_3.length c1_3] (fun k_ => ((P0_ k_ ∨ P1_2_ k_ ∨ P1_3_ k_) ∨ w.heap.size ≤ k_) ∧ k_ ≠ gb204) (fun k_ => ((fun k_ => ((P0_ k_ ∨ P1_2_ k_ ∨ P1_3_ k_) ∨ w.heap.size ≤ k_) ∧ k_ ≠ gb204)) k_ ∧ some k_ ≠ (u5 : Value).ownBlock) rfl rfl ?aP (fun _ hk => hk) ?aF ?aO ?aB ?aS ?aL ?_; (case aP => exact (k26_mkF _ _ (⟨a1_0, a1_1, l1_2, l1_3⟩ : S26) (Kd.V_reads' (Kd.V_mono (ok' := (fun k_ => ((fun k_ => ((P0_ k_ ∨ P1_2_ k_ ∨ P1_3_ k_) ∨ w.heap.size ≤ k_) ∧ k_ ≠ gb204)) k_ ∧ some k_ ≠ (u5 : Value).ownBlock)) (HO_205002.out) (fun k_ hk => ⟨⟨hk.1, hk.2.2⟩, hk.2.1⟩))).2.1 (Kd.V_F (Kd.V_mono (ok' := (fun k_ => ((fun k_ => ((P0_ k_ ∨ P1_2_ k_ ∨ P1_3_ k_) ∨ w.heap.size ≤ k_) ∧ k_ ≠ gb204)) k_ ∧ some k_ ≠ (u5 : Value).ownBlock)) (HO_205002.out) (fun k_ hk => ⟨⟨hk.1, hk.2.2⟩, hk.2.1⟩))) (Kd.V_reads' (Kd.V_mono (ok' := (fun k_ => ((fun k_ => ((P0_ k_ ∨ P1_2_ k_ ∨ P1_3_ k_) ∨ w.heap.size ≤ k_) ∧ k_ ≠ gb204)) k_ ∧ some k_ ≠ (u5 : Value).ownBlock)) (HO_205003.out) (fun k_ hk => ⟨⟨hk.1, hk.2.2⟩, hk.2.1⟩))).2.1 (Kd.V_F (Kd.V_mono (ok' := (fun k_ => ((fun k_ => ((P0_ k_ ∨ P1_2_ k_ ∨ P1_3_ k_) ∨ w.heap.size ≤ k_) ∧ k_ ≠ gb204)) k_ ∧ some k_ ≠ (u5 : Value).ownBlock)) (HO_205003.out) (fun k_ hk => ⟨⟨hk.1, hk.2.2⟩, hk.2.1⟩))))); (case aB => exact (by exact zB1 HB.out GE204.out)); (case aF => exact (fun k_ hk => ⟨(.inr (Nat.le_trans (below_size (by exact zB1 HB.out GE204.out)) hk)), Kd.freshB (g := gb204) (o := .cells #[.int .i64 a1_0, .int .i64 a1_1, .slice A1_2 l1_2.length c1_2, .slice A1_3 l1_3.length c1_3] 26 (0, 0)) (by exact zK BK204.out) k_ hk⟩)); (case aO => exact (by exact zN HO_5.out)); (case aS => exact (below_size (by exact zB1 HB.out GE204.out))); (case aL => have := LMc14.out; omega); intro v216 w16 ho hb hg hat; rw [← Ny215.out] at ho; have n0_ := Aside0.mk (Kd.V_afterv (ok := (fun k_ => ((P0_ k_ ∨ P1_2_ k_ ∨ P1_3_ k_) ∨ w.heap.size ≤ k_) ∧ k_ ≠ gb204)) (by (with_reducible repeat (first | apply Kd.V_alloc | apply Kd.V_drewN | apply Kd.V_drew)); exact Kd.V_mono HO_0.out (fun _ hk => ⟨⟨hk.1, hk.2.2⟩, hk.2.1⟩)) hg hat); have n1_ := Aside0.mk (Kd.V_afterv (ok := (fun k_ => ((P0_ k_ ∨ P1_2_ k_ ∨ P1_3_ k_) ∨ w.heap.size ≤ k_) ∧ k_ ≠ gb204)) (by (with_reducible repeat (first | apply Kd.V_alloc | apply Kd.V_drewN | apply Kd.V_drew)); exact Kd.V_mono HO_205002.out (fun _ hk => ⟨⟨hk.1, hk.2.2⟩, hk.2.1⟩)) hg hat); have n2_ := Aside0.mk (Kd.V_afterv (ok := (fun k_ => ((P0_ k_ ∨ P1_2_ k_ ∨ P1_3_ k_) ∨ w.heap.size ≤ k_) ∧ k_ ≠ gb204)) (by (with_reducible repeat (first | apply Kd.V_alloc | apply Kd.V_drewN | apply Kd.V_drew)); exact Kd.V_mono HO_205003.out (fun _ hk => ⟨⟨hk.1, hk.2.2⟩, hk.2.1⟩)) hg hat); have n3_ := Aside0.mk (blk_grown (g := gb204) (o := .cells #[.int .i64 a1_0, .int .i64 a1_1, .slice A1_2 l1_2.length c1_2, .slice A1_3 l1_3.length c1_3] 26 (0, 0)) (by exact zK BK204.out) hg (Kd.N_away HO_5.out (fun _ hk => hk.2))); have n4_ := Aside0.mk (hb); have n5_ := Aside0.mk (ho); clear HO_0; clear HO_205002; clear HO_205003; clear BK204; clear HB; clear HO_5; have HO_0 := n0_; have HO_205002 := n1_; have HO_205003 := n2_; have BK204 := n3_; have HB := n4_; have HO217 := n5_; clear n0_ n1_ n2_ n3_ n4_ n5_; clear ho hb hg hat))
     repeat (go_quiet (first | ((with_reducible refine gate_builtin (b := .append) (xs := #[.tmp 37, .tmp 39]) rfl ?_); at_builtin; refine Kd.N_append k26 (w0 := w) w.heap.size rfl (.tmp 37) (.tmp 39) 103 26 (.agg #[(.int .i64 0), (.int .i64 0), (.slice none 0 0), (.slice none 0 0)]) 64 rfl Tryd.underlying103 info26 rfl (by decide) (by omega) u5 x5_1 (⟨a1_0, a1_1, l1_2, l1_3⟩ : S26) [.int .i64 a1_0, .int .i64 a1_1, .slice A1_2 l1_2.length c1_2, .slice A1_3 l1_3.length c1_3] (fun k_ => ((P0_ k_ ∨ P1_2_ k_ ∨ P1_3_ k_) ∨ w.heap.size ≤ k_) ∧ k_ ≠ gb204) (fun k_ => ((fun k_ => ((P0_ k_ ∨ P1_2_ k_ ∨ P1_3_ k_) ∨ w.heap.size ≤ k_) ∧ k_ ≠ gb204)) k_ ∧ some k_ ≠ (u5 : Value).ownBlock) rfl rfl ?aP (fun _ hk => hk) ?aF ?aO ?aB ?aS ?aL ?_; (case aP => exact (k26_mkF _ _ (⟨a1_0, a1_1, l1_2, l1_3⟩ : S26) (Kd.V_reads' (Kd.V_mono (ok' := (fun k_ => ((fun k_ => ((P0_ k_ ∨ P1_2_ k_ ∨ P1_3_ k_) ∨ w.heap.size ≤ k_) ∧ k_ ≠ gb204)) k_ ∧ some k_ ≠ (u5 : Value).ownBlock)) (HO_205002.out) (fun k_ hk => ⟨⟨hk.1, hk.2.2⟩, hk.2.1⟩))).2.1 (Kd.V_F (Kd.V_mono (ok' := (fun k_ => ((fun k_ => ((P0_ k_ ∨ P1_2_ k_ ∨ P1_3_ k_) ∨ w.heap.size ≤ k_) ∧ k_ ≠ gb204)) k_ ∧ some k_ ≠ (u5 : Value).ownBlock)) (HO_205002.out) (fun k_ hk => ⟨⟨hk.1, hk.2.2⟩, hk.2.1⟩))) (Kd.V_reads' (Kd.V_mono (ok' := (fun k_ => ((fun k_ => ((P0_ k_ ∨ P1_2_ k_ ∨ P1_3_ k_) ∨ w.heap.size ≤ k_) ∧ k_ ≠ gb204)) k_ ∧ some k_ ≠ (u5 : Value).ownBlock)) (HO_205003.out) (fun k_ hk => ⟨⟨hk.1, hk.2.2⟩, hk.2.1⟩))).2.1 (Kd.V_F (Kd.V_mono (ok' := (fun k_ => ((fun k_ => ((P0_ k_ ∨ P1_2_ k_ ∨ P1_3_ k_) ∨ w.heap.size ≤ k_) ∧ k_ ≠ gb204)) k_ ∧ some k_ ≠ (u5 : Value).ownBlock)) (HO_205003.out) (fun k_ hk => ⟨⟨hk.1, hk.2.2⟩, hk.2.1⟩))))); (case aB => exact (by exact zB1 HB.out GE204.out)); (case aF => exact (fun k_ hk => ⟨(.inr (Nat.le_trans (below_size (by exact zB1 HB.out GE204.out)) hk)), Kd.freshB (g := gb204) (o := .cells #[.int .i64 a1_0, .int .i64 a1_1, .slice A1_2 l1_2.length c1_2, .slice A1_3 l1_3.length c1_3] 26 (0, 0)) (by exact zK BK204.out) k_ hk⟩)); (case aO => exact (by exact zN HO_5.out)); (case aS => exact (below_size (by exact zB1 HB.out GE204.out))); (case aL => have := LMc14.out; omega); intro v216 w16 ho hb hg hat; rw [← Ny215.out] at ho; have n0_ := Aside0.mk (Kd.V_afterv (ok := (fun k_ => ((P0_ k_ ∨ P1_2_ k_ ∨ P1_3_ k_) ∨ w.heap.size ≤ k_) ∧ k_ ≠ gb204)) (by (with_reducible repeat (first | apply Kd.V_alloc | apply Kd.V_drewN | apply Kd.V_drew)); exact Kd.V_mono HO_0.out (fun _ hk => ⟨⟨hk.1, hk.2.2⟩, hk.2.1⟩)) hg hat); have n1_ := Aside0.mk (Kd.V_afterv (ok := (fun k_ => ((P0_ k_ ∨ P1_2_ k_ ∨ P1_3_ k_) ∨ w.heap.size ≤ k_) ∧ k_ ≠ gb204)) (by (with_reducible repeat (first | apply Kd.V_alloc | apply Kd.V_drewN | apply Kd.V_drew)); exact Kd.V_mono HO_205002.out (fun _ hk => ⟨⟨hk.1, hk.2.2⟩, hk.2.1⟩)) hg hat); have n2_ := Aside0.mk (Kd.V_afterv (ok := (fun k_ => ((P0_ k_ ∨ P1_2_ k_ ∨ P1_3_ k_) ∨ w.heap.size ≤ k_) ∧ k_ ≠ gb204)) (by (with_reducible repeat (first | apply Kd.V_alloc | apply Kd.V_drewN | apply Kd.V_drew)); exact Kd.V_mono HO_205003.out (fun _ hk => ⟨⟨hk.1, hk.2.2⟩, hk.2.1⟩)) hg hat); have n3_ := Aside0.mk (blk_grown (g := gb204) (o := .cells #[.int .i64 a1_0, .int .i64 a1_1, .slice A1_2 l1_2.length c1_2, .slice A1_3 l1_3.length c1_3] 26 (0, 0)) (by exact zK BK204.out) hg (Kd.N_away HO_5.out (fun _ hk => hk.2))); have n4_ := Aside0.mk (hb); have n5_ := Aside0.mk (ho); clear HO_0; clear HO_205002; clear HO_205003; clear BK204; clear HB; clear HO_5; have HO_0 := n0_; have HO_205002 := n1_; have HO_205003 := n2_; have BK204 := n3_; have HB := n4_; have HO217 := n5_; clear n0_ n1_ n2_ n3_ n4_ n5_; clear ho hb hg hat)); try go_wp2_with (first | ((with_reducible refine gate_builtin (b := .append) (xs := #[.tmp 37, .tmp 39]) rfl ?_); at_builtin; refine Kd.N_append k26 (w0 := w) w.heap.size rfl (.tmp 37) (.tmp 39) 103 26 (.agg #[(.int .i64 0), (.int .i64 0), (.slice none 0 0), (.slice none 0 0)]) 64 rfl Tryd.underlying103 info26 rfl (by decide) (by omega) u5 x5_1 (⟨a1_0, a1_1, l1_2, l1_3⟩ : S26) [.int .i64 a1_0, .int .i64 a1_1, .slice A1_2 l1_2.length c1_2, .slice A1_3 l1_3.length c1_3] (fun k_ => ((P0_ k_ ∨ P1_2_ k_ ∨ P1_3_ k_) ∨ w.heap.size ≤ k_) ∧ k_ ≠ gb204) (fun k_ => ((fun k_ => ((P0_ k_ ∨ P1_2_ k_ ∨ P1_3_ k_) ∨ w.heap.size ≤ k_) ∧ k_ ≠ gb204)) k_ ∧ some k_ ≠ (u5 : Value).ownBlock) rfl rfl ?aP (fun _ hk => hk) ?aF ?aO ?aB ?aS ?aL ?_; (case aP => exact (k26_mkF _ _ (⟨a1_0, a1_1, l1_2, l1_3⟩ : S26) (Kd.V_reads' (Kd.V_mono (ok' := (fun k_ => ((fun k_ => ((P0_ k_ ∨ P1_2_ k_ ∨ P1_3_ k_) ∨ w.heap.size ≤ k_) ∧ k_ ≠ gb204)) k_ ∧ some k_ ≠ (u5 : Value).ownBlock)) (HO_205002.out) (fun k_ hk => ⟨⟨hk.1, hk.2.2⟩, hk.2.1⟩))).2.1 (Kd.V_F (Kd.V_mono (ok' := (fun k_ => ((fun k_ => ((P0_ k_ ∨ P1_2_ k_ ∨ P1_3_ k_) ∨ w.heap.size ≤ k_) ∧ k_ ≠ gb204)) k_ ∧ some k_ ≠ (u5 : Value).ownBlock)) (HO_205002.out) (fun k_ hk => ⟨⟨hk.1, hk.2.2⟩, hk.2.1⟩))) (Kd.V_reads' (Kd.V_mono (ok' := (fun k_ => ((fun k_ => ((P0_ k_ ∨ P1_2_ k_ ∨ P1_3_ k_) ∨ w.heap.size ≤ k_) ∧ k_ ≠ gb204)) k_ ∧ some k_ ≠ (u5 : Value).ownBlock)) (HO_205003.out) (fun k_ hk => ⟨⟨hk.1, hk.2.2⟩, hk.2.1⟩))).2.1 (Kd.V_F (Kd.V_mono (ok' := (fun k_ => ((fun k_ => ((P0_ k_ ∨ P1_2_ k_ ∨ P1_3_ k_) ∨ w.heap.size ≤ k_) ∧ k_ ≠ gb204)) k_ ∧ some k_ ≠ (u5 : Value).ownBlock)) (HO_205003.out) (fun k_ hk => ⟨⟨hk.1, hk.2.2⟩, hk.2.1⟩))))); (case aB => exact (by exact zB1 HB.out GE204.out)); (case aF => exact (fun k_ hk => ⟨(.inr (Nat.le_trans (below_size (by exact zB1 HB.out GE204.out)) hk)), Kd.freshB (g := gb204) (o := .cells #[.int .i64 a1_0, .int .i64 a1_1, .slice A1_2 l1_2.length c1_2, .slice A1_3 l1_3.length c1_3] 26 (0, 0)) (by exact zK BK204.out) k_ hk⟩)); (case aO => exact (by exact zN HO_5.out)); (case aS => exact (below_size (by exact zB1 HB.out GE204.out))); (case aL => have := LMc14.out; omega); intro v216 w16 ho hb hg hat; rw [← Ny215.out] at ho; have n0_ := Aside0.mk (Kd.V_afterv (ok := (fun k_ => ((P0_ k_ ∨ P1_2_ k_ ∨ P1_3_ k_) ∨ w.heap.size ≤ k_) ∧ k_ ≠ gb204)) (by (with_reducible repeat (first | apply Kd.V_alloc | apply Kd.V_drewN | apply Kd.V_drew)); exact Kd.V_mono HO_0.out (fun _ hk => ⟨⟨hk.1, hk.2.2⟩, hk.2.1⟩)) hg hat); have n1_ := Aside0.mk (Kd.V_afterv (ok := (fun k_ => ((P0_ k_ ∨ P1_2_ k_ ∨ P1_3_ k_) ∨ w.heap.size ≤ k_) ∧ k_ ≠ gb204)) (by (with_reducible repeat (first | apply Kd.V_alloc | apply Kd.V_drewN | apply Kd.V_drew)); exact Kd.V_mono HO_205002.out (fun _ hk => ⟨⟨hk.1, hk.2.2⟩, hk.2.1⟩)) hg hat); have n2_ := Aside0.mk (Kd.V_afterv (ok := (fun k_ => ((P0_ k_ ∨ P1_2_ k_ ∨ P1_3_ k_) ∨ w.heap.size ≤ k_) ∧ k_ ≠ gb204)) (by (with_reducible repeat (first | apply Kd.V_alloc | apply Kd.V_drewN | apply Kd.V_drew)); exact Kd.V_mono HO_205003.out (fun _ hk => ⟨⟨hk.1, hk.2.2⟩, hk.2.1⟩)) hg hat); have n3_ := Aside0.mk (blk_grown (g := gb204) (o := .cells #[.int .i64 a1_0, .int .i64 a1_1, .slice A1_2 l1_2.length c1_2, .slice A1_3 l1_3.length c1_3] 26 (0, 0)) (by exact zK BK204.out) hg (Kd.N_away HO_5.out (fun _ hk => hk.2))); have n4_ := Aside0.mk (hb); have n5_ := Aside0.mk (ho); clear HO_0; clear HO_205002; clear HO_205003; clear BK204; clear HB; clear HO_5; have HO_0 := n0_; have HO_205002 := n1_; have HO_205003 := n2_; have BK204 := n3_; have HB := n4_; have HO217 := n5_; clear n0_ n1_ n2_ n3_ n4_ n5_; clear ho hb hg hat)))
     go_loopg [5, 7] k1 (fun kq v5 v7 w' => ∃ (x5_2 : List (S26)) (x7_2 : Int), v7 = .int .i64 x7_2 ∧ Aside0 (spec_l12With.l1 kq l0 x5_2 x7_2 a1_0 a1_1 l1_2 l1_3 = some r) ∧ Aside0 (kq ≤ k1) ∧ Aside0 (Kd.V k26 26 w' w.heap.size (fun k_ => ((P0_ k_ ∨ P1_2_ k_ ∨ P1_3_ k_) ∨ w.heap.size ≤ k_) ∧ some k_ ≠ (v5 : Value).ownBlock ∧ k_ ≠ gb204) (.slice A0 l0.length c0) l0) ∧ Aside0 (Kd.N k26 26 w' w.heap.size (fun k_ => ((P0_ k_ ∨ P1_2_ k_ ∨ P1_3_ k_) ∨ w.heap.size ≤ k_) ∧ k_ ≠ gb204) v5 x5_2) ∧ Aside0 (Kd.V k63 63 w' w.heap.size (fun k_ => ((P0_ k_ ∨ P1_2_ k_ ∨ P1_3_ k_) ∨ w.heap.size ≤ k_) ∧ some k_ ≠ (v5 : Value).ownBlock ∧ k_ ≠ gb204) (.slice A1_2 l1_2.length c1_2) l1_2) ∧ Aside0 (Kd.V k66 66 w' w.heap.size (fun k_ => ((P0_ k_ ∨ P1_2_ k_ ∨ P1_3_ k_) ∨ w.heap.size ≤ k_) ∧ some k_ ≠ (v5 : Value).ownBlock ∧ k_ ≠ gb204) (.slice A1_3 l1_3.length c1_3) l1_3) ∧ Aside0 (w'.heap[gb204]? = some (.cells #[.int .i64 a1_0, .int .i64 a1_1, (.slice A1_2 l1_2.length c1_2), (.slice A1_3 l1_3.length c1_3)] 26 (0, 0))) ∧ Aside0 (Below w.heap.size w w'))
     case atStart => exact ⟨(y215), (0), (by first | rfl | (simp; done) | (simp [*]; done)), H', ⟨Nat.le_refl _⟩, ⟨by (with_reducible repeat (first | apply Kd.V_alloc | apply Kd.V_drewN | apply Kd.V_drew)); exact Kd.V_mono HO_0.out (fun _ hk => ⟨hk.1.1, ⟨hk.2, hk.1.2⟩⟩)⟩, ⟨by exact zN HO217.out⟩, ⟨by (with_reducible repeat (first | apply Kd.V_alloc | apply Kd.V_drewN | apply Kd.V_drew)); exact Kd.V_mono HO_205002.out (fun _ hk => ⟨hk.1.1, ⟨hk.2, hk.1.2⟩⟩)⟩, ⟨by (with_reducible repeat (first | apply Kd.V_alloc | apply Kd.V_drewN | apply Kd.V_drew)); exact Kd.V_mono HO_205003.out (fun _ hk => ⟨hk.1.1, ⟨hk.2, hk.1.2⟩⟩)⟩, ⟨by exact zK BK204.out⟩, ⟨by exact zB1 HB.out GE204.out⟩⟩
     case round =>
      clear H'
      try clear c1
      try clear c2
      try clear p2
      try clear q2
      try clear hx2
      try clear c6
      try clear c6b0
      try clear p6
      try clear c7
      try clear c7b0
      try clear c9
      try clear c10
      try clear c14
      try clear hcz11_0
      try clear hcz11_1
      try clear hcz11_2
      try clear hcz11_3
      try clear hcz13_0
      try clear hcz13_1
      try clear hcz13_2
      try clear hcz13_3
      try clear hcz15_0
      try clear hcz15_1
      try clear hcz15_2
      try clear hcz15_3
      try clear hfz11_0
      try clear hfz11_1
      try clear hfz11_2
      try clear hfz11_3
      try clear hfz13_0
      try clear hfz13_1
      try clear hfz13_2
      try clear hfz13_3
      try clear hfz15_0
      try clear hfz15_1
      try clear hfz15_2
      try clear hfz15_3
      try clear hx208_0
      try clear hx208_1
      try clear hx208_2
      try clear hx208_3
      try clear hx209_0
      try clear hx209_1
      try clear hx209_2
      try clear hx209_3
      try clear hx211_0
      try clear hx211_1
      try clear hx211_2
      try clear hx211_3
      try clear p2
      try clear p208
      try clear p209
      try clear p211
      try clear q208
      try clear q209
      try clear q211
      obtain ⟨x5_2, x7_2, rfl, HA, HK2, HO_0, HO_5, HO_205002, HO_205003, BK204, HB⟩ := hrel
      cases gk with
      | zero => exact absurd HA.out (by simp [spec_l12With.l1])
      | succ k2 =>
       have H := HA.out
       clear HA
       simp only [spec_l12With.l1] at H
       by_cases c17 : x7_2 < (l0.length : Int)
       ·rw [if_pos c17] at H
        have c17b0 : decide (x7_2 < (l0.length : Int)) = true := decide_eq_true c17
        clear c17
        by_cases c18 : 0 ≤ x7_2
        ·rw [if_pos c18] at H
         have c18b0 : decide (0 ≤ x7_2) = true := decide_eq_true c18
         clear c18
         replace H := Option.bind_eq_some_iff.mp H
         obtain ⟨t220, A190, H⟩ := H
         replace H : (if t220 = true then (if x5_2.length < 2199023255552 then (spec_l12With.l1 k2 l0 (x5_2 ++ [(⟨(rd_T26 l0 x7_2).f0, (rd_T26 l0 x7_2).f1, (rd_T26 l0 x7_2).f2, (rd_T26 l0 x7_2).f3⟩ : S26)]) (wrap64 (x7_2 + 1)) a1_0 a1_1 l1_2 l1_3) else (none)) else (spec_l12With.l1 k2 l0 x5_2 (wrap64 (x7_2 + 1)) a1_0 a1_1 l1_2 l1_3)) = some r := H
         have A19 := Aside0.mk A190
         clear A190
         by_cases c20 : t220 = true
         ·subst c20
          have H1 : (if x5_2.length < 2199023255552 then (spec_l12With.l1 k2 l0 (x5_2 ++ [(⟨(rd_T26 l0 x7_2).f0, (rd_T26 l0 x7_2).f1, (rd_T26 l0 x7_2).f2, (rd_T26 l0 x7_2).f3⟩ : S26)]) (wrap64 (x7_2 + 1)) a1_0 a1_1 l1_2 l1_3) else (none)) = some r := by rw [if_pos rfl] at H; exact H
          clear H
          have H := H1
          clear H1
          by_cases c21 : x5_2.length < 2199023255552
          ·rw [if_pos c21] at H
           have LMc21 := Aside0.mk c21
           clear c21
           obtain ⟨y222, hy222⟩ : ∃ y_ : List (S26), y_ = (x5_2 ++ [(⟨(rd_T26 l0 x7_2).f0, (rd_T26 l0 x7_2).f1, (rd_T26 l0 x7_2).f2, (rd_T26 l0 x7_2).f3⟩ : S26)]) := ⟨_, rfl⟩
           replace H : (spec_l12With.l1 k2 l0 y222 (wrap64 (x7_2 + 1)) a1_0 a1_1 l1_2 l1_3) = some r := by first | (rw [hy222]; with_reducible exact H) | (have H2_ := (Option.bind_some _ _).symm.trans H; rw [hy222]; with_reducible exact H2_) | (have H2_ := (Option.bind_some _ _).symm.trans H; with_reducible exact H2_) | with_reducible exact H | (rw [hy222]; exact H) | exact H
           have Ny222 := Aside0.mk hy222
           clear hy222
           have H' := Aside0.mk H
           clear H
           obtain ⟨hcz22_0, hcz22_1, hcz22_2, hcz22_3, hfz22_0, hfz22_1, hfz22_2, hfz22_3⟩ := zc4f BK204.out
           have p218 : 0 ≤ (x7_2 : Int) := of_decide_eq_true (by first | (with_reducible assumption) | assumption)
           have q218 : x7_2 < (l0.length : Int) := of_decide_eq_true (by first | (with_reducible assumption) | assumption)
           obtain ⟨ad218, A218_2, c218_2, A218_3, c218_3, e218, hx218_0, hx218_1, hx218_2, hx218_3, hl218_2, hi218_2, hl218_3, hi218_3⟩ := at_T26 (Kd.V_reads' HO_0.out).2.2 x7_2 p218 q218
           cases e218
           obtain ⟨ce218, hce218, hMe218, hcc218⟩ := Kd.V_get HO_0.out z26 x7_2 p218 (by first | exact q218 | exact of_decide_eq_true (by first | (with_reducible assumption) | assumption) | (have e_ := (Kd.V_reads' HO_0.out).1; omega))
           obtain ⟨ua218_2, uc218_2, ua218_3, uc218_3, rfl, ul218_2, ge218_2, ul218_3, ge218_3⟩ := k26_openF hMe218
           have hv218_2 := hcc218 2 _ rfl
           rw [add_field _ _ 2 (by omega)] at hv218_2
           replace hv218_2 := Option.some.inj (hv218_2.symm.trans hx218_2)
           injection hv218_2 with hva_ hvn_ hvc_
           rw [hva_] at ge218_2
           rw [hvc_] at ul218_2
           have HL218_2 := Aside0.mk (show Kd.V k63 63 _ w.heap.size _ _ ((rd_T26 l0 x7_2).f2) from Kd.V_mk ul218_2 ge218_2)
           clear hva_ hvn_ hvc_ ge218_2 ul218_2
           have hv218_3 := hcc218 3 _ rfl
           rw [add_field _ _ 3 (by omega)] at hv218_3
           replace hv218_3 := Option.some.inj (hv218_3.symm.trans hx218_3)
           injection hv218_3 with hva_ hvn_ hvc_
           rw [hva_] at ge218_3
           rw [hvc_] at ul218_3
           have HL218_3 := Aside0.mk (show Kd.V k66 66 _ w.heap.size _ _ ((rd_T26 l0 x7_2).f3) from Kd.V_mk ul218_3 ge218_3)
           clear hva_ hvn_ hvc_ ge218_3 ul218_3
           clear hcc218 hce218
           have HR218_2 := Aside0.mk hi218_2
           have HC218_2 := Aside0.mk hl218_2
           clear hi218_2 hl218_2
           have HR218_3 := Aside0.mk hi218_3
           have HC218_3 := Aside0.mk hl218_3
           clear hi218_3 hl218_3
           replace p218 := eq_true p218
           replace q218 := eq_true q218
           have p219 : 0 ≤ (x7_2 : Int) := of_decide_eq_true (by first | (with_reducible assumption) | assumption)
           have q219 : x7_2 < (l0.length : Int) := of_decide_eq_true (by first | (with_reducible assumption) | assumption)
           obtain ⟨ad219, A219_2, c219_2, A219_3, c219_3, e219, hx219_0, hx219_1, hx219_2, hx219_3, hl219_2, hi219_2, hl219_3, hi219_3⟩ := at_T26 (Kd.V_reads' HO_0.out).2.2 x7_2 p219 q219
           obtain rfl : ad218 = ad219 := (by injection e219)
           obtain ⟨ce219, hce219, hMe219, hcc219⟩ := Kd.V_get HO_0.out z26 x7_2 p219 (by first | exact q219 | exact of_decide_eq_true (by first | (with_reducible assumption) | assumption) | (have e_ := (Kd.V_reads' HO_0.out).1; omega))
           obtain ⟨ua219_2, uc219_2, ua219_3, uc219_3, rfl, ul219_2, ge219_2, ul219_3, ge219_3⟩ := k26_openF hMe219
           have hv219_2 := hcc219 2 _ rfl
           rw [add_field _ _ 2 (by omega)] at hv219_2
           replace hv219_2 := Option.some.inj (hv219_2.symm.trans hx219_2)
           injection hv219_2 with hva_ hvn_ hvc_
           rw [hva_] at ge219_2
           rw [hvc_] at ul219_2
           have HL219_2 := Aside0.mk (show Kd.V k63 63 _ w.heap.size _ _ ((rd_T26 l0 x7_2).f2) from Kd.V_mk ul219_2 ge219_2)
           clear hva_ hvn_ hvc_ ge219_2 ul219_2
           have hv219_3 := hcc219 3 _ rfl
           rw [add_field _ _ 3 (by omega)] at hv219_3
           replace hv219_3 := Option.some.inj (hv219_3.symm.trans hx219_3)
           injection hv219_3 with hva_ hvn_ hvc_
           rw [hva_] at ge219_3
           rw [hvc_] at ul219_3
           have HL219_3 := Aside0.mk (show Kd.V k66 66 _ w.heap.size _ _ ((rd_T26 l0 x7_2).f3) from Kd.V_mk ul219_3 ge219_3)
           clear hva_ hvn_ hvc_ ge219_3 ul219_3
           clear hcc219 hce219
           have HR219_2 := Aside0.mk hi219_2
           have HC219_2 := Aside0.mk hl219_2
           clear hi219_2 hl219_2
           have HR219_3 := Aside0.mk hi219_3
           have HC219_3 := Aside0.mk hl219_3
           clear hi219_3 hl219_3
           replace p219 := eq_true p219
           replace q219 := eq_true q219
           have ea_ := Option.some.inj (hx218_2.symm.trans hx219_2)
           injection ea_ with ea_ en_ ec_
           subst ea_
           subst ec_
           clear en_
           have ea_ := Option.some.inj (hx218_3.symm.trans hx219_3)
           injection ea_ with ea_ en_ ec_
           subst ea_
           subst ec_
           clear en_
           go_wp2_with (first | (go_at_call 55; (with_reducible refine (spec_l3Less.calls a1_0 a1_1 ((rd_T26 l0 x7_2).f0) ((rd_T26 l0 x7_2).f1) true _ A19.out).mono ?_); rintro e w' ⟨rfl, ⟨nd, rfl⟩⟩; (try first | exact ⟨rfl, _, World.drewN_drewN _ _ _⟩ | exact ⟨rfl, _, Eq.trans (World.drewN_drewN _ _ _) (congrArg (World.drewN _) (Nat.add_assoc _ _ _))⟩); have p221 : 0 ≤ (x7_2 : Int) := of_decide_eq_true (by first | (with_reducible assumption) | assumption); have q221 : x7_2 < (l0.length : Int) := of_decide_eq_true (by first | (with_reducible assumption) | assumption); obtain ⟨ad221, A221_2, c221_2, A221_3, c221_3, e221, hx221_0, hx221_1, hx221_2, hx221_3, hl221_2, hi221_2, hl221_3, hi221_3⟩ := at_T26 (Kd.V_reads' HO_0.out).2.2 x7_2 p221 q221; obtain rfl : ad218 = ad221 := (by injection e221); obtain ⟨ce221, hce221, hMe221, hcc221⟩ := Kd.V_get HO_0.out z26 x7_2 p221 (by first | exact q221 | exact of_decide_eq_true (by first | (with_reducible assumption) | assumption) | (have e_ := (Kd.V_reads' HO_0.out).1; omega)); obtain ⟨ua221_2, uc221_2, ua221_3, uc221_3, rfl, ul221_2, ge221_2, ul221_3, ge221_3⟩ := k26_openF hMe221; have hv221_2 := hcc221 2 _ rfl; rw [add_field _ _ 2 (by omega)] at hv221_2; replace hv221_2 := Option.some.inj (hv221_2.symm.trans hx221_2); injection hv221_2 with hva_ hvn_ hvc_; rw [hva_] at ge221_2; rw [hvc_] at ul221_2; have HL221_2 := Aside0.mk (show Kd.V k63 63 _ w.heap.size _ _ ((rd_T26 l0 x7_2).f2) from Kd.V_mk ul221_2 ge221_2); clear hva_ hvn_ hvc_ ge221_2 ul221_2; have hv221_3 := hcc221 3 _ rfl; rw [add_field _ _ 3 (by omega)] at hv221_3; replace hv221_3 := Option.some.inj (hv221_3.symm.trans hx221_3); injection hv221_3 with hva_ hvn_ hvc_; rw [hva_] at ge221_3; rw [hvc_] at ul221_3; have HL221_3 := Aside0.mk (show Kd.V k66 66 _ w.heap.size _ _ ((rd_T26 l0 x7_2).f3) from Kd.V_mk ul221_3 ge221_3); clear hva_ hvn_ hvc_ ge221_3 ul221_3; clear hcc221 hce221; have HR221_2 := Aside0.mk hi221_2; have HC221_2 := Aside0.mk hl221_2; clear hi221_2 hl221_2; have HR221_3 := Aside0.mk hi221_3; have HC221_3 := Aside0.mk hl221_3; clear hi221_3 hl221_3; replace p221 := eq_true p221; replace q221 := eq_true q221; have ea_ := Option.some.inj (hx218_2.symm.trans hx221_2); injection ea_ with ea_ en_ ec_; subst ea_; subst ec_; clear en_; have ea_ := Option.some.inj (hx218_3.symm.trans hx221_3); injection ea_ with ea_ en_ ec_; subst ea_; subst ec_; clear en_) | ((with_reducible refine gate_builtin (b := .append) (xs := #[.tmp 62, .tmp 67]) rfl ?_); at_builtin; refine Kd.N_append k26 (w0 := w) w.heap.size rfl (.tmp 62) (.tmp 67) 103 26 (.agg #[(.int .i64 0), (.int .i64 0), (.slice none 0 0), (.slice none 0 0)]) 64 rfl Tryd.underlying103 info26 rfl (by decide) (by omega) u5 x5_2 (⟨(rd_T26 l0 x7_2).f0, (rd_T26 l0 x7_2).f1, (rd_T26 l0 x7_2).f2, (rd_T26 l0 x7_2).f3⟩ : S26) [.int .i64 ((rd_T26 l0 x7_2).f0), .int .i64 ((rd_T26 l0 x7_2).f1), .slice A218_2 ((rd_T26 l0 x7_2).f2).length c218_2, .slice A218_3 ((rd_T26 l0 x7_2).f3).length c218_3] (fun k_ => ((P0_ k_ ∨ P1_2_ k_ ∨ P1_3_ k_) ∨ w.heap.size ≤ k_) ∧ k_ ≠ gb204) (fun k_ => ((fun k_ => ((P0_ k_ ∨ P1_2_ k_ ∨ P1_3_ k_) ∨ w.heap.size ≤ k_) ∧ k_ ≠ gb204)) k_ ∧ some k_ ≠ (u5 : Value).ownBlock) rfl rfl ?aP (fun _ hk => hk) ?aF ?aO ?aB ?aS ?aL ?_; (case aP => exact (k26_mkF _ _ (⟨(rd_T26 l0 x7_2).f0, (rd_T26 l0 x7_2).f1, (rd_T26 l0 x7_2).f2, (rd_T26 l0 x7_2).f3⟩ : S26) (Kd.V_reads' (Kd.V_mono (ok' := (fun k_ => ((fun k_ => ((P0_ k_ ∨ P1_2_ k_ ∨ P1_3_ k_) ∨ w.heap.size ≤ k_) ∧ k_ ≠ gb204)) k_ ∧ some k_ ≠ (u5 : Value).ownBlock)) (HL221_2.out) (fun k_ hk => ⟨⟨hk.1, hk.2.2⟩, hk.2.1⟩))).2.1 (Kd.V_F (Kd.V_mono (ok' := (fun k_ => ((fun k_ => ((P0_ k_ ∨ P1_2_ k_ ∨ P1_3_ k_) ∨ w.heap.size ≤ k_) ∧ k_ ≠ gb204)) k_ ∧ some k_ ≠ (u5 : Value).ownBlock)) (HL221_2.out) (fun k_ hk => ⟨⟨hk.1, hk.2.2⟩, hk.2.1⟩))) (Kd.V_reads' (Kd.V_mono (ok' := (fun k_ => ((fun k_ => ((P0_ k_ ∨ P1_2_ k_ ∨ P1_3_ k_) ∨ w.heap.size ≤ k_) ∧ k_ ≠ gb204)) k_ ∧ some k_ ≠ (u5 : Value).ownBlock)) (HL221_3.out) (fun k_ hk => ⟨⟨hk.1, hk.2.2⟩, hk.2.1⟩))).2.1 (Kd.V_F (Kd.V_mono (ok' := (fun k_ => ((fun k_ => ((P0_ k_ ∨ P1_2_ k_ ∨ P1_3_ k_) ∨ w.heap.size ≤ k_) ∧ k_ ≠ gb204)) k_ ∧ some k_ ≠ (u5 : Value).ownBlock)) (HL221_3.out) (fun k_ hk => ⟨⟨hk.1, hk.2.2⟩, hk.2.1⟩))))); (case aB => exact (by exact zB1 HB.out GE204.out)); (case aF => exact (fun k_ hk => ⟨(.inr (Nat.le_trans (below_size (by exact zB1 HB.out GE204.out)) hk)), Kd.freshB (g := gb204) (o := .cells #[.int .i64 a1_0, .int .i64 a1_1, .slice A1_2 l1_2.length c1_2, .slice A1_3 l1_3.length c1_3] 26 (0, 0)) (by exact zK BK204.out) k_ hk⟩)); (case aO => exact (by exact zN HO_5.out)); (case aS => exact (below_size (by exact zB1 HB.out GE204.out))); (case aL => have := LMc21.out; omega); intro v223 w23 ho hb hg hat; rw [← Ny222.out] at ho; have n0_ := Aside0.mk (Kd.V_afterv (ok := (fun k_ => ((P0_ k_ ∨ P1_2_ k_ ∨ P1_3_ k_) ∨ w.heap.size ≤ k_) ∧ k_ ≠ gb204)) (by (with_reducible repeat (first | apply Kd.V_alloc | apply Kd.V_drewN | apply Kd.V_drew)); exact Kd.V_mono HO_0.out (fun _ hk => ⟨⟨hk.1, hk.2.2⟩, hk.2.1⟩)) hg hat); have n1_ := Aside0.mk (Kd.V_afterv (ok := (fun k_ => ((P0_ k_ ∨ P1_2_ k_ ∨ P1_3_ k_) ∨ w.heap.size ≤ k_) ∧ k_ ≠ gb204)) (by (with_reducible repeat (first | apply Kd.V_alloc | apply Kd.V_drewN | apply Kd.V_drew)); exact Kd.V_mono HO_205002.out (fun _ hk => ⟨⟨hk.1, hk.2.2⟩, hk.2.1⟩)) hg hat); have n2_ := Aside0.mk (Kd.V_afterv (ok := (fun k_ => ((P0_ k_ ∨ P1_2_ k_ ∨ P1_3_ k_) ∨ w.heap.size ≤ k_) ∧ k_ ≠ gb204)) (by (with_reducible repeat (first | apply Kd.V_alloc | apply Kd.V_drewN | apply Kd.V_drew)); exact Kd.V_mono HO_205003.out (fun _ hk => ⟨⟨hk.1, hk.2.2⟩, hk.2.1⟩)) hg hat); have n3_ := Aside0.mk (blk_grown (g := gb204) (o := .cells #[.int .i64 a1_0, .int .i64 a1_1, .slice A1_2 l1_2.length c1_2, .slice A1_3 l1_3.length c1_3] 26 (0, 0)) (by exact zK BK204.out) hg (Kd.N_away HO_5.out (fun _ hk => hk.2))); have n4_ := Aside0.mk (Kd.V_afterv (ok := (fun k_ => ((P0_ k_ ∨ P1_2_ k_ ∨ P1_3_ k_) ∨ w.heap.size ≤ k_) ∧ k_ ≠ gb204)) (by (with_reducible repeat (first | apply Kd.V_alloc | apply Kd.V_drewN | apply Kd.V_drew)); exact Kd.V_mono HL218_2.out (fun _ hk => ⟨⟨hk.1, hk.2.2⟩, hk.2.1⟩)) hg hat); have n5_ := Aside0.mk (Kd.V_afterv (ok := (fun k_ => ((P0_ k_ ∨ P1_2_ k_ ∨ P1_3_ k_) ∨ w.heap.size ≤ k_) ∧ k_ ≠ gb204)) (by (with_reducible repeat (first | apply Kd.V_alloc | apply Kd.V_drewN | apply Kd.V_drew)); exact Kd.V_mono HL218_3.out (fun _ hk => ⟨⟨hk.1, hk.2.2⟩, hk.2.1⟩)) hg hat); have n6_ := Aside0.mk (Kd.V_afterv (ok := (fun k_ => ((P0_ k_ ∨ P1_2_ k_ ∨ P1_3_ k_) ∨ w.heap.size ≤ k_) ∧ k_ ≠ gb204)) (by (with_reducible repeat (first | apply Kd.V_alloc | apply Kd.V_drewN | apply Kd.V_drew)); exact Kd.V_mono HL219_2.out (fun _ hk => ⟨⟨hk.1, hk.2.2⟩, hk.2.1⟩)) hg hat); have n7_ := Aside0.mk (Kd.V_afterv (ok := (fun k_ => ((P0_ k_ ∨ P1_2_ k_ ∨ P1_3_ k_) ∨ w.heap.size ≤ k_) ∧ k_ ≠ gb204)) (by (with_reducible repeat (first | apply Kd.V_alloc | apply Kd.V_drewN | apply Kd.V_drew)); exact Kd.V_mono HL219_3.out (fun _ hk => ⟨⟨hk.1, hk.2.2⟩, hk.2.1⟩)) hg hat); have n8_ := Aside0.mk (Kd.V_afterv (ok := (fun k_ => ((P0_ k_ ∨ P1_2_ k_ ∨ P1_3_ k_) ∨ w.heap.size ≤ k_) ∧ k_ ≠ gb204)) (by (with_reducible repeat (first | apply Kd.V_alloc | apply Kd.V_drewN | apply Kd.V_drew)); exact Kd.V_mono HL221_2.out (fun _ hk => ⟨⟨hk.1, hk.2.2⟩, hk.2.1⟩)) hg hat); have n9_ := Aside0.mk (Kd.V_afterv (ok := (fun k_ => ((P0_ k_ ∨ P1_2_ k_ ∨ P1_3_ k_) ∨ w.heap.size ≤ k_) ∧ k_ ≠ gb204)) (by (with_reducible repeat (first | apply Kd.V_alloc | apply Kd.V_drewN | apply Kd.V_drew)); exact Kd.V_mono HL221_3.out (fun _ hk => ⟨⟨hk.1, hk.2.2⟩, hk.2.1⟩)) hg hat); have n10_ := Aside0.mk (hb); have n11_ := Aside0.mk (ho); clear HO_0; clear HO_205002; clear HO_205003; clear BK204; clear HL218_2; clear HL218_3; clear HL219_2; clear HL219_3; clear HL221_2; clear HL221_3; clear HB; clear HO_5; have HO_0 := n0_; have HO_205002 := n1_; have HO_205003 := n2_; have BK204 := n3_; have HL218_2 := n4_; have HL218_3 := n5_; have HL219_2 := n6_; have HL219_3 := n7_; have HL221_2 := n8_; have HL221_3 := n9_; have HB := n10_; have HO224 := n11_; clear n0_ n1_ n2_ n3_ n4_ n5_ n6_ n7_ n8_ n9_ n10_ n11_; clear ho hb hg hat))
           repeat (go_quiet (first | (go_at_call 55; (with_reducible refine (spec_l3Less.calls a1_0 a1_1 ((rd_T26 l0 x7_2).f0) ((rd_T26 l0 x7_2).f1) true _ A19.out).mono ?_); rintro e w' ⟨rfl, ⟨nd, rfl⟩⟩; (try first | exact ⟨rfl, _, World.drewN_drewN _ _ _⟩ | exact ⟨rfl, _, Eq.trans (World.drewN_drewN _ _ _) (congrArg (World.drewN _) (Nat.add_assoc _ _ _))⟩); have p221 : 0 ≤ (x7_2 : Int) := of_decide_eq_true (by first | (with_reducible assumption) | assumption); have q221 : x7_2 < (l0.length : Int) := of_decide_eq_true (by first | (with_reducible assumption) | assumption); obtain ⟨ad221, A221_2, c221_2, A221_3, c221_3, e221, hx221_0, hx221_1, hx221_2, hx221_3, hl221_2, hi221_2, hl221_3, hi221_3⟩ := at_T26 (Kd.V_reads' HO_0.out).2.2 x7_2 p221 q221; obtain rfl : ad218 = ad221 := (by injection e221); obtain ⟨ce221, hce221, hMe221, hcc221⟩ := Kd.V_get HO_0.out z26 x7_2 p221 (by first | exact q221 | exact of_decide_eq_true (by first | (with_reducible assumption) | assumption) | (have e_ := (Kd.V_reads' HO_0.out).1; omega)); obtain ⟨ua221_2, uc221_2, ua221_3, uc221_3, rfl, ul221_2, ge221_2, ul221_3, ge221_3⟩ := k26_openF hMe221; have hv221_2 := hcc221 2 _ rfl; rw [add_field _ _ 2 (by omega)] at hv221_2; replace hv221_2 := Option.some.inj (hv221_2.symm.trans hx221_2); injection hv221_2 with hva_ hvn_ hvc_; rw [hva_] at ge221_2; rw [hvc_] at ul221_2; have HL221_2 := Aside0.mk (show Kd.V k63 63 _ w.heap.size _ _ ((rd_T26 l0 x7_2).f2) from Kd.V_mk ul221_2 ge221_2); clear hva_ hvn_ hvc_ ge221_2 ul221_2; have hv221_3 := hcc221 3 _ rfl; rw [add_field _ _ 3 (by omega)] at hv221_3; replace hv221_3 := Option.some.inj (hv221_3.symm.trans hx221_3); injection hv221_3 with hva_ hvn_ hvc_; rw [hva_] at ge221_3; rw [hvc_] at ul221_3; have HL221_3 := Aside0.mk (show Kd.V k66 66 _ w.heap.size _ _ ((rd_T26 l0 x7_2).f3) from Kd.V_mk ul221_3 ge221_3); clear hva_ hvn_ hvc_ ge221_3 ul221_3; clear hcc221 hce221; have HR221_2 := Aside0.mk hi221_2; have HC221_2 := Aside0.mk hl221_2; clear hi221_2 hl221_2; have HR221_3 := Aside0.mk hi221_3; have HC221_3 := Aside0.mk hl221_3; clear hi221_3 hl221_3; replace p221 := eq_true p221; replace q221 := eq_true q221; have ea_ := Option.some.inj (hx218_2.symm.trans hx221_2); injection ea_ with ea_ en_ ec_; subst ea_; subst ec_; clear en_; have ea_ := Option.some.inj (hx218_3.symm.trans hx221_3); injection ea_ with ea_ en_ ec_; subst ea_; subst ec_; clear en_) | ((with_reducible refine gate_builtin (b := .append) (xs := #[.tmp 62, .tmp 67]) rfl ?_); at_builtin; refine Kd.N_append k26 (w0 := w) w.heap.size rfl (.tmp 62) (.tmp 67) 103 26 (.agg #[(.int .i64 0), (.int .i64 0), (.slice none 0 0), (.slice none 0 0)]) 64 rfl Tryd.underlying103 info26 rfl (by decide) (by omega) u5 x5_2 (⟨(rd_T26 l0 x7_2).f0, (rd_T26 l0 x7_2).f1, (rd_T26 l0 x7_2).f2, (rd_T26 l0 x7_2).f3⟩ : S26) [.int .i64 ((rd_T26 l0 x7_2).f0), .int .i64 ((rd_T26 l0 x7_2).f1), .slice A218_2 ((rd_T26 l0 x7_2).f2).length c218_2, .slice A218_3 ((rd_T26 l0 x7_2).f3).length c218_3] (fun k_ => ((P0_ k_ ∨ P1_2_ k_ ∨ P1_3_ k_) ∨ w.heap.size ≤ k_) ∧ k_ ≠ gb204) (fun k_ => ((fun k_ => ((P0_ k_ ∨ P1_2_ k_ ∨ P1_3_ k_) ∨ w.heap.size ≤ k_) ∧ k_ ≠ gb204)) k_ ∧ some k_ ≠ (u5 : Value).ownBlock) rfl rfl ?aP (fun _ hk => hk) ?aF ?aO ?aB ?aS ?aL ?_; (case aP => exact (k26_mkF _ _ (⟨(rd_T26 l0 x7_2).f0, (rd_T26 l0 x7_2).f1, (rd_T26 l0 x7_2).f2, (rd_T26 l0 x7_2).f3⟩ : S26) (Kd.V_reads' (Kd.V_mono (ok' := (fun k_ => ((fun k_ => ((P0_ k_ ∨ P1_2_ k_ ∨ P1_3_ k_) ∨ w.heap.size ≤ k_) ∧ k_ ≠ gb204)) k_ ∧ some k_ ≠ (u5 : Value).ownBlock)) (HL221_2.out) (fun k_ hk => ⟨⟨hk.1, hk.2.2⟩, hk.2.1⟩))).2.1 (Kd.V_F (Kd.V_mono (ok' := (fun k_ => ((fun k_ => ((P0_ k_ ∨ P1_2_ k_ ∨ P1_3_ k_) ∨ w.heap.size ≤ k_) ∧ k_ ≠ gb204)) k_ ∧ some k_ ≠ (u5 : Value).ownBlock)) (HL221_2.out) (fun k_ hk => ⟨⟨hk.1, hk.2.2⟩, hk.2.1⟩))) (Kd.V_reads' (Kd.V_mono (ok' := (fun k_ => ((fun k_ => ((P0_ k_ ∨ P1_2_ k_ ∨ P1_3_ k_) ∨ w.heap.size ≤ k_) ∧ k_ ≠ gb204)) k_ ∧ some k_ ≠ (u5 : Value).ownBlock)) (HL221_3.out) (fun k_ hk => ⟨⟨hk.1, hk.2.2⟩, hk.2.1⟩))).2.1 (Kd.V_F (Kd.V_mono (ok' := (fun k_ => ((fun k_ => ((P0_ k_ ∨ P1_2_ k_ ∨ P1_3_ k_) ∨ w.heap.size ≤ k_) ∧ k_ ≠ gb204)) k_ ∧ some k_ ≠ (u5 : Value).ownBlock)) (HL221_3.out) (fun k_ hk => ⟨⟨hk.1, hk.2.2⟩, hk.2.1⟩))))); (case aB => exact (by exact zB1 HB.out GE204.out)); (case aF => exact (fun k_ hk => ⟨(.inr (Nat.le_trans (below_size (by exact zB1 HB.out GE204.out)) hk)), Kd.freshB (g := gb204) (o := .cells #[.int .i64 a1_0, .int .i64 a1_1, .slice A1_2 l1_2.length c1_2, .slice A1_3 l1_3.length c1_3] 26 (0, 0)) (by exact zK BK204.out) k_ hk⟩)); (case aO => exact (by exact zN HO_5.out)); (case aS => exact (below_size (by exact zB1 HB.out GE204.out))); (case aL => have := LMc21.out; omega); intro v223 w23 ho hb hg hat; rw [← Ny222.out] at ho; have n0_ := Aside0.mk (Kd.V_afterv (ok := (fun k_ => ((P0_ k_ ∨ P1_2_ k_ ∨ P1_3_ k_) ∨ w.heap.size ≤ k_) ∧ k_ ≠ gb204)) (by (with_reducible repeat (first | apply Kd.V_alloc | apply Kd.V_drewN | apply Kd.V_drew)); exact Kd.V_mono HO_0.out (fun _ hk => ⟨⟨hk.1, hk.2.2⟩, hk.2.1⟩)) hg hat); have n1_ := Aside0.mk (Kd.V_afterv (ok := (fun k_ => ((P0_ k_ ∨ P1_2_ k_ ∨ P1_3_ k_) ∨ w.heap.size ≤ k_) ∧ k_ ≠ gb204)) (by (with_reducible repeat (first | apply Kd.V_alloc | apply Kd.V_drewN | apply Kd.V_drew)); exact Kd.V_mono HO_205002.out (fun _ hk => ⟨⟨hk.1, hk.2.2⟩, hk.2.1⟩)) hg hat); have n2_ := Aside0.mk (Kd.V_afterv (ok := (fun k_ => ((P0_ k_ ∨ P1_2_ k_ ∨ P1_3_ k_) ∨ w.heap.size ≤ k_) ∧ k_ ≠ gb204)) (by (with_reducible repeat (first | apply Kd.V_alloc | apply Kd.V_drewN | apply Kd.V_drew)); exact Kd.V_mono HO_205003.out (fun _ hk => ⟨⟨hk.1, hk.2.2⟩, hk.2.1⟩)) hg hat); have n3_ := Aside0.mk (blk_grown (g := gb204) (o := .cells #[.int .i64 a1_0, .int .i64 a1_1, .slice A1_2 l1_2.length c1_2, .slice A1_3 l1_3.length c1_3] 26 (0, 0)) (by exact zK BK204.out) hg (Kd.N_away HO_5.out (fun _ hk => hk.2))); have n4_ := Aside0.mk (Kd.V_afterv (ok := (fun k_ => ((P0_ k_ ∨ P1_2_ k_ ∨ P1_3_ k_) ∨ w.heap.size ≤ k_) ∧ k_ ≠ gb204)) (by (with_reducible repeat (first | apply Kd.V_alloc | apply Kd.V_drewN | apply Kd.V_drew)); exact Kd.V_mono HL218_2.out (fun _ hk => ⟨⟨hk.1, hk.2.2⟩, hk.2.1⟩)) hg hat); have n5_ := Aside0.mk (Kd.V_afterv (ok := (fun k_ => ((P0_ k_ ∨ P1_2_ k_ ∨ P1_3_ k_) ∨ w.heap.size ≤ k_) ∧ k_ ≠ gb204)) (by (with_reducible repeat (first | apply Kd.V_alloc | apply Kd.V_drewN | apply Kd.V_drew)); exact Kd.V_mono HL218_3.out (fun _ hk => ⟨⟨hk.1, hk.2.2⟩, hk.2.1⟩)) hg hat); have n6_ := Aside0.mk (Kd.V_afterv (ok := (fun k_ => ((P0_ k_ ∨ P1_2_ k_ ∨ P1_3_ k_) ∨ w.heap.size ≤ k_) ∧ k_ ≠ gb204)) (by (with_reducible repeat (first | apply Kd.V_alloc | apply Kd.V_drewN | apply Kd.V_drew)); exact Kd.V_mono HL219_2.out (fun _ hk => ⟨⟨hk.1, hk.2.2⟩, hk.2.1⟩)) hg hat); have n7_ := Aside0.mk (Kd.V_afterv (ok := (fun k_ => ((P0_ k_ ∨ P1_2_ k_ ∨ P1_3_ k_) ∨ w.heap.size ≤ k_) ∧ k_ ≠ gb204)) (by (with_reducible repeat (first | apply Kd.V_alloc | apply Kd.V_drewN | apply Kd.V_drew)); exact Kd.V_mono HL219_3.out (fun _ hk => ⟨⟨hk.1, hk.2.2⟩, hk.2.1⟩)) hg hat); have n8_ := Aside0.mk (Kd.V_afterv (ok := (fun k_ => ((P0_ k_ ∨ P1_2_ k_ ∨ P1_3_ k_) ∨ w.heap.size ≤ k_) ∧ k_ ≠ gb204)) (by (with_reducible repeat (first | apply Kd.V_alloc | apply Kd.V_drewN | apply Kd.V_drew)); exact Kd.V_mono HL221_2.out (fun _ hk => ⟨⟨hk.1, hk.2.2⟩, hk.2.1⟩)) hg hat); have n9_ := Aside0.mk (Kd.V_afterv (ok := (fun k_ => ((P0_ k_ ∨ P1_2_ k_ ∨ P1_3_ k_) ∨ w.heap.size ≤ k_) ∧ k_ ≠ gb204)) (by (with_reducible repeat (first | apply Kd.V_alloc | apply Kd.V_drewN | apply Kd.V_drew)); exact Kd.V_mono HL221_3.out (fun _ hk => ⟨⟨hk.1, hk.2.2⟩, hk.2.1⟩)) hg hat); have n10_ := Aside0.mk (hb); have n11_ := Aside0.mk (ho); clear HO_0; clear HO_205002; clear HO_205003; clear BK204; clear HL218_2; clear HL218_3; clear HL219_2; clear HL219_3; clear HL221_2; clear HL221_3; clear HB; clear HO_5; have HO_0 := n0_; have HO_205002 := n1_; have HO_205003 := n2_; have BK204 := n3_; have HL218_2 := n4_; have HL218_3 := n5_; have HL219_2 := n6_; have HL219_3 := n7_; have HL221_2 := n8_; have HL221_3 := n9_; have HB := n10_; have HO224 := n11_; clear n0_ n1_ n2_ n3_ n4_ n5_ n6_ n7_ n8_ n9_ n10_ n11_; clear ho hb hg hat)); try go_wp2_with (first | (go_at_call 55; (with_reducible refine (spec_l3Less.calls a1_0 a1_1 ((rd_T26 l0 x7_2).f0) ((rd_T26 l0 x7_2).f1) true _ A19.out).mono ?_); rintro e w' ⟨rfl, ⟨nd, rfl⟩⟩; (try first | exact ⟨rfl, _, World.drewN_drewN _ _ _⟩ | exact ⟨rfl, _, Eq.trans (World.drewN_drewN _ _ _) (congrArg (World.drewN _) (Nat.add_assoc _ _ _))⟩); have p221 : 0 ≤ (x7_2 : Int) := of_decide_eq_true (by first | (with_reducible assumption) | assumption); have q221 : x7_2 < (l0.length : Int) := of_decide_eq_true (by first | (with_reducible assumption) | assumption); obtain ⟨ad221, A221_2, c221_2, A221_3, c221_3, e221, hx221_0, hx221_1, hx221_2, hx221_3, hl221_2, hi221_2, hl221_3, hi221_3⟩ := at_T26 (Kd.V_reads' HO_0.out).2.2 x7_2 p221 q221; obtain rfl : ad218 = ad221 := (by injection e221); obtain ⟨ce221, hce221, hMe221, hcc221⟩ := Kd.V_get HO_0.out z26 x7_2 p221 (by first | exact q221 | exact of_decide_eq_true (by first | (with_reducible assumption) | assumption) | (have e_ := (Kd.V_reads' HO_0.out).1; omega)); obtain ⟨ua221_2, uc221_2, ua221_3, uc221_3, rfl, ul221_2, ge221_2, ul221_3, ge221_3⟩ := k26_openF hMe221; have hv221_2 := hcc221 2 _ rfl; rw [add_field _ _ 2 (by omega)] at hv221_2; replace hv221_2 := Option.some.inj (hv221_2.symm.trans hx221_2); injection hv221_2 with hva_ hvn_ hvc_; rw [hva_] at ge221_2; rw [hvc_] at ul221_2; have HL221_2 := Aside0.mk (show Kd.V k63 63 _ w.heap.size _ _ ((rd_T26 l0 x7_2).f2) from Kd.V_mk ul221_2 ge221_2); clear hva_ hvn_ hvc_ ge221_2 ul221_2; have hv221_3 := hcc221 3 _ rfl; rw [add_field _ _ 3 (by omega)] at hv221_3; replace hv221_3 := Option.some.inj (hv221_3.symm.trans hx221_3); injection hv221_3 with hva_ hvn_ hvc_; rw [hva_] at ge221_3; rw [hvc_] at ul221_3; have HL221_3 := Aside0.mk (show Kd.V k66 66 _ w.heap.size _ _ ((rd_T26 l0 x7_2).f3) from Kd.V_mk ul221_3 ge221_3); clear hva_ hvn_ hvc_ ge221_3 ul221_3; clear hcc221 hce221; have HR221_2 := Aside0.mk hi221_2; have HC221_2 := Aside0.mk hl221_2; clear hi221_2 hl221_2; have HR221_3 := Aside0.mk hi221_3; have HC221_3 := Aside0.mk hl221_3; clear hi221_3 hl221_3; replace p221 := eq_true p221; replace q221 := eq_true q221; have ea_ := Option.some.inj (hx218_2.symm.trans hx221_2); injection ea_ with ea_ en_ ec_; subst ea_; subst ec_; clear en_; have ea_ := Option.some.inj (hx218_3.symm.trans hx221_3); injection ea_ with ea_ en_ ec_; subst ea_; subst ec_; clear en_) | ((with_reducible refine gate_builtin (b := .append) (xs := #[.tmp 62, .tmp 67]) rfl ?_); at_builtin; refine Kd.N_append k26 (w0 := w) w.heap.size rfl (.tmp 62) (.tmp 67) 103 26 (.agg #[(.int .i64 0), (.int .i64 0), (.slice none 0 0), (.slice none 0 0)]) 64 rfl Tryd.underlying103 info26 rfl (by decide) (by omega) u5 x5_2 (⟨(rd_T26 l0 x7_2).f0, (rd_T26 l0 x7_2).f1, (rd_T26 l0 x7_2).f2, (rd_T26 l0 x7_2).f3⟩ : S26) [.int .i64 ((rd_T26 l0 x7_2).f0), .int .i64 ((rd_T26 l0 x7_2).f1), .slice A218_2 ((rd_T26 l0 x7_2).f2).length c218_2, .slice A218_3 ((rd_T26 l0 x7_2).f3).length c218_3] (fun k_ => ((P0_ k_ ∨ P1_2_ k_ ∨ P1_3_ k_) ∨ w.heap.size ≤ k_) ∧ k_ ≠ gb204) (fun k_ => ((fun k_ => ((P0_ k_ ∨ P1_2_ k_ ∨ P1_3_ k_) ∨ w.heap.size ≤ k_) ∧ k_ ≠ gb204)) k_ ∧ some k_ ≠ (u5 : Value).ownBlock) rfl rfl ?aP (fun _ hk => hk) ?aF ?aO ?aB ?aS ?aL ?_; (case aP => exact (k26_mkF _ _ (⟨(rd_T26 l0 x7_2).f0, (rd_T26 l0 x7_2).f1, (rd_T26 l0 x7_2).f2, (rd_T26 l0 x7_2).f3⟩ : S26) (Kd.V_reads' (Kd.V_mono (ok' := (fun k_ => ((fun k_ => ((P0_ k_ ∨ P1_2_ k_ ∨ P1_3_ k_) ∨ w.heap.size ≤ k_) ∧ k_ ≠ gb204)) k_ ∧ some k_ ≠ (u5 : Value).ownBlock)) (HL221_2.out) (fun k_ hk => ⟨⟨hk.1, hk.2.2⟩, hk.2.1⟩))).2.1 (Kd.V_F (Kd.V_mono (ok' := (fun k_ => ((fun k_ => ((P0_ k_ ∨ P1_2_ k_ ∨ P1_3_ k_) ∨ w.heap.size ≤ k_) ∧ k_ ≠ gb204)) k_ ∧ some k_ ≠ (u5 : Value).ownBlock)) (HL221_2.out) (fun k_ hk => ⟨⟨hk.1, hk.2.2⟩, hk.2.1⟩))) (Kd.V_reads' (Kd.V_mono (ok' := (fun k_ => ((fun k_ => ((P0_ k_ ∨ P1_2_ k_ ∨ P1_3_ k_) ∨ w.heap.size ≤ k_) ∧ k_ ≠ gb204)) k_ ∧ some k_ ≠ (u5 : Value).ownBlock)) (HL221_3.out) (fun k_ hk => ⟨⟨hk.1, hk.2.2⟩, hk.2.1⟩))).2.1 (Kd.V_F (Kd.V_mono (ok' := (fun k_ => ((fun k_ => ((P0_ k_ ∨ P1_2_ k_ ∨ P1_3_ k_) ∨ w.heap.size ≤ k_) ∧ k_ ≠ gb204)) k_ ∧ some k_ ≠ (u5 : Value).ownBlock)) (HL221_3.out) (fun k_ hk => ⟨⟨hk.1, hk.2.2⟩, hk.2.1⟩))))); (case aB => exact (by exact zB1 HB.out GE204.out)); (case aF => exact (fun k_ hk => ⟨(.inr (Nat.le_trans (below_size (by exact zB1 HB.out GE204.out)) hk)), Kd.freshB (g := gb204) (o := .cells #[.int .i64 a1_0, .int .i64 a1_1, .slice A1_2 l1_2.length c1_2, .slice A1_3 l1_3.length c1_3] 26 (0, 0)) (by exact zK BK204.out) k_ hk⟩)); (case aO => exact (by exact zN HO_5.out)); (case aS => exact (below_size (by exact zB1 HB.out GE204.out))); (case aL => have := LMc21.out; omega); intro v223 w23 ho hb hg hat; rw [← Ny222.out] at ho; have n0_ := Aside0.mk (Kd.V_afterv (ok := (fun k_ => ((P0_ k_ ∨ P1_2_ k_ ∨ P1_3_ k_) ∨ w.heap.size ≤ k_) ∧ k_ ≠ gb204)) (by (with_reducible repeat (first | apply Kd.V_alloc | apply Kd.V_drewN | apply Kd.V_drew)); exact Kd.V_mono HO_0.out (fun _ hk => ⟨⟨hk.1, hk.2.2⟩, hk.2.1⟩)) hg hat); have n1_ := Aside0.mk (Kd.V_afterv (ok := (fun k_ => ((P0_ k_ ∨ P1_2_ k_ ∨ P1_3_ k_) ∨ w.heap.size ≤ k_) ∧ k_ ≠ gb204)) (by (with_reducible repeat (first | apply Kd.V_alloc | apply Kd.V_drewN | apply Kd.V_drew)); exact Kd.V_mono HO_205002.out (fun _ hk => ⟨⟨hk.1, hk.2.2⟩, hk.2.1⟩)) hg hat); have n2_ := Aside0.mk (Kd.V_afterv (ok := (fun k_ => ((P0_ k_ ∨ P1_2_ k_ ∨ P1_3_ k_) ∨ w.heap.size ≤ k_) ∧ k_ ≠ gb204)) (by (with_reducible repeat (first | apply Kd.V_alloc | apply Kd.V_drewN | apply Kd.V_drew)); exact Kd.V_mono HO_205003.out (fun _ hk => ⟨⟨hk.1, hk.2.2⟩, hk.2.1⟩)) hg hat); have n3_ := Aside0.mk (blk_grown (g := gb204) (o := .cells #[.int .i64 a1_0, .int .i64 a1_1, .slice A1_2 l1_2.length c1_2, .slice A1_3 l1_3.length c1_3] 26 (0, 0)) (by exact zK BK204.out) hg (Kd.N_away HO_5.out (fun _ hk => hk.2))); have n4_ := Aside0.mk (Kd.V_afterv (ok := (fun k_ => ((P0_ k_ ∨ P1_2_ k_ ∨ P1_3_ k_) ∨ w.heap.size ≤ k_) ∧ k_ ≠ gb204)) (by (with_reducible repeat (first | apply Kd.V_alloc | apply Kd.V_drewN | apply Kd.V_drew)); exact Kd.V_mono HL218_2.out (fun _ hk => ⟨⟨hk.1, hk.2.2⟩, hk.2.1⟩)) hg hat); have n5_ := Aside0.mk (Kd.V_afterv (ok := (fun k_ => ((P0_ k_ ∨ P1_2_ k_ ∨ P1_3_ k_) ∨ w.heap.size ≤ k_) ∧ k_ ≠ gb204)) (by (with_reducible repeat (first | apply Kd.V_alloc | apply Kd.V_drewN | apply Kd.V_drew)); exact Kd.V_mono HL218_3.out (fun _ hk => ⟨⟨hk.1, hk.2.2⟩, hk.2.1⟩)) hg hat); have n6_ := Aside0.mk (Kd.V_afterv (ok := (fun k_ => ((P0_ k_ ∨ P1_2_ k_ ∨ P1_3_ k_) ∨ w.heap.size ≤ k_) ∧ k_ ≠ gb204)) (by (with_reducible repeat (first | apply Kd.V_alloc | apply Kd.V_drewN | apply Kd.V_drew)); exact Kd.V_mono HL219_2.out (fun _ hk => ⟨⟨hk.1, hk.2.2⟩, hk.2.1⟩)) hg hat); have n7_ := Aside0.mk (Kd.V_afterv (ok := (fun k_ => ((P0_ k_ ∨ P1_2_ k_ ∨ P1_3_ k_) ∨ w.heap.size ≤ k_) ∧ k_ ≠ gb204)) (by (with_reducible repeat (first | apply Kd.V_alloc | apply Kd.V_drewN | apply Kd.V_drew)); exact Kd.V_mono HL219_3.out (fun _ hk => ⟨⟨hk.1, hk.2.2⟩, hk.2.1⟩)) hg hat); have n8_ := Aside0.mk (Kd.V_afterv (ok := (fun k_ => ((P0_ k_ ∨ P1_2_ k_ ∨ P1_3_ k_) ∨ w.heap.size ≤ k_) ∧ k_ ≠ gb204)) (by (with_reducible repeat (first | apply Kd.V_alloc | apply Kd.V_drewN | apply Kd.V_drew)); exact Kd.V_mono HL221_2.out (fun _ hk => ⟨⟨hk.1, hk.2.2⟩, hk.2.1⟩)) hg hat); have n9_ := Aside0.mk (Kd.V_afterv (ok := (fun k_ => ((P0_ k_ ∨ P1_2_ k_ ∨ P1_3_ k_) ∨ w.heap.size ≤ k_) ∧ k_ ≠ gb204)) (by (with_reducible repeat (first | apply Kd.V_alloc | apply Kd.V_drewN | apply Kd.V_drew)); exact Kd.V_mono HL221_3.out (fun _ hk => ⟨⟨hk.1, hk.2.2⟩, hk.2.1⟩)) hg hat); have n10_ := Aside0.mk (hb); have n11_ := Aside0.mk (ho); clear HO_0; clear HO_205002; clear HO_205003; clear BK204; clear HL218_2; clear HL218_3; clear HL219_2; clear HL219_3; clear HL221_2; clear HL221_3; clear HB; clear HO_5; have HO_0 := n0_; have HO_205002 := n1_; have HO_205003 := n2_; have BK204 := n3_; have HL218_2 := n4_; have HL218_3 := n5_; have HL219_2 := n6_; have HL219_3 := n7_; have HL221_2 := n8_; have HL221_3 := n9_; have HB := n10_; have HO224 := n11_; clear n0_ n1_ n2_ n3_ n4_ n5_ n6_ n7_ n8_ n9_ n10_ n11_; clear ho hb hg hat)))
           go_roundg k2
           case measure => have := HK1.out; have := HK2.out; omega
           case rel => exact ⟨(y222), (wrap64 (x7_2 + 1)), (by first | rfl | (simp; done) | (simp [*]; done)), H', ⟨by have := HK1.out; have := HK2.out; omega⟩, ⟨by (with_reducible repeat (first | apply Kd.V_alloc | apply Kd.V_drewN | apply Kd.V_drew)); exact Kd.V_mono HO_0.out (fun _ hk => ⟨hk.1.1, ⟨hk.2, hk.1.2⟩⟩)⟩, ⟨by exact zN HO224.out⟩, ⟨by (with_reducible repeat (first | apply Kd.V_alloc | apply Kd.V_drewN | apply Kd.V_drew)); exact Kd.V_mono HO_205002.out (fun _ hk => ⟨hk.1.1, ⟨hk.2, hk.1.2⟩⟩)⟩, ⟨by (with_reducible repeat (first | apply Kd.V_alloc | apply Kd.V_drewN | apply Kd.V_drew)); exact Kd.V_mono HO_205003.out (fun _ hk => ⟨hk.1.1, ⟨hk.2, hk.1.2⟩⟩)⟩, ⟨by exact zK BK204.out⟩, ⟨by exact zB1 HB.out GE204.out⟩⟩
          ·rw [if_neg c21] at H
           exact absurd H (by simp)
         ·replace c20 := Bool.eq_false_iff.mpr c20
          subst c20
          have H1 : (spec_l12With.l1 k2 l0 x5_2 (wrap64 (x7_2 + 1)) a1_0 a1_1 l1_2 l1_3) = some r := by rw [if_neg (show ¬ (false = true) by decide)] at H; exact H
          clear H
          have H := H1
          clear H1
          have H' := Aside0.mk H
          clear H
          obtain ⟨hcz24_0, hcz24_1, hcz24_2, hcz24_3, hfz24_0, hfz24_1, hfz24_2, hfz24_3⟩ := zc4f BK204.out
          have p218 : 0 ≤ (x7_2 : Int) := of_decide_eq_true (by first | (with_reducible assumption) | assumption)
          have q218 : x7_2 < (l0.length : Int) := of_decide_eq_true (by first | (with_reducible assumption) | assumption)
          obtain ⟨ad218, A218_2, c218_2, A218_3, c218_3, e218, hx218_0, hx218_1, hx218_2, hx218_3, hl218_2, hi218_2, hl218_3, hi218_3⟩ := at_T26 (Kd.V_reads' HO_0.out).2.2 x7_2 p218 q218
          cases e218
          obtain ⟨ce218, hce218, hMe218, hcc218⟩ := Kd.V_get HO_0.out z26 x7_2 p218 (by first | exact q218 | exact of_decide_eq_true (by first | (with_reducible assumption) | assumption) | (have e_ := (Kd.V_reads' HO_0.out).1; omega))
          obtain ⟨ua218_2, uc218_2, ua218_3, uc218_3, rfl, ul218_2, ge218_2, ul218_3, ge218_3⟩ := k26_openF hMe218
          have hv218_2 := hcc218 2 _ rfl
          rw [add_field _ _ 2 (by omega)] at hv218_2
          replace hv218_2 := Option.some.inj (hv218_2.symm.trans hx218_2)
          injection hv218_2 with hva_ hvn_ hvc_
          rw [hva_] at ge218_2
          rw [hvc_] at ul218_2
          have HL218_2 := Aside0.mk (show Kd.V k63 63 _ w.heap.size _ _ ((rd_T26 l0 x7_2).f2) from Kd.V_mk ul218_2 ge218_2)
          clear hva_ hvn_ hvc_ ge218_2 ul218_2
          have hv218_3 := hcc218 3 _ rfl
          rw [add_field _ _ 3 (by omega)] at hv218_3
          replace hv218_3 := Option.some.inj (hv218_3.symm.trans hx218_3)
          injection hv218_3 with hva_ hvn_ hvc_
          rw [hva_] at ge218_3
          rw [hvc_] at ul218_3
          have HL218_3 := Aside0.mk (show Kd.V k66 66 _ w.heap.size _ _ ((rd_T26 l0 x7_2).f3) from Kd.V_mk ul218_3 ge218_3)
          clear hva_ hvn_ hvc_ ge218_3 ul218_3
          clear hcc218 hce218
          have HR218_2 := Aside0.mk hi218_2
          have HC218_2 := Aside0.mk hl218_2
          clear hi218_2 hl218_2
          have HR218_3 := Aside0.mk hi218_3
          have HC218_3 := Aside0.mk hl218_3
          clear hi218_3 hl218_3
          replace p218 := eq_true p218
          replace q218 := eq_true q218
          have p219 : 0 ≤ (x7_2 : Int) := of_decide_eq_true (by first | (with_reducible assumption) | assumption)
          have q219 : x7_2 < (l0.length : Int) := of_decide_eq_true (by first | (with_reducible assumption) | assumption)
          obtain ⟨ad219, A219_2, c219_2, A219_3, c219_3, e219, hx219_0, hx219_1, hx219_2, hx219_3, hl219_2, hi219_2, hl219_3, hi219_3⟩ := at_T26 (Kd.V_reads' HO_0.out).2.2 x7_2 p219 q219
          obtain rfl : ad218 = ad219 := (by injection e219)
          obtain ⟨ce219, hce219, hMe219, hcc219⟩ := Kd.V_get HO_0.out z26 x7_2 p219 (by first | exact q219 | exact of_decide_eq_true (by first | (with_reducible assumption) | assumption) | (have e_ := (Kd.V_reads' HO_0.out).1; omega))
          obtain ⟨ua219_2, uc219_2, ua219_3, uc219_3, rfl, ul219_2, ge219_2, ul219_3, ge219_3⟩ := k26_openF hMe219
          have hv219_2 := hcc219 2 _ rfl
          rw [add_field _ _ 2 (by omega)] at hv219_2
          replace hv219_2 := Option.some.inj (hv219_2.symm.trans hx219_2)
          injection hv219_2 with hva_ hvn_ hvc_
          rw [hva_] at ge219_2
          rw [hvc_] at ul219_2
          have HL219_2 := Aside0.mk (show Kd.V k63 63 _ w.heap.size _ _ ((rd_T26 l0 x7_2).f2) from Kd.V_mk ul219_2 ge219_2)
          clear hva_ hvn_ hvc_ ge219_2 ul219_2
          have hv219_3 := hcc219 3 _ rfl
          rw [add_field _ _ 3 (by omega)] at hv219_3
          replace hv219_3 := Option.some.inj (hv219_3.symm.trans hx219_3)
          injection hv219_3 with hva_ hvn_ hvc_
          rw [hva_] at ge219_3
          rw [hvc_] at ul219_3
          have HL219_3 := Aside0.mk (show Kd.V k66 66 _ w.heap.size _ _ ((rd_T26 l0 x7_2).f3) from Kd.V_mk ul219_3 ge219_3)
          clear hva_ hvn_ hvc_ ge219_3 ul219_3
          clear hcc219 hce219
          have HR219_2 := Aside0.mk hi219_2
          have HC219_2 := Aside0.mk hl219_2
          clear hi219_2 hl219_2
          have HR219_3 := Aside0.mk hi219_3
          have HC219_3 := Aside0.mk hl219_3
          clear hi219_3 hl219_3
          replace p219 := eq_true p219
          replace q219 := eq_true q219
          have ea_ := Option.some.inj (hx218_2.symm.trans hx219_2)
          injection ea_ with ea_ en_ ec_
          subst ea_
          subst ec_
          clear en_
          have ea_ := Option.some.inj (hx218_3.symm.trans hx219_3)
          injection ea_ with ea_ en_ ec_
          subst ea_
          subst ec_
          clear en_
          go_wp2_with (first | (go_at_call 55; (with_reducible refine (spec_l3Less.calls a1_0 a1_1 ((rd_T26 l0 x7_2).f0) ((rd_T26 l0 x7_2).f1) false _ A19.out).mono ?_); rintro e w' ⟨rfl, ⟨nd, rfl⟩⟩; (try first | exact ⟨rfl, _, World.drewN_drewN _ _ _⟩ | exact ⟨rfl, _, Eq.trans (World.drewN_drewN _ _ _) (congrArg (World.drewN _) (Nat.add_assoc _ _ _))⟩)))
          repeat (go_quiet (first | (go_at_call 55; (with_reducible refine (spec_l3Less.calls a1_0 a1_1 ((rd_T26 l0 x7_2).f0) ((rd_T26 l0 x7_2).f1) false _ A19.out).mono ?_); rintro e w' ⟨rfl, ⟨nd, rfl⟩⟩; (try first | exact ⟨rfl, _, World.drewN_drewN _ _ _⟩ | exact ⟨rfl, _, Eq.trans (World.drewN_drewN _ _ _) (congrArg (World.drewN _) (Nat.add_assoc _ _ _))⟩))); try go_wp2_with (first | (go_at_call 55; (with_reducible refine (spec_l3Less.calls a1_0 a1_1 ((rd_T26 l0 x7_2).f0) ((rd_T26 l0 x7_2).f1) false _ A19.out).mono ?_); rintro e w' ⟨rfl, ⟨nd, rfl⟩⟩; (try first | exact ⟨rfl, _, World.drewN_drewN _ _ _⟩ | exact ⟨rfl, _, Eq.trans (World.drewN_drewN _ _ _) (congrArg (World.drewN _) (Nat.add_assoc _ _ _))⟩))))
          go_roundg k2
          case measure => have := HK1.out; have := HK2.out; omega
          case rel => exact ⟨(x5_2), (wrap64 (x7_2 + 1)), (by first | rfl | (simp; done) | (simp [*]; done)), H', ⟨by have := HK1.out; have := HK2.out; omega⟩, ⟨by (with_reducible repeat (first | apply Kd.V_alloc | apply Kd.V_drewN | apply Kd.V_drew)); exact HO_0.out⟩, ⟨by exact zN HO_5.out⟩, ⟨by (with_reducible repeat (first | apply Kd.V_alloc | apply Kd.V_drewN | apply Kd.V_drew)); exact HO_205002.out⟩, ⟨by (with_reducible repeat (first | apply Kd.V_alloc | apply Kd.V_drewN | apply Kd.V_drew)); exact HO_205003.out⟩, ⟨by exact zK BK204.out⟩, ⟨by exact zB1 HB.out GE204.out⟩⟩
        ·rw [if_neg c18] at H
         exact absurd H (by simp)
       ·rw [if_neg c17] at H
        have c17b0 : decide (x7_2 < (l0.length : Int)) = false := decide_eq_false c17
        clear c17
        obtain rfl := Option.some.inj H
        go_wp2
        repeat (go_quiet (fail); try go_wp2)
        go_ret
        exact ⟨_, by first | rfl | (simp [errW_none, errW_some] <;> rfl) | (simp [*, errW_none, errW_some] <;> rfl), by exact zN (Kd.N_mono HO_5.out (fun _ hk => hk.1)), by exact zB1 HB.out GE204.out⟩
    ·rw [if_neg c14] at H
     exact absurd H (by simp)

attribute [local go_sem high] eqA73

/-! ### spec_l71Pkgs: function 63 -/
def spec_l71Pkgs.l0 : Nat → List (S26) → Int → List Int → Int → Option ((List (S26)) × Int)
 | 0, _, _, _, _ => none
 | k + 1, x3, x4, x1000, x1001 => if x4 > 0 then ((spec_l6Rd_pick.f k x1000 x1001 4).bind fun bt230 => ((spec_l6Rd_pick.f k x1000 bt230.2 3).bind fun bt232 => ((spec_l71Pkg.f k x1000 bt232.2 (wrap64 (1 + bt230.1)) (wrap64 (1 + bt232.1))).bind fun bt234 => ((spec_l12Find.f k x3 bt234.1 bt234.2.1).bind fun t244 => (if t244 < 0 then ((spec_l12With.f k x3 bt234.1 bt234.2.1 bt234.2.2.1 bt234.2.2.2.1).bind fun t245 => (spec_l71Pkgs.l0 k t245 (wrap64 (x4 - 1)) x1000 bt234.2.2.2.2)) else (spec_l71Pkgs.l0 k x3 (wrap64 (x4 - 1)) x1000 bt234.2.2.2.2)))))) else (some (x3, x1001))
def spec_l71Pkgs.f (k : Nat) (s0_0 : List Int) (s0_1 : Int) : Option ((List (S26)) × Int) := (spec_l6Rd_pick.f k s0_0 s0_1 8).bind fun bt228 => (spec_l71Pkgs.l0 k (([] : List (S26))) bt228.1 s0_0 bt228.2)
theorem spec_l71Pkgs.mono_l : ∀ k, (∀ y0 y1 y2 y3, LeO (spec_l71Pkgs.l0 k y0 y1 y2 y3) (spec_l71Pkgs.l0 (k + 1) y0 y1 y2 y3))
 | 0 => fun _ _ _ _ r h => by simp [spec_l71Pkgs.l0] at h
 | k + 1 => by
  have ih0 := spec_l71Pkgs.mono_l k
  ·intro y0 y1 y2 y3
   unfold spec_l71Pkgs.l0
   repeat' first
   | (with_reducible exact ih0 _ _ _ _)
   | (with_reducible exact spec_l12Find.mono _ _ _ _)
   | (with_reducible exact spec_l12With.mono _ _ _ _ _ _)
   | (with_reducible exact spec_l6Rd_pick.mono _ _ _ _)
   | (with_reducible exact spec_l71Pkg.mono _ _ _ _ _)
   | (with_reducible exact LeO.refl _)
   | (with_reducible exact LeO.none _)
   | (with_reducible refine LeO.ite ?_ ?_)
   | (with_reducible refine LeO.bind ?_ (fun _ => ?_))
   | exact ih0 _ _ _ _
   | exact spec_l12Find.mono _ _ _ _
   | exact spec_l12With.mono _ _ _ _ _ _
   | exact spec_l6Rd_pick.mono _ _ _ _
   | exact spec_l71Pkg.mono _ _ _ _ _
   | exact LeO.none _
   | refine LeO.ite ?_ ?_
   | refine LeO.bind ?_ (fun _ => ?_)
theorem spec_l71Pkgs.mono : ∀ a0 a1 k, LeO (spec_l71Pkgs.f k a0 a1) (spec_l71Pkgs.f (k + 1) a0 a1) := by
 intro a0 a1 k
 have ih0 := spec_l71Pkgs.mono_l k
 unfold spec_l71Pkgs.f
 repeat' first
   | (with_reducible exact ih0 _ _ _ _)
   | (with_reducible exact spec_l12Find.mono _ _ _ _)
   | (with_reducible exact spec_l12With.mono _ _ _ _ _ _)
   | (with_reducible exact spec_l6Rd_pick.mono _ _ _ _)
   | (with_reducible exact spec_l71Pkg.mono _ _ _ _ _)
   | (with_reducible exact LeO.refl _)
   | (with_reducible exact LeO.none _)
   | (with_reducible refine LeO.ite ?_ ?_)
   | (with_reducible refine LeO.bind ?_ (fun _ => ?_))
   | exact ih0 _ _ _ _
   | exact spec_l12Find.mono _ _ _ _
   | exact spec_l12With.mono _ _ _ _ _ _
   | exact spec_l6Rd_pick.mono _ _ _ _
   | exact spec_l71Pkg.mono _ _ _ _ _
   | exact LeO.none _
   | refine LeO.ite ?_ ?_
   | refine LeO.bind ?_ (fun _ => ?_)
set_option maxHeartbeats 8000000 in
set_option maxRecDepth 100000 in
theorem spec_l71Pkgs.calls (k : Nat) (g : Nat) (s0_0 : List Int) (s0_1 : Int) (r1 : List (S26)) (r2 : Int) (w0 w : World) (hI : IsS87 w0 w g s0_0 s0_1) (hB : Below w0.heap.size w0 w) (h : spec_l71Pkgs.f k s0_0 s0_1 = some (r1, r2)) :
  Calls Tryd.prog 63 #[.pointer (some ⟨g, 0, none⟩)] w fun e w' => ∃ v0_ : Value, e = .returned (v0_) ∧ Kd.N k26 26 w' w.heap.size (fun k_ => (w.heap.size ≤ k_)) v0_ r1 ∧ IsS87 w0 w' g s0_0 r2 ∧ Below w0.heap.size w0 w' ∧ KeepBut w w' g none := by
 have hu26 := Tryd.underlying26
 have HI0 := Aside0.mk hI
 have HK := Aside0.mk (KeepBut.refl w g none)
 have HL := Aside0.mk hB.size
 clear hI
 have HW0 := Aside0.mk hB.size
 have HB := Aside0.mk hB
 clear hB
 have H : ((spec_l6Rd_pick.f k s0_0 s0_1 8).bind fun bt228 => (spec_l71Pkgs.l0 k (([] : List (S26))) bt228.1 s0_0 bt228.2)) = some (r1, r2) := h
 clear h
 obtain ⟨y225, hy225⟩ : ∃ y_ : List (S26), y_ = (([] : List (S26))) := ⟨_, rfl⟩
 replace H : ((spec_l6Rd_pick.f k s0_0 s0_1 8).bind fun bt228 => (spec_l71Pkgs.l0 k y225 bt228.1 s0_0 bt228.2)) = some (r1, r2) := by first | (rw [hy225]; with_reducible exact H) | (have H2_ := (Option.bind_some _ _).symm.trans H; rw [hy225]; with_reducible exact H2_) | (have H2_ := (Option.bind_some _ _).symm.trans H; with_reducible exact H2_) | with_reducible exact H | (rw [hy225]; exact H) | exact H
 have Ny225 := Aside0.mk hy225
 clear hy225
 replace H := Option.bind_eq_some_iff.mp H
 obtain ⟨⟨t228, t229⟩, A20, H⟩ := H
 replace H : (spec_l71Pkgs.l0 k y225 t228 s0_0 t229) = some (r1, r2) := H
 have A2 := Aside0.mk A20
 clear A20
 have H' := Aside0.mk H
 clear H
 go_enter Tryd.func63, Tryd.ntmps63
 go_wp2_with (first | ((with_reducible refine gate_dst (N := 6) rfl ?_); refine Kd.N_lit k26 _ 26 ?hg (N' := 6) ?hd (xs := ([] : List (S26))) (inner := []) (ok := (fun k_ => (w.heap.size ≤ k_) ∧ k_ ≠ g)) (okp := (fun k_ => (w.heap.size ≤ k_) ∧ k_ ≠ g)) ?hr ?hp (fun _ hk => hk) ((show ∀ k_, w.heap.size ≤ k_ → (fun k_ => (w.heap.size ≤ k_) ∧ k_ ≠ g) k_ from fun k_ hk => ⟨(Nat.le_trans (keep_size (w := w) (g := g) (row := none) (by repeat (first | (with_reducible first | exact HK.out | apply KeepBut.set_ | apply keep_drewN | apply keep_drew | apply keep_alloc) | exact HK.out))) hk), IsS87.fresh (by repeat (first | (with_reducible first | exact HI0.out | apply IsS87.alloc | apply IsS87.drewN | apply IsS87.drew | apply IsS87.set_1) | exact HI0.out)) k_ hk⟩) _ (Nat.le_refl _)) (Below.refl _ _) (Nat.le_refl _) (by simp) ?_; (case hd => rfl); (case hg => rfl); (case hr => first | (go_simp; done) | (go_simp; rfl)); (case hp => exact (Reps.none _ _)); intro v226 w3 ho4 hb hg_ hnew_; clear hg_ hnew_; (first | rw [← Ny225.out] at ho4 | (simp only [Int.reduceToNat] at ho4; rw [← Ny225.out] at ho4)); have n0_ := Aside0.mk (Kd.N_lower ho4 (keep_size (w := w) (g := g) (row := none) (by repeat (first | (with_reducible first | exact HK.out | apply KeepBut.set_ | apply keep_drewN | apply keep_drew | apply keep_alloc) | exact HK.out)))); have n1_ := Aside0.mk (IsS87.below (by repeat (first | (with_reducible first | exact HI0.out | apply IsS87.alloc | apply IsS87.drewN | apply IsS87.drew | apply IsS87.set_1) | exact HI0.out)) hb); have n2_ := Aside0.mk (KeepBut.trans (by repeat (first | (with_reducible first | exact HK.out | apply KeepBut.set_ | apply keep_drewN | apply keep_drew | apply keep_alloc) | exact HK.out)) (KeepBut.of_below hb g none) (.inl rfl)); have n3_ := Aside0.mk (below_step (by exact zB1 HB.out (IsS87.ge HI0.out)) hb); clear HI0; clear HK; clear HB; have HO227 := n0_; have HI0 := n1_; have HK := n2_; have HB := n3_; clear n0_ n1_ n2_ n3_; clear hb ho4) | ((with_reducible refine gate_callee (f := 49) rfl ?_); refine goesL_ (some 8) rfl rfl Tryd.func49 (by kernel_rfl) rfl #[.pointer (some ⟨g, 0, none⟩), .int .i64 8] rfl (by (try simp only [zm1, zm2, zm3]); first | done | rfl | (simp only [List.length_drop, List.length_take]; rfl)) ?_; (with_reducible refine (spec_l6Rd_pick.calls k g s0_0 s0_1 8 t228 t229 w0 _ ?side1 ?side2 A2.out).mono ?_); (case side1 => repeat (first | (with_reducible first | exact HI0.out | apply IsS87.alloc | apply IsS87.drewN | apply IsS87.drew | apply IsS87.set_1) | exact HI0.out)); (case side2 => exact zB1 HB.out (IsS87.ge HI0.out)); rintro e w5 ⟨rfl, hi, hb, hk⟩; refine ⟨_, rfl, ?_⟩; have n0_ := Aside0.mk (Kd.N_mono (Kd.N_keep (Kd.N_mono (ok := fun k_ => (((w.heap.size ≤ k_)) ∧ k_ ≠ g)) (by exact zN HO227.out) (fun k_ hk_ => (⟨hk_, hk_.2⟩ : _ ∧ k_ ≠ g))) hk (fun _ h => h.2)) (fun _ h => h.1)); have n1_ := Aside0.mk (KeepBut.trans (by repeat (first | (with_reducible first | exact HK.out | apply KeepBut.set_ | apply keep_drewN | apply keep_drew | apply keep_alloc) | exact HK.out)) hk (.inl rfl)); have n2_ := Aside0.mk (hb); have n3_ := Aside0.mk (hi); clear HO227; clear HK; clear HB; clear HI0; have HO227 := n0_; have HK := n1_; have HB := n2_; have HI0 := n3_; clear n0_ n1_ n2_ n3_; (try clear hb); (try clear hb2); (try clear hk); (try clear hi)))
 go_loopg [3, 4] k (fun kq v3 v4 w' => ∃ (x3_1 : List (S26)) (x4_1 : Int) (x1001_1 : Int), v4 = .int .i64 x4_1 ∧ Aside0 (spec_l71Pkgs.l0 kq x3_1 x4_1 s0_0 x1001_1 = some (r1, r2)) ∧ Aside0 (kq ≤ k) ∧ Aside0 (Kd.N k26 26 w' w.heap.size (fun k_ => (w.heap.size ≤ k_) ∧ k_ ≠ g) v3 x3_1) ∧ Aside0 (IsS87 w0 w' g s0_0 x1001_1) ∧ Aside0 (KeepBut w w' g none) ∧ Aside0 (Below w0.heap.size w0 w'))
 case atStart => exact ⟨(y225), (t228), (t229), (by first | rfl | (simp; done) | (simp [*]; done)), H', ⟨Nat.le_refl _⟩, ⟨by exact zN HO227.out⟩, ⟨by repeat (first | (with_reducible first | exact HI0.out | apply IsS87.alloc | apply IsS87.drewN | apply IsS87.drew | apply IsS87.set_1) | exact HI0.out)⟩, ⟨by repeat (first | (with_reducible first | exact HK.out | apply KeepBut.set_ | apply keep_drewN | apply keep_drew | apply keep_alloc) | exact HK.out)⟩, ⟨by exact zB1 HB.out (IsS87.ge HI0.out)⟩⟩
 case round =>
  clear H'
  try clear p2
  try clear c4
  obtain ⟨x3_1, x4_1, x1001_1, rfl, HA, HK1, HO_3, HI0, HK, HB⟩ := hrel
  cases gk with
  | zero => exact absurd HA.out (by simp [spec_l71Pkgs.l0])
  | succ k1 =>
   have H := HA.out
   clear HA
   simp only [spec_l71Pkgs.l0] at H
   by_cases c6 : x4_1 > 0
   ·rw [if_pos c6] at H
    have c6b0 : decide (0 < x4_1) = true := decide_eq_true c6
    clear c6
    replace H := Option.bind_eq_some_iff.mp H
    obtain ⟨⟨t230, t231⟩, A70, H⟩ := H
    replace H : ((spec_l6Rd_pick.f k1 s0_0 t231 3).bind fun bt232 => ((spec_l71Pkg.f k1 s0_0 bt232.2 (wrap64 (1 + t230)) (wrap64 (1 + bt232.1))).bind fun bt234 => ((spec_l12Find.f k1 x3_1 bt234.1 bt234.2.1).bind fun t244 => (if t244 < 0 then ((spec_l12With.f k1 x3_1 bt234.1 bt234.2.1 bt234.2.2.1 bt234.2.2.2.1).bind fun t245 => (spec_l71Pkgs.l0 k1 t245 (wrap64 (x4_1 - 1)) s0_0 bt234.2.2.2.2)) else (spec_l71Pkgs.l0 k1 x3_1 (wrap64 (x4_1 - 1)) s0_0 bt234.2.2.2.2))))) = some (r1, r2) := H
    have A7 := Aside0.mk A70
    clear A70
    replace H := Option.bind_eq_some_iff.mp H
    obtain ⟨⟨t232, t233⟩, A80, H⟩ := H
    replace H : ((spec_l71Pkg.f k1 s0_0 t233 (wrap64 (1 + t230)) (wrap64 (1 + t232))).bind fun bt234 => ((spec_l12Find.f k1 x3_1 bt234.1 bt234.2.1).bind fun t244 => (if t244 < 0 then ((spec_l12With.f k1 x3_1 bt234.1 bt234.2.1 bt234.2.2.1 bt234.2.2.2.1).bind fun t245 => (spec_l71Pkgs.l0 k1 t245 (wrap64 (x4_1 - 1)) s0_0 bt234.2.2.2.2)) else (spec_l71Pkgs.l0 k1 x3_1 (wrap64 (x4_1 - 1)) s0_0 bt234.2.2.2.2)))) = some (r1, r2) := H
    have A8 := Aside0.mk A80
    clear A80
    replace H := Option.bind_eq_some_iff.mp H
    obtain ⟨⟨t234, t235, t236, t239, t242⟩, A90, H⟩ := H
    replace H : ((spec_l12Find.f k1 x3_1 t234 t235).bind fun t244 => (if t244 < 0 then ((spec_l12With.f k1 x3_1 t234 t235 t236 t239).bind fun t245 => (spec_l71Pkgs.l0 k1 t245 (wrap64 (x4_1 - 1)) s0_0 t242)) else (spec_l71Pkgs.l0 k1 x3_1 (wrap64 (x4_1 - 1)) s0_0 t242))) = some (r1, r2) := H
    have A9 := Aside0.mk A90
    clear A90
    replace H := Option.bind_eq_some_iff.mp H
    obtain ⟨t244, A100, H⟩ := H
    replace H : (if t244 < 0 then ((spec_l12With.f k1 x3_1 t234 t235 t236 t239).bind fun t245 => (spec_l71Pkgs.l0 k1 t245 (wrap64 (x4_1 - 1)) s0_0 t242)) else (spec_l71Pkgs.l0 k1 x3_1 (wrap64 (x4_1 - 1)) s0_0 t242)) = some (r1, r2) := H
    have A10 := Aside0.mk A100
    clear A100
    by_cases c11 : t244 < 0
    ·rw [if_pos c11] at H
     have c11b0 : decide (t244 < 0) = true := decide_eq_true c11
     clear c11
     replace H := Option.bind_eq_some_iff.mp H
     obtain ⟨t245, A120, H⟩ := H
     replace H : (spec_l71Pkgs.l0 k1 t245 (wrap64 (x4_1 - 1)) s0_0 t242) = some (r1, r2) := H
     have A12 := Aside0.mk A120
     clear A120
     have H' := Aside0.mk H
     clear H
     go_wp2_with (first | ((with_reducible refine gate_callee (f := 49) rfl ?_); refine goesL_ (some 15) rfl rfl Tryd.func49 (by kernel_rfl) rfl #[.pointer (some ⟨g, 0, none⟩), .int .i64 4] rfl (by (try simp only [zm1, zm2, zm3]); first | done | rfl | (simp only [List.length_drop, List.length_take]; rfl)) ?_; (with_reducible refine (spec_l6Rd_pick.calls k1 g s0_0 x1001_1 4 t230 t231 w0 _ ?side1 ?side2 A7.out).mono ?_); (case side1 => repeat (first | (with_reducible first | exact HI0.out | apply IsS87.alloc | apply IsS87.drewN | apply IsS87.drew | apply IsS87.set_1) | exact HI0.out)); (case side2 => exact zB1 HB.out (IsS87.ge HI0.out)); rintro e w13 ⟨rfl, hi, hb, hk⟩; refine ⟨_, rfl, ?_⟩; have n0_ := Aside0.mk (Kd.N_mono (Kd.N_keep (Kd.N_mono (ok := fun k_ => (((w.heap.size ≤ k_)) ∧ k_ ≠ g)) (by exact zN HO_3.out) (fun k_ hk_ => (⟨hk_, hk_.2⟩ : _ ∧ k_ ≠ g))) hk (fun _ h => h.2)) (fun _ h => h.1)); have n1_ := Aside0.mk (KeepBut.trans (by repeat (first | (with_reducible first | exact HK.out | apply KeepBut.set_ | apply keep_drewN | apply keep_drew | apply keep_alloc) | exact HK.out)) hk (.inl rfl)); have n2_ := Aside0.mk (hb); have n3_ := Aside0.mk (hi); clear HO_3; clear HK; clear HB; clear HI0; have HO_3 := n0_; have HK := n1_; have HB := n2_; have HI0 := n3_; clear n0_ n1_ n2_ n3_; (try clear hb); (try clear hb2); (try clear hk); (try clear hi)) | ((with_reducible refine gate_callee (f := 49) rfl ?_); refine goesL_ (some 18) rfl rfl Tryd.func49 (by kernel_rfl) rfl #[.pointer (some ⟨g, 0, none⟩), .int .i64 3] rfl (by (try simp only [zm1, zm2, zm3]); first | done | rfl | (simp only [List.length_drop, List.length_take]; rfl)) ?_; (with_reducible refine (spec_l6Rd_pick.calls k1 g s0_0 t231 3 t232 t233 w0 _ ?side1 ?side2 A8.out).mono ?_); (case side1 => repeat (first | (with_reducible first | exact HI0.out | apply IsS87.alloc | apply IsS87.drewN | apply IsS87.drew | apply IsS87.set_1) | exact HI0.out)); (case side2 => exact zB1 HB.out (IsS87.ge HI0.out)); rintro e w14 ⟨rfl, hi, hb, hk⟩; refine ⟨_, rfl, ?_⟩; have n0_ := Aside0.mk (Kd.N_mono (Kd.N_keep (Kd.N_mono (ok := fun k_ => (((w.heap.size ≤ k_)) ∧ k_ ≠ g)) (by exact zN HO_3.out) (fun k_ hk_ => (⟨hk_, hk_.2⟩ : _ ∧ k_ ≠ g))) hk (fun _ h => h.2)) (fun _ h => h.1)); have n1_ := Aside0.mk (KeepBut.trans (by repeat (first | (with_reducible first | exact HK.out | apply KeepBut.set_ | apply keep_drewN | apply keep_drew | apply keep_alloc) | exact HK.out)) hk (.inl rfl)); have n2_ := Aside0.mk (hb); have n3_ := Aside0.mk (hi); clear HO_3; clear HK; clear HB; clear HI0; have HO_3 := n0_; have HK := n1_; have HB := n2_; have HI0 := n3_; clear n0_ n1_ n2_ n3_; (try clear hb); (try clear hb2); (try clear hk); (try clear hi)) | ((with_reducible refine gate_callee (f := 48) rfl ?_); refine goesL_ (some 20) rfl rfl Tryd.func48 (by kernel_rfl) rfl #[.pointer (some ⟨g, 0, none⟩), .int .i64 (wrap64 (1 + t230)), .int .i64 (wrap64 (1 + t232))] rfl (by (try simp only [zm1, zm2, zm3]); first | done | rfl | (simp only [List.length_drop, List.length_take]; rfl)) ?_; (with_reducible refine (spec_l71Pkg.calls k1 g s0_0 t233 (wrap64 (1 + t230)) (wrap64 (1 + t232)) t234 t235 t236 t239 t242 w0 _ ?side1 ?side2 A9.out).mono ?_); (case side1 => repeat (first | (with_reducible first | exact HI0.out | apply IsS87.alloc | apply IsS87.drewN | apply IsS87.drew | apply IsS87.set_1) | exact HI0.out)); (case side2 => exact zB1 HB.out (IsS87.ge HI0.out)); rintro e w15 ⟨v237, v240, rfl, ho0, ho1, hi, hb, hk⟩; refine ⟨_, rfl, ?_⟩; have n0_ := Aside0.mk (Kd.N_mono (Kd.N_told (Kd.N_told (Kd.N_oldK (Kd.N_mono (ok := fun k_ => (((w.heap.size ≤ k_)) ∧ k_ ≠ g)) (by exact zN HO_3.out) (fun k_ hk_ => (⟨hk_, hk_.2⟩ : _ ∧ k_ ≠ g))) hk) (Kd.R_base ho0)) (Kd.R_base ho1)) (fun _ h_ => h_.1)); have n1_ := Aside0.mk (Kd.R_lower (Kd.R_newM (M := fun k_ => (w.heap.size ≤ k_)) ho0 (keep_size (w := w) (g := g) (row := none) (by repeat (first | (with_reducible first | exact HK.out | apply KeepBut.set_ | apply keep_drewN | apply keep_drew | apply keep_alloc) | exact HK.out))) (fun k_ h_ => h_)) (keep_size (w := w) (g := g) (row := none) (by repeat (first | (with_reducible first | exact HK.out | apply KeepBut.set_ | apply keep_drewN | apply keep_drew | apply keep_alloc) | exact HK.out)))); have n2_ := Aside0.mk (Kd.R_lower (Kd.R_newM (M := fun k_ => (w.heap.size ≤ k_)) ho1 (keep_size (w := w) (g := g) (row := none) (by repeat (first | (with_reducible first | exact HK.out | apply KeepBut.set_ | apply keep_drewN | apply keep_drew | apply keep_alloc) | exact HK.out))) (fun k_ h_ => h_)) (keep_size (w := w) (g := g) (row := none) (by repeat (first | (with_reducible first | exact HK.out | apply KeepBut.set_ | apply keep_drewN | apply keep_drew | apply keep_alloc) | exact HK.out)))); have n3_ := Aside0.mk (KeepBut.trans (by repeat (first | (with_reducible first | exact HK.out | apply KeepBut.set_ | apply keep_drewN | apply keep_drew | apply keep_alloc) | exact HK.out)) hk (.inl rfl)); have n4_ := Aside0.mk (hb); have n5_ := Aside0.mk (hi); clear HO_3; clear HK; clear HB; clear HI0; have HO_3 := n0_; have HO238 := n1_; have HO241 := n2_; have HK := n3_; have HB := n4_; have HI0 := n5_; clear n0_ n1_ n2_ n3_ n4_ n5_; (try clear hb); (try clear hb2); (try clear hk); (try clear hi); (try clear ho0); (try clear ho1)) | ((with_reducible refine gate_dst (N := 5) rfl ?_); refine box_event ?hg (N := 5) ?hd (cs := #[.int .i64 0, .int .i64 0, .slice none 0 0, .slice none 0 0]) (t := 26) ?hr ?_; (case hd => rfl); (case hg => rfl); (case hr => first | (go_simp; done) | (go_simp; rfl)); intro gb243 hg w16 hbox hb; have n0_ := Aside0.mk (Kd.N_below (Kd.N_elderB (by exact zN HO_3.out) gb243 (Nat.le_of_eq hg.symm)) hb); have n1_ := Aside0.mk (Kd.R_below (by exact zR HO238.out) hb); have n2_ := Aside0.mk (Kd.R_below (by exact zR HO241.out) hb); have n3_ := Aside0.mk (IsS87.below (by repeat (first | (with_reducible first | exact HI0.out | apply IsS87.alloc | apply IsS87.drewN | apply IsS87.drew | apply IsS87.set_1) | exact HI0.out)) hb); have n4_ := Aside0.mk (KeepBut.trans (by repeat (first | (with_reducible first | exact HK.out | apply KeepBut.set_ | apply keep_drewN | apply keep_drew | apply keep_alloc) | exact HK.out)) (KeepBut.of_below hb g none) (.inl rfl)); have n5_ := Aside0.mk (below_step (by exact zB1 HB.out (IsS87.ge HI0.out)) hb); have n6_ := Aside0.mk (hbox); have n7_ := Aside0.mk ((by rw [hg]; exact (keep_size (w := w) (g := g) (row := none) (by repeat (first | (with_reducible first | exact HK.out | apply KeepBut.set_ | apply keep_drewN | apply keep_drew | apply keep_alloc) | exact HK.out))) : w.heap.size ≤ gb243)); have n8_ := Aside0.mk ((Nat.le_trans HW0.out (by rw [hg]; exact (keep_size (w := w) (g := g) (row := none) (by repeat (first | (with_reducible first | exact HK.out | apply KeepBut.set_ | apply keep_drewN | apply keep_drew | apply keep_alloc) | exact HK.out))) : w.heap.size ≤ gb243) : w0.heap.size ≤ gb243)); have n9_ := Aside0.mk ((by rw [hg]; exact Nat.ne_of_lt (IsS87.lt (show IsS87 w0 _ g s0_0 t242 from by repeat (first | (with_reducible first | exact HI0.out | apply IsS87.alloc | apply IsS87.drewN | apply IsS87.drew | apply IsS87.set_1) | exact HI0.out))) : g ≠ gb243)); have n10_ := Aside0.mk ((by rw [hg]; exact Nat.ne_of_gt (IsS87.lt (show IsS87 w0 _ g s0_0 t242 from by repeat (first | (with_reducible first | exact HI0.out | apply IsS87.alloc | apply IsS87.drewN | apply IsS87.drew | apply IsS87.set_1) | exact HI0.out))) : gb243 ≠ g)); clear HO_3; clear HO238; clear HO241; clear HI0; clear HK; clear HB; have HO_3 := n0_; have HO238 := n1_; have HO241 := n2_; have HI0 := n3_; have HK := n4_; have HB := n5_; have BK243 := n6_; have GW243 := n7_; have GE243 := n8_; have NB0_243 := n9_; have NB243_0 := n10_; clear n0_ n1_ n2_ n3_ n4_ n5_ n6_ n7_ n8_ n9_ n10_; clear hb hbox hg; have hnb17 := NB243_0.out; have hnc17 := NB0_243.out; obtain ⟨hcz18_0, hcz18_1, hcz18_2, hcz18_3, hfz18_0, hfz18_1, hfz18_2, hfz18_3⟩ := zc4f BK243.out; obtain ⟨Ao19, co19, eo19⟩ := Kd.R_slice HO238.out; subst eo19; obtain ⟨Ao20, co20, eo20⟩ := Kd.R_slice HO241.out; subst eo20) | ((with_reducible refine gate_store (t := 26) (p := 5) rfl ?_); refine store_event (t := 26) (p := 5) (v := ?vo_w21) (w1 := ((((w16.setCell ⟨gb243, 0, none⟩ (.int .i64 t234)).setCell ⟨gb243, 1, none⟩ (.int .i64 t235)).setCell ⟨gb243, 2, none⟩ (.slice Ao19 t236.length co19)).setCell ⟨gb243, 3, none⟩ (.slice Ao20 t239.length co20))) ?hg ?ho ?hn ?hr ?_; (case ho => rfl); (case hg => rfl); (case hn => rfl); (case hr => first | (go_simp; done) | (go_simp; rfl)); intro w21 hw; have n0_ : Aside0 (Kd.N k26 26 w21 w.heap.size (fun k_ => (w.heap.size ≤ k_) ∧ some k_ ≠ (.slice Ao19 t236.length co19 : Value).ownBlock ∧ some k_ ≠ (.slice Ao20 t239.length co20 : Value).ownBlock ∧ k_ ≠ g ∧ k_ ≠ gb243) u3 x3_1) := ⟨(by rw [hw]; exact (by exact zN (Kd.N_mono (Kd.N_far (p := ⟨gb243, 3, none⟩) (Kd.N_far (p := ⟨gb243, 2, none⟩) (Kd.N_far (p := ⟨gb243, 1, none⟩) (Kd.N_far (p := ⟨gb243, 0, none⟩) (Kd.N_mono HO_3.out (fun k_ hk => (⟨hk, hk.2⟩ : _ ∧ k_ ≠ gb243))) (fun _ hk => hk.2) (.int .i64 t234)) (fun _ hk => hk.2) (.int .i64 t235)) (fun _ hk => hk.2) (.slice Ao19 t236.length co19)) (fun _ hk => hk.2) (.slice Ao20 t239.length co20)) (fun _ hk => ⟨hk.1.1.1.1.1, ⟨hk.1.1.1.2, ⟨hk.1.1.2, ⟨hk.1.1.1.1.2, hk.1.2⟩⟩⟩⟩))))⟩; have n1_ : Aside0 (Kd.R k63 63 w21 w.heap.size (fun k_ => (w.heap.size ≤ k_)) (.slice Ao19 t236.length co19) t236) := ⟨(by rw [hw]; exact (by exact zR (Kd.R_mono (Kd.R_far (p := ⟨gb243, 3, none⟩) (Kd.R_far (p := ⟨gb243, 2, none⟩) (Kd.R_far (p := ⟨gb243, 1, none⟩) (Kd.R_far (p := ⟨gb243, 0, none⟩) (Kd.R_types HO238.out BK243.out (by decide)) (fun _ hk => hk.2) (.int .i64 t234)) (fun _ hk => hk.2) (.int .i64 t235)) (fun _ hk => hk.2) (.slice Ao19 t236.length co19)) (fun _ hk => hk.2) (.slice Ao20 t239.length co20)) (fun _ hk => hk.1.1))))⟩; have n2_ : Aside0 (Kd.R k66 66 w21 w.heap.size (fun k_ => (w.heap.size ≤ k_)) (.slice Ao20 t239.length co20) t239) := ⟨(by rw [hw]; exact (by exact zR (Kd.R_mono (Kd.R_far (p := ⟨gb243, 3, none⟩) (Kd.R_far (p := ⟨gb243, 2, none⟩) (Kd.R_far (p := ⟨gb243, 1, none⟩) (Kd.R_far (p := ⟨gb243, 0, none⟩) (Kd.R_types HO241.out BK243.out (by decide)) (fun _ hk => hk.2) (.int .i64 t234)) (fun _ hk => hk.2) (.int .i64 t235)) (fun _ hk => hk.2) (.slice Ao19 t236.length co19)) (fun _ hk => hk.2) (.slice Ao20 t239.length co20)) (fun _ hk => hk.1.1))))⟩; have n3_ : Aside0 (w21.heap[gb243]? = some (.cells #[.int .i64 t234, .int .i64 t235, .slice Ao19 t236.length co19, .slice Ao20 t239.length co20] 26 (0, 0))) := ⟨(by rw [hw]; exact (by (with_reducible repeat (first | refine blk_drewN ?_ _ | refine blk_drew ?_ | refine blk_alloc ?_ _)); refine blk_put (cs := #[.int .i64 t234, .int .i64 t235, .slice Ao19 t236.length co19, .slice none 0 0]) ?_ 3 _ rfl; (with_reducible repeat (first | refine blk_drewN ?_ _ | refine blk_drew ?_ | refine blk_alloc ?_ _)); refine blk_put (cs := #[.int .i64 t234, .int .i64 t235, .slice none 0 0, .slice none 0 0]) ?_ 2 _ rfl; (with_reducible repeat (first | refine blk_drewN ?_ _ | refine blk_drew ?_ | refine blk_alloc ?_ _)); refine blk_put (cs := #[.int .i64 t234, .int .i64 0, .slice none 0 0, .slice none 0 0]) ?_ 1 _ rfl; (with_reducible repeat (first | refine blk_drewN ?_ _ | refine blk_drew ?_ | refine blk_alloc ?_ _)); refine blk_put (cs := #[.int .i64 0, .int .i64 0, .slice none 0 0, .slice none 0 0]) ?_ 0 _ rfl; exact zK BK243.out))⟩; have n4_ : Aside0 (IsS87 w0 w21 g s0_0 t242) := ⟨(by rw [hw]; exact (by repeat (first | (with_reducible first | exact HI0.out | apply IsS87.alloc | apply IsS87.drewN | apply IsS87.drew | apply IsS87.set_1 | refine IsS87.far ?_ NB0_243.out _) | exact HI0.out)))⟩; have n5_ : Aside0 (KeepBut w w21 g none) := ⟨(by rw [hw]; exact (by repeat (first | (with_reducible first | exact HK.out | apply KeepBut.set_ | apply keep_drewN | apply keep_drew | apply keep_alloc | refine keep_far ?_ GW243.out _) | exact HK.out)))⟩; have n6_ : Aside0 (Below w0.heap.size w0 w21) := ⟨(by rw [hw]; exact (by exact zB2 HB.out (IsS87.ge HI0.out) GE243.out))⟩; clear hw; clear HO_3; clear HO238; clear HO241; clear BK243; clear HI0; clear HK; clear HB; have HO_3 := n0_; have HO238 := n1_; have HO241 := n2_; have BK243 := n3_; have HI0 := n4_; have HK := n5_; have HB := n6_; clear n0_ n1_ n2_ n3_ n4_ n5_ n6_; obtain ⟨hcz22_0, hcz22_1, hcz22_2, hcz22_3, hfz22_0, hfz22_1, hfz22_2, hfz22_3⟩ := zc4f BK243.out; obtain ⟨Ao23, co23, eo23⟩ := Kd.N_slice HO_3.out; subst eo23) | ((with_reducible refine gate_callee (f := 68) rfl ?_); refine goesL_ (some 26) rfl rfl Tryd.func68 (by kernel_rfl) rfl #[.slice Ao23 x3_1.length co23, .int .i64 t234, .int .i64 t235] rfl (by (try simp only [zm1, zm2, zm3]); first | done | rfl | (simp only [List.length_drop, List.length_take]; rfl)) ?_; (with_reducible refine (spec_l12Find.calls k1 _ _ x3_1 t234 t235 t244 _ ?side1 ?side2 A10.out).mono ?_); (case side1 => exact zC (Kd.N_reads' HO_3.out).2.2); (case side2 => exact (Kd.N_reads' HO_3.out).2.1); rintro e w' ⟨rfl, ⟨nd, rfl⟩⟩; refine ⟨_, rfl, ?_⟩) | ((with_reducible refine gate_callee (f := 69) rfl ?_); refine goesL_ (some 30) rfl rfl Tryd.func69 (by kernel_rfl) rfl #[.slice Ao23 x3_1.length co23, .agg #[.int .i64 t234, .int .i64 t235, .slice Ao19 t236.length co19, .slice Ao20 t239.length co20]] rfl (by (try simp only [zm1, zm2, zm3]); first | done | rfl | (simp only [List.length_drop, List.length_take]; rfl)) ?_; (with_reducible refine (spec_l12With.calls k1 (fun k_ => ((w.heap.size ≤ k_) ∧ (some k_ ≠ (.slice Ao19 t236.length co19 : Value).ownBlock ∧ (some k_ ≠ (.slice Ao20 t239.length co20 : Value).ownBlock ∧ (k_ ≠ g ∧ k_ ≠ gb243))))) _ _ x3_1 t234 t235 (fun k_ => some k_ = (.slice Ao19 t236.length co19 : Value).ownBlock) _ _ t236 (fun k_ => some k_ = (.slice Ao20 t239.length co20 : Value).ownBlock) _ _ t239 t245 _ ?side1 ?side2 ?side3 A12.out).mono ?_); (case side1 => exact Kd.N_V (HO_3.out)); (case side2 => exact Kd.R_V (Kd.R_tight rfl (IsS87.apart HI0.out (Kd.R_types (Kd.R_apart' (Kd.R_apart' (HO238.out) (Kd.N_typed HO_3.out) (by decide)) (Kd.R_typed HO241.out) (by decide)) BK243.out (by decide)) (by decide)))); (case side3 => exact Kd.R_V (Kd.R_tight rfl (IsS87.apart HI0.out (Kd.R_types (Kd.R_apart' (Kd.R_apart' (HO241.out) (Kd.N_typed HO_3.out) (by decide)) (Kd.R_typed HO238.out) (by decide)) BK243.out (by decide)) (by decide)))); rintro e w24 ⟨v246, rfl, ho0, hb⟩; refine ⟨_, rfl, ?_⟩; have n0_ := Aside0.mk (Kd.N_elder' (by exact zN HO_3.out) (Kd.N_base ho0) hb); have n1_ := Aside0.mk (Kd.R_below (by exact zR HO238.out) hb); have n2_ := Aside0.mk (Kd.R_below (by exact zR HO241.out) hb); have n3_ := Aside0.mk (Kd.N_lower (Kd.N_mono (ok' := fun k_ => (w.heap.size ≤ k_) ∧ k_ ≠ gb243 ∧ k_ ≠ g) ho0 (fun k_ hk_ => ⟨Or.elim hk_ (fun hs_ => Or.elim hs_ (fun hs_ => hs_.1) (fun hs_ => Or.elim hs_ (fun hs_ => ((IsS87.apart HI0.out (Kd.R_types (Kd.R_apart' (Kd.R_apart' (HO238.out) (Kd.N_typed HO_3.out) (by decide)) (Kd.R_typed HO241.out) (by decide)) BK243.out (by decide)) (by decide)).1 k_ hs_.symm).1.1.1.1) (fun hs_ => ((IsS87.apart HI0.out (Kd.R_types (Kd.R_apart' (Kd.R_apart' (HO241.out) (Kd.N_typed HO_3.out) (by decide)) (Kd.R_typed HO238.out) (by decide)) BK243.out (by decide)) (by decide)).1 k_ hs_.symm).1.1.1.1))) (fun hn_ => (Nat.le_trans (keep_size (w := w) (g := g) (row := none) (by repeat (first | (with_reducible first | exact HK.out | apply KeepBut.set_ | apply keep_drewN | apply keep_drew | apply keep_alloc | refine keep_far ?_ GW243.out _) | exact HK.out))) hn_)), Or.elim hk_ (fun hs_ => Or.elim hs_ (fun hs_ => hs_.2.2.2.2) (fun hs_ => Or.elim hs_ (fun hs_ => ((IsS87.apart HI0.out (Kd.R_types (Kd.R_apart' (Kd.R_apart' (HO238.out) (Kd.N_typed HO_3.out) (by decide)) (Kd.R_typed HO241.out) (by decide)) BK243.out (by decide)) (by decide)).1 k_ hs_.symm).1.2) (fun hs_ => ((IsS87.apart HI0.out (Kd.R_types (Kd.R_apart' (Kd.R_apart' (HO241.out) (Kd.N_typed HO_3.out) (by decide)) (Kd.R_typed HO238.out) (by decide)) BK243.out (by decide)) (by decide)).1 k_ hs_.symm).1.2))) (fun hn_ => (Kd.freshB (g := gb243) (o := .cells #[.int .i64 t234, .int .i64 t235, .slice Ao19 t236.length co19, .slice Ao20 t239.length co20] 26 (0, 0)) (by exact zK BK243.out) k_ hn_)), Or.elim hk_ (fun hs_ => Or.elim hs_ (fun hs_ => hs_.2.2.2.1) (fun hs_ => Or.elim hs_ (fun hs_ => ((IsS87.apart HI0.out (Kd.R_types (Kd.R_apart' (Kd.R_apart' (HO238.out) (Kd.N_typed HO_3.out) (by decide)) (Kd.R_typed HO241.out) (by decide)) BK243.out (by decide)) (by decide)).1 k_ hs_.symm).2) (fun hs_ => ((IsS87.apart HI0.out (Kd.R_types (Kd.R_apart' (Kd.R_apart' (HO241.out) (Kd.N_typed HO_3.out) (by decide)) (Kd.R_typed HO238.out) (by decide)) BK243.out (by decide)) (by decide)).1 k_ hs_.symm).2))) (fun hn_ => (IsS87.fresh (by repeat (first | (with_reducible first | exact HI0.out | apply IsS87.alloc | apply IsS87.drewN | apply IsS87.drew | apply IsS87.set_1 | refine IsS87.far ?_ NB0_243.out _) | exact HI0.out)) k_ hn_))⟩)) (keep_size (w := w) (g := g) (row := none) (by repeat (first | (with_reducible first | exact HK.out | apply KeepBut.set_ | apply keep_drewN | apply keep_drew | apply keep_alloc | refine keep_far ?_ GW243.out _) | exact HK.out)))); have n4_ := Aside0.mk (IsS87.below (by repeat (first | (with_reducible first | exact HI0.out | apply IsS87.alloc | apply IsS87.drewN | apply IsS87.drew | apply IsS87.set_1 | refine IsS87.far ?_ NB0_243.out _) | exact HI0.out)) hb); have n5_ := Aside0.mk (blk_below (g := gb243) (o := .cells #[.int .i64 t234, .int .i64 t235, .slice Ao19 t236.length co19, .slice Ao20 t239.length co20] 26 (0, 0)) (by exact zK BK243.out) hb); have n6_ := Aside0.mk (KeepBut.trans (by repeat (first | (with_reducible first | exact HK.out | apply KeepBut.set_ | apply keep_drewN | apply keep_drew | apply keep_alloc | refine keep_far ?_ GW243.out _) | exact HK.out)) (KeepBut.of_below hb g none) (.inl rfl)); have n7_ := Aside0.mk (below_step (by exact zB2 HB.out (IsS87.ge HI0.out) GE243.out) hb); clear HO_3; clear HO238; clear HO241; clear HI0; clear BK243; clear HK; clear HB; have HO_3 := n0_; have HO238 := n1_; have HO241 := n2_; have HO247 := n3_; have HI0 := n4_; have BK243 := n5_; have HK := n6_; have HB := n7_; clear n0_ n1_ n2_ n3_ n4_ n5_ n6_ n7_; (try clear hb); (try clear hb2); (try clear hk); (try clear hi); (try clear ho0)))
     go_roundg k1
     case measure => have := HK1.out; omega
     case rel => exact ⟨(t245), (wrap64 (x4_1 - 1)), (t242), (by first | rfl | (simp; done) | (simp [*]; done)), H', ⟨by have := HK1.out; omega⟩, ⟨by exact zN (Kd.N_mono HO247.out (fun _ hk => ⟨hk.1, hk.2.2⟩))⟩, ⟨by repeat (first | (with_reducible first | exact HI0.out | apply IsS87.alloc | apply IsS87.drewN | apply IsS87.drew | apply IsS87.set_1 | refine IsS87.far ?_ NB0_243.out _) | exact HI0.out)⟩, ⟨by repeat (first | (with_reducible first | exact HK.out | apply KeepBut.set_ | apply keep_drewN | apply keep_drew | apply keep_alloc | refine keep_far ?_ GW243.out _) | exact HK.out)⟩, ⟨by exact zB2 HB.out (IsS87.ge HI0.out) GE243.out⟩⟩
    ·rw [if_neg c11] at H
     have c11b0 : decide (t244 < 0) = false := decide_eq_false c11
     clear c11
     have H' := Aside0.mk H
     clear H
     go_wp2_with (first | ((with_reducible refine gate_callee (f := 49) rfl ?_); refine goesL_ (some 15) rfl rfl Tryd.func49 (by kernel_rfl) rfl #[.pointer (some ⟨g, 0, none⟩), .int .i64 4] rfl (by (try simp only [zm1, zm2, zm3]); first | done | rfl | (simp only [List.length_drop, List.length_take]; rfl)) ?_; (with_reducible refine (spec_l6Rd_pick.calls k1 g s0_0 x1001_1 4 t230 t231 w0 _ ?side1 ?side2 A7.out).mono ?_); (case side1 => repeat (first | (with_reducible first | exact HI0.out | apply IsS87.alloc | apply IsS87.drewN | apply IsS87.drew | apply IsS87.set_1) | exact HI0.out)); (case side2 => exact zB1 HB.out (IsS87.ge HI0.out)); rintro e w25 ⟨rfl, hi, hb, hk⟩; refine ⟨_, rfl, ?_⟩; have n0_ := Aside0.mk (Kd.N_mono (Kd.N_keep (Kd.N_mono (ok := fun k_ => (((w.heap.size ≤ k_)) ∧ k_ ≠ g)) (by exact zN HO_3.out) (fun k_ hk_ => (⟨hk_, hk_.2⟩ : _ ∧ k_ ≠ g))) hk (fun _ h => h.2)) (fun _ h => h.1)); have n1_ := Aside0.mk (KeepBut.trans (by repeat (first | (with_reducible first | exact HK.out | apply KeepBut.set_ | apply keep_drewN | apply keep_drew | apply keep_alloc) | exact HK.out)) hk (.inl rfl)); have n2_ := Aside0.mk (hb); have n3_ := Aside0.mk (hi); clear HO_3; clear HK; clear HB; clear HI0; have HO_3 := n0_; have HK := n1_; have HB := n2_; have HI0 := n3_; clear n0_ n1_ n2_ n3_; (try clear hb); (try clear hb2); (try clear hk); (try clear hi)) | ((with_reducible refine gate_callee (f := 49) rfl ?_); refine goesL_ (some 18) rfl rfl Tryd.func49 (by kernel_rfl) rfl #[.pointer (some ⟨g, 0, none⟩), .int .i64 3] rfl (by (try simp only [zm1, zm2, zm3]); first | done | rfl | (simp only [List.length_drop, List.length_take]; rfl)) ?_; (with_reducible refine (spec_l6Rd_pick.calls k1 g s0_0 t231 3 t232 t233 w0 _ ?side1 ?side2 A8.out).mono ?_); (case side1 => repeat (first | (with_reducible first | exact HI0.out | apply IsS87.alloc | apply IsS87.drewN | apply IsS87.drew | apply IsS87.set_1) | exact HI0.out)); (case side2 => exact zB1 HB.out (IsS87.ge HI0.out)); rintro e w26 ⟨rfl, hi, hb, hk⟩; refine ⟨_, rfl, ?_⟩; have n0_ := Aside0.mk (Kd.N_mono (Kd.N_keep (Kd.N_mono (ok := fun k_ => (((w.heap.size ≤ k_)) ∧ k_ ≠ g)) (by exact zN HO_3.out) (fun k_ hk_ => (⟨hk_, hk_.2⟩ : _ ∧ k_ ≠ g))) hk (fun _ h => h.2)) (fun _ h => h.1)); have n1_ := Aside0.mk (KeepBut.trans (by repeat (first | (with_reducible first | exact HK.out | apply KeepBut.set_ | apply keep_drewN | apply keep_drew | apply keep_alloc) | exact HK.out)) hk (.inl rfl)); have n2_ := Aside0.mk (hb); have n3_ := Aside0.mk (hi); clear HO_3; clear HK; clear HB; clear HI0; have HO_3 := n0_; have HK := n1_; have HB := n2_; have HI0 := n3_; clear n0_ n1_ n2_ n3_; (try clear hb); (try clear hb2); (try clear hk); (try clear hi)) | ((with_reducible refine gate_callee (f := 48) rfl ?_); refine goesL_ (some 20) rfl rfl Tryd.func48 (by kernel_rfl) rfl #[.pointer (some ⟨g, 0, none⟩), .int .i64 (wrap64 (1 + t230)), .int .i64 (wrap64 (1 + t232))] rfl (by (try simp only [zm1, zm2, zm3]); first | done | rfl | (simp only [List.length_drop, List.length_take]; rfl)) ?_; (with_reducible refine (spec_l71Pkg.calls k1 g s0_0 t233 (wrap64 (1 + t230)) (wrap64 (1 + t232)) t234 t235 t236 t239 t242 w0 _ ?side1 ?side2 A9.out).mono ?_); (case side1 => repeat (first | (with_reducible first | exact HI0.out | apply IsS87.alloc | apply IsS87.drewN | apply IsS87.drew | apply IsS87.set_1) | exact HI0.out)); (case side2 => exact zB1 HB.out (IsS87.ge HI0.out)); rintro e w27 ⟨v237, v240, rfl, ho0, ho1, hi, hb, hk⟩; refine ⟨_, rfl, ?_⟩; have n0_ := Aside0.mk (Kd.N_mono (Kd.N_told (Kd.N_told (Kd.N_oldK (Kd.N_mono (ok := fun k_ => (((w.heap.size ≤ k_)) ∧ k_ ≠ g)) (by exact zN HO_3.out) (fun k_ hk_ => (⟨hk_, hk_.2⟩ : _ ∧ k_ ≠ g))) hk) (Kd.R_base ho0)) (Kd.R_base ho1)) (fun _ h_ => h_.1)); have n1_ := Aside0.mk (Kd.R_lower (Kd.R_newM (M := fun k_ => (w.heap.size ≤ k_)) ho0 (keep_size (w := w) (g := g) (row := none) (by repeat (first | (with_reducible first | exact HK.out | apply KeepBut.set_ | apply keep_drewN | apply keep_drew | apply keep_alloc) | exact HK.out))) (fun k_ h_ => h_)) (keep_size (w := w) (g := g) (row := none) (by repeat (first | (with_reducible first | exact HK.out | apply KeepBut.set_ | apply keep_drewN | apply keep_drew | apply keep_alloc) | exact HK.out)))); have n2_ := Aside0.mk (Kd.R_lower (Kd.R_newM (M := fun k_ => (w.heap.size ≤ k_)) ho1 (keep_size (w := w) (g := g) (row := none) (by repeat (first | (with_reducible first | exact HK.out | apply KeepBut.set_ | apply keep_drewN | apply keep_drew | apply keep_alloc) | exact HK.out))) (fun k_ h_ => h_)) (keep_size (w := w) (g := g) (row := none) (by repeat (first | (with_reducible first | exact HK.out | apply KeepBut.set_ | apply keep_drewN | apply keep_drew | apply keep_alloc) | exact HK.out)))); have n3_ := Aside0.mk (KeepBut.trans (by repeat (first | (with_reducible first | exact HK.out | apply KeepBut.set_ | apply keep_drewN | apply keep_drew | apply keep_alloc) | exact HK.out)) hk (.inl rfl)); have n4_ := Aside0.mk (hb); have n5_ := Aside0.mk (hi); clear HO_3; clear HK; clear HB; clear HI0; have HO_3 := n0_; have HO238 := n1_; have HO241 := n2_; have HK := n3_; have HB := n4_; have HI0 := n5_; clear n0_ n1_ n2_ n3_ n4_ n5_; (try clear hb); (try clear hb2); (try clear hk); (try clear hi); (try clear ho0); (try clear ho1)) | ((with_reducible refine gate_dst (N := 5) rfl ?_); refine box_event ?hg (N := 5) ?hd (cs := #[.int .i64 0, .int .i64 0, .slice none 0 0, .slice none 0 0]) (t := 26) ?hr ?_; (case hd => rfl); (case hg => rfl); (case hr => first | (go_simp; done) | (go_simp; rfl)); intro gb243 hg w28 hbox hb; have n0_ := Aside0.mk (Kd.N_below (Kd.N_elderB (by exact zN HO_3.out) gb243 (Nat.le_of_eq hg.symm)) hb); have n1_ := Aside0.mk (Kd.R_below (by exact zR HO238.out) hb); have n2_ := Aside0.mk (Kd.R_below (by exact zR HO241.out) hb); have n3_ := Aside0.mk (IsS87.below (by repeat (first | (with_reducible first | exact HI0.out | apply IsS87.alloc | apply IsS87.drewN | apply IsS87.drew | apply IsS87.set_1) | exact HI0.out)) hb); have n4_ := Aside0.mk (KeepBut.trans (by repeat (first | (with_reducible first | exact HK.out | apply KeepBut.set_ | apply keep_drewN | apply keep_drew | apply keep_alloc) | exact HK.out)) (KeepBut.of_below hb g none) (.inl rfl)); have n5_ := Aside0.mk (below_step (by exact zB1 HB.out (IsS87.ge HI0.out)) hb); have n6_ := Aside0.mk (hbox); have n7_ := Aside0.mk ((by rw [hg]; exact (keep_size (w := w) (g := g) (row := none) (by repeat (first | (with_reducible first | exact HK.out | apply KeepBut.set_ | apply keep_drewN | apply keep_drew | apply keep_alloc) | exact HK.out))) : w.heap.size ≤ gb243)); have n8_ := Aside0.mk ((Nat.le_trans HW0.out (by rw [hg]; exact (keep_size (w := w) (g := g) (row := none) (by repeat (first | (with_reducible first | exact HK.out | apply KeepBut.set_ | apply keep_drewN | apply keep_drew | apply keep_alloc) | exact HK.out))) : w.heap.size ≤ gb243) : w0.heap.size ≤ gb243)); have n9_ := Aside0.mk ((by rw [hg]; exact Nat.ne_of_lt (IsS87.lt (show IsS87 w0 _ g s0_0 t242 from by repeat (first | (with_reducible first | exact HI0.out | apply IsS87.alloc | apply IsS87.drewN | apply IsS87.drew | apply IsS87.set_1) | exact HI0.out))) : g ≠ gb243)); have n10_ := Aside0.mk ((by rw [hg]; exact Nat.ne_of_gt (IsS87.lt (show IsS87 w0 _ g s0_0 t242 from by repeat (first | (with_reducible first | exact HI0.out | apply IsS87.alloc | apply IsS87.drewN | apply IsS87.drew | apply IsS87.set_1) | exact HI0.out))) : gb243 ≠ g)); clear HO_3; clear HO238; clear HO241; clear HI0; clear HK; clear HB; have HO_3 := n0_; have HO238 := n1_; have HO241 := n2_; have HI0 := n3_; have HK := n4_; have HB := n5_; have BK243 := n6_; have GW243 := n7_; have GE243 := n8_; have NB0_243 := n9_; have NB243_0 := n10_; clear n0_ n1_ n2_ n3_ n4_ n5_ n6_ n7_ n8_ n9_ n10_; clear hb hbox hg; have hnb29 := NB243_0.out; have hnc29 := NB0_243.out; obtain ⟨hcz30_0, hcz30_1, hcz30_2, hcz30_3, hfz30_0, hfz30_1, hfz30_2, hfz30_3⟩ := zc4f BK243.out; obtain ⟨Ao31, co31, eo31⟩ := Kd.R_slice HO238.out; subst eo31; obtain ⟨Ao32, co32, eo32⟩ := Kd.R_slice HO241.out; subst eo32; obtain ⟨Ao33, co33, eo33⟩ := Kd.N_slice HO_3.out; subst eo33) | ((with_reducible refine gate_callee (f := 68) rfl ?_); refine goesL_ (some 26) rfl rfl Tryd.func68 (by kernel_rfl) rfl #[.slice Ao33 x3_1.length co33, .int .i64 t234, .int .i64 t235] rfl (by (try simp only [zm1, zm2, zm3]); first | done | rfl | (simp only [List.length_drop, List.length_take]; rfl)) ?_; (with_reducible refine (spec_l12Find.calls k1 _ _ x3_1 t234 t235 t244 _ ?side1 ?side2 A10.out).mono ?_); (case side1 => refine (Kd.N_reads' (e := 26) (base := w.heap.size) (ok := fun k_ => (((((w.heap.size ≤ k_) ∧ k_ ≠ g) ∧ some k_ ≠ (.slice Ao31 t236.length co31 : Value).ownBlock) ∧ some k_ ≠ (.slice Ao32 t239.length co32 : Value).ownBlock) ∧ k_ ≠ gb243)) (n := x3_1.length) (c := co33) ?_).2.2; exact (by exact zN (Kd.N_mono (Kd.N_far (p := ⟨gb243, 3, none⟩) (Kd.N_far (p := ⟨gb243, 2, none⟩) (Kd.N_far (p := ⟨gb243, 1, none⟩) (Kd.N_far (p := ⟨gb243, 0, none⟩) (Kd.N_mono HO_3.out (fun k_ hk => (⟨hk, hk.2⟩ : _ ∧ k_ ≠ gb243))) (fun _ hk => hk.2) (.int .i64 t234)) (fun _ hk => hk.2) (.int .i64 t235)) (fun _ hk => hk.2) (.slice Ao31 t236.length co31)) (fun _ hk => hk.2) (.slice Ao32 t239.length co32)) (fun _ h_ => h_.1)))); (case side2 => exact (Kd.N_reads' HO_3.out).2.1); rintro e w' ⟨rfl, ⟨nd, rfl⟩⟩; refine ⟨_, rfl, ?_⟩))
     go_roundg k1
     case measure => have := HK1.out; omega
     case rel => exact ⟨(x3_1), (wrap64 (x4_1 - 1)), (t242), (by first | rfl | (simp; done) | (simp [*]; done)), H', ⟨by have := HK1.out; omega⟩, ⟨by exact zN (Kd.N_mono (Kd.N_far (p := ⟨gb243, 3, none⟩) (Kd.N_far (p := ⟨gb243, 2, none⟩) (Kd.N_far (p := ⟨gb243, 1, none⟩) (Kd.N_far (p := ⟨gb243, 0, none⟩) (Kd.N_mono HO_3.out (fun k_ hk => (⟨hk, hk.2⟩ : _ ∧ k_ ≠ gb243))) (fun _ hk => hk.2) (.int .i64 t234)) (fun _ hk => hk.2) (.int .i64 t235)) (fun _ hk => hk.2) (.slice Ao31 t236.length co31)) (fun _ hk => hk.2) (.slice Ao32 t239.length co32)) (fun _ hk => ⟨hk.1.1.1.1.1, hk.1.1.1.1.2⟩))⟩, ⟨by repeat (first | (with_reducible first | exact HI0.out | apply IsS87.alloc | apply IsS87.drewN | apply IsS87.drew | apply IsS87.set_1 | refine IsS87.far ?_ NB0_243.out _) | exact HI0.out)⟩, ⟨by repeat (first | (with_reducible first | exact HK.out | apply KeepBut.set_ | apply keep_drewN | apply keep_drew | apply keep_alloc | refine keep_far ?_ GW243.out _) | exact HK.out)⟩, ⟨by exact zB2 HB.out (IsS87.ge HI0.out) GE243.out⟩⟩
   ·rw [if_neg c6] at H
    have c6b0 : decide (0 < x4_1) = false := decide_eq_false c6
    clear c6
    simp only [Option.some.injEq, Prod.mk.injEq] at H
    obtain ⟨rfl, rfl⟩ := H
    go_wp2
    go_ret
    exact ⟨_, by first | rfl | (simp [errW_none, errW_some] <;> rfl) | (simp [*, errW_none, errW_some] <;> rfl), by exact zN (Kd.N_mono HO_3.out (fun _ hk => hk.1)), by repeat (first | (with_reducible first | exact HI0.out | apply IsS87.alloc | apply IsS87.drewN | apply IsS87.drew | apply IsS87.set_1) | exact HI0.out), by exact zB1 HB.out (IsS87.ge HI0.out), by repeat (first | (with_reducible first | exact HK.out | apply KeepBut.set_ | apply keep_drewN | apply keep_drew | apply keep_alloc) | exact HK.out)⟩

end Go.Proofs.YtlmgnnpmcdeclaaDoor.PFnIndexOne
