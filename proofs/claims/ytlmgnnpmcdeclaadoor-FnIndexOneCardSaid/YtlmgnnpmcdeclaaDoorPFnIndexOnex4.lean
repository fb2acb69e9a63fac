-- printed for this claim by a program out of the translation, its tactics shortened by another
import Derived.Test.YtlmgnnpmcdeclaaDoorPFnIndexOnex3
namespace Go.Proofs.YtlmgnnpmcdeclaaDoor.PFnIndexOne
open Go.RowKit Go.Proofs.YtlmgnnpmcdeclaaDoorW.PrintWords Go.Proofs.YtlmgnnpmcdeclaaDoorW.PrintLast Go.Proofs.YtlmgnnpmcdeclaaDoorW.PrintMore
attribute [local go_sem] max2_int min2_int max_two min_two max_three min_three max_four min_four   -- for this text's walks alone
set_option linter.unusedVariables false
set_option linter.unusedSimpArgs false

/-! ### spec_l71Index: function 46 -/
def spec_l71Index.f (k : Nat) (s0_0 : List Int) (s0_1 : Int) : Option (Int × Int × (List (S73)) × Int) := (spec_l6Rd_pick.f k s0_0 s0_1 6).bind fun bt249 => ((spec_l6Rd_pick.f k s0_0 bt249.2 12).bind fun bt251 => ((spec_l71Pkgs.f k s0_0 bt251.2).bind fun bt253 => ((spec_IndexOf.f k (wrap64 (1 + bt249.1)) bt251.1 bt253.1).bind fun bt257 => ((spec_l6Rd_pick.f k s0_0 bt253.2 16).bind fun bt264 => (if bt264.1 = 0 then ((some (([0, 30, 31] : List Int) : List Int)).bind fun y266 => ((spec_l6Rd_pick.f k s0_0 bt264.2 3).bind fun bt269 => (if 0 ≤ bt269.1 then (if bt269.1 < (y266.length : Int) then (some (rd y266 bt269.1, bt257.2.1, bt257.2.2.1, bt269.2)) else (none)) else (none)))) else (if bt264.1 = 1 then ((some (([(-1), 60, 61] : List Int) : List Int)).bind fun y272 => ((spec_l6Rd_pick.f k s0_0 bt264.2 3).bind fun bt275 => (if 0 ≤ bt275.1 then (if bt275.1 < (y272.length : Int) then (some (bt257.1, rd y272 bt275.1, bt257.2.2.1, bt275.2)) else (none)) else (none)))) else (if bt264.1 = 2 then ((spec_l6Rd_pick.f k s0_0 bt264.2 4).bind fun bt278 => ((spec_l6Rd_pick.f k s0_0 bt278.2 4).bind fun bt280 => ((spec_l6Rd_pick.f k s0_0 bt280.2 9973).bind fun bt282 => (if bt257.2.2.1.length < 5864062014805 then (some (bt257.1, bt257.2.1, (bt257.2.2.1 ++ [(⟨wrap64 (1 + bt278.1), wrap64 (1 + bt280.1), bt282.1⟩ : S73)]), bt282.2)) else (none))))) else (some (bt257.1, bt257.2.1, bt257.2.2.1, bt264.2)))))))))
theorem spec_l71Index.mono : ∀ a0 a1 k, LeO (spec_l71Index.f k a0 a1) (spec_l71Index.f (k + 1) a0 a1) := by
 intro a0 a1 k
 unfold spec_l71Index.f
 repeat' first
   | (with_reducible exact spec_IndexOf.mono _ _ _ _)
   | (with_reducible exact spec_l6Rd_pick.mono _ _ _ _)
   | (with_reducible exact spec_l71Pkgs.mono _ _ _)
   | (with_reducible exact LeO.refl _)
   | (with_reducible exact LeO.none _)
   | (with_reducible refine LeO.ite ?_ ?_)
   | (with_reducible refine LeO.bind ?_ (fun _ => ?_))
   | exact spec_IndexOf.mono _ _ _ _
   | exact spec_l6Rd_pick.mono _ _ _ _
   | exact spec_l71Pkgs.mono _ _ _
   | exact LeO.none _
   | refine LeO.ite ?_ ?_
   | refine LeO.bind ?_ (fun _ => ?_)
def spec_l71Index.T8 : Bool × List (List Nat × List Nat) := (true, [([], []), ([0], [0]), ([], []), ([2], [2]), ([3], [3]), ([], []), ([5, 3], [5]), ([6], [6]), ([], []), ([8, 6], [8]), ([4, 7, 9], [4, 7, 9]), ([10], [10]), ([1, 11, 9], [1, 11]), ([0, 1, 2, 3, 4, 5, 6, 7, 8, 9, 10, 11, 12], []), ([13, 12, 12, 0, 1, 2, 3, 4, 5, 6, 7, 8, 9, 10, 11, 12], [12, 13])])
def spec_l71Index.B8 : List Nat := [0, 1, 0, 4, 12, 0, 44, 108, 0, 364, 1020, 2044, 4095, 8191, 16383]
theorem spec_l71Index.tab8 : rtab .any (opsOf Tryd.f46 8) = spec_l71Index.T8 := by kernel_rfl
theorem spec_l71Index.bits8 : waitsOk spec_l71Index.T8.2 spec_l71Index.B8 = true := by kernel_rfl
set_option maxHeartbeats 8000000 in
set_option maxRecDepth 100000 in
theorem spec_l71Index.calls (k : Nat) (g : Nat) (s0_0 : List Int) (s0_1 : Int) (r1 : Int) (r2 : Int) (r3 : List (S73)) (r4 : Int) (w0 w : World) (hI : IsS87 w0 w g s0_0 s0_1) (hB : Below w0.heap.size w0 w) (h : spec_l71Index.f k s0_0 s0_1 = some (r1, r2, r3, r4)) :
  Calls Tryd.prog 46 #[.pointer (some ⟨g, 0, none⟩)] w fun e w' => ∃ v2_ : Value, e = .returned (.agg #[.int .i64 r1, .int .i64 r2, v2_]) ∧ Kd.R k73 73 w' w.heap.size (fun _ => True) v2_ r3 ∧ IsS87 w0 w' g s0_0 r4 ∧ Below w0.heap.size w0 w' ∧ KeepBut w w' g none := by
 have hu38 := Tryd.underlying38
 have hu73 := Tryd.underlying73
 have HI0 := Aside0.mk hI
 have HK := Aside0.mk (KeepBut.refl w g none)
 have HL := Aside0.mk hB.size
 clear hI
 have HW0 := Aside0.mk hB.size
 have HB := Aside0.mk hB
 clear hB
 have H : ((spec_l6Rd_pick.f k s0_0 s0_1 6).bind fun bt249 => ((spec_l6Rd_pick.f k s0_0 bt249.2 12).bind fun bt251 => ((spec_l71Pkgs.f k s0_0 bt251.2).bind fun bt253 => ((spec_IndexOf.f k (wrap64 (1 + bt249.1)) bt251.1 bt253.1).bind fun bt257 => ((spec_l6Rd_pick.f k s0_0 bt253.2 16).bind fun bt264 => (if bt264.1 = 0 then ((some (([0, 30, 31] : List Int) : List Int)).bind fun y266 => ((spec_l6Rd_pick.f k s0_0 bt264.2 3).bind fun bt269 => (if 0 ≤ bt269.1 then (if bt269.1 < (y266.length : Int) then (some (rd y266 bt269.1, bt257.2.1, bt257.2.2.1, bt269.2)) else (none)) else (none)))) else (if bt264.1 = 1 then ((some (([(-1), 60, 61] : List Int) : List Int)).bind fun y272 => ((spec_l6Rd_pick.f k s0_0 bt264.2 3).bind fun bt275 => (if 0 ≤ bt275.1 then (if bt275.1 < (y272.length : Int) then (some (bt257.1, rd y272 bt275.1, bt257.2.2.1, bt275.2)) else (none)) else (none)))) else (if bt264.1 = 2 then ((spec_l6Rd_pick.f k s0_0 bt264.2 4).bind fun bt278 => ((spec_l6Rd_pick.f k s0_0 bt278.2 4).bind fun bt280 => ((spec_l6Rd_pick.f k s0_0 bt280.2 9973).bind fun bt282 => (if bt257.2.2.1.length < 5864062014805 then (some (bt257.1, bt257.2.1, (bt257.2.2.1 ++ [(⟨wrap64 (1 + bt278.1), wrap64 (1 + bt280.1), bt282.1⟩ : S73)]), bt282.2)) else (none))))) else (some (bt257.1, bt257.2.1, bt257.2.2.1, bt264.2)))))))))) = some (r1, r2, r3, r4) := h
 clear h
 replace H := Option.bind_eq_some_iff.mp H
 obtain ⟨⟨t249, t250⟩, A20, H⟩ := H
 replace H : ((spec_l6Rd_pick.f k s0_0 t250 12).bind fun bt251 => ((spec_l71Pkgs.f k s0_0 bt251.2).bind fun bt253 => ((spec_IndexOf.f k (wrap64 (1 + t249)) bt251.1 bt253.1).bind fun bt257 => ((spec_l6Rd_pick.f k s0_0 bt253.2 16).bind fun bt264 => (if bt264.1 = 0 then ((some (([0, 30, 31] : List Int) : List Int)).bind fun y266 => ((spec_l6Rd_pick.f k s0_0 bt264.2 3).bind fun bt269 => (if 0 ≤ bt269.1 then (if bt269.1 < (y266.length : Int) then (some (rd y266 bt269.1, bt257.2.1, bt257.2.2.1, bt269.2)) else (none)) else (none)))) else (if bt264.1 = 1 then ((some (([(-1), 60, 61] : List Int) : List Int)).bind fun y272 => ((spec_l6Rd_pick.f k s0_0 bt264.2 3).bind fun bt275 => (if 0 ≤ bt275.1 then (if bt275.1 < (y272.length : Int) then (some (bt257.1, rd y272 bt275.1, bt257.2.2.1, bt275.2)) else (none)) else (none)))) else (if bt264.1 = 2 then ((spec_l6Rd_pick.f k s0_0 bt264.2 4).bind fun bt278 => ((spec_l6Rd_pick.f k s0_0 bt278.2 4).bind fun bt280 => ((spec_l6Rd_pick.f k s0_0 bt280.2 9973).bind fun bt282 => (if bt257.2.2.1.length < 5864062014805 then (some (bt257.1, bt257.2.1, (bt257.2.2.1 ++ [(⟨wrap64 (1 + bt278.1), wrap64 (1 + bt280.1), bt282.1⟩ : S73)]), bt282.2)) else (none))))) else (some (bt257.1, bt257.2.1, bt257.2.2.1, bt264.2))))))))) = some (r1, r2, r3, r4) := H
 have A2 := Aside0.mk A20
 clear A20
 replace H := Option.bind_eq_some_iff.mp H
 obtain ⟨⟨t251, t252⟩, A30, H⟩ := H
 replace H : ((spec_l71Pkgs.f k s0_0 t252).bind fun bt253 => ((spec_IndexOf.f k (wrap64 (1 + t249)) t251 bt253.1).bind fun bt257 => ((spec_l6Rd_pick.f k s0_0 bt253.2 16).bind fun bt264 => (if bt264.1 = 0 then ((some (([0, 30, 31] : List Int) : List Int)).bind fun y266 => ((spec_l6Rd_pick.f k s0_0 bt264.2 3).bind fun bt269 => (if 0 ≤ bt269.1 then (if bt269.1 < (y266.length : Int) then (some (rd y266 bt269.1, bt257.2.1, bt257.2.2.1, bt269.2)) else (none)) else (none)))) else (if bt264.1 = 1 then ((some (([(-1), 60, 61] : List Int) : List Int)).bind fun y272 => ((spec_l6Rd_pick.f k s0_0 bt264.2 3).bind fun bt275 => (if 0 ≤ bt275.1 then (if bt275.1 < (y272.length : Int) then (some (bt257.1, rd y272 bt275.1, bt257.2.2.1, bt275.2)) else (none)) else (none)))) else (if bt264.1 = 2 then ((spec_l6Rd_pick.f k s0_0 bt264.2 4).bind fun bt278 => ((spec_l6Rd_pick.f k s0_0 bt278.2 4).bind fun bt280 => ((spec_l6Rd_pick.f k s0_0 bt280.2 9973).bind fun bt282 => (if bt257.2.2.1.length < 5864062014805 then (some (bt257.1, bt257.2.1, (bt257.2.2.1 ++ [(⟨wrap64 (1 + bt278.1), wrap64 (1 + bt280.1), bt282.1⟩ : S73)]), bt282.2)) else (none))))) else (some (bt257.1, bt257.2.1, bt257.2.2.1, bt264.2)))))))) = some (r1, r2, r3, r4) := H
 have A3 := Aside0.mk A30
 clear A30
 replace H := Option.bind_eq_some_iff.mp H
 obtain ⟨⟨t253, t256⟩, A40, H⟩ := H
 replace H : ((spec_IndexOf.f k (wrap64 (1 + t249)) t251 t253).bind fun bt257 => ((spec_l6Rd_pick.f k s0_0 t256 16).bind fun bt264 => (if bt264.1 = 0 then ((some (([0, 30, 31] : List Int) : List Int)).bind fun y266 => ((spec_l6Rd_pick.f k s0_0 bt264.2 3).bind fun bt269 => (if 0 ≤ bt269.1 then (if bt269.1 < (y266.length : Int) then (some (rd y266 bt269.1, bt257.2.1, bt257.2.2.1, bt269.2)) else (none)) else (none)))) else (if bt264.1 = 1 then ((some (([(-1), 60, 61] : List Int) : List Int)).bind fun y272 => ((spec_l6Rd_pick.f k s0_0 bt264.2 3).bind fun bt275 => (if 0 ≤ bt275.1 then (if bt275.1 < (y272.length : Int) then (some (bt257.1, rd y272 bt275.1, bt257.2.2.1, bt275.2)) else (none)) else (none)))) else (if bt264.1 = 2 then ((spec_l6Rd_pick.f k s0_0 bt264.2 4).bind fun bt278 => ((spec_l6Rd_pick.f k s0_0 bt278.2 4).bind fun bt280 => ((spec_l6Rd_pick.f k s0_0 bt280.2 9973).bind fun bt282 => (if bt257.2.2.1.length < 5864062014805 then (some (bt257.1, bt257.2.1, (bt257.2.2.1 ++ [(⟨wrap64 (1 + bt278.1), wrap64 (1 + bt280.1), bt282.1⟩ : S73)]), bt282.2)) else (none))))) else (some (bt257.1, bt257.2.1, bt257.2.2.1, bt264.2))))))) = some (r1, r2, r3, r4) := H
 have A4 := Aside0.mk A40
 clear A40
 replace H := Option.bind_eq_some_iff.mp H
 obtain ⟨⟨t257, t258, t259, t262⟩, A50, H⟩ := H
 replace H : ((spec_l6Rd_pick.f k s0_0 t256 16).bind fun bt264 => (if bt264.1 = 0 then ((some (([0, 30, 31] : List Int) : List Int)).bind fun y266 => ((spec_l6Rd_pick.f k s0_0 bt264.2 3).bind fun bt269 => (if 0 ≤ bt269.1 then (if bt269.1 < (y266.length : Int) then (some (rd y266 bt269.1, t258, t259, bt269.2)) else (none)) else (none)))) else (if bt264.1 = 1 then ((some (([(-1), 60, 61] : List Int) : List Int)).bind fun y272 => ((spec_l6Rd_pick.f k s0_0 bt264.2 3).bind fun bt275 => (if 0 ≤ bt275.1 then (if bt275.1 < (y272.length : Int) then (some (t257, rd y272 bt275.1, t259, bt275.2)) else (none)) else (none)))) else (if bt264.1 = 2 then ((spec_l6Rd_pick.f k s0_0 bt264.2 4).bind fun bt278 => ((spec_l6Rd_pick.f k s0_0 bt278.2 4).bind fun bt280 => ((spec_l6Rd_pick.f k s0_0 bt280.2 9973).bind fun bt282 => (if t259.length < 5864062014805 then (some (t257, t258, (t259 ++ [(⟨wrap64 (1 + bt278.1), wrap64 (1 + bt280.1), bt282.1⟩ : S73)]), bt282.2)) else (none))))) else (some (t257, t258, t259, bt264.2)))))) = some (r1, r2, r3, r4) := H
 have A5 := Aside0.mk A50
 clear A50
 replace H := Option.bind_eq_some_iff.mp H
 obtain ⟨⟨t264, t265⟩, A60, H⟩ := H
 replace H : (if t264 = 0 then ((some (([0, 30, 31] : List Int) : List Int)).bind fun y266 => ((spec_l6Rd_pick.f k s0_0 t265 3).bind fun bt269 => (if 0 ≤ bt269.1 then (if bt269.1 < (y266.length : Int) then (some (rd y266 bt269.1, t258, t259, bt269.2)) else (none)) else (none)))) else (if t264 = 1 then ((some (([(-1), 60, 61] : List Int) : List Int)).bind fun y272 => ((spec_l6Rd_pick.f k s0_0 t265 3).bind fun bt275 => (if 0 ≤ bt275.1 then (if bt275.1 < (y272.length : Int) then (some (t257, rd y272 bt275.1, t259, bt275.2)) else (none)) else (none)))) else (if t264 = 2 then ((spec_l6Rd_pick.f k s0_0 t265 4).bind fun bt278 => ((spec_l6Rd_pick.f k s0_0 bt278.2 4).bind fun bt280 => ((spec_l6Rd_pick.f k s0_0 bt280.2 9973).bind fun bt282 => (if t259.length < 5864062014805 then (some (t257, t258, (t259 ++ [(⟨wrap64 (1 + bt278.1), wrap64 (1 + bt280.1), bt282.1⟩ : S73)]), bt282.2)) else (none))))) else (some (t257, t258, t259, t265))))) = some (r1, r2, r3, r4) := H
 have A6 := Aside0.mk A60
 clear A60
 by_cases c7 : t264 = 0
 ·rw [if_pos c7] at H
  have c7b0 : (t264 == 0) = true := beq_iff_eq.mpr c7
  have c7b1 : (t264 != 0) = false := bne_eq_false_iff_eq.mpr c7
  clear c7
  obtain ⟨y266, hy266⟩ : ∃ y_ : List Int, y_ = (([0, 30, 31] : List Int)) := ⟨_, rfl⟩
  replace H : ((spec_l6Rd_pick.f k s0_0 t265 3).bind fun bt269 => (if 0 ≤ bt269.1 then (if bt269.1 < (y266.length : Int) then (some (rd y266 bt269.1, t258, t259, bt269.2)) else (none)) else (none))) = some (r1, r2, r3, r4) := by first | (rw [hy266]; with_reducible exact H) | (have H2_ := (Option.bind_some _ _).symm.trans H; rw [hy266]; with_reducible exact H2_) | (have H2_ := (Option.bind_some _ _).symm.trans H; with_reducible exact H2_) | with_reducible exact H | (rw [hy266]; exact H) | exact H
  have Ny266 := Aside0.mk hy266
  clear hy266
  replace H := Option.bind_eq_some_iff.mp H
  obtain ⟨⟨t269, t270⟩, A80, H⟩ := H
  replace H : (if 0 ≤ t269 then (if t269 < (y266.length : Int) then (some (rd y266 t269, t258, t259, t270)) else (none)) else (none)) = some (r1, r2, r3, r4) := H
  have A8 := Aside0.mk A80
  clear A80
  by_cases c9 : 0 ≤ t269
  ·rw [if_pos c9] at H
   have c9b0 : decide (0 ≤ t269) = true := decide_eq_true c9
   clear c9
   by_cases c10 : t269 < (y266.length : Int)
   ·rw [if_pos c10] at H
    have c10b0 : decide (t269 < (y266.length : Int)) = true := decide_eq_true c10
    clear c10
    simp only [Option.some.injEq, Prod.mk.injEq] at H
    obtain ⟨rfl, rfl, rfl, rfl⟩ := H
    go_enter Tryd.func46, Tryd.ntmps46
    go_wp2_with (first | ((with_reducible refine gate_dst (N := 2) rfl ?_); refine box_event ?hg (N := 2) ?hd (cs := #[.int .i64 0, .int .i64 0, .slice none 0 0]) (t := 38) ?hr ?_; (case hd => rfl); (case hg => rfl); (case hr => first | (go_simp; done) | (go_simp; rfl)); intro gb248 hg w11 hbox hb; have n0_ := Aside0.mk (IsS87.below (by repeat (first | (with_reducible first | exact HI0.out | apply IsS87.alloc | apply IsS87.drewN | apply IsS87.drew | apply IsS87.set_1) | exact HI0.out)) hb); have n1_ := Aside0.mk (KeepBut.trans (by repeat (first | (with_reducible first | exact HK.out | apply KeepBut.set_ | apply keep_drewN | apply keep_drew | apply keep_alloc) | exact HK.out)) (KeepBut.of_below hb g none) (.inl rfl)); have n2_ := Aside0.mk (below_step (by exact zB1 HB.out (IsS87.ge HI0.out)) hb); have n3_ := Aside0.mk (hbox); have n4_ := Aside0.mk ((by rw [hg]; exact (keep_size (w := w) (g := g) (row := none) (by repeat (first | (with_reducible first | exact HK.out | apply KeepBut.set_ | apply keep_drewN | apply keep_drew | apply keep_alloc) | exact HK.out))) : w.heap.size ≤ gb248)); have n5_ := Aside0.mk ((Nat.le_trans HW0.out (by rw [hg]; exact (keep_size (w := w) (g := g) (row := none) (by repeat (first | (with_reducible first | exact HK.out | apply KeepBut.set_ | apply keep_drewN | apply keep_drew | apply keep_alloc) | exact HK.out))) : w.heap.size ≤ gb248) : w0.heap.size ≤ gb248)); have n6_ := Aside0.mk ((by rw [hg]; exact Nat.ne_of_lt (IsS87.lt (show IsS87 w0 _ g s0_0 s0_1 from by repeat (first | (with_reducible first | exact HI0.out | apply IsS87.alloc | apply IsS87.drewN | apply IsS87.drew | apply IsS87.set_1) | exact HI0.out))) : g ≠ gb248)); have n7_ := Aside0.mk ((by rw [hg]; exact Nat.ne_of_gt (IsS87.lt (show IsS87 w0 _ g s0_0 s0_1 from by repeat (first | (with_reducible first | exact HI0.out | apply IsS87.alloc | apply IsS87.drewN | apply IsS87.drew | apply IsS87.set_1) | exact HI0.out))) : gb248 ≠ g)); clear HI0; clear HK; clear HB; have HI0 := n0_; have HK := n1_; have HB := n2_; have BK248 := n3_; have GW248 := n4_; have GE248 := n5_; have NB0_248 := n6_; have NB248_0 := n7_; clear n0_ n1_ n2_ n3_ n4_ n5_ n6_ n7_; clear hb hbox hg) | ((with_reducible refine gate_callee (f := 49) rfl ?_); refine goesL_ (some 7) rfl rfl Tryd.func49 (by kernel_rfl) rfl #[.pointer (some ⟨g, 0, none⟩), .int .i64 6] rfl (by (try simp only [zm1, zm2, zm3]); first | done | rfl | (simp only [List.length_drop, List.length_take]; rfl)) ?_; (with_reducible refine (spec_l6Rd_pick.calls k g s0_0 s0_1 6 t249 t250 w0 _ ?side1 ?side2 A2.out).mono ?_); (case side1 => repeat (first | (with_reducible first | exact HI0.out | apply IsS87.alloc | apply IsS87.drewN | apply IsS87.drew | apply IsS87.set_1 | refine IsS87.far ?_ NB0_248.out _) | exact HI0.out)); (case side2 => exact zB2 HB.out (IsS87.ge HI0.out) GE248.out); rintro e w12 ⟨rfl, hi, hb, hk⟩; refine ⟨_, rfl, ?_⟩; have n0_ := Aside0.mk (KeepBut.blk hk (g' := gb248) (o := .cells #[.int .i64 0, .int .i64 0, .slice none 0 0] 38 (0, 0)) (by exact zK BK248.out) NB248_0.out (by simp)); have n1_ := Aside0.mk (KeepBut.trans (by repeat (first | (with_reducible first | exact HK.out | apply KeepBut.set_ | apply keep_drewN | apply keep_drew | apply keep_alloc | refine keep_far ?_ GW248.out _) | exact HK.out)) hk (.inl rfl)); have n2_ := Aside0.mk (hb); have n3_ := Aside0.mk (hi); clear BK248; clear HK; clear HB; clear HI0; have BK248 := n0_; have HK := n1_; have HB := n2_; have HI0 := n3_; clear n0_ n1_ n2_ n3_; (try clear hb); (try clear hb2); (try clear hk); (try clear hi)) | ((with_reducible refine gate_callee (f := 49) rfl ?_); refine goesL_ (some 10) rfl rfl Tryd.func49 (by kernel_rfl) rfl #[.pointer (some ⟨g, 0, none⟩), .int .i64 12] rfl (by (try simp only [zm1, zm2, zm3]); first | done | rfl | (simp only [List.length_drop, List.length_take]; rfl)) ?_; (with_reducible refine (spec_l6Rd_pick.calls k g s0_0 t250 12 t251 t252 w0 _ ?side1 ?side2 A3.out).mono ?_); (case side1 => repeat (first | (with_reducible first | exact HI0.out | apply IsS87.alloc | apply IsS87.drewN | apply IsS87.drew | apply IsS87.set_1 | refine IsS87.far ?_ NB0_248.out _) | exact HI0.out)); (case side2 => exact zB2 HB.out (IsS87.ge HI0.out) GE248.out); rintro e w13 ⟨rfl, hi, hb, hk⟩; refine ⟨_, rfl, ?_⟩; have n0_ := Aside0.mk (KeepBut.blk hk (g' := gb248) (o := .cells #[.int .i64 0, .int .i64 0, .slice none 0 0] 38 (0, 0)) (by exact zK BK248.out) NB248_0.out (by simp)); have n1_ := Aside0.mk (KeepBut.trans (by repeat (first | (with_reducible first | exact HK.out | apply KeepBut.set_ | apply keep_drewN | apply keep_drew | apply keep_alloc | refine keep_far ?_ GW248.out _) | exact HK.out)) hk (.inl rfl)); have n2_ := Aside0.mk (hb); have n3_ := Aside0.mk (hi); clear BK248; clear HK; clear HB; clear HI0; have BK248 := n0_; have HK := n1_; have HB := n2_; have HI0 := n3_; clear n0_ n1_ n2_ n3_; (try clear hb); (try clear hb2); (try clear hk); (try clear hi)) | ((with_reducible refine gate_callee (f := 63) rfl ?_); refine goesL_ (some 12) rfl rfl Tryd.func63 (by kernel_rfl) rfl #[.pointer (some ⟨g, 0, none⟩)] rfl (by (try simp only [zm1, zm2, zm3]); first | done | rfl | (simp only [List.length_drop, List.length_take]; rfl)) ?_; (with_reducible refine (spec_l71Pkgs.calls k g s0_0 t252 t253 t256 w0 _ ?side1 ?side2 A4.out).mono ?_); (case side1 => repeat (first | (with_reducible first | exact HI0.out | apply IsS87.alloc | apply IsS87.drewN | apply IsS87.drew | apply IsS87.set_1 | refine IsS87.far ?_ NB0_248.out _) | exact HI0.out)); (case side2 => exact zB2 HB.out (IsS87.ge HI0.out) GE248.out); rintro e w14 ⟨v254, rfl, ho0, hi, hb, hk⟩; refine ⟨_, rfl, ?_⟩; have n0_ := Aside0.mk (KeepBut.blk hk (g' := gb248) (o := .cells #[.int .i64 0, .int .i64 0, .slice none 0 0] 38 (0, 0)) (by exact zK BK248.out) NB248_0.out (by simp)); have n1_ := Aside0.mk (Kd.N_lower (Kd.N_mono (ok' := fun k_ => k_ ≠ gb248 ∧ k_ ≠ g) ho0 (fun k_ hk_ => ⟨(Kd.freshB (g := gb248) (o := .cells #[.int .i64 0, .int .i64 0, .slice none 0 0] 38 (0, 0)) (by exact zK BK248.out) k_ hk_), (IsS87.fresh (by repeat (first | (with_reducible first | exact HI0.out | apply IsS87.alloc | apply IsS87.drewN | apply IsS87.drew | apply IsS87.set_1 | refine IsS87.far ?_ NB0_248.out _) | exact HI0.out)) k_ hk_)⟩)) (keep_size (w := w) (g := g) (row := none) (by repeat (first | (with_reducible first | exact HK.out | apply KeepBut.set_ | apply keep_drewN | apply keep_drew | apply keep_alloc | refine keep_far ?_ GW248.out _) | exact HK.out)))); have n2_ := Aside0.mk (KeepBut.trans (by repeat (first | (with_reducible first | exact HK.out | apply KeepBut.set_ | apply keep_drewN | apply keep_drew | apply keep_alloc | refine keep_far ?_ GW248.out _) | exact HK.out)) hk (.inl rfl)); have n3_ := Aside0.mk (hb); have n4_ := Aside0.mk (hi); clear BK248; clear HK; clear HB; clear HI0; have BK248 := n0_; have HO255 := n1_; have HK := n2_; have HB := n3_; have HI0 := n4_; clear n0_ n1_ n2_ n3_ n4_; (try clear hb); (try clear hb2); (try clear hk); (try clear hi); (try clear ho0); obtain ⟨Ao15, co15, eo15⟩ := Kd.N_slice HO255.out; subst eo15) | ((with_reducible refine gate_callee (f := 62) rfl ?_); refine goesL_ (some 13) rfl rfl Tryd.func62 (by kernel_rfl) rfl #[.int .i64 (wrap64 (1 + t249)), .int .i64 t251, .slice Ao15 t253.length co15] rfl (by (try simp only [zm1, zm2, zm3]); first | done | rfl | (simp only [List.length_drop, List.length_take]; rfl)) ?_; (with_reducible refine (spec_IndexOf.calls k (wrap64 (1 + t249)) t251 _ _ t253 t257 t258 t259 t262 _ ?side1 ?side2 A5.out).mono ?_); (case side1 => exact zC (Kd.N_reads' HO255.out).2.2); (case side2 => exact (Kd.N_reads' HO255.out).2.1); rintro e w16 ⟨v260, rfl, ho0, hb⟩; refine ⟨_, rfl, ?_⟩; have n0_ := Aside0.mk (Kd.N_elder' (by exact zN HO255.out) (Kd.R_base ho0) hb); have n1_ := Aside0.mk (Kd.R_lower ho0 (keep_size (w := w) (g := g) (row := none) (by repeat (first | (with_reducible first | exact HK.out | apply KeepBut.set_ | apply keep_drewN | apply keep_drew | apply keep_alloc | refine keep_far ?_ GW248.out _) | exact HK.out)))); have n2_ := Aside0.mk (IsS87.below (by repeat (first | (with_reducible first | exact HI0.out | apply IsS87.alloc | apply IsS87.drewN | apply IsS87.drew | apply IsS87.set_1 | refine IsS87.far ?_ NB0_248.out _) | exact HI0.out)) hb); have n3_ := Aside0.mk (blk_below (g := gb248) (o := .cells #[.int .i64 0, .int .i64 0, .slice none 0 0] 38 (0, 0)) (by exact zK BK248.out) hb); have n4_ := Aside0.mk (KeepBut.trans (by repeat (first | (with_reducible first | exact HK.out | apply KeepBut.set_ | apply keep_drewN | apply keep_drew | apply keep_alloc | refine keep_far ?_ GW248.out _) | exact HK.out)) (KeepBut.of_below hb g none) (.inl rfl)); have n5_ := Aside0.mk (below_step (by exact zB2 HB.out (IsS87.ge HI0.out) GE248.out) hb); clear HO255; clear HI0; clear BK248; clear HK; clear HB; have HO255 := n0_; have HO261 := n1_; have HI0 := n2_; have BK248 := n3_; have HK := n4_; have HB := n5_; clear n0_ n1_ n2_ n3_ n4_ n5_; (try clear hb); (try clear hb2); (try clear hk); (try clear hi); (try clear ho0)) | ((with_reducible refine gate_dst (N := 3) rfl ?_); refine box_event ?hg (N := 3) ?hd (cs := #[.int .i64 0, .int .i64 0, .slice none 0 0]) (t := 38) ?hr ?_; (case hd => rfl); (case hg => rfl); (case hr => first | (go_simp; done) | (go_simp; rfl)); intro gb263 hg w17 hbox hb; have n0_ := Aside0.mk (Kd.N_below (Kd.N_elderB (by exact zN HO255.out) gb263 (Nat.le_of_eq hg.symm)) hb); have n1_ := Aside0.mk (Kd.R_below (by exact zR HO261.out) hb); have n2_ := Aside0.mk (IsS87.below (by repeat (first | (with_reducible first | exact HI0.out | apply IsS87.alloc | apply IsS87.drewN | apply IsS87.drew | apply IsS87.set_1 | refine IsS87.far ?_ NB0_248.out _) | exact HI0.out)) hb); have n3_ := Aside0.mk (blk_below (g := gb248) (o := .cells #[.int .i64 0, .int .i64 0, .slice none 0 0] 38 (0, 0)) (by exact zK BK248.out) hb); have n4_ := Aside0.mk (KeepBut.trans (by repeat (first | (with_reducible first | exact HK.out | apply KeepBut.set_ | apply keep_drewN | apply keep_drew | apply keep_alloc | refine keep_far ?_ GW248.out _) | exact HK.out)) (KeepBut.of_below hb g none) (.inl rfl)); have n5_ := Aside0.mk (below_step (by exact zB2 HB.out (IsS87.ge HI0.out) GE248.out) hb); have n6_ := Aside0.mk (hbox); have n7_ := Aside0.mk ((by rw [hg]; exact (keep_size (w := w) (g := g) (row := none) (by repeat (first | (with_reducible first | exact HK.out | apply KeepBut.set_ | apply keep_drewN | apply keep_drew | apply keep_alloc | refine keep_far ?_ GW248.out _) | exact HK.out))) : w.heap.size ≤ gb263)); have n8_ := Aside0.mk ((Nat.le_trans HW0.out (by rw [hg]; exact (keep_size (w := w) (g := g) (row := none) (by repeat (first | (with_reducible first | exact HK.out | apply KeepBut.set_ | apply keep_drewN | apply keep_drew | apply keep_alloc | refine keep_far ?_ GW248.out _) | exact HK.out))) : w.heap.size ≤ gb263) : w0.heap.size ≤ gb263)); have n9_ := Aside0.mk ((by rw [hg]; exact Nat.ne_of_lt (blk_lt (g := gb248) (o := .cells #[.int .i64 0, .int .i64 0, .slice none 0 0] 38 (0, 0)) (by exact zK BK248.out)) : gb248 ≠ gb263)); have n10_ := Aside0.mk ((by rw [hg]; exact Nat.ne_of_gt (blk_lt (g := gb248) (o := .cells #[.int .i64 0, .int .i64 0, .slice none 0 0] 38 (0, 0)) (by exact zK BK248.out)) : gb263 ≠ gb248)); have n11_ := Aside0.mk ((by rw [hg]; exact Nat.ne_of_lt (IsS87.lt (show IsS87 w0 _ g s0_0 t256 from by repeat (first | (with_reducible first | exact HI0.out | apply IsS87.alloc | apply IsS87.drewN | apply IsS87.drew | apply IsS87.set_1 | refine IsS87.far ?_ NB0_248.out _) | exact HI0.out))) : g ≠ gb263)); have n12_ := Aside0.mk ((by rw [hg]; exact Nat.ne_of_gt (IsS87.lt (show IsS87 w0 _ g s0_0 t256 from by repeat (first | (with_reducible first | exact HI0.out | apply IsS87.alloc | apply IsS87.drewN | apply IsS87.drew | apply IsS87.set_1 | refine IsS87.far ?_ NB0_248.out _) | exact HI0.out))) : gb263 ≠ g)); clear HO255; clear HO261; clear HI0; clear BK248; clear HK; clear HB; have HO255 := n0_; have HO261 := n1_; have HI0 := n2_; have BK248 := n3_; have HK := n4_; have HB := n5_; have BK263 := n6_; have GW263 := n7_; have GE263 := n8_; have NB248_263 := n9_; have NB263_248 := n10_; have NB0_263 := n11_; have NB263_0 := n12_; clear n0_ n1_ n2_ n3_ n4_ n5_ n6_ n7_ n8_ n9_ n10_ n11_ n12_; clear hb hbox hg; have hnb18 := NB263_248.out; have hnc18 := NB248_263.out; have hnb19 := NB263_0.out; have hnc19 := NB0_263.out; obtain ⟨hcz20_0, hcz20_1, hcz20_2, hfz20_0, hfz20_1, hfz20_2⟩ := zc3f BK263.out; obtain ⟨Ao21, co21, eo21⟩ := Kd.R_slice HO261.out; subst eo21) | ((with_reducible refine gate_callee (f := 49) rfl ?_); refine goesL_ (some 17) rfl rfl Tryd.func49 (by kernel_rfl) rfl #[.pointer (some ⟨g, 0, none⟩), .int .i64 16] rfl (by (try simp only [zm1, zm2, zm3]); first | done | rfl | (simp only [List.length_drop, List.length_take]; rfl)) ?_; (with_reducible refine (spec_l6Rd_pick.calls k g s0_0 t256 16 t264 t265 w0 _ ?side1 ?side2 A6.out).mono ?_); (case side1 => repeat (first | (with_reducible first | exact HI0.out | apply IsS87.alloc | apply IsS87.drewN | apply IsS87.drew | apply IsS87.set_1 | refine IsS87.far ?_ NB0_248.out _ | refine IsS87.far ?_ NB0_263.out _) | exact HI0.out)); (case side2 => exact zB3 HB.out (IsS87.ge HI0.out) GE248.out GE263.out); rintro e w22 ⟨rfl, hi, hb, hk⟩; refine ⟨_, rfl, ?_⟩; have n0_ := Aside0.mk (KeepBut.blk hk (g' := gb248) (o := .cells #[.int .i64 0, .int .i64 0, .slice none 0 0] 38 (0, 0)) (by (with_reducible repeat (first | refine blk_drewN ?_ _ | refine blk_drew ?_ | refine blk_alloc ?_ _)); refine blk_far ?_ NB248_263.out _; (with_reducible repeat (first | refine blk_drewN ?_ _ | refine blk_drew ?_ | refine blk_alloc ?_ _)); refine blk_far ?_ NB248_263.out _; (with_reducible repeat (first | refine blk_drewN ?_ _ | refine blk_drew ?_ | refine blk_alloc ?_ _)); refine blk_far ?_ NB248_263.out _; exact zK BK248.out) NB248_0.out (by simp)); have n1_ := Aside0.mk (Kd.N_mono (Kd.N_keep (Kd.N_mono (ok := fun k_ => (((k_ ≠ gb248 ∧ k_ ≠ g) ∧ some k_ ≠ (.slice Ao21 t259.length co21 : Value).ownBlock) ∧ k_ ≠ gb263)) (by exact zN (Kd.N_mono (Kd.N_far (p := ⟨gb263, 2, none⟩) (Kd.N_far (p := ⟨gb263, 1, none⟩) (Kd.N_far (p := ⟨gb263, 0, none⟩) (Kd.N_mono HO255.out (fun k_ hk => (⟨hk, hk.2⟩ : _ ∧ k_ ≠ gb263))) (fun _ hk => hk.2) (.int .i64 t257)) (fun _ hk => hk.2) (.int .i64 t258)) (fun _ hk => hk.2) (.slice Ao21 t259.length co21)) (fun _ h_ => h_.1))) (fun k_ hk_ => (⟨hk_, hk_.1.1.2⟩ : _ ∧ k_ ≠ g))) hk (fun _ h => h.2)) (fun _ h => h.1)); have n2_ := Aside0.mk (Kd.R_mono (Kd.R_keep (IsS87.apart (show IsS87 w0 _ g s0_0 t256 from by repeat (first | (with_reducible first | exact HI0.out | apply IsS87.alloc | apply IsS87.drewN | apply IsS87.drew | apply IsS87.set_1 | refine IsS87.far ?_ NB0_248.out _ | refine IsS87.far ?_ NB0_263.out _) | exact HI0.out)) (by exact zR (Kd.R_mono (Kd.R_far (p := ⟨gb263, 2, none⟩) (Kd.R_far (p := ⟨gb263, 1, none⟩) (Kd.R_far (p := ⟨gb263, 0, none⟩) (Kd.R_types HO261.out BK263.out (by decide)) (fun _ hk => hk.2) (.int .i64 t257)) (fun _ hk => hk.2) (.int .i64 t258)) (fun _ hk => hk.2) (.slice Ao21 t259.length co21)) (fun _ h_ => h_.1))) (by decide)) hk (fun _ h => h.2)) (fun _ h => h.1)); have n3_ := Aside0.mk (KeepBut.blk hk (g' := gb263) (o := .cells #[.int .i64 t257, .int .i64 t258, .slice Ao21 t259.length co21] 38 (0, 0)) (by (with_reducible repeat (first | refine blk_drewN ?_ _ | refine blk_drew ?_ | refine blk_alloc ?_ _)); refine blk_put (cs := #[.int .i64 t257, .int .i64 t258, .slice none 0 0]) ?_ 2 _ rfl; (with_reducible repeat (first | refine blk_drewN ?_ _ | refine blk_drew ?_ | refine blk_alloc ?_ _)); refine blk_put (cs := #[.int .i64 t257, .int .i64 0, .slice none 0 0]) ?_ 1 _ rfl; (with_reducible repeat (first | refine blk_drewN ?_ _ | refine blk_drew ?_ | refine blk_alloc ?_ _)); refine blk_put (cs := #[.int .i64 0, .int .i64 0, .slice none 0 0]) ?_ 0 _ rfl; exact zK BK263.out) NB263_0.out (by simp)); have n4_ := Aside0.mk (KeepBut.trans (by repeat (first | (with_reducible first | exact HK.out | apply KeepBut.set_ | apply keep_drewN | apply keep_drew | apply keep_alloc | refine keep_far ?_ GW248.out _ | refine keep_far ?_ GW263.out _) | exact HK.out)) hk (.inl rfl)); have n5_ := Aside0.mk (hb); have n6_ := Aside0.mk (hi); clear BK248; clear HO255; clear HO261; clear BK263; clear HK; clear HB; clear HI0; have BK248 := n0_; have HO255 := n1_; have HO261 := n2_; have BK263 := n3_; have HK := n4_; have HB := n5_; have HI0 := n6_; clear n0_ n1_ n2_ n3_ n4_ n5_ n6_; (try clear hb); (try clear hb2); (try clear hk); (try clear hi)) | ((with_reducible refine gate_dst (N := 20) rfl ?_); refine Kd.R_lit (Kd.int .i64) _ 3 ?hg (N := 20) ?hd (xs := ([0, 30, 31] : List Int)) (inner := [.int .i64 0, .int .i64 30, .int .i64 31]) (ok := fun _ => True) (okp := fun _ => True) ?hr ?hp (fun _ hk => hk) trivial (Below.refl _ _) (Nat.le_refl _) (by simp) ?_; (case hd => rfl); (case hg => rfl); (case hr => first | (go_simp; done) | (go_simp; rfl)); (case hp => exact (Reps.one (show Kd.M (Kd.int .i64) _ _ _ 0 [.int .i64 0] from rfl) (Reps.one (show Kd.M (Kd.int .i64) _ _ _ 30 [.int .i64 30] from rfl) (Reps.one (show Kd.M (Kd.int .i64) _ _ _ 31 [.int .i64 31] from rfl) (Reps.none _ _))))); intro v267 w23 ho24 hb hg_ hnew_; clear hg_ hnew_; (first | rw [← Ny266.out] at ho24 | (simp only [Int.reduceToNat] at ho24; rw [← Ny266.out] at ho24)); have n0_ := Aside0.mk (Kd.N_elder' (by exact zN HO255.out) (Kd.R_base ho24) hb); have n1_ := Aside0.mk (Kd.R_below (by exact zR HO261.out) hb); have n2_ := Aside0.mk (Kd.R_lower ho24 (keep_size (w := w) (g := g) (row := none) (by repeat (first | (with_reducible first | exact HK.out | apply KeepBut.set_ | apply keep_drewN | apply keep_drew | apply keep_alloc | refine keep_far ?_ GW248.out _ | refine keep_far ?_ GW263.out _) | exact HK.out)))); have n3_ := Aside0.mk (IsS87.below (by repeat (first | (with_reducible first | exact HI0.out | apply IsS87.alloc | apply IsS87.drewN | apply IsS87.drew | apply IsS87.set_1 | refine IsS87.far ?_ NB0_248.out _ | refine IsS87.far ?_ NB0_263.out _) | exact HI0.out)) hb); have n4_ := Aside0.mk (blk_below (g := gb248) (o := .cells #[.int .i64 0, .int .i64 0, .slice none 0 0] 38 (0, 0)) (by exact zK BK248.out) hb); have n5_ := Aside0.mk (blk_below (g := gb263) (o := .cells #[.int .i64 t257, .int .i64 t258, .slice Ao21 t259.length co21] 38 (0, 0)) (by exact zK BK263.out) hb); have n6_ := Aside0.mk (KeepBut.trans (by repeat (first | (with_reducible first | exact HK.out | apply KeepBut.set_ | apply keep_drewN | apply keep_drew | apply keep_alloc | refine keep_far ?_ GW248.out _ | refine keep_far ?_ GW263.out _) | exact HK.out)) (KeepBut.of_below hb g none) (.inl rfl)); have n7_ := Aside0.mk (below_step (by exact zB3 HB.out (IsS87.ge HI0.out) GE248.out GE263.out) hb); clear HO255; clear HO261; clear HI0; clear BK248; clear BK263; clear HK; clear HB; have HO255 := n0_; have HO261 := n1_; have HO268 := n2_; have HI0 := n3_; have BK248 := n4_; have BK263 := n5_; have HK := n6_; have HB := n7_; clear n0_ n1_ n2_ n3_ n4_ n5_ n6_ n7_; clear hb ho24) | ((with_reducible refine gate_callee (f := 49) rfl ?_); refine goesL_ (some 22) rfl rfl Tryd.func49 (by kernel_rfl) rfl #[.pointer (some ⟨g, 0, none⟩), .int .i64 3] rfl (by (try simp only [zm1, zm2, zm3]); first | done | rfl | (simp only [List.length_drop, List.length_take]; rfl)) ?_; (with_reducible refine (spec_l6Rd_pick.calls k g s0_0 t265 3 t269 t270 w0 _ ?side1 ?side2 A8.out).mono ?_); (case side1 => repeat (first | (with_reducible first | exact HI0.out | apply IsS87.alloc | apply IsS87.drewN | apply IsS87.drew | apply IsS87.set_1 | refine IsS87.far ?_ NB0_248.out _ | refine IsS87.far ?_ NB0_263.out _) | exact HI0.out)); (case side2 => exact zB3 HB.out (IsS87.ge HI0.out) GE248.out GE263.out); rintro e w25 ⟨rfl, hi, hb, hk⟩; refine ⟨_, rfl, ?_⟩; have n0_ := Aside0.mk (KeepBut.blk hk (g' := gb248) (o := .cells #[.int .i64 0, .int .i64 0, .slice none 0 0] 38 (0, 0)) (by exact zK BK248.out) NB248_0.out (by simp)); have n1_ := Aside0.mk (Kd.N_mono (Kd.N_keep (Kd.N_mono (ok := fun k_ => ((((k_ ≠ gb248 ∧ k_ ≠ g) ∧ some k_ ≠ (.slice Ao21 t259.length co21 : Value).ownBlock) ∧ k_ ≠ gb263) ∧ some k_ ≠ (v267 : Value).ownBlock)) (by exact zN HO255.out) (fun k_ hk_ => (⟨hk_, hk_.1.1.1.2⟩ : _ ∧ k_ ≠ g))) hk (fun _ h => h.2)) (fun _ h => h.1)); have n2_ := Aside0.mk (Kd.R_mono (Kd.R_keep (IsS87.apart (show IsS87 w0 _ g s0_0 t265 from by repeat (first | (with_reducible first | exact HI0.out | apply IsS87.alloc | apply IsS87.drewN | apply IsS87.drew | apply IsS87.set_1 | refine IsS87.far ?_ NB0_248.out _ | refine IsS87.far ?_ NB0_263.out _) | exact HI0.out)) (by exact zR HO261.out) (by decide)) hk (fun _ h => h.2)) (fun _ h => h.1)); have n3_ := Aside0.mk (KeepBut.blk hk (g' := gb263) (o := .cells #[.int .i64 t257, .int .i64 t258, .slice Ao21 t259.length co21] 38 (0, 0)) (by exact zK BK263.out) NB263_0.out (by simp)); have n4_ := Aside0.mk (Kd.R_mono (Kd.R_keep (IsS87.apart (show IsS87 w0 _ g s0_0 t265 from by repeat (first | (with_reducible first | exact HI0.out | apply IsS87.alloc | apply IsS87.drewN | apply IsS87.drew | apply IsS87.set_1 | refine IsS87.far ?_ NB0_248.out _ | refine IsS87.far ?_ NB0_263.out _) | exact HI0.out)) (by exact zR HO268.out) (by decide)) hk (fun _ h => h.2)) (fun _ h => h.1)); have n5_ := Aside0.mk (KeepBut.trans (by repeat (first | (with_reducible first | exact HK.out | apply KeepBut.set_ | apply keep_drewN | apply keep_drew | apply keep_alloc | refine keep_far ?_ GW248.out _ | refine keep_far ?_ GW263.out _) | exact HK.out)) hk (.inl rfl)); have n6_ := Aside0.mk (hb); have n7_ := Aside0.mk (hi); clear BK248; clear HO255; clear HO261; clear BK263; clear HO268; clear HK; clear HB; clear HI0; have BK248 := n0_; have HO255 := n1_; have HO261 := n2_; have BK263 := n3_; have HO268 := n4_; have HK := n5_; have HB := n6_; have HI0 := n7_; clear n0_ n1_ n2_ n3_ n4_ n5_ n6_ n7_; (try clear hb); (try clear hb2); (try clear hk); (try clear hi); obtain ⟨Ao26, co26, eo26⟩ := Kd.R_slice HO268.out; subst eo26; have p271 : 0 ≤ (t269 : Int) := of_decide_eq_true (by first | (with_reducible assumption) | assumption); have q271 : t269 < (y266.length : Int) := of_decide_eq_true (by first | (with_reducible assumption) | assumption); obtain ⟨ad271, e271, hx271_0⟩ := Kd.at_int (Kd.R_reads' HO268.out).2.2 t269 p271 q271; cases e271; replace p271 := eq_true p271; replace q271 := eq_true q271; obtain ⟨hcz27_0, hcz27_1, hcz27_2, hfz27_0, hfz27_1, hfz27_2⟩ := zc3f BK263.out; have hnb28 := NB248_0.out; have hnc28 := NB0_248.out; obtain ⟨hcz29_0, hcz29_1, hcz29_2, hfz29_0, hfz29_1, hfz29_2⟩ := zc3f BK248.out))
    refine bodyPost_ret (results_cell_row rfl _ _ gb248 38 #[.int .i64 (rd y266 t269), .int .i64 t258, .slice Ao21 t259.length co21] (0, 0) _ rfl (by (with_reducible repeat (first | refine blk_drewN ?_ _ | refine blk_drew ?_ | refine blk_alloc ?_ _)); refine blk_put (cs := #[.int .i64 (rd y266 t269), .int .i64 t258, .slice none 0 0]) ?_ 2 _ rfl; (with_reducible repeat (first | refine blk_drewN ?_ _ | refine blk_drew ?_ | refine blk_alloc ?_ _)); refine blk_put (cs := #[.int .i64 (rd y266 t269), .int .i64 0, .slice none 0 0]) ?_ 1 _ rfl; (with_reducible repeat (first | refine blk_drewN ?_ _ | refine blk_drew ?_ | refine blk_alloc ?_ _)); refine blk_put (cs := #[.int .i64 0, .int .i64 0, .slice none 0 0]) ?_ 0 _ rfl; (with_reducible repeat (first | refine blk_drewN ?_ _ | refine blk_drew ?_ | refine blk_alloc ?_ _)); refine blk_far ?_ NB248_263.out _; exact zK BK248.out) Tryd.underlying38 rfl (by kernel_rfl)) rfl ?_
    exact ⟨_, by first | rfl | (simp [errW_none, errW_some] <;> rfl) | (simp [*, errW_none, errW_some] <;> rfl), by exact zR (Kd.R_mono (Kd.R_far (p := ⟨gb248, 2, none⟩) (Kd.R_far (p := ⟨gb248, 1, none⟩) (Kd.R_far (p := ⟨gb248, 0, none⟩) (Kd.R_far (p := ⟨gb263, 0, none⟩) (Kd.R_types (Kd.R_types HO261.out BK263.out (by decide)) BK248.out (by decide)) (fun _ hk => hk.1.2) (.int .i64 (rd y266 t269))) (fun _ hk => hk.2) (.int .i64 (rd y266 t269))) (fun _ hk => hk.2) (.int .i64 t258)) (fun _ hk => hk.2) (.slice Ao21 t259.length co21)) (fun _ hk => trivial)), by repeat (first | (with_reducible first | exact HI0.out | apply IsS87.alloc | apply IsS87.drewN | apply IsS87.drew | apply IsS87.set_1 | refine IsS87.far ?_ NB0_248.out _ | refine IsS87.far ?_ NB0_263.out _) | exact HI0.out), by exact zB3 HB.out (IsS87.ge HI0.out) GE248.out GE263.out, by repeat (first | (with_reducible first | exact HK.out | apply KeepBut.set_ | apply keep_drewN | apply keep_drew | apply keep_alloc | refine keep_far ?_ GW248.out _ | refine keep_far ?_ GW263.out _) | exact HK.out)⟩
   ·rw [if_neg c10] at H
    exact absurd H (by simp)
  ·rw [if_neg c9] at H
   exact absurd H (by simp)
 ·rw [if_neg c7] at H
  have c7b0 : (t264 == 0) = false := beq_eq_false_iff_ne.mpr c7
  have c7b1 : (t264 != 0) = true := bne_iff_ne.mpr c7
  by_cases c30 : t264 = 1
  ·rw [if_pos c30] at H
   have c30b0 : (t264 == 1) = true := beq_iff_eq.mpr c30
   have c30b1 : (t264 != 1) = false := bne_eq_false_iff_eq.mpr c30
   clear c30
   obtain ⟨y272, hy272⟩ : ∃ y_ : List Int, y_ = (([(-1), 60, 61] : List Int)) := ⟨_, rfl⟩
   replace H : ((spec_l6Rd_pick.f k s0_0 t265 3).bind fun bt275 => (if 0 ≤ bt275.1 then (if bt275.1 < (y272.length : Int) then (some (t257, rd y272 bt275.1, t259, bt275.2)) else (none)) else (none))) = some (r1, r2, r3, r4) := by first | (rw [hy272]; with_reducible exact H) | (have H2_ := (Option.bind_some _ _).symm.trans H; rw [hy272]; with_reducible exact H2_) | (have H2_ := (Option.bind_some _ _).symm.trans H; with_reducible exact H2_) | with_reducible exact H | (rw [hy272]; exact H) | exact H
   have Ny272 := Aside0.mk hy272
   clear hy272
   replace H := Option.bind_eq_some_iff.mp H
   obtain ⟨⟨t275, t276⟩, A310, H⟩ := H
   replace H : (if 0 ≤ t275 then (if t275 < (y272.length : Int) then (some (t257, rd y272 t275, t259, t276)) else (none)) else (none)) = some (r1, r2, r3, r4) := H
   have A31 := Aside0.mk A310
   clear A310
   by_cases c32 : 0 ≤ t275
   ·rw [if_pos c32] at H
    have c32b0 : decide (0 ≤ t275) = true := decide_eq_true c32
    clear c32
    by_cases c33 : t275 < (y272.length : Int)
    ·rw [if_pos c33] at H
     have c33b0 : decide (t275 < (y272.length : Int)) = true := decide_eq_true c33
     clear c33
     simp only [Option.some.injEq, Prod.mk.injEq] at H
     obtain ⟨rfl, rfl, rfl, rfl⟩ := H
     go_enter Tryd.func46, Tryd.ntmps46
     go_wp2_with (first | ((with_reducible refine gate_dst (N := 2) rfl ?_); refine box_event ?hg (N := 2) ?hd (cs := #[.int .i64 0, .int .i64 0, .slice none 0 0]) (t := 38) ?hr ?_; (case hd => rfl); (case hg => rfl); (case hr => first | (go_simp; done) | (go_simp; rfl)); intro gb248 hg w34 hbox hb; have n0_ := Aside0.mk (IsS87.below (by repeat (first | (with_reducible first | exact HI0.out | apply IsS87.alloc | apply IsS87.drewN | apply IsS87.drew | apply IsS87.set_1) | exact HI0.out)) hb); have n1_ := Aside0.mk (KeepBut.trans (by repeat (first | (with_reducible first | exact HK.out | apply KeepBut.set_ | apply keep_drewN | apply keep_drew | apply keep_alloc) | exact HK.out)) (KeepBut.of_below hb g none) (.inl rfl)); have n2_ := Aside0.mk (below_step (by exact zB1 HB.out (IsS87.ge HI0.out)) hb); have n3_ := Aside0.mk (hbox); have n4_ := Aside0.mk ((by rw [hg]; exact (keep_size (w := w) (g := g) (row := none) (by repeat (first | (with_reducible first | exact HK.out | apply KeepBut.set_ | apply keep_drewN | apply keep_drew | apply keep_alloc) | exact HK.out))) : w.heap.size ≤ gb248)); have n5_ := Aside0.mk ((Nat.le_trans HW0.out (by rw [hg]; exact (keep_size (w := w) (g := g) (row := none) (by repeat (first | (with_reducible first | exact HK.out | apply KeepBut.set_ | apply keep_drewN | apply keep_drew | apply keep_alloc) | exact HK.out))) : w.heap.size ≤ gb248) : w0.heap.size ≤ gb248)); have n6_ := Aside0.mk ((by rw [hg]; exact Nat.ne_of_lt (IsS87.lt (show IsS87 w0 _ g s0_0 s0_1 from by repeat (first | (with_reducible first | exact HI0.out | apply IsS87.alloc | apply IsS87.drewN | apply IsS87.drew | apply IsS87.set_1) | exact HI0.out))) : g ≠ gb248)); have n7_ := Aside0.mk ((by rw [hg]; exact Nat.ne_of_gt (IsS87.lt (show IsS87 w0 _ g s0_0 s0_1 from by repeat (first | (with_reducible first | exact HI0.out | apply IsS87.alloc | apply IsS87.drewN | apply IsS87.drew | apply IsS87.set_1) | exact HI0.out))) : gb248 ≠ g)); clear HI0; clear HK; clear HB; have HI0 := n0_; have HK := n1_; have HB := n2_; have BK248 := n3_; have GW248 := n4_; have GE248 := n5_; have NB0_248 := n6_; have NB248_0 := n7_; clear n0_ n1_ n2_ n3_ n4_ n5_ n6_ n7_; clear hb hbox hg) | ((with_reducible refine gate_callee (f := 49) rfl ?_); refine goesL_ (some 7) rfl rfl Tryd.func49 (by kernel_rfl) rfl #[.pointer (some ⟨g, 0, none⟩), .int .i64 6] rfl (by (try simp only [zm1, zm2, zm3]); first | done | rfl | (simp only [List.length_drop, List.length_take]; rfl)) ?_; (with_reducible refine (spec_l6Rd_pick.calls k g s0_0 s0_1 6 t249 t250 w0 _ ?side1 ?side2 A2.out).mono ?_); (case side1 => repeat (first | (with_reducible first | exact HI0.out | apply IsS87.alloc | apply IsS87.drewN | apply IsS87.drew | apply IsS87.set_1 | refine IsS87.far ?_ NB0_248.out _) | exact HI0.out)); (case side2 => exact zB2 HB.out (IsS87.ge HI0.out) GE248.out); rintro e w35 ⟨rfl, hi, hb, hk⟩; refine ⟨_, rfl, ?_⟩; have n0_ := Aside0.mk (KeepBut.blk hk (g' := gb248) (o := .cells #[.int .i64 0, .int .i64 0, .slice none 0 0] 38 (0, 0)) (by exact zK BK248.out) NB248_0.out (by simp)); have n1_ := Aside0.mk (KeepBut.trans (by repeat (first | (with_reducible first | exact HK.out | apply KeepBut.set_ | apply keep_drewN | apply keep_drew | apply keep_alloc | refine keep_far ?_ GW248.out _) | exact HK.out)) hk (.inl rfl)); have n2_ := Aside0.mk (hb); have n3_ := Aside0.mk (hi); clear BK248; clear HK; clear HB; clear HI0; have BK248 := n0_; have HK := n1_; have HB := n2_; have HI0 := n3_; clear n0_ n1_ n2_ n3_; (try clear hb); (try clear hb2); (try clear hk); (try clear hi)) | ((with_reducible refine gate_callee (f := 49) rfl ?_); refine goesL_ (some 10) rfl rfl Tryd.func49 (by kernel_rfl) rfl #[.pointer (some ⟨g, 0, none⟩), .int .i64 12] rfl (by (try simp only [zm1, zm2, zm3]); first | done | rfl | (simp only [List.length_drop, List.length_take]; rfl)) ?_; (with_reducible refine (spec_l6Rd_pick.calls k g s0_0 t250 12 t251 t252 w0 _ ?side1 ?side2 A3.out).mono ?_); (case side1 => repeat (first | (with_reducible first | exact HI0.out | apply IsS87.alloc | apply IsS87.drewN | apply IsS87.drew | apply IsS87.set_1 | refine IsS87.far ?_ NB0_248.out _) | exact HI0.out)); (case side2 => exact zB2 HB.out (IsS87.ge HI0.out) GE248.out); rintro e w36 ⟨rfl, hi, hb, hk⟩; refine ⟨_, rfl, ?_⟩; have n0_ := Aside0.mk (KeepBut.blk hk (g' := gb248) (o := .cells #[.int .i64 0, .int .i64 0, .slice none 0 0] 38 (0, 0)) (by exact zK BK248.out) NB248_0.out (by simp)); have n1_ := Aside0.mk (KeepBut.trans (by repeat (first | (with_reducible first | exact HK.out | apply KeepBut.set_ | apply keep_drewN | apply keep_drew | apply keep_alloc | refine keep_far ?_ GW248.out _) | exact HK.out)) hk (.inl rfl)); have n2_ := Aside0.mk (hb); have n3_ := Aside0.mk (hi); clear BK248; clear HK; clear HB; clear HI0; have BK248 := n0_; have HK := n1_; have HB := n2_; have HI0 := n3_; clear n0_ n1_ n2_ n3_; (try clear hb); (try clear hb2); (try clear hk); (try clear hi)) | ((with_reducible refine gate_callee (f := 63) rfl ?_); refine goesL_ (some 12) rfl rfl Tryd.func63 (by kernel_rfl) rfl #[.pointer (some ⟨g, 0, none⟩)] rfl (by (try simp only [zm1, zm2, zm3]); first | done | rfl | (simp only [List.length_drop, List.length_take]; rfl)) ?_; (with_reducible refine (spec_l71Pkgs.calls k g s0_0 t252 t253 t256 w0 _ ?side1 ?side2 A4.out).mono ?_); (case side1 => repeat (first | (with_reducible first | exact HI0.out | apply IsS87.alloc | apply IsS87.drewN | apply IsS87.drew | apply IsS87.set_1 | refine IsS87.far ?_ NB0_248.out _) | exact HI0.out)); (case side2 => exact zB2 HB.out (IsS87.ge HI0.out) GE248.out); rintro e w37 ⟨v254, rfl, ho0, hi, hb, hk⟩; refine ⟨_, rfl, ?_⟩; have n0_ := Aside0.mk (KeepBut.blk hk (g' := gb248) (o := .cells #[.int .i64 0, .int .i64 0, .slice none 0 0] 38 (0, 0)) (by exact zK BK248.out) NB248_0.out (by simp)); have n1_ := Aside0.mk (Kd.N_lower (Kd.N_mono (ok' := fun k_ => k_ ≠ gb248 ∧ k_ ≠ g) ho0 (fun k_ hk_ => ⟨(Kd.freshB (g := gb248) (o := .cells #[.int .i64 0, .int .i64 0, .slice none 0 0] 38 (0, 0)) (by exact zK BK248.out) k_ hk_), (IsS87.fresh (by repeat (first | (with_reducible first | exact HI0.out | apply IsS87.alloc | apply IsS87.drewN | apply IsS87.drew | apply IsS87.set_1 | refine IsS87.far ?_ NB0_248.out _) | exact HI0.out)) k_ hk_)⟩)) (keep_size (w := w) (g := g) (row := none) (by repeat (first | (with_reducible first | exact HK.out | apply KeepBut.set_ | apply keep_drewN | apply keep_drew | apply keep_alloc | refine keep_far ?_ GW248.out _) | exact HK.out)))); have n2_ := Aside0.mk (KeepBut.trans (by repeat (first | (with_reducible first | exact HK.out | apply KeepBut.set_ | apply keep_drewN | apply keep_drew | apply keep_alloc | refine keep_far ?_ GW248.out _) | exact HK.out)) hk (.inl rfl)); have n3_ := Aside0.mk (hb); have n4_ := Aside0.mk (hi); clear BK248; clear HK; clear HB; clear HI0; have BK248 := n0_; have HO255 := n1_; have HK := n2_; have HB := n3_; have HI0 := n4_; clear n0_ n1_ n2_ n3_ n4_; (try clear hb); (try clear hb2); (try clear hk); (try clear hi); (try clear ho0); obtain ⟨Ao38, co38, eo38⟩ := Kd.N_slice HO255.out; subst eo38) | ((with_reducible refine gate_callee (f := 62) rfl ?_); refine goesL_ (some 13) rfl rfl Tryd.func62 (by kernel_rfl) rfl #[.int .i64 (wrap64 (1 + t249)), .int .i64 t251, .slice Ao38 t253.length co38] rfl (by (try simp only [zm1, zm2, zm3]); first | done | rfl | (simp only [List.length_drop, List.length_take]; rfl)) ?_; (with_reducible refine (spec_IndexOf.calls k (wrap64 (1 + t249)) t251 _ _ t253 t257 t258 t259 t262 _ ?side1 ?side2 A5.out).mono ?_); (case side1 => exact zC (Kd.N_reads' HO255.out).2.2); (case side2 => exact (Kd.N_reads' HO255.out).2.1); rintro e w39 ⟨v260, rfl, ho0, hb⟩; refine ⟨_, rfl, ?_⟩; have n0_ := Aside0.mk (Kd.N_elder' (by exact zN HO255.out) (Kd.R_base ho0) hb); have n1_ := Aside0.mk (Kd.R_lower ho0 (keep_size (w := w) (g := g) (row := none) (by repeat (first | (with_reducible first | exact HK.out | apply KeepBut.set_ | apply keep_drewN | apply keep_drew | apply keep_alloc | refine keep_far ?_ GW248.out _) | exact HK.out)))); have n2_ := Aside0.mk (IsS87.below (by repeat (first | (with_reducible first | exact HI0.out | apply IsS87.alloc | apply IsS87.drewN | apply IsS87.drew | apply IsS87.set_1 | refine IsS87.far ?_ NB0_248.out _) | exact HI0.out)) hb); have n3_ := Aside0.mk (blk_below (g := gb248) (o := .cells #[.int .i64 0, .int .i64 0, .slice none 0 0] 38 (0, 0)) (by exact zK BK248.out) hb); have n4_ := Aside0.mk (KeepBut.trans (by repeat (first | (with_reducible first | exact HK.out | apply KeepBut.set_ | apply keep_drewN | apply keep_drew | apply keep_alloc | refine keep_far ?_ GW248.out _) | exact HK.out)) (KeepBut.of_below hb g none) (.inl rfl)); have n5_ := Aside0.mk (below_step (by exact zB2 HB.out (IsS87.ge HI0.out) GE248.out) hb); clear HO255; clear HI0; clear BK248; clear HK; clear HB; have HO255 := n0_; have HO261 := n1_; have HI0 := n2_; have BK248 := n3_; have HK := n4_; have HB := n5_; clear n0_ n1_ n2_ n3_ n4_ n5_; (try clear hb); (try clear hb2); (try clear hk); (try clear hi); (try clear ho0)) | ((with_reducible refine gate_dst (N := 3) rfl ?_); refine box_event ?hg (N := 3) ?hd (cs := #[.int .i64 0, .int .i64 0, .slice none 0 0]) (t := 38) ?hr ?_; (case hd => rfl); (case hg => rfl); (case hr => first | (go_simp; done) | (go_simp; rfl)); intro gb263 hg w40 hbox hb; have n0_ := Aside0.mk (Kd.N_below (Kd.N_elderB (by exact zN HO255.out) gb263 (Nat.le_of_eq hg.symm)) hb); have n1_ := Aside0.mk (Kd.R_below (by exact zR HO261.out) hb); have n2_ := Aside0.mk (IsS87.below (by repeat (first | (with_reducible first | exact HI0.out | apply IsS87.alloc | apply IsS87.drewN | apply IsS87.drew | apply IsS87.set_1 | refine IsS87.far ?_ NB0_248.out _) | exact HI0.out)) hb); have n3_ := Aside0.mk (blk_below (g := gb248) (o := .cells #[.int .i64 0, .int .i64 0, .slice none 0 0] 38 (0, 0)) (by exact zK BK248.out) hb); have n4_ := Aside0.mk (KeepBut.trans (by repeat (first | (with_reducible first | exact HK.out | apply KeepBut.set_ | apply keep_drewN | apply keep_drew | apply keep_alloc | refine keep_far ?_ GW248.out _) | exact HK.out)) (KeepBut.of_below hb g none) (.inl rfl)); have n5_ := Aside0.mk (below_step (by exact zB2 HB.out (IsS87.ge HI0.out) GE248.out) hb); have n6_ := Aside0.mk (hbox); have n7_ := Aside0.mk ((by rw [hg]; exact (keep_size (w := w) (g := g) (row := none) (by repeat (first | (with_reducible first | exact HK.out | apply KeepBut.set_ | apply keep_drewN | apply keep_drew | apply keep_alloc | refine keep_far ?_ GW248.out _) | exact HK.out))) : w.heap.size ≤ gb263)); have n8_ := Aside0.mk ((Nat.le_trans HW0.out (by rw [hg]; exact (keep_size (w := w) (g := g) (row := none) (by repeat (first | (with_reducible first | exact HK.out | apply KeepBut.set_ | apply keep_drewN | apply keep_drew | apply keep_alloc | refine keep_far ?_ GW248.out _) | exact HK.out))) : w.heap.size ≤ gb263) : w0.heap.size ≤ gb263)); have n9_ := Aside0.mk ((by rw [hg]; exact Nat.ne_of_lt (blk_lt (g := gb248) (o := .cells #[.int .i64 0, .int .i64 0, .slice none 0 0] 38 (0, 0)) (by exact zK BK248.out)) : gb248 ≠ gb263)); have n10_ := Aside0.mk ((by rw [hg]; exact Nat.ne_of_gt (blk_lt (g := gb248) (o := .cells #[.int .i64 0, .int .i64 0, .slice none 0 0] 38 (0, 0)) (by exact zK BK248.out)) : gb263 ≠ gb248)); have n11_ := Aside0.mk ((by rw [hg]; exact Nat.ne_of_lt (IsS87.lt (show IsS87 w0 _ g s0_0 t256 from by repeat (first | (with_reducible first | exact HI0.out | apply IsS87.alloc | apply IsS87.drewN | apply IsS87.drew | apply IsS87.set_1 | refine IsS87.far ?_ NB0_248.out _) | exact HI0.out))) : g ≠ gb263)); have n12_ := Aside0.mk ((by rw [hg]; exact Nat.ne_of_gt (IsS87.lt (show IsS87 w0 _ g s0_0 t256 from by repeat (first | (with_reducible first | exact HI0.out | apply IsS87.alloc | apply IsS87.drewN | apply IsS87.drew | apply IsS87.set_1 | refine IsS87.far ?_ NB0_248.out _) | exact HI0.out))) : gb263 ≠ g)); clear HO255; clear HO261; clear HI0; clear BK248; clear HK; clear HB; have HO255 := n0_; have HO261 := n1_; have HI0 := n2_; have BK248 := n3_; have HK := n4_; have HB := n5_; have BK263 := n6_; have GW263 := n7_; have GE263 := n8_; have NB248_263 := n9_; have NB263_248 := n10_; have NB0_263 := n11_; have NB263_0 := n12_; clear n0_ n1_ n2_ n3_ n4_ n5_ n6_ n7_ n8_ n9_ n10_ n11_ n12_; clear hb hbox hg; have hnb41 := NB263_248.out; have hnc41 := NB248_263.out; have hnb42 := NB263_0.out; have hnc42 := NB0_263.out; obtain ⟨hcz43_0, hcz43_1, hcz43_2, hfz43_0, hfz43_1, hfz43_2⟩ := zc3f BK263.out; obtain ⟨Ao44, co44, eo44⟩ := Kd.R_slice HO261.out; subst eo44) | ((with_reducible refine gate_callee (f := 49) rfl ?_); refine goesL_ (some 17) rfl rfl Tryd.func49 (by kernel_rfl) rfl #[.pointer (some ⟨g, 0, none⟩), .int .i64 16] rfl (by (try simp only [zm1, zm2, zm3]); first | done | rfl | (simp only [List.length_drop, List.length_take]; rfl)) ?_; (with_reducible refine (spec_l6Rd_pick.calls k g s0_0 t256 16 t264 t265 w0 _ ?side1 ?side2 A6.out).mono ?_); (case side1 => repeat (first | (with_reducible first | exact HI0.out | apply IsS87.alloc | apply IsS87.drewN | apply IsS87.drew | apply IsS87.set_1 | refine IsS87.far ?_ NB0_248.out _ | refine IsS87.far ?_ NB0_263.out _) | exact HI0.out)); (case side2 => exact zB3 HB.out (IsS87.ge HI0.out) GE248.out GE263.out); rintro e w45 ⟨rfl, hi, hb, hk⟩; refine ⟨_, rfl, ?_⟩; have n0_ := Aside0.mk (KeepBut.blk hk (g' := gb248) (o := .cells #[.int .i64 0, .int .i64 0, .slice none 0 0] 38 (0, 0)) (by (with_reducible repeat (first | refine blk_drewN ?_ _ | refine blk_drew ?_ | refine blk_alloc ?_ _)); refine blk_far ?_ NB248_263.out _; (with_reducible repeat (first | refine blk_drewN ?_ _ | refine blk_drew ?_ | refine blk_alloc ?_ _)); refine blk_far ?_ NB248_263.out _; (with_reducible repeat (first | refine blk_drewN ?_ _ | refine blk_drew ?_ | refine blk_alloc ?_ _)); refine blk_far ?_ NB248_263.out _; exact zK BK248.out) NB248_0.out (by simp)); have n1_ := Aside0.mk (Kd.N_mono (Kd.N_keep (Kd.N_mono (ok := fun k_ => (((k_ ≠ gb248 ∧ k_ ≠ g) ∧ some k_ ≠ (.slice Ao44 t259.length co44 : Value).ownBlock) ∧ k_ ≠ gb263)) (by exact zN (Kd.N_mono (Kd.N_far (p := ⟨gb263, 2, none⟩) (Kd.N_far (p := ⟨gb263, 1, none⟩) (Kd.N_far (p := ⟨gb263, 0, none⟩) (Kd.N_mono HO255.out (fun k_ hk => (⟨hk, hk.2⟩ : _ ∧ k_ ≠ gb263))) (fun _ hk => hk.2) (.int .i64 t257)) (fun _ hk => hk.2) (.int .i64 t258)) (fun _ hk => hk.2) (.slice Ao44 t259.length co44)) (fun _ h_ => h_.1))) (fun k_ hk_ => (⟨hk_, hk_.1.1.2⟩ : _ ∧ k_ ≠ g))) hk (fun _ h => h.2)) (fun _ h => h.1)); have n2_ := Aside0.mk (Kd.R_mono (Kd.R_keep (IsS87.apart (show IsS87 w0 _ g s0_0 t256 from by repeat (first | (with_reducible first | exact HI0.out | apply IsS87.alloc | apply IsS87.drewN | apply IsS87.drew | apply IsS87.set_1 | refine IsS87.far ?_ NB0_248.out _ | refine IsS87.far ?_ NB0_263.out _) | exact HI0.out)) (by exact zR (Kd.R_mono (Kd.R_far (p := ⟨gb263, 2, none⟩) (Kd.R_far (p := ⟨gb263, 1, none⟩) (Kd.R_far (p := ⟨gb263, 0, none⟩) (Kd.R_types HO261.out BK263.out (by decide)) (fun _ hk => hk.2) (.int .i64 t257)) (fun _ hk => hk.2) (.int .i64 t258)) (fun _ hk => hk.2) (.slice Ao44 t259.length co44)) (fun _ h_ => h_.1))) (by decide)) hk (fun _ h => h.2)) (fun _ h => h.1)); have n3_ := Aside0.mk (KeepBut.blk hk (g' := gb263) (o := .cells #[.int .i64 t257, .int .i64 t258, .slice Ao44 t259.length co44] 38 (0, 0)) (by (with_reducible repeat (first | refine blk_drewN ?_ _ | refine blk_drew ?_ | refine blk_alloc ?_ _)); refine blk_put (cs := #[.int .i64 t257, .int .i64 t258, .slice none 0 0]) ?_ 2 _ rfl; (with_reducible repeat (first | refine blk_drewN ?_ _ | refine blk_drew ?_ | refine blk_alloc ?_ _)); refine blk_put (cs := #[.int .i64 t257, .int .i64 0, .slice none 0 0]) ?_ 1 _ rfl; (with_reducible repeat (first | refine blk_drewN ?_ _ | refine blk_drew ?_ | refine blk_alloc ?_ _)); refine blk_put (cs := #[.int .i64 0, .int .i64 0, .slice none 0 0]) ?_ 0 _ rfl; exact zK BK263.out) NB263_0.out (by simp)); have n4_ := Aside0.mk (KeepBut.trans (by repeat (first | (with_reducible first | exact HK.out | apply KeepBut.set_ | apply keep_drewN | apply keep_drew | apply keep_alloc | refine keep_far ?_ GW248.out _ | refine keep_far ?_ GW263.out _) | exact HK.out)) hk (.inl rfl)); have n5_ := Aside0.mk (hb); have n6_ := Aside0.mk (hi); clear BK248; clear HO255; clear HO261; clear BK263; clear HK; clear HB; clear HI0; have BK248 := n0_; have HO255 := n1_; have HO261 := n2_; have BK263 := n3_; have HK := n4_; have HB := n5_; have HI0 := n6_; clear n0_ n1_ n2_ n3_ n4_ n5_ n6_; (try clear hb); (try clear hb2); (try clear hk); (try clear hi)) | ((with_reducible refine gate_dst (N := 28) rfl ?_); refine Kd.R_lit (Kd.int .i64) _ 3 ?hg (N := 28) ?hd (xs := ([(-1), 60, 61] : List Int)) (inner := [.int .i64 (-1), .int .i64 60, .int .i64 61]) (ok := fun _ => True) (okp := fun _ => True) ?hr ?hp (fun _ hk => hk) trivial (Below.refl _ _) (Nat.le_refl _) (by simp) ?_; (case hd => rfl); (case hg => rfl); (case hr => first | (go_simp; done) | (go_simp; rfl)); (case hp => exact (Reps.one (show Kd.M (Kd.int .i64) _ _ _ (-1) [.int .i64 (-1)] from rfl) (Reps.one (show Kd.M (Kd.int .i64) _ _ _ 60 [.int .i64 60] from rfl) (Reps.one (show Kd.M (Kd.int .i64) _ _ _ 61 [.int .i64 61] from rfl) (Reps.none _ _))))); intro v273 w46 ho47 hb hg_ hnew_; clear hg_ hnew_; (first | rw [← Ny272.out] at ho47 | (simp only [Int.reduceToNat] at ho47; rw [← Ny272.out] at ho47)); have n0_ := Aside0.mk (Kd.N_elder' (by exact zN HO255.out) (Kd.R_base ho47) hb); have n1_ := Aside0.mk (Kd.R_below (by exact zR HO261.out) hb); have n2_ := Aside0.mk (Kd.R_lower ho47 (keep_size (w := w) (g := g) (row := none) (by repeat (first | (with_reducible first | exact HK.out | apply KeepBut.set_ | apply keep_drewN | apply keep_drew | apply keep_alloc | refine keep_far ?_ GW248.out _ | refine keep_far ?_ GW263.out _) | exact HK.out)))); have n3_ := Aside0.mk (IsS87.below (by repeat (first | (with_reducible first | exact HI0.out | apply IsS87.alloc | apply IsS87.drewN | apply IsS87.drew | apply IsS87.set_1 | refine IsS87.far ?_ NB0_248.out _ | refine IsS87.far ?_ NB0_263.out _) | exact HI0.out)) hb); have n4_ := Aside0.mk (blk_below (g := gb248) (o := .cells #[.int .i64 0, .int .i64 0, .slice none 0 0] 38 (0, 0)) (by exact zK BK248.out) hb); have n5_ := Aside0.mk (blk_below (g := gb263) (o := .cells #[.int .i64 t257, .int .i64 t258, .slice Ao44 t259.length co44] 38 (0, 0)) (by exact zK BK263.out) hb); have n6_ := Aside0.mk (KeepBut.trans (by repeat (first | (with_reducible first | exact HK.out | apply KeepBut.set_ | apply keep_drewN | apply keep_drew | apply keep_alloc | refine keep_far ?_ GW248.out _ | refine keep_far ?_ GW263.out _) | exact HK.out)) (KeepBut.of_below hb g none) (.inl rfl)); have n7_ := Aside0.mk (below_step (by exact zB3 HB.out (IsS87.ge HI0.out) GE248.out GE263.out) hb); clear HO255; clear HO261; clear HI0; clear BK248; clear BK263; clear HK; clear HB; have HO255 := n0_; have HO261 := n1_; have HO274 := n2_; have HI0 := n3_; have BK248 := n4_; have BK263 := n5_; have HK := n6_; have HB := n7_; clear n0_ n1_ n2_ n3_ n4_ n5_ n6_ n7_; clear hb ho47) | ((with_reducible refine gate_callee (f := 49) rfl ?_); refine goesL_ (some 30) rfl rfl Tryd.func49 (by kernel_rfl) rfl #[.pointer (some ⟨g, 0, none⟩), .int .i64 3] rfl (by (try simp only [zm1, zm2, zm3]); first | done | rfl | (simp only [List.length_drop, List.length_take]; rfl)) ?_; (with_reducible refine (spec_l6Rd_pick.calls k g s0_0 t265 3 t275 t276 w0 _ ?side1 ?side2 A31.out).mono ?_); (case side1 => repeat (first | (with_reducible first | exact HI0.out | apply IsS87.alloc | apply IsS87.drewN | apply IsS87.drew | apply IsS87.set_1 | refine IsS87.far ?_ NB0_248.out _ | refine IsS87.far ?_ NB0_263.out _) | exact HI0.out)); (case side2 => exact zB3 HB.out (IsS87.ge HI0.out) GE248.out GE263.out); rintro e w48 ⟨rfl, hi, hb, hk⟩; refine ⟨_, rfl, ?_⟩; have n0_ := Aside0.mk (KeepBut.blk hk (g' := gb248) (o := .cells #[.int .i64 0, .int .i64 0, .slice none 0 0] 38 (0, 0)) (by exact zK BK248.out) NB248_0.out (by simp)); have n1_ := Aside0.mk (Kd.N_mono (Kd.N_keep (Kd.N_mono (ok := fun k_ => ((((k_ ≠ gb248 ∧ k_ ≠ g) ∧ some k_ ≠ (.slice Ao44 t259.length co44 : Value).ownBlock) ∧ k_ ≠ gb263) ∧ some k_ ≠ (v273 : Value).ownBlock)) (by exact zN HO255.out) (fun k_ hk_ => (⟨hk_, hk_.1.1.1.2⟩ : _ ∧ k_ ≠ g))) hk (fun _ h => h.2)) (fun _ h => h.1)); have n2_ := Aside0.mk (Kd.R_mono (Kd.R_keep (IsS87.apart (show IsS87 w0 _ g s0_0 t265 from by repeat (first | (with_reducible first | exact HI0.out | apply IsS87.alloc | apply IsS87.drewN | apply IsS87.drew | apply IsS87.set_1 | refine IsS87.far ?_ NB0_248.out _ | refine IsS87.far ?_ NB0_263.out _) | exact HI0.out)) (by exact zR HO261.out) (by decide)) hk (fun _ h => h.2)) (fun _ h => h.1)); have n3_ := Aside0.mk (KeepBut.blk hk (g' := gb263) (o := .cells #[.int .i64 t257, .int .i64 t258, .slice Ao44 t259.length co44] 38 (0, 0)) (by exact zK BK263.out) NB263_0.out (by simp)); have n4_ := Aside0.mk (Kd.R_mono (Kd.R_keep (IsS87.apart (show IsS87 w0 _ g s0_0 t265 from by repeat (first | (with_reducible first | exact HI0.out | apply IsS87.alloc | apply IsS87.drewN | apply IsS87.drew | apply IsS87.set_1 | refine IsS87.far ?_ NB0_248.out _ | refine IsS87.far ?_ NB0_263.out _) | exact HI0.out)) (by exact zR HO274.out) (by decide)) hk (fun _ h => h.2)) (fun _ h => h.1)); have n5_ := Aside0.mk (KeepBut.trans (by repeat (first | (with_reducible first | exact HK.out | apply KeepBut.set_ | apply keep_drewN | apply keep_drew | apply keep_alloc | refine keep_far ?_ GW248.out _ | refine keep_far ?_ GW263.out _) | exact HK.out)) hk (.inl rfl)); have n6_ := Aside0.mk (hb); have n7_ := Aside0.mk (hi); clear BK248; clear HO255; clear HO261; clear BK263; clear HO274; clear HK; clear HB; clear HI0; have BK248 := n0_; have HO255 := n1_; have HO261 := n2_; have BK263 := n3_; have HO274 := n4_; have HK := n5_; have HB := n6_; have HI0 := n7_; clear n0_ n1_ n2_ n3_ n4_ n5_ n6_ n7_; (try clear hb); (try clear hb2); (try clear hk); (try clear hi); obtain ⟨Ao49, co49, eo49⟩ := Kd.R_slice HO274.out; subst eo49; have p277 : 0 ≤ (t275 : Int) := of_decide_eq_true (by first | (with_reducible assumption) | assumption); have q277 : t275 < (y272.length : Int) := of_decide_eq_true (by first | (with_reducible assumption) | assumption); obtain ⟨ad277, e277, hx277_0⟩ := Kd.at_int (Kd.R_reads' HO274.out).2.2 t275 p277 q277; cases e277; replace p277 := eq_true p277; replace q277 := eq_true q277; obtain ⟨hcz50_0, hcz50_1, hcz50_2, hfz50_0, hfz50_1, hfz50_2⟩ := zc3f BK263.out; have hnb51 := NB248_0.out; have hnc51 := NB0_248.out; obtain ⟨hcz52_0, hcz52_1, hcz52_2, hfz52_0, hfz52_1, hfz52_2⟩ := zc3f BK248.out))
     refine bodyPost_ret (results_cell_row rfl _ _ gb248 38 #[.int .i64 t257, .int .i64 (rd y272 t275), .slice Ao44 t259.length co44] (0, 0) _ rfl (by (with_reducible repeat (first | refine blk_drewN ?_ _ | refine blk_drew ?_ | refine blk_alloc ?_ _)); refine blk_put (cs := #[.int .i64 t257, .int .i64 (rd y272 t275), .slice none 0 0]) ?_ 2 _ rfl; (with_reducible repeat (first | refine blk_drewN ?_ _ | refine blk_drew ?_ | refine blk_alloc ?_ _)); refine blk_put (cs := #[.int .i64 t257, .int .i64 0, .slice none 0 0]) ?_ 1 _ rfl; (with_reducible repeat (first | refine blk_drewN ?_ _ | refine blk_drew ?_ | refine blk_alloc ?_ _)); refine blk_put (cs := #[.int .i64 0, .int .i64 0, .slice none 0 0]) ?_ 0 _ rfl; (with_reducible repeat (first | refine blk_drewN ?_ _ | refine blk_drew ?_ | refine blk_alloc ?_ _)); refine blk_far ?_ NB248_263.out _; exact zK BK248.out) Tryd.underlying38 rfl (by kernel_rfl)) rfl ?_
     exact ⟨_, by first | rfl | (simp [errW_none, errW_some] <;> rfl) | (simp [*, errW_none, errW_some] <;> rfl), by exact zR (Kd.R_mono (Kd.R_far (p := ⟨gb248, 2, none⟩) (Kd.R_far (p := ⟨gb248, 1, none⟩) (Kd.R_far (p := ⟨gb248, 0, none⟩) (Kd.R_far (p := ⟨gb263, 1, none⟩) (Kd.R_types (Kd.R_types HO261.out BK263.out (by decide)) BK248.out (by decide)) (fun _ hk => hk.1.2) (.int .i64 (rd y272 t275))) (fun _ hk => hk.2) (.int .i64 t257)) (fun _ hk => hk.2) (.int .i64 (rd y272 t275))) (fun _ hk => hk.2) (.slice Ao44 t259.length co44)) (fun _ hk => trivial)), by repeat (first | (with_reducible first | exact HI0.out | apply IsS87.alloc | apply IsS87.drewN | apply IsS87.drew | apply IsS87.set_1 | refine IsS87.far ?_ NB0_248.out _ | refine IsS87.far ?_ NB0_263.out _) | exact HI0.out), by exact zB3 HB.out (IsS87.ge HI0.out) GE248.out GE263.out, by repeat (first | (with_reducible first | exact HK.out | apply KeepBut.set_ | apply keep_drewN | apply keep_drew | apply keep_alloc | refine keep_far ?_ GW248.out _ | refine keep_far ?_ GW263.out _) | exact HK.out)⟩
    ·rw [if_neg c33] at H
     exact absurd H (by simp)
   ·rw [if_neg c32] at H
    exact absurd H (by simp)
  ·rw [if_neg c30] at H
   have c30b0 : (t264 == 1) = false := beq_eq_false_iff_ne.mpr c30
   have c30b1 : (t264 != 1) = true := bne_iff_ne.mpr c30
   by_cases c53 : t264 = 2
   ·rw [if_pos c53] at H
    have c53b0 : (t264 == 2) = true := beq_iff_eq.mpr c53
    have c53b1 : (t264 != 2) = false := bne_eq_false_iff_eq.mpr c53
    clear c53
    replace H := Option.bind_eq_some_iff.mp H
    obtain ⟨⟨t278, t279⟩, A540, H⟩ := H
    replace H : ((spec_l6Rd_pick.f k s0_0 t279 4).bind fun bt280 => ((spec_l6Rd_pick.f k s0_0 bt280.2 9973).bind fun bt282 => (if t259.length < 5864062014805 then (some (t257, t258, (t259 ++ [(⟨wrap64 (1 + t278), wrap64 (1 + bt280.1), bt282.1⟩ : S73)]), bt282.2)) else (none)))) = some (r1, r2, r3, r4) := H
    have A54 := Aside0.mk A540
    clear A540
    replace H := Option.bind_eq_some_iff.mp H
    obtain ⟨⟨t280, t281⟩, A550, H⟩ := H
    replace H : ((spec_l6Rd_pick.f k s0_0 t281 9973).bind fun bt282 => (if t259.length < 5864062014805 then (some (t257, t258, (t259 ++ [(⟨wrap64 (1 + t278), wrap64 (1 + t280), bt282.1⟩ : S73)]), bt282.2)) else (none))) = some (r1, r2, r3, r4) := H
    have A55 := Aside0.mk A550
    clear A550
    replace H := Option.bind_eq_some_iff.mp H
    obtain ⟨⟨t282, t283⟩, A560, H⟩ := H
    replace H : (if t259.length < 5864062014805 then (some (t257, t258, (t259 ++ [(⟨wrap64 (1 + t278), wrap64 (1 + t280), t282⟩ : S73)]), t283)) else (none)) = some (r1, r2, r3, r4) := H
    have A56 := Aside0.mk A560
    clear A560
    by_cases c57 : t259.length < 5864062014805
    ·rw [if_pos c57] at H
     have LMc57 := Aside0.mk c57
     clear c57
     obtain ⟨y284, hy284⟩ : ∃ y_ : List (S73), y_ = (t259 ++ [(⟨wrap64 (1 + t278), wrap64 (1 + t280), t282⟩ : S73)]) := ⟨_, rfl⟩
     replace H : (some (t257, t258, y284, t283)) = some (r1, r2, r3, r4) := by first | (rw [hy284]; with_reducible exact H) | (have H2_ := (Option.bind_some _ _).symm.trans H; rw [hy284]; with_reducible exact H2_) | (have H2_ := (Option.bind_some _ _).symm.trans H; with_reducible exact H2_) | with_reducible exact H | (rw [hy284]; exact H) | exact H
     have Ny284 := Aside0.mk hy284
     clear hy284
     simp only [Option.some.injEq, Prod.mk.injEq] at H
     obtain ⟨rfl, rfl, rfl, rfl⟩ := H
     go_enter Tryd.func46, Tryd.ntmps46
     try go_wp2_with (first | ((with_reducible refine gate_dst (N := 2) rfl ?_); refine box_event ?hg (N := 2) ?hd (cs := #[.int .i64 0, .int .i64 0, .slice none 0 0]) (t := 38) ?hr ?_; (case hd => rfl); (case hg => rfl); (case hr => first | (go_simp; done) | (go_simp; rfl)); intro gb248 hg w58 hbox hb; have n0_ := Aside0.mk (IsS87.below (by repeat (first | (with_reducible first | exact HI0.out | apply IsS87.alloc | apply IsS87.drewN | apply IsS87.drew | apply IsS87.set_1) | exact HI0.out)) hb); have n1_ := Aside0.mk (KeepBut.trans (by repeat (first | (with_reducible first | exact HK.out | apply KeepBut.set_ | apply keep_drewN | apply keep_drew | apply keep_alloc) | exact HK.out)) (KeepBut.of_below hb g none) (.inl rfl)); have n2_ := Aside0.mk (below_step (by exact zB1 HB.out (IsS87.ge HI0.out)) hb); have n3_ := Aside0.mk (hbox); have n4_ := Aside0.mk ((by rw [hg]; exact (keep_size (w := w) (g := g) (row := none) (by repeat (first | (with_reducible first | exact HK.out | apply KeepBut.set_ | apply keep_drewN | apply keep_drew | apply keep_alloc) | exact HK.out))) : w.heap.size ≤ gb248)); have n5_ := Aside0.mk ((Nat.le_trans HW0.out (by rw [hg]; exact (keep_size (w := w) (g := g) (row := none) (by repeat (first | (with_reducible first | exact HK.out | apply KeepBut.set_ | apply keep_drewN | apply keep_drew | apply keep_alloc) | exact HK.out))) : w.heap.size ≤ gb248) : w0.heap.size ≤ gb248)); have n6_ := Aside0.mk ((by rw [hg]; exact Nat.ne_of_lt (IsS87.lt (show IsS87 w0 _ g s0_0 s0_1 from by repeat (first | (with_reducible first | exact HI0.out | apply IsS87.alloc | apply IsS87.drewN | apply IsS87.drew | apply IsS87.set_1) | exact HI0.out))) : g ≠ gb248)); have n7_ := Aside0.mk ((by rw [hg]; exact Nat.ne_of_gt (IsS87.lt (show IsS87 w0 _ g s0_0 s0_1 from by repeat (first | (with_reducible first | exact HI0.out | apply IsS87.alloc | apply IsS87.drewN | apply IsS87.drew | apply IsS87.set_1) | exact HI0.out))) : gb248 ≠ g)); clear HI0; clear HK; clear HB; have HI0 := n0_; have HK := n1_; have HB := n2_; have BK248 := n3_; have GW248 := n4_; have GE248 := n5_; have NB0_248 := n6_; have NB248_0 := n7_; clear n0_ n1_ n2_ n3_ n4_ n5_ n6_ n7_; clear hb hbox hg) | ((with_reducible refine gate_callee (f := 49) rfl ?_); refine goesL_ (some 7) rfl rfl Tryd.func49 (by kernel_rfl) rfl #[.pointer (some ⟨g, 0, none⟩), .int .i64 6] rfl (by (try simp only [zm1, zm2, zm3]); first | done | rfl | (simp only [List.length_drop, List.length_take]; rfl)) ?_; (with_reducible refine (spec_l6Rd_pick.calls k g s0_0 s0_1 6 t249 t250 w0 _ ?side1 ?side2 A2.out).mono ?_); (case side1 => repeat (first | (with_reducible first | exact HI0.out | apply IsS87.alloc | apply IsS87.drewN | apply IsS87.drew | apply IsS87.set_1 | refine IsS87.far ?_ NB0_248.out _) | exact HI0.out)); (case side2 => exact zB2 HB.out (IsS87.ge HI0.out) GE248.out); rintro e w59 ⟨rfl, hi, hb, hk⟩; refine ⟨_, rfl, ?_⟩; have n0_ := Aside0.mk (KeepBut.blk hk (g' := gb248) (o := .cells #[.int .i64 0, .int .i64 0, .slice none 0 0] 38 (0, 0)) (by exact zK BK248.out) NB248_0.out (by simp)); have n1_ := Aside0.mk (KeepBut.trans (by repeat (first | (with_reducible first | exact HK.out | apply KeepBut.set_ | apply keep_drewN | apply keep_drew | apply keep_alloc | refine keep_far ?_ GW248.out _) | exact HK.out)) hk (.inl rfl)); have n2_ := Aside0.mk (hb); have n3_ := Aside0.mk (hi); clear BK248; clear HK; clear HB; clear HI0; have BK248 := n0_; have HK := n1_; have HB := n2_; have HI0 := n3_; clear n0_ n1_ n2_ n3_; (try clear hb); (try clear hb2); (try clear hk); (try clear hi)) | ((with_reducible refine gate_callee (f := 49) rfl ?_); refine goesL_ (some 10) rfl rfl Tryd.func49 (by kernel_rfl) rfl #[.pointer (some ⟨g, 0, none⟩), .int .i64 12] rfl (by (try simp only [zm1, zm2, zm3]); first | done | rfl | (simp only [List.length_drop, List.length_take]; rfl)) ?_; (with_reducible refine (spec_l6Rd_pick.calls k g s0_0 t250 12 t251 t252 w0 _ ?side1 ?side2 A3.out).mono ?_); (case side1 => repeat (first | (with_reducible first | exact HI0.out | apply IsS87.alloc | apply IsS87.drewN | apply IsS87.drew | apply IsS87.set_1 | refine IsS87.far ?_ NB0_248.out _) | exact HI0.out)); (case side2 => exact zB2 HB.out (IsS87.ge HI0.out) GE248.out); rintro e w60 ⟨rfl, hi, hb, hk⟩; refine ⟨_, rfl, ?_⟩; have n0_ := Aside0.mk (KeepBut.blk hk (g' := gb248) (o := .cells #[.int .i64 0, .int .i64 0, .slice none 0 0] 38 (0, 0)) (by exact zK BK248.out) NB248_0.out (by simp)); have n1_ := Aside0.mk (KeepBut.trans (by repeat (first | (with_reducible first | exact HK.out | apply KeepBut.set_ | apply keep_drewN | apply keep_drew | apply keep_alloc | refine keep_far ?_ GW248.out _) | exact HK.out)) hk (.inl rfl)); have n2_ := Aside0.mk (hb); have n3_ := Aside0.mk (hi); clear BK248; clear HK; clear HB; clear HI0; have BK248 := n0_; have HK := n1_; have HB := n2_; have HI0 := n3_; clear n0_ n1_ n2_ n3_; (try clear hb); (try clear hb2); (try clear hk); (try clear hi)) | ((with_reducible refine gate_callee (f := 63) rfl ?_); refine goesL_ (some 12) rfl rfl Tryd.func63 (by kernel_rfl) rfl #[.pointer (some ⟨g, 0, none⟩)] rfl (by (try simp only [zm1, zm2, zm3]); first | done | rfl | (simp only [List.length_drop, List.length_take]; rfl)) ?_; (with_reducible refine (spec_l71Pkgs.calls k g s0_0 t252 t253 t256 w0 _ ?side1 ?side2 A4.out).mono ?_); (case side1 => repeat (first | (with_reducible first | exact HI0.out | apply IsS87.alloc | apply IsS87.drewN | apply IsS87.drew | apply IsS87.set_1 | refine IsS87.far ?_ NB0_248.out _) | exact HI0.out)); (case side2 => exact zB2 HB.out (IsS87.ge HI0.out) GE248.out); rintro e w61 ⟨v254, rfl, ho0, hi, hb, hk⟩; refine ⟨_, rfl, ?_⟩; have n0_ := Aside0.mk (KeepBut.blk hk (g' := gb248) (o := .cells #[.int .i64 0, .int .i64 0, .slice none 0 0] 38 (0, 0)) (by exact zK BK248.out) NB248_0.out (by simp)); have n1_ := Aside0.mk (Kd.N_lower (Kd.N_mono (ok' := fun k_ => k_ ≠ gb248 ∧ k_ ≠ g) ho0 (fun k_ hk_ => ⟨(Kd.freshB (g := gb248) (o := .cells #[.int .i64 0, .int .i64 0, .slice none 0 0] 38 (0, 0)) (by exact zK BK248.out) k_ hk_), (IsS87.fresh (by repeat (first | (with_reducible first | exact HI0.out | apply IsS87.alloc | apply IsS87.drewN | apply IsS87.drew | apply IsS87.set_1 | refine IsS87.far ?_ NB0_248.out _) | exact HI0.out)) k_ hk_)⟩)) (keep_size (w := w) (g := g) (row := none) (by repeat (first | (with_reducible first | exact HK.out | apply KeepBut.set_ | apply keep_drewN | apply keep_drew | apply keep_alloc | refine keep_far ?_ GW248.out _) | exact HK.out)))); have n2_ := Aside0.mk (KeepBut.trans (by repeat (first | (with_reducible first | exact HK.out | apply KeepBut.set_ | apply keep_drewN | apply keep_drew | apply keep_alloc | refine keep_far ?_ GW248.out _) | exact HK.out)) hk (.inl rfl)); have n3_ := Aside0.mk (hb); have n4_ := Aside0.mk (hi); clear BK248; clear HK; clear HB; clear HI0; have BK248 := n0_; have HO255 := n1_; have HK := n2_; have HB := n3_; have HI0 := n4_; clear n0_ n1_ n2_ n3_ n4_; (try clear hb); (try clear hb2); (try clear hk); (try clear hi); (try clear ho0); obtain ⟨Ao62, co62, eo62⟩ := Kd.N_slice HO255.out; subst eo62) | ((with_reducible refine gate_callee (f := 62) rfl ?_); refine goesL_ (some 13) rfl rfl Tryd.func62 (by kernel_rfl) rfl #[.int .i64 (wrap64 (1 + t249)), .int .i64 t251, .slice Ao62 t253.length co62] rfl (by (try simp only [zm1, zm2, zm3]); first | done | rfl | (simp only [List.length_drop, List.length_take]; rfl)) ?_; (with_reducible refine (spec_IndexOf.calls k (wrap64 (1 + t249)) t251 _ _ t253 t257 t258 t259 t262 _ ?side1 ?side2 A5.out).mono ?_); (case side1 => exact zC (Kd.N_reads' HO255.out).2.2); (case side2 => exact (Kd.N_reads' HO255.out).2.1); rintro e w63 ⟨v260, rfl, ho0, hb⟩; refine ⟨_, rfl, ?_⟩; have n0_ := Aside0.mk (Kd.N_elder' (by exact zN HO255.out) (Kd.R_base ho0) hb); have n1_ := Aside0.mk (Kd.R_lower ho0 (keep_size (w := w) (g := g) (row := none) (by repeat (first | (with_reducible first | exact HK.out | apply KeepBut.set_ | apply keep_drewN | apply keep_drew | apply keep_alloc | refine keep_far ?_ GW248.out _) | exact HK.out)))); have n2_ := Aside0.mk (IsS87.below (by repeat (first | (with_reducible first | exact HI0.out | apply IsS87.alloc | apply IsS87.drewN | apply IsS87.drew | apply IsS87.set_1 | refine IsS87.far ?_ NB0_248.out _) | exact HI0.out)) hb); have n3_ := Aside0.mk (blk_below (g := gb248) (o := .cells #[.int .i64 0, .int .i64 0, .slice none 0 0] 38 (0, 0)) (by exact zK BK248.out) hb); have n4_ := Aside0.mk (KeepBut.trans (by repeat (first | (with_reducible first | exact HK.out | apply KeepBut.set_ | apply keep_drewN | apply keep_drew | apply keep_alloc | refine keep_far ?_ GW248.out _) | exact HK.out)) (KeepBut.of_below hb g none) (.inl rfl)); have n5_ := Aside0.mk (below_step (by exact zB2 HB.out (IsS87.ge HI0.out) GE248.out) hb); clear HO255; clear HI0; clear BK248; clear HK; clear HB; have HO255 := n0_; have HO261 := n1_; have HI0 := n2_; have BK248 := n3_; have HK := n4_; have HB := n5_; clear n0_ n1_ n2_ n3_ n4_ n5_; (try clear hb); (try clear hb2); (try clear hk); (try clear hi); (try clear ho0)) | ((with_reducible refine gate_dst (N := 3) rfl ?_); refine box_event ?hg (N := 3) ?hd (cs := #[.int .i64 0, .int .i64 0, .slice none 0 0]) (t := 38) ?hr ?_; (case hd => rfl); (case hg => rfl); (case hr => first | (go_simp; done) | (go_simp; rfl)); intro gb263 hg w64 hbox hb; have n0_ := Aside0.mk (Kd.N_below (Kd.N_elderB (by exact zN HO255.out) gb263 (Nat.le_of_eq hg.symm)) hb); have n1_ := Aside0.mk (Kd.R_below (by exact zR HO261.out) hb); have n2_ := Aside0.mk (IsS87.below (by repeat (first | (with_reducible first | exact HI0.out | apply IsS87.alloc | apply IsS87.drewN | apply IsS87.drew | apply IsS87.set_1 | refine IsS87.far ?_ NB0_248.out _) | exact HI0.out)) hb); have n3_ := Aside0.mk (blk_below (g := gb248) (o := .cells #[.int .i64 0, .int .i64 0, .slice none 0 0] 38 (0, 0)) (by exact zK BK248.out) hb); have n4_ := Aside0.mk (KeepBut.trans (by repeat (first | (with_reducible first | exact HK.out | apply KeepBut.set_ | apply keep_drewN | apply keep_drew | apply keep_alloc | refine keep_far ?_ GW248.out _) | exact HK.out)) (KeepBut.of_below hb g none) (.inl rfl)); have n5_ := Aside0.mk (below_step (by exact zB2 HB.out (IsS87.ge HI0.out) GE248.out) hb); have n6_ := Aside0.mk (hbox); have n7_ := Aside0.mk ((by rw [hg]; exact (keep_size (w := w) (g := g) (row := none) (by repeat (first | (with_reducible first | exact HK.out | apply KeepBut.set_ | apply keep_drewN | apply keep_drew | apply keep_alloc | refine keep_far ?_ GW248.out _) | exact HK.out))) : w.heap.size ≤ gb263)); have n8_ := Aside0.mk ((Nat.le_trans HW0.out (by rw [hg]; exact (keep_size (w := w) (g := g) (row := none) (by repeat (first | (with_reducible first | exact HK.out | apply KeepBut.set_ | apply keep_drewN | apply keep_drew | apply keep_alloc | refine keep_far ?_ GW248.out _) | exact HK.out))) : w.heap.size ≤ gb263) : w0.heap.size ≤ gb263)); have n9_ := Aside0.mk ((by rw [hg]; exact Nat.ne_of_lt (blk_lt (g := gb248) (o := .cells #[.int .i64 0, .int .i64 0, .slice none 0 0] 38 (0, 0)) (by exact zK BK248.out)) : gb248 ≠ gb263)); have n10_ := Aside0.mk ((by rw [hg]; exact Nat.ne_of_gt (blk_lt (g := gb248) (o := .cells #[.int .i64 0, .int .i64 0, .slice none 0 0] 38 (0, 0)) (by exact zK BK248.out)) : gb263 ≠ gb248)); have n11_ := Aside0.mk ((by rw [hg]; exact Nat.ne_of_lt (IsS87.lt (show IsS87 w0 _ g s0_0 t256 from by repeat (first | (with_reducible first | exact HI0.out | apply IsS87.alloc | apply IsS87.drewN | apply IsS87.drew | apply IsS87.set_1 | refine IsS87.far ?_ NB0_248.out _) | exact HI0.out))) : g ≠ gb263)); have n12_ := Aside0.mk ((by rw [hg]; exact Nat.ne_of_gt (IsS87.lt (show IsS87 w0 _ g s0_0 t256 from by repeat (first | (with_reducible first | exact HI0.out | apply IsS87.alloc | apply IsS87.drewN | apply IsS87.drew | apply IsS87.set_1 | refine IsS87.far ?_ NB0_248.out _) | exact HI0.out))) : gb263 ≠ g)); clear HO255; clear HO261; clear HI0; clear BK248; clear HK; clear HB; have HO255 := n0_; have HO261 := n1_; have HI0 := n2_; have BK248 := n3_; have HK := n4_; have HB := n5_; have BK263 := n6_; have GW263 := n7_; have GE263 := n8_; have NB248_263 := n9_; have NB263_248 := n10_; have NB0_263 := n11_; have NB263_0 := n12_; clear n0_ n1_ n2_ n3_ n4_ n5_ n6_ n7_ n8_ n9_ n10_ n11_ n12_; clear hb hbox hg; have hnb65 := NB263_248.out; have hnc65 := NB248_263.out; have hnb66 := NB263_0.out; have hnc66 := NB0_263.out; obtain ⟨hcz67_0, hcz67_1, hcz67_2, hfz67_0, hfz67_1, hfz67_2⟩ := zc3f BK263.out; obtain ⟨Ao68, co68, eo68⟩ := Kd.R_slice HO261.out; subst eo68) | ((with_reducible refine gate_callee (f := 49) rfl ?_); refine goesL_ (some 17) rfl rfl Tryd.func49 (by kernel_rfl) rfl #[.pointer (some ⟨g, 0, none⟩), .int .i64 16] rfl (by (try simp only [zm1, zm2, zm3]); first | done | rfl | (simp only [List.length_drop, List.length_take]; rfl)) ?_; (with_reducible refine (spec_l6Rd_pick.calls k g s0_0 t256 16 t264 t265 w0 _ ?side1 ?side2 A6.out).mono ?_); (case side1 => repeat (first | (with_reducible first | exact HI0.out | apply IsS87.alloc | apply IsS87.drewN | apply IsS87.drew | apply IsS87.set_1 | refine IsS87.far ?_ NB0_248.out _ | refine IsS87.far ?_ NB0_263.out _) | exact HI0.out)); (case side2 => exact zB3 HB.out (IsS87.ge HI0.out) GE248.out GE263.out); rintro e w69 ⟨rfl, hi, hb, hk⟩; refine ⟨_, rfl, ?_⟩; have n0_ := Aside0.mk (KeepBut.blk hk (g' := gb248) (o := .cells #[.int .i64 0, .int .i64 0, .slice none 0 0] 38 (0, 0)) (by (with_reducible repeat (first | refine blk_drewN ?_ _ | refine blk_drew ?_ | refine blk_alloc ?_ _)); refine blk_far ?_ NB248_263.out _; (with_reducible repeat (first | refine blk_drewN ?_ _ | refine blk_drew ?_ | refine blk_alloc ?_ _)); refine blk_far ?_ NB248_263.out _; (with_reducible repeat (first | refine blk_drewN ?_ _ | refine blk_drew ?_ | refine blk_alloc ?_ _)); refine blk_far ?_ NB248_263.out _; exact zK BK248.out) NB248_0.out (by simp)); have n1_ := Aside0.mk (Kd.N_mono (Kd.N_keep (Kd.N_mono (ok := fun k_ => (((k_ ≠ gb248 ∧ k_ ≠ g) ∧ some k_ ≠ (.slice Ao68 t259.length co68 : Value).ownBlock) ∧ k_ ≠ gb263)) (by exact zN (Kd.N_mono (Kd.N_far (p := ⟨gb263, 2, none⟩) (Kd.N_far (p := ⟨gb263, 1, none⟩) (Kd.N_far (p := ⟨gb263, 0, none⟩) (Kd.N_mono HO255.out (fun k_ hk => (⟨hk, hk.2⟩ : _ ∧ k_ ≠ gb263))) (fun _ hk => hk.2) (.int .i64 t257)) (fun _ hk => hk.2) (.int .i64 t258)) (fun _ hk => hk.2) (.slice Ao68 t259.length co68)) (fun _ h_ => h_.1))) (fun k_ hk_ => (⟨hk_, hk_.1.1.2⟩ : _ ∧ k_ ≠ g))) hk (fun _ h => h.2)) (fun _ h => h.1)); have n2_ := Aside0.mk (Kd.R_mono (Kd.R_keep (IsS87.apart (show IsS87 w0 _ g s0_0 t256 from by repeat (first | (with_reducible first | exact HI0.out | apply IsS87.alloc | apply IsS87.drewN | apply IsS87.drew | apply IsS87.set_1 | refine IsS87.far ?_ NB0_248.out _ | refine IsS87.far ?_ NB0_263.out _) | exact HI0.out)) (by exact zR (Kd.R_mono (Kd.R_far (p := ⟨gb263, 2, none⟩) (Kd.R_far (p := ⟨gb263, 1, none⟩) (Kd.R_far (p := ⟨gb263, 0, none⟩) (Kd.R_types HO261.out BK263.out (by decide)) (fun _ hk => hk.2) (.int .i64 t257)) (fun _ hk => hk.2) (.int .i64 t258)) (fun _ hk => hk.2) (.slice Ao68 t259.length co68)) (fun _ h_ => h_.1))) (by decide)) hk (fun _ h => h.2)) (fun _ h => h.1)); have n3_ := Aside0.mk (KeepBut.blk hk (g' := gb263) (o := .cells #[.int .i64 t257, .int .i64 t258, .slice Ao68 t259.length co68] 38 (0, 0)) (by (with_reducible repeat (first | refine blk_drewN ?_ _ | refine blk_drew ?_ | refine blk_alloc ?_ _)); refine blk_put (cs := #[.int .i64 t257, .int .i64 t258, .slice none 0 0]) ?_ 2 _ rfl; (with_reducible repeat (first | refine blk_drewN ?_ _ | refine blk_drew ?_ | refine blk_alloc ?_ _)); refine blk_put (cs := #[.int .i64 t257, .int .i64 0, .slice none 0 0]) ?_ 1 _ rfl; (with_reducible repeat (first | refine blk_drewN ?_ _ | refine blk_drew ?_ | refine blk_alloc ?_ _)); refine blk_put (cs := #[.int .i64 0, .int .i64 0, .slice none 0 0]) ?_ 0 _ rfl; exact zK BK263.out) NB263_0.out (by simp)); have n4_ := Aside0.mk (KeepBut.trans (by repeat (first | (with_reducible first | exact HK.out | apply KeepBut.set_ | apply keep_drewN | apply keep_drew | apply keep_alloc | refine keep_far ?_ GW248.out _ | refine keep_far ?_ GW263.out _) | exact HK.out)) hk (.inl rfl)); have n5_ := Aside0.mk (hb); have n6_ := Aside0.mk (hi); clear BK248; clear HO255; clear HO261; clear BK263; clear HK; clear HB; clear HI0; have BK248 := n0_; have HO255 := n1_; have HO261 := n2_; have BK263 := n3_; have HK := n4_; have HB := n5_; have HI0 := n6_; clear n0_ n1_ n2_ n3_ n4_ n5_ n6_; (try clear hb); (try clear hb2); (try clear hk); (try clear hi)))
     have n0_ := Aside0.mk (Kd.N_drew HO255.out)
     have n1_ := Aside0.mk (Kd.R_drew HO261.out)
     have n2_ := Aside0.mk (blk_drew BK248.out)
     have n3_ := Aside0.mk (blk_drew BK263.out)
     have n4_ := Aside0.mk (IsS87.drew HI0.out)
     have n5_ := Aside0.mk (keep_drew HK.out)
     have n6_ := Aside0.mk (below_drew1 HB.out)
     clear HO255
     clear HO261
     clear BK248
     clear BK263
     clear HI0
     clear HK
     clear HB
     have HO255 := n0_
     have HO261 := n1_
     have BK248 := n2_
     have BK263 := n3_
     have HI0 := n4_
     have HK := n5_
     have HB := n6_
     clear n0_ n1_ n2_ n3_ n4_ n5_ n6_
     refine start_ (n := 15) (S := fun w' => w'.cell? ⟨gb263, 0, none⟩ = some (.int .i64 t257) ∧ w'.cell? ⟨gb263, 1, none⟩ = some (.int .i64 t258) ∧ w'.cell? ⟨gb263, 2, none⟩ = some (.slice Ao68 t259.length co68)) (ds := [14]) #[false, false, false, false, false, false, false, false, false, false, false, false, false, false, false] (by kernel_rfl) rfl rfl ⟨(blk_cell BK263.out 0).trans rfl, (blk_cell BK263.out 1).trans rfl, (blk_cell BK263.out 2).trans rfl⟩ (fun hHeld => ?_); refine with_tabW spec_l71Index.tab8 spec_l71Index.bits8 (fun HT_ HW_ => ?_)
     generalize w69.drew = w70 at HO255 HO261 BK248 BK263 HI0 HK HB hHeld ⊢
     refine pure_ (i := 0) (N := some 36) (v := ?_) (a' := ?_) #[true, false, false, false, false, false, false, false, false, false, false, false, false, false, false] rfl rfl (any_of HT_.out (by kernel_rfl)) (fun _ _ _ h => h) (Or.inl ⟨by rfl, ?_⟩) ?_ ?_
     rotate_left
     ·intro w'
      go_simp
      with_reducible rfl
     rotate_left
     ·simp only [zp0, zp1, zp2, zp3, zp4, i64_w, i32_w]
      rfl
     refine pure_ (i := 2) (N := some 38) (v := ?_) (a' := ?_) #[true, false, true, false, false, false, false, false, false, false, false, false, false, false, false] rfl rfl (any_of HT_.out (by kernel_rfl)) (fun _ _ _ h => h) (Or.inl ⟨by rfl, ?_⟩) ?_ ?_
     rotate_left
     ·intro w'
      go_simp
      with_reducible rfl
     rotate_left
     ·simp only [zp0, zp1, zp2, zp3, zp4, i64_w, i32_w]
      rfl
     refine pure_ (i := 5) (N := some 41) (v := ?_) (a' := ?_) #[true, false, true, false, false, true, false, false, false, false, false, false, false, false, false] rfl rfl (any_of HT_.out (by kernel_rfl)) (fun _ _ _ h => h) (Or.inl ⟨by rfl, ?_⟩) ?_ ?_
     rotate_left
     ·intro w'
      go_simp
      with_reducible rfl
     rotate_left
     ·simp only [zp0, zp1, zp2, zp3, zp4, i64_w, i32_w]
      rfl
     refine pure_ (i := 8) (N := some 44) (v := ?_) (a' := ?_) #[true, false, true, false, false, true, false, false, true, false, false, false, false, false, false] rfl rfl (any_of HT_.out (by kernel_rfl)) (fun _ _ _ h => h) (Or.inl ⟨by rfl, ?_⟩) ?_ ?_
     rotate_left
     ·intro w'
      go_simp
      with_reducible rfl
     rotate_left
     ·simp only [zp0, zp1, zp2, zp3, zp4, i64_w, i32_w]
      rfl
     refine take_ (i := 1) (N := some 37) (v := ?_) (a' := ?_) #[true, true, true, false, false, true, false, false, true, false, false, false, false, false, false] rfl rfl (take_ofW HT_.out HW_.out (by kernel_rfl)) (fun _ _ _ h => h) (Or.inl ⟨by rfl, ?_⟩) hHeld ?_ ?_
     rotate_left
     ·rintro w' ⟨s0, s1, s2⟩
      go_simp
      with_reducible rfl
     rotate_left
     ·simp only [zp0, zp1, zp2, zp3, zp4, i64_w, i32_w]
      rfl
     refine one_ (i := 3) (N := some 39) #[true, true, true, true, false, true, false, false, true, false, false, false, false, false, false] rfl rfl (one_of HT_.out (by kernel_rfl)) (by decide) (fun K hK => ?_)
     refine goes_ Tryd.func49 (by kernel_rfl) rfl #[.pointer (some ⟨g, 0, none⟩), .int .i64 4] (by rfl) rfl rfl (by (try simp only [zm1, zm2, zm3]); first | done | rfl | (simp only [List.length_drop, List.length_take]; rfl)) ?_
     with_reducible refine (spec_l6Rd_pick.calls k g s0_0 t265 4 t278 t279 w0 _ ?side1 ?side2 A54.out).mono ?_
     (case side1 => repeat (first | (with_reducible first | exact HI0.out | apply IsS87.alloc | apply IsS87.drewN | apply IsS87.drew | apply IsS87.set_1 | refine IsS87.far ?_ NB0_248.out _ | refine IsS87.far ?_ NB0_263.out _) | exact HI0.out))
     (case side2 => exact zB3 HB.out (IsS87.ge HI0.out) GE248.out GE263.out)
     rintro e w71 ⟨rfl, hi, hb, hk⟩
     refine ⟨_, rfl, ?_⟩
     have n0_ := Aside0.mk (KeepBut.blk hk (g' := gb248) (o := .cells #[.int .i64 0, .int .i64 0, .slice none 0 0] 38 (0, 0)) (by exact zK BK248.out) NB248_0.out (by simp))
     have n1_ := Aside0.mk (Kd.N_mono (Kd.N_keep (Kd.N_mono (ok := fun k_ => (((k_ ≠ gb248 ∧ k_ ≠ g) ∧ some k_ ≠ (.slice Ao68 t259.length co68 : Value).ownBlock) ∧ k_ ≠ gb263)) (by exact zN HO255.out) (fun k_ hk_ => (⟨hk_, hk_.1.1.2⟩ : _ ∧ k_ ≠ g))) hk (fun _ h => h.2)) (fun _ h => h.1))
     have n2_ := Aside0.mk (Kd.R_mono (Kd.R_keep (IsS87.apart (show IsS87 w0 _ g s0_0 t265 from by repeat (first | (with_reducible first | exact HI0.out | apply IsS87.alloc | apply IsS87.drewN | apply IsS87.drew | apply IsS87.set_1 | refine IsS87.far ?_ NB0_248.out _ | refine IsS87.far ?_ NB0_263.out _) | exact HI0.out)) (by exact zR HO261.out) (by decide)) hk (fun _ h => h.2)) (fun _ h => h.1))
     have n3_ := Aside0.mk (KeepBut.blk hk (g' := gb263) (o := .cells #[.int .i64 t257, .int .i64 t258, .slice Ao68 t259.length co68] 38 (0, 0)) (by exact zK BK263.out) NB263_0.out (by simp))
     have n4_ := Aside0.mk (KeepBut.trans (by repeat (first | (with_reducible first | exact HK.out | apply KeepBut.set_ | apply keep_drewN | apply keep_drew | apply keep_alloc | refine keep_far ?_ GW248.out _ | refine keep_far ?_ GW263.out _) | exact HK.out)) hk (.inl rfl))
     have n5_ := Aside0.mk (hb)
     have n6_ := Aside0.mk (hi)
     clear BK248
     clear HO255
     clear HO261
     clear BK263
     clear HK
     clear HB
     clear HI0
     have BK248 := n0_
     have HO255 := n1_
     have HO261 := n2_
     have BK263 := n3_
     have HK := n4_
     have HB := n5_
     have HI0 := n6_
     clear n0_ n1_ n2_ n3_ n4_ n5_ n6_
     (try clear hb)
     (try clear hb2)
     (try clear hk)
     (try clear hi)
     refine hK.out _ _ ⟨(blk_cell BK263.out 0).trans rfl, (blk_cell BK263.out 1).trans rfl, (blk_cell BK263.out 2).trans rfl⟩ (fun hHeld => ?_)
     clear hK K
     refine norm_ (a' := ?_) ?_ ?_
     rotate_left
     ·show Act.put _ (some 39) _ = _
      simp only [zp0, zp1, zp2, zp3, zp4, i64_w, i32_w]
      rfl
     refine pure_ (i := 4) (N := some 40) (v := ?_) (a' := ?_) #[true, true, true, true, true, true, false, false, true, false, false, false, false, false, false] rfl rfl (any_of HT_.out (by kernel_rfl)) (fun _ _ _ h => h) (Or.inl ⟨by rfl, ?_⟩) ?_ ?_
     rotate_left
     ·intro w'
      go_simp
      with_reducible rfl
     rotate_left
     ·simp only [zp0, zp1, zp2, zp3, zp4, i64_w, i32_w]
      rfl
     refine one_ (i := 6) (N := some 42) #[true, true, true, true, true, true, true, false, true, false, false, false, false, false, false] rfl rfl (one_of HT_.out (by kernel_rfl)) (by decide) (fun K hK => ?_)
     refine goes_ Tryd.func49 (by kernel_rfl) rfl #[.pointer (some ⟨g, 0, none⟩), .int .i64 4] (by rfl) rfl rfl (by (try simp only [zm1, zm2, zm3]); first | done | rfl | (simp only [List.length_drop, List.length_take]; rfl)) ?_
     with_reducible refine (spec_l6Rd_pick.calls k g s0_0 t279 4 t280 t281 w0 _ ?side1 ?side2 A55.out).mono ?_
     (case side1 => repeat (first | (with_reducible first | exact HI0.out | apply IsS87.alloc | apply IsS87.drewN | apply IsS87.drew | apply IsS87.set_1 | refine IsS87.far ?_ NB0_248.out _ | refine IsS87.far ?_ NB0_263.out _) | exact HI0.out))
     (case side2 => exact zB3 HB.out (IsS87.ge HI0.out) GE248.out GE263.out)
     rintro e w72 ⟨rfl, hi, hb, hk⟩
     refine ⟨_, rfl, ?_⟩
     have n0_ := Aside0.mk (KeepBut.blk hk (g' := gb248) (o := .cells #[.int .i64 0, .int .i64 0, .slice none 0 0] 38 (0, 0)) (by exact zK BK248.out) NB248_0.out (by simp))
     have n1_ := Aside0.mk (Kd.N_mono (Kd.N_keep (Kd.N_mono (ok := fun k_ => (((k_ ≠ gb248 ∧ k_ ≠ g) ∧ some k_ ≠ (.slice Ao68 t259.length co68 : Value).ownBlock) ∧ k_ ≠ gb263)) (by exact zN HO255.out) (fun k_ hk_ => (⟨hk_, hk_.1.1.2⟩ : _ ∧ k_ ≠ g))) hk (fun _ h => h.2)) (fun _ h => h.1))
     have n2_ := Aside0.mk (Kd.R_mono (Kd.R_keep (IsS87.apart (show IsS87 w0 _ g s0_0 t279 from by repeat (first | (with_reducible first | exact HI0.out | apply IsS87.alloc | apply IsS87.drewN | apply IsS87.drew | apply IsS87.set_1 | refine IsS87.far ?_ NB0_248.out _ | refine IsS87.far ?_ NB0_263.out _) | exact HI0.out)) (by exact zR HO261.out) (by decide)) hk (fun _ h => h.2)) (fun _ h => h.1))
     have n3_ := Aside0.mk (KeepBut.blk hk (g' := gb263) (o := .cells #[.int .i64 t257, .int .i64 t258, .slice Ao68 t259.length co68] 38 (0, 0)) (by exact zK BK263.out) NB263_0.out (by simp))
     have n4_ := Aside0.mk (KeepBut.trans (by repeat (first | (with_reducible first | exact HK.out | apply KeepBut.set_ | apply keep_drewN | apply keep_drew | apply keep_alloc | refine keep_far ?_ GW248.out _ | refine keep_far ?_ GW263.out _) | exact HK.out)) hk (.inl rfl))
     have n5_ := Aside0.mk (hb)
     have n6_ := Aside0.mk (hi)
     clear BK248
     clear HO255
     clear HO261
     clear BK263
     clear HK
     clear HB
     clear HI0
     have BK248 := n0_
     have HO255 := n1_
     have HO261 := n2_
     have BK263 := n3_
     have HK := n4_
     have HB := n5_
     have HI0 := n6_
     clear n0_ n1_ n2_ n3_ n4_ n5_ n6_
     (try clear hb)
     (try clear hb2)
     (try clear hk)
     (try clear hi)
     refine hK.out _ _ ⟨(blk_cell BK263.out 0).trans rfl, (blk_cell BK263.out 1).trans rfl, (blk_cell BK263.out 2).trans rfl⟩ (fun hHeld => ?_)
     clear hK K
     refine norm_ (a' := ?_) ?_ ?_
     rotate_left
     ·show Act.put _ (some 42) _ = _
      simp only [zp0, zp1, zp2, zp3, zp4, i64_w, i32_w]
      rfl
     refine pure_ (i := 7) (N := some 43) (v := ?_) (a' := ?_) #[true, true, true, true, true, true, true, true, true, false, false, false, false, false, false] rfl rfl (any_of HT_.out (by kernel_rfl)) (fun _ _ _ h => h) (Or.inl ⟨by rfl, ?_⟩) ?_ ?_
     rotate_left
     ·intro w'
      go_simp
      with_reducible rfl
     rotate_left
     ·simp only [zp0, zp1, zp2, zp3, zp4, i64_w, i32_w]
      rfl
     refine one_ (i := 9) (N := some 45) #[true, true, true, true, true, true, true, true, true, true, false, false, false, false, false] rfl rfl (one_of HT_.out (by kernel_rfl)) (by decide) (fun K hK => ?_)
     refine goes_ Tryd.func49 (by kernel_rfl) rfl #[.pointer (some ⟨g, 0, none⟩), .int .i64 9973] (by rfl) rfl rfl (by (try simp only [zm1, zm2, zm3]); first | done | rfl | (simp only [List.length_drop, List.length_take]; rfl)) ?_
     with_reducible refine (spec_l6Rd_pick.calls k g s0_0 t281 9973 t282 t283 w0 _ ?side1 ?side2 A56.out).mono ?_
     (case side1 => repeat (first | (with_reducible first | exact HI0.out | apply IsS87.alloc | apply IsS87.drewN | apply IsS87.drew | apply IsS87.set_1 | refine IsS87.far ?_ NB0_248.out _ | refine IsS87.far ?_ NB0_263.out _) | exact HI0.out))
     (case side2 => exact zB3 HB.out (IsS87.ge HI0.out) GE248.out GE263.out)
     rintro e w73 ⟨rfl, hi, hb, hk⟩
     refine ⟨_, rfl, ?_⟩
     have n0_ := Aside0.mk (KeepBut.blk hk (g' := gb248) (o := .cells #[.int .i64 0, .int .i64 0, .slice none 0 0] 38 (0, 0)) (by exact zK BK248.out) NB248_0.out (by simp))
     have n1_ := Aside0.mk (Kd.N_mono (Kd.N_keep (Kd.N_mono (ok := fun k_ => (((k_ ≠ gb248 ∧ k_ ≠ g) ∧ some k_ ≠ (.slice Ao68 t259.length co68 : Value).ownBlock) ∧ k_ ≠ gb263)) (by exact zN HO255.out) (fun k_ hk_ => (⟨hk_, hk_.1.1.2⟩ : _ ∧ k_ ≠ g))) hk (fun _ h => h.2)) (fun _ h => h.1))
     have n2_ := Aside0.mk (Kd.R_mono (Kd.R_keep (IsS87.apart (show IsS87 w0 _ g s0_0 t281 from by repeat (first | (with_reducible first | exact HI0.out | apply IsS87.alloc | apply IsS87.drewN | apply IsS87.drew | apply IsS87.set_1 | refine IsS87.far ?_ NB0_248.out _ | refine IsS87.far ?_ NB0_263.out _) | exact HI0.out)) (by exact zR HO261.out) (by decide)) hk (fun _ h => h.2)) (fun _ h => h.1))
     have n3_ := Aside0.mk (KeepBut.blk hk (g' := gb263) (o := .cells #[.int .i64 t257, .int .i64 t258, .slice Ao68 t259.length co68] 38 (0, 0)) (by exact zK BK263.out) NB263_0.out (by simp))
     have n4_ := Aside0.mk (KeepBut.trans (by repeat (first | (with_reducible first | exact HK.out | apply KeepBut.set_ | apply keep_drewN | apply keep_drew | apply keep_alloc | refine keep_far ?_ GW248.out _ | refine keep_far ?_ GW263.out _) | exact HK.out)) hk (.inl rfl))
     have n5_ := Aside0.mk (hb)
     have n6_ := Aside0.mk (hi)
     clear BK248
     clear HO255
     clear HO261
     clear BK263
     clear HK
     clear HB
     clear HI0
     have BK248 := n0_
     have HO255 := n1_
     have HO261 := n2_
     have BK263 := n3_
     have HK := n4_
     have HB := n5_
     have HI0 := n6_
     clear n0_ n1_ n2_ n3_ n4_ n5_ n6_
     (try clear hb)
     (try clear hb2)
     (try clear hk)
     (try clear hi)
     refine hK.out _ _ ⟨(blk_cell BK263.out 0).trans rfl, (blk_cell BK263.out 1).trans rfl, (blk_cell BK263.out 2).trans rfl⟩ (fun hHeld => ?_)
     clear hK K
     refine norm_ (a' := ?_) ?_ ?_
     rotate_left
     ·show Act.put _ (some 45) _ = _
      simp only [zp0, zp1, zp2, zp3, zp4, i64_w, i32_w]
      rfl
     refine pure_ (i := 10) (N := some 46) (v := ?_) (a' := ?_) #[true, true, true, true, true, true, true, true, true, true, true, false, false, false, false] rfl rfl (any_of HT_.out (by kernel_rfl)) (fun _ _ _ h => h) (Or.inl ⟨by rfl, ?_⟩) ?_ ?_
     rotate_left
     ·intro w'
      go_simp
      with_reducible rfl
     rotate_left
     ·simp only [zp0, zp1, zp2, zp3, zp4, i64_w, i32_w]
      rfl
     refine one_ (i := 11) (N := some 47) #[true, true, true, true, true, true, true, true, true, true, true, true, false, false, false] rfl rfl (one_of HT_.out (by kernel_rfl)) (by decide) (fun K hK => ?_)
     refine value_ (w1 := ?_) (v := ?_) (by rfl) rfl ?_ ?_
     rotate_left 2
     ·go_simp
      constructor
      ·rfl
      ·rfl
     refine hK.out _ _ ⟨(blk_cell (blk_alloc BK263.out _) 0).trans rfl, (blk_cell (blk_alloc BK263.out _) 1).trans rfl, (blk_cell (blk_alloc BK263.out _) 2).trans rfl⟩ (fun hHeld => ?_)
     clear hK K
     refine norm_ (a' := ?_) ?_ ?_
     rotate_left
     ·show Act.put _ (some 47) _ = _
      simp only [zp0, zp1, zp2, zp3, zp4, i64_w, i32_w]
      rfl
     refine one_ (i := 12) (N := some 48) #[true, true, true, true, true, true, true, true, true, true, true, true, true, false, false] rfl rfl (one_of HT_.out (by kernel_rfl)) (by decide) (fun K hK => ?_)
     refine Kd.R_append_step k73 w.heap.size (by rfl) (.tmp 37) (.tmp 47) 36 73 (.agg #[(.int .i64 0), (.int .i64 0), (.int .i64 0)]) 24 rfl Tryd.underlying36 info73 rfl (by decide) (by omega) (.slice Ao68 t259.length co68) t259 (⟨wrap64 (1 + t278), wrap64 (1 + t280), t282⟩ : S73) [.int .i64 (wrap64 (1 + t278)), .int .i64 (wrap64 (1 + t280)), .int .i64 t282] (fun _ => True) (fun _ => False) rfl rfl ?aP (fun _ hk => hk.elim) ?aF ?aO (Below.refl _ _) ?aS ?aL ?_
     (case aP => exact k73_mkM _ _ _ (⟨wrap64 (1 + t278), wrap64 (1 + t280), t282⟩ : S73))
     (case aF => exact (fun _ _ => trivial))
     (case aO => exact (by exact zR HO261.out))
     (case aS => exact (keep_size (w := w) (g := g) (row := none) (by repeat (first | (with_reducible first | exact HK.out | apply KeepBut.set_ | apply keep_drewN | apply keep_drew | apply keep_alloc | refine keep_far ?_ GW248.out _ | refine keep_far ?_ GW263.out _) | exact HK.out))))
     (case aL => have := LMc57.out; omega)
     intro v285 w74 ho hb hg hat
     rw [← Ny284.out] at ho
     have n0_ := Aside0.mk (IsS87.grown (by repeat (first | (with_reducible first | exact HI0.out | apply IsS87.alloc | apply IsS87.drewN | apply IsS87.drew | apply IsS87.set_1 | refine IsS87.far ?_ NB0_248.out _ | refine IsS87.far ?_ NB0_263.out _) | exact HI0.out)) hg (IsS87.own_ne HI0.out HO261.out (by decide)))
     have n1_ := Aside0.mk (blk_grown (g := gb248) (o := .cells #[.int .i64 0, .int .i64 0, .slice none 0 0] 38 (0, 0)) (by exact zK BK248.out) hg (Kd.R_ne HO261.out BK248.out (by decide)))
     have n2_ := Aside0.mk (Kd.N_afterv (ok := (fun k_ => k_ ≠ gb248 ∧ k_ ≠ g ∧ k_ ≠ gb263)) (by exact zN (Kd.N_mono HO255.out (fun _ hk => ⟨⟨hk.1.1.1, ⟨hk.1.1.2, hk.2⟩⟩, hk.1.2⟩))) hg hat)
     have n3_ := Aside0.mk (blk_grown (g := gb263) (o := .cells #[.int .i64 t257, .int .i64 t258, .slice Ao68 t259.length co68] 38 (0, 0)) (by exact zK BK263.out) hg (Kd.R_ne HO261.out BK263.out (by decide)))
     have n4_ := Aside0.mk (below_weaken (by exact zB3 HB.out (IsS87.ge HI0.out) GE248.out GE263.out) HL.out hb)
     have n5_ := Aside0.mk (KeepBut.trans (by repeat (first | (with_reducible first | exact HK.out | apply KeepBut.set_ | apply keep_drewN | apply keep_drew | apply keep_alloc | refine keep_far ?_ GW248.out _ | refine keep_far ?_ GW263.out _) | exact HK.out)) (KeepBut.of_grown hg g) (Kd.R_base2 HO261.out))
     have n6_ := Aside0.mk (ho)
     clear HI0
     clear BK248
     clear HO255
     clear BK263
     clear HB
     clear HK
     clear HO261
     have HI0 := n0_
     have BK248 := n1_
     have HO255 := n2_
     have BK263 := n3_
     have HB := n4_
     have HK := n5_
     have HO286 := n6_
     clear n0_ n1_ n2_ n3_ n4_ n5_ n6_
     clear ho hb hg hat
     obtain ⟨Ao75, co75, eo75⟩ := Kd.R_slice HO286.out
     (first | subst eo75 | (injection eo75 with f1_ f2_ f3_; have f4_ := f1_.symm; have f5_ := f3_.symm; clear f1_ f2_ f3_; subst f4_; subst f5_))
     refine hK.out _ _ ⟨(blk_cell BK263.out 0).trans rfl, (blk_cell BK263.out 1).trans rfl, (blk_cell BK263.out 2).trans rfl⟩ (fun hHeld => ?_)
     clear hK K
     refine norm_ (a' := ?_) ?_ ?_
     rotate_left
     ·show Act.put _ (some 48) _ = _
      simp only [zp0, zp1, zp2, zp3, zp4, i64_w, i32_w]
      rfl
     refine pure_ (i := 13) (N := some 49) (v := ?_) (a' := ?_) #[true, true, true, true, true, true, true, true, true, true, true, true, true, true, false] rfl rfl (any_of HT_.out (by kernel_rfl)) (fun _ _ _ h => h) (Or.inl ⟨by rfl, ?_⟩) ?_ ?_
     rotate_left
     ·intro w'
      go_simp
      with_reducible rfl
     rotate_left
     ·simp only [zp0, zp1, zp2, zp3, zp4, i64_w, i32_w]
      rfl
     refine last_ (i := 14) (N := none) #[true, true, true, true, true, true, true, true, true, true, true, true, true, true, true] rfl rfl (one_of HT_.out (by kernel_rfl)) (by decide) (fun K hK => ?_)
     have hs76 : w74.cell? ⟨gb263, 2, none⟩ = some (.slice Ao68 t259.length co68) := (blk_cell BK263.out 2).trans rfl
     have hfs76 := blk_frozen BK263.out 2
     have hns76_0 := NB248_263.out
     have hms76_0 := NB263_248.out
     refine skip_ (w1 := ?_) (by rfl) rfl ?_ ?_
     rotate_left
     ·go_simp
      rfl
     refine hK.out _ _ ?_
     clear hK K
     refine done_ (done_of HT_.out (by kernel_rfl)) ?_
     obtain ⟨hcz77_0, hcz77_1, hcz77_2, hfz77_0, hfz77_1, hfz77_2⟩ := zc3f BK263.out
     have hnb78 := NB248_0.out
     have hnc78 := NB0_248.out
     obtain ⟨hcz79_0, hcz79_1, hcz79_2, hfz79_0, hfz79_1, hfz79_2⟩ := zc3f BK248.out
     try go_wp2
     refine bodyPost_ret (results_cell_row rfl _ _ gb248 38 #[.int .i64 t257, .int .i64 t258, .slice Ao75 y284.length co75] (0, 0) _ rfl (by (with_reducible repeat (first | refine blk_drewN ?_ _ | refine blk_drew ?_ | refine blk_alloc ?_ _)); refine blk_put (cs := #[.int .i64 t257, .int .i64 t258, .slice none 0 0]) ?_ 2 _ rfl; (with_reducible repeat (first | refine blk_drewN ?_ _ | refine blk_drew ?_ | refine blk_alloc ?_ _)); refine blk_put (cs := #[.int .i64 t257, .int .i64 0, .slice none 0 0]) ?_ 1 _ rfl; (with_reducible repeat (first | refine blk_drewN ?_ _ | refine blk_drew ?_ | refine blk_alloc ?_ _)); refine blk_put (cs := #[.int .i64 0, .int .i64 0, .slice none 0 0]) ?_ 0 _ rfl; (with_reducible repeat (first | refine blk_drewN ?_ _ | refine blk_drew ?_ | refine blk_alloc ?_ _)); refine blk_far ?_ NB248_263.out _; exact zK BK248.out) Tryd.underlying38 rfl (by kernel_rfl)) rfl ?_
     exact ⟨_, by first | rfl | (simp [errW_none, errW_some] <;> rfl) | (simp [*, errW_none, errW_some] <;> rfl), by exact zR (Kd.R_mono (Kd.R_far (p := ⟨gb248, 2, none⟩) (Kd.R_far (p := ⟨gb248, 1, none⟩) (Kd.R_far (p := ⟨gb248, 0, none⟩) (Kd.R_far (p := ⟨gb263, 2, none⟩) (Kd.R_types (Kd.R_types HO286.out BK263.out (by decide)) BK248.out (by decide)) (fun _ hk => hk.1.2) (.slice Ao75 y284.length co75)) (fun _ hk => hk.2) (.int .i64 t257)) (fun _ hk => hk.2) (.int .i64 t258)) (fun _ hk => hk.2) (.slice Ao75 y284.length co75)) (fun _ hk => trivial)), by repeat (first | (with_reducible first | exact HI0.out | apply IsS87.alloc | apply IsS87.drewN | apply IsS87.drew | apply IsS87.set_1 | refine IsS87.far ?_ NB0_248.out _ | refine IsS87.far ?_ NB0_263.out _) | exact HI0.out), by exact zB3 HB.out (IsS87.ge HI0.out) GE248.out GE263.out, by repeat (first | (with_reducible first | exact HK.out | apply KeepBut.set_ | apply keep_drewN | apply keep_drew | apply keep_alloc | refine keep_far ?_ GW248.out _ | refine keep_far ?_ GW263.out _) | exact HK.out)⟩
    ·rw [if_neg c57] at H
     exact absurd H (by simp)
   ·rw [if_neg c53] at H
    have c53b0 : (t264 == 2) = false := beq_eq_false_iff_ne.mpr c53
    have c53b1 : (t264 != 2) = true := bne_iff_ne.mpr c53
    simp only [Option.some.injEq, Prod.mk.injEq] at H
    obtain ⟨rfl, rfl, rfl, rfl⟩ := H
    go_enter Tryd.func46, Tryd.ntmps46
    go_wp2_with (first | ((with_reducible refine gate_dst (N := 2) rfl ?_); refine box_event ?hg (N := 2) ?hd (cs := #[.int .i64 0, .int .i64 0, .slice none 0 0]) (t := 38) ?hr ?_; (case hd => rfl); (case hg => rfl); (case hr => first | (go_simp; done) | (go_simp; rfl)); intro gb248 hg w80 hbox hb; have n0_ := Aside0.mk (IsS87.below (by repeat (first | (with_reducible first | exact HI0.out | apply IsS87.alloc | apply IsS87.drewN | apply IsS87.drew | apply IsS87.set_1) | exact HI0.out)) hb); have n1_ := Aside0.mk (KeepBut.trans (by repeat (first | (with_reducible first | exact HK.out | apply KeepBut.set_ | apply keep_drewN | apply keep_drew | apply keep_alloc) | exact HK.out)) (KeepBut.of_below hb g none) (.inl rfl)); have n2_ := Aside0.mk (below_step (by exact zB1 HB.out (IsS87.ge HI0.out)) hb); have n3_ := Aside0.mk (hbox); have n4_ := Aside0.mk ((by rw [hg]; exact (keep_size (w := w) (g := g) (row := none) (by repeat (first | (with_reducible first | exact HK.out | apply KeepBut.set_ | apply keep_drewN | apply keep_drew | apply keep_alloc) | exact HK.out))) : w.heap.size ≤ gb248)); have n5_ := Aside0.mk ((Nat.le_trans HW0.out (by rw [hg]; exact (keep_size (w := w) (g := g) (row := none) (by repeat (first | (with_reducible first | exact HK.out | apply KeepBut.set_ | apply keep_drewN | apply keep_drew | apply keep_alloc) | exact HK.out))) : w.heap.size ≤ gb248) : w0.heap.size ≤ gb248)); have n6_ := Aside0.mk ((by rw [hg]; exact Nat.ne_of_lt (IsS87.lt (show IsS87 w0 _ g s0_0 s0_1 from by repeat (first | (with_reducible first | exact HI0.out | apply IsS87.alloc | apply IsS87.drewN | apply IsS87.drew | apply IsS87.set_1) | exact HI0.out))) : g ≠ gb248)); have n7_ := Aside0.mk ((by rw [hg]; exact Nat.ne_of_gt (IsS87.lt (show IsS87 w0 _ g s0_0 s0_1 from by repeat (first | (with_reducible first | exact HI0.out | apply IsS87.alloc | apply IsS87.drewN | apply IsS87.drew | apply IsS87.set_1) | exact HI0.out))) : gb248 ≠ g)); clear HI0; clear HK; clear HB; have HI0 := n0_; have HK := n1_; have HB := n2_; have BK248 := n3_; have GW248 := n4_; have GE248 := n5_; have NB0_248 := n6_; have NB248_0 := n7_; clear n0_ n1_ n2_ n3_ n4_ n5_ n6_ n7_; clear hb hbox hg) | ((with_reducible refine gate_callee (f := 49) rfl ?_); refine goesL_ (some 7) rfl rfl Tryd.func49 (by kernel_rfl) rfl #[.pointer (some ⟨g, 0, none⟩), .int .i64 6] rfl (by (try simp only [zm1, zm2, zm3]); first | done | rfl | (simp only [List.length_drop, List.length_take]; rfl)) ?_; (with_reducible refine (spec_l6Rd_pick.calls k g s0_0 s0_1 6 t249 t250 w0 _ ?side1 ?side2 A2.out).mono ?_); (case side1 => repeat (first | (with_reducible first | exact HI0.out | apply IsS87.alloc | apply IsS87.drewN | apply IsS87.drew | apply IsS87.set_1 | refine IsS87.far ?_ NB0_248.out _) | exact HI0.out)); (case side2 => exact zB2 HB.out (IsS87.ge HI0.out) GE248.out); rintro e w81 ⟨rfl, hi, hb, hk⟩; refine ⟨_, rfl, ?_⟩; have n0_ := Aside0.mk (KeepBut.blk hk (g' := gb248) (o := .cells #[.int .i64 0, .int .i64 0, .slice none 0 0] 38 (0, 0)) (by exact zK BK248.out) NB248_0.out (by simp)); have n1_ := Aside0.mk (KeepBut.trans (by repeat (first | (with_reducible first | exact HK.out | apply KeepBut.set_ | apply keep_drewN | apply keep_drew | apply keep_alloc | refine keep_far ?_ GW248.out _) | exact HK.out)) hk (.inl rfl)); have n2_ := Aside0.mk (hb); have n3_ := Aside0.mk (hi); clear BK248; clear HK; clear HB; clear HI0; have BK248 := n0_; have HK := n1_; have HB := n2_; have HI0 := n3_; clear n0_ n1_ n2_ n3_; (try clear hb); (try clear hb2); (try clear hk); (try clear hi)) | ((with_reducible refine gate_callee (f := 49) rfl ?_); refine goesL_ (some 10) rfl rfl Tryd.func49 (by kernel_rfl) rfl #[.pointer (some ⟨g, 0, none⟩), .int .i64 12] rfl (by (try simp only [zm1, zm2, zm3]); first | done | rfl | (simp only [List.length_drop, List.length_take]; rfl)) ?_; (with_reducible refine (spec_l6Rd_pick.calls k g s0_0 t250 12 t251 t252 w0 _ ?side1 ?side2 A3.out).mono ?_); (case side1 => repeat (first | (with_reducible first | exact HI0.out | apply IsS87.alloc | apply IsS87.drewN | apply IsS87.drew | apply IsS87.set_1 | refine IsS87.far ?_ NB0_248.out _) | exact HI0.out)); (case side2 => exact zB2 HB.out (IsS87.ge HI0.out) GE248.out); rintro e w82 ⟨rfl, hi, hb, hk⟩; refine ⟨_, rfl, ?_⟩; have n0_ := Aside0.mk (KeepBut.blk hk (g' := gb248) (o := .cells #[.int .i64 0, .int .i64 0, .slice none 0 0] 38 (0, 0)) (by exact zK BK248.out) NB248_0.out (by simp)); have n1_ := Aside0.mk (KeepBut.trans (by repeat (first | (with_reducible first | exact HK.out | apply KeepBut.set_ | apply keep_drewN | apply keep_drew | apply keep_alloc | refine keep_far ?_ GW248.out _) | exact HK.out)) hk (.inl rfl)); have n2_ := Aside0.mk (hb); have n3_ := Aside0.mk (hi); clear BK248; clear HK; clear HB; clear HI0; have BK248 := n0_; have HK := n1_; have HB := n2_; have HI0 := n3_; clear n0_ n1_ n2_ n3_; (try clear hb); (try clear hb2); (try clear hk); (try clear hi)) | ((with_reducible refine gate_callee (f := 63) rfl ?_); refine goesL_ (some 12) rfl rfl Tryd.func63 (by kernel_rfl) rfl #[.pointer (some ⟨g, 0, none⟩)] rfl (by (try simp only [zm1, zm2, zm3]); first | done | rfl | (simp only [List.length_drop, List.length_take]; rfl)) ?_; (with_reducible refine (spec_l71Pkgs.calls k g s0_0 t252 t253 t256 w0 _ ?side1 ?side2 A4.out).mono ?_); (case side1 => repeat (first | (with_reducible first | exact HI0.out | apply IsS87.alloc | apply IsS87.drewN | apply IsS87.drew | apply IsS87.set_1 | refine IsS87.far ?_ NB0_248.out _) | exact HI0.out)); (case side2 => exact zB2 HB.out (IsS87.ge HI0.out) GE248.out); rintro e w83 ⟨v254, rfl, ho0, hi, hb, hk⟩; refine ⟨_, rfl, ?_⟩; have n0_ := Aside0.mk (KeepBut.blk hk (g' := gb248) (o := .cells #[.int .i64 0, .int .i64 0, .slice none 0 0] 38 (0, 0)) (by exact zK BK248.out) NB248_0.out (by simp)); have n1_ := Aside0.mk (Kd.N_lower (Kd.N_mono (ok' := fun k_ => k_ ≠ gb248 ∧ k_ ≠ g) ho0 (fun k_ hk_ => ⟨(Kd.freshB (g := gb248) (o := .cells #[.int .i64 0, .int .i64 0, .slice none 0 0] 38 (0, 0)) (by exact zK BK248.out) k_ hk_), (IsS87.fresh (by repeat (first | (with_reducible first | exact HI0.out | apply IsS87.alloc | apply IsS87.drewN | apply IsS87.drew | apply IsS87.set_1 | refine IsS87.far ?_ NB0_248.out _) | exact HI0.out)) k_ hk_)⟩)) (keep_size (w := w) (g := g) (row := none) (by repeat (first | (with_reducible first | exact HK.out | apply KeepBut.set_ | apply keep_drewN | apply keep_drew | apply keep_alloc | refine keep_far ?_ GW248.out _) | exact HK.out)))); have n2_ := Aside0.mk (KeepBut.trans (by repeat (first | (with_reducible first | exact HK.out | apply KeepBut.set_ | apply keep_drewN | apply keep_drew | apply keep_alloc | refine keep_far ?_ GW248.out _) | exact HK.out)) hk (.inl rfl)); have n3_ := Aside0.mk (hb); have n4_ := Aside0.mk (hi); clear BK248; clear HK; clear HB; clear HI0; have BK248 := n0_; have HO255 := n1_; have HK := n2_; have HB := n3_; have HI0 := n4_; clear n0_ n1_ n2_ n3_ n4_; (try clear hb); (try clear hb2); (try clear hk); (try clear hi); (try clear ho0); obtain ⟨Ao84, co84, eo84⟩ := Kd.N_slice HO255.out; subst eo84) | ((with_reducible refine gate_callee (f := 62) rfl ?_); refine goesL_ (some 13) rfl rfl Tryd.func62 (by kernel_rfl) rfl #[.int .i64 (wrap64 (1 + t249)), .int .i64 t251, .slice Ao84 t253.length co84] rfl (by (try simp only [zm1, zm2, zm3]); first | done | rfl | (simp only [List.length_drop, List.length_take]; rfl)) ?_; (with_reducible refine (spec_IndexOf.calls k (wrap64 (1 + t249)) t251 _ _ t253 t257 t258 t259 t262 _ ?side1 ?side2 A5.out).mono ?_); (case side1 => exact zC (Kd.N_reads' HO255.out).2.2); (case side2 => exact (Kd.N_reads' HO255.out).2.1); rintro e w85 ⟨v260, rfl, ho0, hb⟩; refine ⟨_, rfl, ?_⟩; have n0_ := Aside0.mk (Kd.N_elder' (by exact zN HO255.out) (Kd.R_base ho0) hb); have n1_ := Aside0.mk (Kd.R_lower ho0 (keep_size (w := w) (g := g) (row := none) (by repeat (first | (with_reducible first | exact HK.out | apply KeepBut.set_ | apply keep_drewN | apply keep_drew | apply keep_alloc | refine keep_far ?_ GW248.out _) | exact HK.out)))); have n2_ := Aside0.mk (IsS87.below (by repeat (first | (with_reducible first | exact HI0.out | apply IsS87.alloc | apply IsS87.drewN | apply IsS87.drew | apply IsS87.set_1 | refine IsS87.far ?_ NB0_248.out _) | exact HI0.out)) hb); have n3_ := Aside0.mk (blk_below (g := gb248) (o := .cells #[.int .i64 0, .int .i64 0, .slice none 0 0] 38 (0, 0)) (by exact zK BK248.out) hb); have n4_ := Aside0.mk (KeepBut.trans (by repeat (first | (with_reducible first | exact HK.out | apply KeepBut.set_ | apply keep_drewN | apply keep_drew | apply keep_alloc | refine keep_far ?_ GW248.out _) | exact HK.out)) (KeepBut.of_below hb g none) (.inl rfl)); have n5_ := Aside0.mk (below_step (by exact zB2 HB.out (IsS87.ge HI0.out) GE248.out) hb); clear HO255; clear HI0; clear BK248; clear HK; clear HB; have HO255 := n0_; have HO261 := n1_; have HI0 := n2_; have BK248 := n3_; have HK := n4_; have HB := n5_; clear n0_ n1_ n2_ n3_ n4_ n5_; (try clear hb); (try clear hb2); (try clear hk); (try clear hi); (try clear ho0)) | ((with_reducible refine gate_dst (N := 3) rfl ?_); refine box_event ?hg (N := 3) ?hd (cs := #[.int .i64 0, .int .i64 0, .slice none 0 0]) (t := 38) ?hr ?_; (case hd => rfl); (case hg => rfl); (case hr => first | (go_simp; done) | (go_simp; rfl)); intro gb263 hg w86 hbox hb; have n0_ := Aside0.mk (Kd.N_below (Kd.N_elderB (by exact zN HO255.out) gb263 (Nat.le_of_eq hg.symm)) hb); have n1_ := Aside0.mk (Kd.R_below (by exact zR HO261.out) hb); have n2_ := Aside0.mk (IsS87.below (by repeat (first | (with_reducible first | exact HI0.out | apply IsS87.alloc | apply IsS87.drewN | apply IsS87.drew | apply IsS87.set_1 | refine IsS87.far ?_ NB0_248.out _) | exact HI0.out)) hb); have n3_ := Aside0.mk (blk_below (g := gb248) (o := .cells #[.int .i64 0, .int .i64 0, .slice none 0 0] 38 (0, 0)) (by exact zK BK248.out) hb); have n4_ := Aside0.mk (KeepBut.trans (by repeat (first | (with_reducible first | exact HK.out | apply KeepBut.set_ | apply keep_drewN | apply keep_drew | apply keep_alloc | refine keep_far ?_ GW248.out _) | exact HK.out)) (KeepBut.of_below hb g none) (.inl rfl)); have n5_ := Aside0.mk (below_step (by exact zB2 HB.out (IsS87.ge HI0.out) GE248.out) hb); have n6_ := Aside0.mk (hbox); have n7_ := Aside0.mk ((by rw [hg]; exact (keep_size (w := w) (g := g) (row := none) (by repeat (first | (with_reducible first | exact HK.out | apply KeepBut.set_ | apply keep_drewN | apply keep_drew | apply keep_alloc | refine keep_far ?_ GW248.out _) | exact HK.out))) : w.heap.size ≤ gb263)); have n8_ := Aside0.mk ((Nat.le_trans HW0.out (by rw [hg]; exact (keep_size (w := w) (g := g) (row := none) (by repeat (first | (with_reducible first | exact HK.out | apply KeepBut.set_ | apply keep_drewN | apply keep_drew | apply keep_alloc | refine keep_far ?_ GW248.out _) | exact HK.out))) : w.heap.size ≤ gb263) : w0.heap.size ≤ gb263)); have n9_ := Aside0.mk ((by rw [hg]; exact Nat.ne_of_lt (blk_lt (g := gb248) (o := .cells #[.int .i64 0, .int .i64 0, .slice none 0 0] 38 (0, 0)) (by exact zK BK248.out)) : gb248 ≠ gb263)); have n10_ := Aside0.mk ((by rw [hg]; exact Nat.ne_of_gt (blk_lt (g := gb248) (o := .cells #[.int .i64 0, .int .i64 0, .slice none 0 0] 38 (0, 0)) (by exact zK BK248.out)) : gb263 ≠ gb248)); have n11_ := Aside0.mk ((by rw [hg]; exact Nat.ne_of_lt (IsS87.lt (show IsS87 w0 _ g s0_0 t256 from by repeat (first | (with_reducible first | exact HI0.out | apply IsS87.alloc | apply IsS87.drewN | apply IsS87.drew | apply IsS87.set_1 | refine IsS87.far ?_ NB0_248.out _) | exact HI0.out))) : g ≠ gb263)); have n12_ := Aside0.mk ((by rw [hg]; exact Nat.ne_of_gt (IsS87.lt (show IsS87 w0 _ g s0_0 t256 from by repeat (first | (with_reducible first | exact HI0.out | apply IsS87.alloc | apply IsS87.drewN | apply IsS87.drew | apply IsS87.set_1 | refine IsS87.far ?_ NB0_248.out _) | exact HI0.out))) : gb263 ≠ g)); clear HO255; clear HO261; clear HI0; clear BK248; clear HK; clear HB; have HO255 := n0_; have HO261 := n1_; have HI0 := n2_; have BK248 := n3_; have HK := n4_; have HB := n5_; have BK263 := n6_; have GW263 := n7_; have GE263 := n8_; have NB248_263 := n9_; have NB263_248 := n10_; have NB0_263 := n11_; have NB263_0 := n12_; clear n0_ n1_ n2_ n3_ n4_ n5_ n6_ n7_ n8_ n9_ n10_ n11_ n12_; clear hb hbox hg; have hnb87 := NB263_248.out; have hnc87 := NB248_263.out; have hnb88 := NB263_0.out; have hnc88 := NB0_263.out; obtain ⟨hcz89_0, hcz89_1, hcz89_2, hfz89_0, hfz89_1, hfz89_2⟩ := zc3f BK263.out; obtain ⟨Ao90, co90, eo90⟩ := Kd.R_slice HO261.out; subst eo90) | ((with_reducible refine gate_callee (f := 49) rfl ?_); refine goesL_ (some 17) rfl rfl Tryd.func49 (by kernel_rfl) rfl #[.pointer (some ⟨g, 0, none⟩), .int .i64 16] rfl (by (try simp only [zm1, zm2, zm3]); first | done | rfl | (simp only [List.length_drop, List.length_take]; rfl)) ?_; (with_reducible refine (spec_l6Rd_pick.calls k g s0_0 t256 16 t264 t265 w0 _ ?side1 ?side2 A6.out).mono ?_); (case side1 => repeat (first | (with_reducible first | exact HI0.out | apply IsS87.alloc | apply IsS87.drewN | apply IsS87.drew | apply IsS87.set_1 | refine IsS87.far ?_ NB0_248.out _ | refine IsS87.far ?_ NB0_263.out _) | exact HI0.out)); (case side2 => exact zB3 HB.out (IsS87.ge HI0.out) GE248.out GE263.out); rintro e w91 ⟨rfl, hi, hb, hk⟩; refine ⟨_, rfl, ?_⟩; have n0_ := Aside0.mk (KeepBut.blk hk (g' := gb248) (o := .cells #[.int .i64 0, .int .i64 0, .slice none 0 0] 38 (0, 0)) (by (with_reducible repeat (first | refine blk_drewN ?_ _ | refine blk_drew ?_ | refine blk_alloc ?_ _)); refine blk_far ?_ NB248_263.out _; (with_reducible repeat (first | refine blk_drewN ?_ _ | refine blk_drew ?_ | refine blk_alloc ?_ _)); refine blk_far ?_ NB248_263.out _; (with_reducible repeat (first | refine blk_drewN ?_ _ | refine blk_drew ?_ | refine blk_alloc ?_ _)); refine blk_far ?_ NB248_263.out _; exact zK BK248.out) NB248_0.out (by simp)); have n1_ := Aside0.mk (Kd.N_mono (Kd.N_keep (Kd.N_mono (ok := fun k_ => (((k_ ≠ gb248 ∧ k_ ≠ g) ∧ some k_ ≠ (.slice Ao90 t259.length co90 : Value).ownBlock) ∧ k_ ≠ gb263)) (by exact zN (Kd.N_mono (Kd.N_far (p := ⟨gb263, 2, none⟩) (Kd.N_far (p := ⟨gb263, 1, none⟩) (Kd.N_far (p := ⟨gb263, 0, none⟩) (Kd.N_mono HO255.out (fun k_ hk => (⟨hk, hk.2⟩ : _ ∧ k_ ≠ gb263))) (fun _ hk => hk.2) (.int .i64 t257)) (fun _ hk => hk.2) (.int .i64 t258)) (fun _ hk => hk.2) (.slice Ao90 t259.length co90)) (fun _ h_ => h_.1))) (fun k_ hk_ => (⟨hk_, hk_.1.1.2⟩ : _ ∧ k_ ≠ g))) hk (fun _ h => h.2)) (fun _ h => h.1)); have n2_ := Aside0.mk (Kd.R_mono (Kd.R_keep (IsS87.apart (show IsS87 w0 _ g s0_0 t256 from by repeat (first | (with_reducible first | exact HI0.out | apply IsS87.alloc | apply IsS87.drewN | apply IsS87.drew | apply IsS87.set_1 | refine IsS87.far ?_ NB0_248.out _ | refine IsS87.far ?_ NB0_263.out _) | exact HI0.out)) (by exact zR (Kd.R_mono (Kd.R_far (p := ⟨gb263, 2, none⟩) (Kd.R_far (p := ⟨gb263, 1, none⟩) (Kd.R_far (p := ⟨gb263, 0, none⟩) (Kd.R_types HO261.out BK263.out (by decide)) (fun _ hk => hk.2) (.int .i64 t257)) (fun _ hk => hk.2) (.int .i64 t258)) (fun _ hk => hk.2) (.slice Ao90 t259.length co90)) (fun _ h_ => h_.1))) (by decide)) hk (fun _ h => h.2)) (fun _ h => h.1)); have n3_ := Aside0.mk (KeepBut.blk hk (g' := gb263) (o := .cells #[.int .i64 t257, .int .i64 t258, .slice Ao90 t259.length co90] 38 (0, 0)) (by (with_reducible repeat (first | refine blk_drewN ?_ _ | refine blk_drew ?_ | refine blk_alloc ?_ _)); refine blk_put (cs := #[.int .i64 t257, .int .i64 t258, .slice none 0 0]) ?_ 2 _ rfl; (with_reducible repeat (first | refine blk_drewN ?_ _ | refine blk_drew ?_ | refine blk_alloc ?_ _)); refine blk_put (cs := #[.int .i64 t257, .int .i64 0, .slice none 0 0]) ?_ 1 _ rfl; (with_reducible repeat (first | refine blk_drewN ?_ _ | refine blk_drew ?_ | refine blk_alloc ?_ _)); refine blk_put (cs := #[.int .i64 0, .int .i64 0, .slice none 0 0]) ?_ 0 _ rfl; exact zK BK263.out) NB263_0.out (by simp)); have n4_ := Aside0.mk (KeepBut.trans (by repeat (first | (with_reducible first | exact HK.out | apply KeepBut.set_ | apply keep_drewN | apply keep_drew | apply keep_alloc | refine keep_far ?_ GW248.out _ | refine keep_far ?_ GW263.out _) | exact HK.out)) hk (.inl rfl)); have n5_ := Aside0.mk (hb); have n6_ := Aside0.mk (hi); clear BK248; clear HO255; clear HO261; clear BK263; clear HK; clear HB; clear HI0; have BK248 := n0_; have HO255 := n1_; have HO261 := n2_; have BK263 := n3_; have HK := n4_; have HB := n5_; have HI0 := n6_; clear n0_ n1_ n2_ n3_ n4_ n5_ n6_; (try clear hb); (try clear hb2); (try clear hk); (try clear hi); obtain ⟨hcz92_0, hcz92_1, hcz92_2, hfz92_0, hfz92_1, hfz92_2⟩ := zc3f BK263.out; have hnb93 := NB248_0.out; have hnc93 := NB0_248.out; obtain ⟨hcz94_0, hcz94_1, hcz94_2, hfz94_0, hfz94_1, hfz94_2⟩ := zc3f BK248.out))
    refine bodyPost_ret (results_cell_row rfl _ _ gb248 38 #[.int .i64 t257, .int .i64 t258, .slice Ao90 t259.length co90] (0, 0) _ rfl (by (with_reducible repeat (first | refine blk_drewN ?_ _ | refine blk_drew ?_ | refine blk_alloc ?_ _)); refine blk_put (cs := #[.int .i64 t257, .int .i64 t258, .slice none 0 0]) ?_ 2 _ rfl; (with_reducible repeat (first | refine blk_drewN ?_ _ | refine blk_drew ?_ | refine blk_alloc ?_ _)); refine blk_put (cs := #[.int .i64 t257, .int .i64 0, .slice none 0 0]) ?_ 1 _ rfl; (with_reducible repeat (first | refine blk_drewN ?_ _ | refine blk_drew ?_ | refine blk_alloc ?_ _)); refine blk_put (cs := #[.int .i64 0, .int .i64 0, .slice none 0 0]) ?_ 0 _ rfl; exact zK BK248.out) Tryd.underlying38 rfl (by kernel_rfl)) rfl ?_
    exact ⟨_, by first | rfl | (simp [errW_none, errW_some] <;> rfl) | (simp [*, errW_none, errW_some] <;> rfl), by exact zR (Kd.R_mono (Kd.R_far (p := ⟨gb248, 2, none⟩) (Kd.R_far (p := ⟨gb248, 1, none⟩) (Kd.R_far (p := ⟨gb248, 0, none⟩) (Kd.R_types HO261.out BK248.out (by decide)) (fun _ hk => hk.2) (.int .i64 t257)) (fun _ hk => hk.2) (.int .i64 t258)) (fun _ hk => hk.2) (.slice Ao90 t259.length co90)) (fun _ hk => trivial)), by repeat (first | (with_reducible first | exact HI0.out | apply IsS87.alloc | apply IsS87.drewN | apply IsS87.drew | apply IsS87.set_1 | refine IsS87.far ?_ NB0_248.out _ | refine IsS87.far ?_ NB0_263.out _) | exact HI0.out), by exact zB3 HB.out (IsS87.ge HI0.out) GE248.out GE263.out, by repeat (first | (with_reducible first | exact HK.out | apply KeepBut.set_ | apply keep_drewN | apply keep_drew | apply keep_alloc | refine keep_far ?_ GW248.out _ | refine keep_far ?_ GW263.out _) | exact HK.out)⟩

/-! ### spec_DrawIndexText: function 21 -/
def spec_DrawIndexText.f (k : Nat) (l0 : List Int) : Option (Int × Int × (List (S73))) := (spec_l6Open.f l0).bind fun bt288 => ((spec_l71Index.f k bt288.1 bt288.2).bind fun bt291 => (some (bt291.1, bt291.2.1, bt291.2.2.1)))
theorem spec_DrawIndexText.mono : ∀ a0 k, LeO (spec_DrawIndexText.f k a0) (spec_DrawIndexText.f (k + 1) a0) := by
 intro a0 k
 unfold spec_DrawIndexText.f
 repeat' first
   | (with_reducible exact spec_l71Index.mono _ _ _)
   | (with_reducible exact LeO.refl _)
   | (with_reducible exact LeO.none _)
   | (with_reducible refine LeO.ite ?_ ?_)
   | (with_reducible refine LeO.bind ?_ (fun _ => ?_))
   | exact spec_l71Index.mono _ _ _
   | exact LeO.none _
   | refine LeO.ite ?_ ?_
   | refine LeO.bind ?_ (fun _ => ?_)
set_option maxHeartbeats 8000000 in
set_option maxRecDepth 100000 in
theorem spec_DrawIndexText.calls (k : Nat) (A0 : Option Addr) (c0 : Nat) (l0 : List Int) (r1 : Int) (r2 : Int) (r3 : List (S73)) (w : World) (hr0 : Kd.C (Kd.int .u8) w A0 l0.length l0) (hc0 : l0.length ≤ c0) (h : spec_DrawIndexText.f k l0 = some (r1, r2, r3)) :
  Calls Tryd.prog 21 #[.slice A0 l0.length c0] w fun e w' => ∃ v2_ : Value, e = .returned (.agg #[.int .i64 r1, .int .i64 r2, v2_]) ∧ Kd.R k73 73 w' w.heap.size (fun _ => True) v2_ r3 ∧ Below w.heap.size w w' := by
 have hu38 := Tryd.underlying38
 have HR0 := Aside0.mk hr0
 have HC0 := Aside0.mk hc0
 clear hr0 hc0
 have HB := Aside0.mk (Below.refl w.heap.size w)
 have H : ((spec_l6Open.f l0).bind fun bt288 => ((spec_l71Index.f k bt288.1 bt288.2).bind fun bt291 => (some (bt291.1, bt291.2.1, bt291.2.2.1)))) = some (r1, r2, r3) := h
 clear h
 replace H := Option.bind_eq_some_iff.mp H
 obtain ⟨⟨t288, t289⟩, A20, H⟩ := H
 replace H : ((spec_l71Index.f k t288 t289).bind fun bt291 => (some (bt291.1, bt291.2.1, bt291.2.2.1))) = some (r1, r2, r3) := H
 have A2 := Aside0.mk A20
 clear A20
 replace H := Option.bind_eq_some_iff.mp H
 obtain ⟨⟨t291, t292, t293, t296⟩, A30, H⟩ := H
 replace H : (some (t291, t292, t293)) = some (r1, r2, r3) := H
 have A3 := Aside0.mk A30
 clear A30
 simp only [Option.some.injEq, Prod.mk.injEq] at H
 obtain ⟨rfl, rfl, rfl⟩ := H
 go_enter Tryd.func21, Tryd.ntmps21
 go_wp2_with (first | ((with_reducible refine gate_dst (N := 2) rfl ?_); refine box_event ?hg (N := 2) ?hd (cs := #[.int .i64 0, .int .i64 0, .slice none 0 0]) (t := 38) ?hr ?_; (case hd => rfl); (case hg => rfl); (case hr => first | (go_simp; done) | (go_simp; rfl)); intro gb287 hg w4 hbox hb; have n0_ := Aside0.mk (below_step (by exact zB HB.out) hb); have n1_ := Aside0.mk (hbox); have n2_ := Aside0.mk ((by rw [hg]; exact (below_size (by exact zB HB.out)) : w.heap.size ≤ gb287)); have n3_ := Aside0.mk ((by rw [hg]; exact (below_size (by exact zB HB.out)) : w.heap.size ≤ gb287)); clear HB; have HB := n0_; have BK287 := n1_; have GW287 := n2_; have GE287 := n3_; clear n0_ n1_ n2_ n3_; clear hb hbox hg) | ((with_reducible refine gate_callee (f := 24) rfl ?_); refine goesL_ (some 4) rfl rfl Tryd.func24 (by kernel_rfl) rfl #[.slice A0 l0.length c0] rfl (by (try simp only [zm1, zm2, zm3]); first | done | rfl | (simp only [List.length_drop, List.length_take]; rfl)) ?_; (with_reducible refine (spec_l6Open.calls _ _ l0 t288 t289 w _ ?side1 ?side2 ?side3 A2.out).mono ?_); (case side1 => exact zB1 HB.out GE287.out); (case side2 => exact HR0.out); (case side3 => exact HC0.out); rintro e w5 ⟨g290, rfl, hi, hb, hb2⟩; refine ⟨_, rfl, ?_⟩; have n0_ := Aside0.mk (blk_below (g := gb287) (o := .cells #[.int .i64 0, .int .i64 0, .slice none 0 0] 38 (0, 0)) (by exact zK BK287.out) hb2); have n1_ := Aside0.mk (hb); have n2_ := Aside0.mk (hi); have n3_ := Aside0.mk (IsS87.ne_blk hi (blk_below (g := gb287) (o := .cells #[.int .i64 0, .int .i64 0, .slice none 0 0] 38 (0, 0)) (by exact zK BK287.out) hb2) (by decide)); have n4_ := Aside0.mk (Ne.symm (IsS87.ne_blk hi (blk_below (g := gb287) (o := .cells #[.int .i64 0, .int .i64 0, .slice none 0 0] 38 (0, 0)) (by exact zK BK287.out) hb2) (by decide))); clear BK287; clear HB; have BK287 := n0_; have HB := n1_; have HI290 := n2_; have NB290_287 := n3_; have NB287_290 := n4_; clear n0_ n1_ n2_ n3_ n4_; (try clear hb); (try clear hb2); (try clear hk); (try clear hi)) | ((with_reducible refine gate_callee (f := 46) rfl ?_); refine goesL_ (some 5) rfl rfl Tryd.func46 (by kernel_rfl) rfl #[.pointer (some ⟨g290, 0, none⟩)] rfl (by (try simp only [zm1, zm2, zm3]); first | done | rfl | (simp only [List.length_drop, List.length_take]; rfl)) ?_; (with_reducible refine (spec_l71Index.calls k g290 t288 t289 t291 t292 t293 t296 w _ ?side1 ?side2 A3.out).mono ?_); (case side1 => repeat (first | (with_reducible first | exact HI290.out | apply IsS87.alloc | apply IsS87.drewN | apply IsS87.drew | apply IsS87.set_1 | refine IsS87.far ?_ NB290_287.out _) | exact HI290.out)); (case side2 => exact zB2 HB.out (IsS87.ge HI290.out) GE287.out); rintro e w6 ⟨v294, rfl, ho0, hi, hb, hk⟩; refine ⟨_, rfl, ?_⟩; have n0_ := Aside0.mk (KeepBut.blk hk (g' := gb287) (o := .cells #[.int .i64 0, .int .i64 0, .slice none 0 0] 38 (0, 0)) (by exact zK BK287.out) NB287_290.out (by simp)); have n1_ := Aside0.mk (Kd.R_lower ho0 (below_size (by exact zB2 HB.out (IsS87.ge HI290.out) GE287.out))); have n2_ := Aside0.mk (hb); have n3_ := Aside0.mk (hi); clear BK287; clear HB; clear HI290; have BK287 := n0_; have HO295 := n1_; have HB := n2_; have HI290 := n3_; clear n0_ n1_ n2_ n3_; (try clear hb); (try clear hb2); (try clear hk); (try clear hi); (try clear ho0); have hnb7 := NB287_290.out; have hnc7 := NB290_287.out; obtain ⟨hcz8_0, hcz8_1, hcz8_2, hfz8_0, hfz8_1, hfz8_2⟩ := zc3f BK287.out; obtain ⟨Ao9, co9, eo9⟩ := Kd.R_slice HO295.out; subst eo9))
 refine bodyPost_ret (results_cell_row rfl _ _ gb287 38 #[.int .i64 t291, .int .i64 t292, .slice Ao9 t293.length co9] (0, 0) _ rfl (by (with_reducible repeat (first | refine blk_drewN ?_ _ | refine blk_drew ?_ | refine blk_alloc ?_ _)); refine blk_put (cs := #[.int .i64 t291, .int .i64 t292, .slice none 0 0]) ?_ 2 _ rfl; (with_reducible repeat (first | refine blk_drewN ?_ _ | refine blk_drew ?_ | refine blk_alloc ?_ _)); refine blk_put (cs := #[.int .i64 t291, .int .i64 0, .slice none 0 0]) ?_ 1 _ rfl; (with_reducible repeat (first | refine blk_drewN ?_ _ | refine blk_drew ?_ | refine blk_alloc ?_ _)); refine blk_put (cs := #[.int .i64 0, .int .i64 0, .slice none 0 0]) ?_ 0 _ rfl; exact zK BK287.out) Tryd.underlying38 rfl (by kernel_rfl)) rfl ?_
 exact ⟨_, by first | rfl | (simp [errW_none, errW_some] <;> rfl) | (simp [*, errW_none, errW_some] <;> rfl), by exact zR (Kd.R_mono (Kd.R_far (p := ⟨gb287, 2, none⟩) (Kd.R_far (p := ⟨gb287, 1, none⟩) (Kd.R_far (p := ⟨gb287, 0, none⟩) (Kd.R_types HO295.out BK287.out (by decide)) (fun _ hk => hk.2) (.int .i64 t291)) (fun _ hk => hk.2) (.int .i64 t292)) (fun _ hk => hk.2) (.slice Ao9 t293.length co9)) (fun _ hk => trivial)), by exact zB2 HB.out (IsS87.ge HI290.out) GE287.out⟩

/-! ### laws_luMetas: function 47 -/
def laws_luMetas.l0 : Nat → List (S73) → List (S73) → Int → Option (Bool)
 | 0, _, _, _ => none
 | k + 1, x0, x1, x5 => if x5 < (x0.length : Int) then (if 0 ≤ x5 then (if x5 < (x1.length : Int) then (if (!(((rd_T73 x0 x5).f0) == ((rd_T73 x1 x5).f0)) || (!(((rd_T73 x0 x5).f1) == ((rd_T73 x1 x5).f1)) || (!(((rd_T73 x0 x5).f2) == ((rd_T73 x1 x5).f2))))) = true then (some false) else (laws_luMetas.l0 k x0 x1 (wrap64 (x5 + 1)))) else (none)) else (none)) else (some true)
def laws_luMetas.f (k : Nat) (l0 : List (S73)) (l1 : List (S73)) : Option (Bool) := if (l0.length : Int) = (l1.length : Int) then (laws_luMetas.l0 k l0 l1 0) else (some false)
theorem laws_luMetas.mono_l : ∀ k, (∀ y0 y1 y2, LeO (laws_luMetas.l0 k y0 y1 y2) (laws_luMetas.l0 (k + 1) y0 y1 y2))
 | 0 => fun _ _ _ r h => by simp [laws_luMetas.l0] at h
 | k + 1 => by
  have ih0 := laws_luMetas.mono_l k
  ·intro y0 y1 y2
   unfold laws_luMetas.l0
   repeat' first
   | (with_reducible exact ih0 _ _ _)
   | (with_reducible exact LeO.refl _)
   | (with_reducible exact LeO.none _)
   | (with_reducible refine LeO.ite ?_ ?_)
   | (with_reducible refine LeO.bind ?_ (fun _ => ?_))
   | exact ih0 _ _ _
   | exact LeO.none _
   | refine LeO.ite ?_ ?_
   | refine LeO.bind ?_ (fun _ => ?_)
theorem laws_luMetas.mono : ∀ a0 a1 k, LeO (laws_luMetas.f k a0 a1) (laws_luMetas.f (k + 1) a0 a1) := by
 intro a0 a1 k
 have ih0 := laws_luMetas.mono_l k
 unfold laws_luMetas.f
 repeat' first
   | (with_reducible exact ih0 _ _ _)
   | (with_reducible exact LeO.refl _)
   | (with_reducible exact LeO.none _)
   | (with_reducible refine LeO.ite ?_ ?_)
   | (with_reducible refine LeO.bind ?_ (fun _ => ?_))
   | exact ih0 _ _ _
   | exact LeO.none _
   | refine LeO.ite ?_ ?_
   | refine LeO.bind ?_ (fun _ => ?_)
set_option maxHeartbeats 8000000 in
set_option maxRecDepth 100000 in
theorem laws_luMetas.calls (k : Nat) (A0 : Option Addr) (c0 : Nat) (l0 : List (S73)) (A1 : Option Addr) (c1 : Nat) (l1 : List (S73)) (r : Bool) (w : World) (hr0 : Kd.C k73 w A0 l0.length l0) (hc0 : l0.length ≤ c0) (hr1 : Kd.C k73 w A1 l1.length l1) (hc1 : l1.length ≤ c1) (h : laws_luMetas.f k l0 l1 = some r) :
  Calls Tryd.prog 47 #[.slice A0 l0.length c0, .slice A1 l1.length c1] w fun e w' => e = .returned (.bool r) ∧ Drawn0 w w' := by
 have hu73 := Tryd.underlying73
 have HR0 := Aside0.mk hr0
 have HC0 := Aside0.mk hc0
 clear hr0 hc0
 have HR1 := Aside0.mk hr1
 have HC1 := Aside0.mk hc1
 clear hr1 hc1
 have H : (if (l0.length : Int) = (l1.length : Int) then (laws_luMetas.l0 k l0 l1 0) else (some false)) = some r := h
 clear h
 by_cases c3 : (l0.length : Int) = (l1.length : Int)
 ·rw [if_pos c3] at H
  have c3b0 : ((l0.length : Int) == (l1.length : Int)) = true := beq_iff_eq.mpr c3
  have c3b1 : ((l0.length : Int) != (l1.length : Int)) = false := bne_eq_false_iff_eq.mpr c3
  have c3b2 : (l0.length == l1.length) = true := by first | simpa using c3 | (simp at c3 ⊢; omega)
  clear c3
  have H' := Aside0.mk H
  clear H
  go_enter Tryd.func47, Tryd.ntmps47
  go_wp2
  repeat (go_quiet (fail); try go_wp2)
  go_loopg [5] k (fun kq v5 w' => ∃ (x5_1 : Int), v5 = .int .i64 x5_1 ∧ Aside0 (laws_luMetas.l0 kq l0 l1 x5_1 = some r) ∧ Aside0 (kq ≤ k) ∧ Drawn0 w w')
  case atStart => exact ⟨(0), (by first | rfl | (simp; done) | (simp [*]; done)), H', ⟨Nat.le_refl _⟩, by repeat (first | exact Drawn0.refl _ | apply Drawn0.step)⟩
  case round =>
   clear H'
   try clear c1
   try clear p2
   try clear c3
   try clear c3b0
   try clear c3b1
   try clear c3b2
   obtain ⟨x5_1, rfl, HA, HK1, ⟨m1, rfl⟩⟩ := hrel
   cases gk with
   | zero => exact absurd HA.out (by simp [laws_luMetas.l0])
   | succ k1 =>
    have H := HA.out
    clear HA
    simp only [laws_luMetas.l0] at H
    by_cases c4 : x5_1 < (l0.length : Int)
    ·rw [if_pos c4] at H
     have c4b0 : decide (x5_1 < (l0.length : Int)) = true := decide_eq_true c4
     clear c4
     by_cases c5 : 0 ≤ x5_1
     ·rw [if_pos c5] at H
      have c5b0 : decide (0 ≤ x5_1) = true := decide_eq_true c5
      clear c5
      by_cases c6 : x5_1 < (l1.length : Int)
      ·rw [if_pos c6] at H
       have c6b0 : decide (x5_1 < (l1.length : Int)) = true := decide_eq_true c6
       clear c6
       by_cases c7 : (!(((rd_T73 l0 x5_1).f0) == ((rd_T73 l1 x5_1).f0)) || (!(((rd_T73 l0 x5_1).f1) == ((rd_T73 l1 x5_1).f1)) || (!(((rd_T73 l0 x5_1).f2) == ((rd_T73 l1 x5_1).f2))))) = true
       ·rw [if_pos c7] at H
        have c7b0 : (!(((rd_T73 l0 x5_1).f0) == ((rd_T73 l1 x5_1).f0)) || (!(((rd_T73 l0 x5_1).f1) == ((rd_T73 l1 x5_1).f1)) || (!(((rd_T73 l0 x5_1).f2) == ((rd_T73 l1 x5_1).f2))))) = true := c7
        clear c7
        obtain rfl := Option.some.inj H
        have p297 : 0 ≤ (x5_1 : Int) := of_decide_eq_true (by first | (with_reducible assumption) | assumption)
        have q297 : x5_1 < (l0.length : Int) := of_decide_eq_true (by first | (with_reducible assumption) | assumption)
        obtain ⟨ad297, e297, hx297_0, hx297_1, hx297_2⟩ := at_T73 HR0.out x5_1 p297 q297
        cases e297
        replace p297 := eq_true p297
        replace q297 := eq_true q297
        have p298 : 0 ≤ (x5_1 : Int) := of_decide_eq_true (by first | (with_reducible assumption) | assumption)
        have q298 : x5_1 < (l1.length : Int) := of_decide_eq_true (by first | (with_reducible assumption) | assumption)
        obtain ⟨ad298, e298, hx298_0, hx298_1, hx298_2⟩ := at_T73 HR1.out x5_1 p298 q298
        cases e298
        replace p298 := eq_true p298
        replace q298 := eq_true q298
        by_cases hE0_ : (rd_T73 l0 x5_1).f0 = (rd_T73 l1 x5_1).f0
        · replace hE0_ := eq_true hE0_
          by_cases hE1_ : (rd_T73 l0 x5_1).f1 = (rd_T73 l1 x5_1).f1
          · replace hE1_ := eq_true hE1_
            by_cases hE2_ : (rd_T73 l0 x5_1).f2 = (rd_T73 l1 x5_1).f2
            · exact absurd c7b0 (by rw [of_eq_true hE0_, of_eq_true hE1_, hE2_]; simp)
            · replace hE2_ := eq_false hE2_
              go_wp2
              repeat (go_quiet (fail); try go_wp2)
              go_ret
              exact ⟨by first | rfl | (simp; done) | (simp [*]; done), by repeat (first | exact Drawn0.refl _ | apply Drawn0.step)⟩
          · replace hE1_ := eq_false hE1_
            go_wp2
            repeat (go_quiet (fail); try go_wp2)
            go_ret
            exact ⟨by first | rfl | (simp; done) | (simp [*]; done), by repeat (first | exact Drawn0.refl _ | apply Drawn0.step)⟩
        · replace hE0_ := eq_false hE0_
          go_wp2
          repeat (go_quiet (fail); try go_wp2)
          go_ret
          exact ⟨by first | rfl | (simp; done) | (simp [*]; done), by repeat (first | exact Drawn0.refl _ | apply Drawn0.step)⟩
       ·rw [if_neg c7] at H
        have c7b0 : (!(((rd_T73 l0 x5_1).f0) == ((rd_T73 l1 x5_1).f0)) || (!(((rd_T73 l0 x5_1).f1) == ((rd_T73 l1 x5_1).f1)) || (!(((rd_T73 l0 x5_1).f2) == ((rd_T73 l1 x5_1).f2))))) = false := by simpa using c7
        clear c7
        have H' := Aside0.mk H
        clear H
        have p297 : 0 ≤ (x5_1 : Int) := of_decide_eq_true (by first | (with_reducible assumption) | assumption)
        have q297 : x5_1 < (l0.length : Int) := of_decide_eq_true (by first | (with_reducible assumption) | assumption)
        obtain ⟨ad297, e297, hx297_0, hx297_1, hx297_2⟩ := at_T73 HR0.out x5_1 p297 q297
        cases e297
        replace p297 := eq_true p297
        replace q297 := eq_true q297
        have p298 : 0 ≤ (x5_1 : Int) := of_decide_eq_true (by first | (with_reducible assumption) | assumption)
        have q298 : x5_1 < (l1.length : Int) := of_decide_eq_true (by first | (with_reducible assumption) | assumption)
        obtain ⟨ad298, e298, hx298_0, hx298_1, hx298_2⟩ := at_T73 HR1.out x5_1 p298 q298
        cases e298
        replace p298 := eq_true p298
        replace q298 := eq_true q298
        have hE0_ := c7b0
        rw [Bool.or_eq_false_iff, Bool.or_eq_false_iff, Bool.not_eq_false', Bool.not_eq_false', Bool.not_eq_false', beq_iff_eq, beq_iff_eq, beq_iff_eq] at hE0_
        obtain ⟨hE1_, hE2_, hE3_⟩ := hE0_
        replace hE1_ := eq_true hE1_
        replace hE2_ := eq_true hE2_
        replace hE3_ := eq_true hE3_
        go_wp2
        repeat (go_quiet (fail); try go_wp2)
        go_roundg k1
        case measure => have := HK1.out; omega
        case rel => exact ⟨(wrap64 (x5_1 + 1)), (by first | rfl | (simp; done) | (simp [*]; done)), H', ⟨by have := HK1.out; omega⟩, by repeat (first | exact Drawn0.refl _ | apply Drawn0.step)⟩
      ·rw [if_neg c6] at H
       exact absurd H (by simp)
     ·rw [if_neg c5] at H
      exact absurd H (by simp)
    ·rw [if_neg c4] at H
     have c4b0 : decide (x5_1 < (l0.length : Int)) = false := decide_eq_false c4
     clear c4
     obtain rfl := Option.some.inj H
     go_wp2
     repeat (go_quiet (fail); try go_wp2)
     go_ret
     exact ⟨by first | rfl | (simp; done) | (simp [*]; done), by repeat (first | exact Drawn0.refl _ | apply Drawn0.step)⟩
 ·rw [if_neg c3] at H
  have c3b0 : ((l0.length : Int) == (l1.length : Int)) = false := beq_eq_false_iff_ne.mpr c3
  have c3b1 : ((l0.length : Int) != (l1.length : Int)) = true := bne_iff_ne.mpr c3
  have c3b2 : (l0.length == l1.length) = false := by first | simpa using c3 | (simp at c3 ⊢; omega)
  obtain rfl := Option.some.inj H
  go_enter Tryd.func47, Tryd.ntmps47
  go_wp2
  repeat (go_quiet (fail); try go_wp2)
  go_ret
  exact ⟨by first | rfl | (simp; done) | (simp [*]; done), by repeat (first | exact Drawn0.refl _ | apply Drawn0.step)⟩

/-! ### laws_luIndex: function 22 -/
def laws_luIndex.f (k : Nat) (a0_0 : Int) (a0_1 : Int) (l0_2 : List (S73)) (a1_0 : Int) (a1_1 : Int) (l1_2 : List (S73)) : Option (Bool) := if a0_0 = a1_0 then (if a0_1 = a1_1 then ((laws_luMetas.f k l0_2 l1_2).bind fun t301 => (some t301)) else (some false)) else (some false)
theorem laws_luIndex.mono : ∀ a0 a1 a2 a3 a4 a5 k, LeO (laws_luIndex.f k a0 a1 a2 a3 a4 a5) (laws_luIndex.f (k + 1) a0 a1 a2 a3 a4 a5) := by
 intro a0 a1 a2 a3 a4 a5 k
 unfold laws_luIndex.f
 repeat' first
   | (with_reducible exact laws_luMetas.mono _ _ _)
   | (with_reducible exact LeO.refl _)
   | (with_reducible exact LeO.none _)
   | (with_reducible refine LeO.ite ?_ ?_)
   | (with_reducible refine LeO.bind ?_ (fun _ => ?_))
   | exact laws_luMetas.mono _ _ _
   | exact LeO.none _
   | refine LeO.ite ?_ ?_
   | refine LeO.bind ?_ (fun _ => ?_)
set_option maxHeartbeats 8000000 in
set_option maxRecDepth 100000 in
theorem laws_luIndex.calls (k : Nat) (a0_0 : Int) (a0_1 : Int) (A0_2 : Option Addr) (c0_2 : Nat) (l0_2 : List (S73)) (a1_0 : Int) (a1_1 : Int) (A1_2 : Option Addr) (c1_2 : Nat) (l1_2 : List (S73)) (r : Bool) (w : World) (hr0_2 : Kd.C k73 w A0_2 l0_2.length l0_2) (hc0_2 : l0_2.length ≤ c0_2) (hr1_2 : Kd.C k73 w A1_2 l1_2.length l1_2) (hc1_2 : l1_2.length ≤ c1_2) (h : laws_luIndex.f k a0_0 a0_1 l0_2 a1_0 a1_1 l1_2 = some r) :
  Calls Tryd.prog 22 #[.agg #[.int .i64 a0_0, .int .i64 a0_1, .slice A0_2 l0_2.length c0_2], .agg #[.int .i64 a1_0, .int .i64 a1_1, .slice A1_2 l1_2.length c1_2]] w fun e w' => e = .returned (.bool r) ∧ Below w.heap.size w w' := by
 have hu38 := Tryd.underlying38
 have HR0_2 := Aside0.mk hr0_2
 have HC0_2 := Aside0.mk hc0_2
 clear hr0_2 hc0_2
 have HR1_2 := Aside0.mk hr1_2
 have HC1_2 := Aside0.mk hc1_2
 clear hr1_2 hc1_2
 have HB := Aside0.mk (Below.refl w.heap.size w)
 have H : (if a0_0 = a1_0 then (if a0_1 = a1_1 then ((laws_luMetas.f k l0_2 l1_2).bind fun t301 => (some t301)) else (some false)) else (some false)) = some r := h
 clear h
 by_cases c3 : a0_0 = a1_0
 ·rw [if_pos c3] at H
  have c3b0 : (a0_0 == a1_0) = true := beq_iff_eq.mpr c3
  have c3b1 : (a0_0 != a1_0) = false := bne_eq_false_iff_eq.mpr c3
  clear c3
  by_cases c4 : a0_1 = a1_1
  ·rw [if_pos c4] at H
   have c4b0 : (a0_1 == a1_1) = true := beq_iff_eq.mpr c4
   have c4b1 : (a0_1 != a1_1) = false := bne_eq_false_iff_eq.mpr c4
   clear c4
   replace H := Option.bind_eq_some_iff.mp H
   obtain ⟨t301, A50, H⟩ := H
   replace H : (some t301) = some r := H
   have A5 := Aside0.mk A50
   clear A50
   obtain rfl := Option.some.inj H
   go_enter Tryd.func22, Tryd.ntmps22
   go_wp2_with (first | ((with_reducible refine gate_dst (N := 2) rfl ?_); refine box_event ?hg (N := 2) ?hd (cs := #[.int .i64 a0_0, .int .i64 a0_1, .slice A0_2 l0_2.length c0_2]) (t := 38) ?hr ?_; (case hd => rfl); (case hg => rfl); (case hr => first | (go_simp; done) | (go_simp; rfl)); intro gb299 hg w6 hbox hb; have n0_ := Aside0.mk (below_step (by exact zB HB.out) hb); have n1_ := Aside0.mk (hbox); have n2_ := Aside0.mk ((by rw [hg]; exact (below_size (by exact zB HB.out)) : w.heap.size ≤ gb299)); have n3_ := Aside0.mk ((by rw [hg]; exact (below_size (by exact zB HB.out)) : w.heap.size ≤ gb299)); clear HB; have HB := n0_; have BK299 := n1_; have GW299 := n2_; have GE299 := n3_; clear n0_ n1_ n2_ n3_; clear hb hbox hg) | ((with_reducible refine gate_dst (N := 3) rfl ?_); refine box_event ?hg (N := 3) ?hd (cs := #[.int .i64 a1_0, .int .i64 a1_1, .slice A1_2 l1_2.length c1_2]) (t := 38) ?hr ?_; (case hd => rfl); (case hg => rfl); (case hr => first | (go_simp; done) | (go_simp; rfl)); intro gb300 hg w7 hbox hb; have n0_ := Aside0.mk (blk_below (g := gb299) (o := .cells #[.int .i64 a0_0, .int .i64 a0_1, .slice A0_2 l0_2.length c0_2] 38 (0, 0)) (by exact zK BK299.out) hb); have n1_ := Aside0.mk (below_step (by exact zB1 HB.out GE299.out) hb); have n2_ := Aside0.mk (hbox); have n3_ := Aside0.mk ((by rw [hg]; exact (below_size (by exact zB1 HB.out GE299.out)) : w.heap.size ≤ gb300)); have n4_ := Aside0.mk ((by rw [hg]; exact (below_size (by exact zB1 HB.out GE299.out)) : w.heap.size ≤ gb300)); have n5_ := Aside0.mk ((by rw [hg]; exact Nat.ne_of_lt (blk_lt (g := gb299) (o := .cells #[.int .i64 a0_0, .int .i64 a0_1, .slice A0_2 l0_2.length c0_2] 38 (0, 0)) (by exact zK BK299.out)) : gb299 ≠ gb300)); have n6_ := Aside0.mk ((by rw [hg]; exact Nat.ne_of_gt (blk_lt (g := gb299) (o := .cells #[.int .i64 a0_0, .int .i64 a0_1, .slice A0_2 l0_2.length c0_2] 38 (0, 0)) (by exact zK BK299.out)) : gb300 ≠ gb299)); clear BK299; clear HB; have BK299 := n0_; have HB := n1_; have BK300 := n2_; have GW300 := n3_; have GE300 := n4_; have NB299_300 := n5_; have NB300_299 := n6_; clear n0_ n1_ n2_ n3_ n4_ n5_ n6_; clear hb hbox hg; have hnb8 := NB299_300.out; have hnc8 := NB300_299.out; obtain ⟨hcz9_0, hcz9_1, hcz9_2, hfz9_0, hfz9_1, hfz9_2⟩ := zc3f BK299.out; obtain ⟨hcz10_0, hcz10_1, hcz10_2, hfz10_0, hfz10_1, hfz10_2⟩ := zc3f BK300.out) | (go_at_call 47; (with_reducible refine (laws_luMetas.calls k _ _ l0_2 _ _ l1_2 t301 _ ?side1 ?side2 ?side3 ?side4 A5.out).mono ?_); (case side1 => exact zC (Kd.C_below HR0_2.out HB.out)); (case side2 => exact HC0_2.out); (case side3 => exact zC (Kd.C_below HR1_2.out HB.out)); (case side4 => exact HC1_2.out); rintro e w' ⟨rfl, ⟨nd, rfl⟩⟩))
   go_ret
   exact ⟨by first | rfl | (simp [errW_none, errW_some] <;> rfl) | (simp [*, errW_none, errW_some] <;> rfl), by exact zB2 HB.out GE299.out GE300.out⟩
  ·rw [if_neg c4] at H
   have c4b0 : (a0_1 == a1_1) = false := beq_eq_false_iff_ne.mpr c4
   have c4b1 : (a0_1 != a1_1) = true := bne_iff_ne.mpr c4
   obtain rfl := Option.some.inj H
   go_enter Tryd.func22, Tryd.ntmps22
   go_wp2_with (first | ((with_reducible refine gate_dst (N := 2) rfl ?_); refine box_event ?hg (N := 2) ?hd (cs := #[.int .i64 a0_0, .int .i64 a0_1, .slice A0_2 l0_2.length c0_2]) (t := 38) ?hr ?_; (case hd => rfl); (case hg => rfl); (case hr => first | (go_simp; done) | (go_simp; rfl)); intro gb299 hg w11 hbox hb; have n0_ := Aside0.mk (below_step (by exact zB HB.out) hb); have n1_ := Aside0.mk (hbox); have n2_ := Aside0.mk ((by rw [hg]; exact (below_size (by exact zB HB.out)) : w.heap.size ≤ gb299)); have n3_ := Aside0.mk ((by rw [hg]; exact (below_size (by exact zB HB.out)) : w.heap.size ≤ gb299)); clear HB; have HB := n0_; have BK299 := n1_; have GW299 := n2_; have GE299 := n3_; clear n0_ n1_ n2_ n3_; clear hb hbox hg) | ((with_reducible refine gate_dst (N := 3) rfl ?_); refine box_event ?hg (N := 3) ?hd (cs := #[.int .i64 a1_0, .int .i64 a1_1, .slice A1_2 l1_2.length c1_2]) (t := 38) ?hr ?_; (case hd => rfl); (case hg => rfl); (case hr => first | (go_simp; done) | (go_simp; rfl)); intro gb300 hg w12 hbox hb; have n0_ := Aside0.mk (blk_below (g := gb299) (o := .cells #[.int .i64 a0_0, .int .i64 a0_1, .slice A0_2 l0_2.length c0_2] 38 (0, 0)) (by exact zK BK299.out) hb); have n1_ := Aside0.mk (below_step (by exact zB1 HB.out GE299.out) hb); have n2_ := Aside0.mk (hbox); have n3_ := Aside0.mk ((by rw [hg]; exact (below_size (by exact zB1 HB.out GE299.out)) : w.heap.size ≤ gb300)); have n4_ := Aside0.mk ((by rw [hg]; exact (below_size (by exact zB1 HB.out GE299.out)) : w.heap.size ≤ gb300)); have n5_ := Aside0.mk ((by rw [hg]; exact Nat.ne_of_lt (blk_lt (g := gb299) (o := .cells #[.int .i64 a0_0, .int .i64 a0_1, .slice A0_2 l0_2.length c0_2] 38 (0, 0)) (by exact zK BK299.out)) : gb299 ≠ gb300)); have n6_ := Aside0.mk ((by rw [hg]; exact Nat.ne_of_gt (blk_lt (g := gb299) (o := .cells #[.int .i64 a0_0, .int .i64 a0_1, .slice A0_2 l0_2.length c0_2] 38 (0, 0)) (by exact zK BK299.out)) : gb300 ≠ gb299)); clear BK299; clear HB; have BK299 := n0_; have HB := n1_; have BK300 := n2_; have GW300 := n3_; have GE300 := n4_; have NB299_300 := n5_; have NB300_299 := n6_; clear n0_ n1_ n2_ n3_ n4_ n5_ n6_; clear hb hbox hg; have hnb13 := NB299_300.out; have hnc13 := NB300_299.out; obtain ⟨hcz14_0, hcz14_1, hcz14_2, hfz14_0, hfz14_1, hfz14_2⟩ := zc3f BK299.out; obtain ⟨hcz15_0, hcz15_1, hcz15_2, hfz15_0, hfz15_1, hfz15_2⟩ := zc3f BK300.out))
   go_ret
   exact ⟨by first | rfl | (simp [errW_none, errW_some] <;> rfl) | (simp [*, errW_none, errW_some] <;> rfl), by exact zB2 HB.out GE299.out GE300.out⟩
 ·rw [if_neg c3] at H
  have c3b0 : (a0_0 == a1_0) = false := beq_eq_false_iff_ne.mpr c3
  have c3b1 : (a0_0 != a1_0) = true := bne_iff_ne.mpr c3
  obtain rfl := Option.some.inj H
  go_enter Tryd.func22, Tryd.ntmps22
  go_wp2_with (first | ((with_reducible refine gate_dst (N := 2) rfl ?_); refine box_event ?hg (N := 2) ?hd (cs := #[.int .i64 a0_0, .int .i64 a0_1, .slice A0_2 l0_2.length c0_2]) (t := 38) ?hr ?_; (case hd => rfl); (case hg => rfl); (case hr => first | (go_simp; done) | (go_simp; rfl)); intro gb299 hg w16 hbox hb; have n0_ := Aside0.mk (below_step (by exact zB HB.out) hb); have n1_ := Aside0.mk (hbox); have n2_ := Aside0.mk ((by rw [hg]; exact (below_size (by exact zB HB.out)) : w.heap.size ≤ gb299)); have n3_ := Aside0.mk ((by rw [hg]; exact (below_size (by exact zB HB.out)) : w.heap.size ≤ gb299)); clear HB; have HB := n0_; have BK299 := n1_; have GW299 := n2_; have GE299 := n3_; clear n0_ n1_ n2_ n3_; clear hb hbox hg) | ((with_reducible refine gate_dst (N := 3) rfl ?_); refine box_event ?hg (N := 3) ?hd (cs := #[.int .i64 a1_0, .int .i64 a1_1, .slice A1_2 l1_2.length c1_2]) (t := 38) ?hr ?_; (case hd => rfl); (case hg => rfl); (case hr => first | (go_simp; done) | (go_simp; rfl)); intro gb300 hg w17 hbox hb; have n0_ := Aside0.mk (blk_below (g := gb299) (o := .cells #[.int .i64 a0_0, .int .i64 a0_1, .slice A0_2 l0_2.length c0_2] 38 (0, 0)) (by exact zK BK299.out) hb); have n1_ := Aside0.mk (below_step (by exact zB1 HB.out GE299.out) hb); have n2_ := Aside0.mk (hbox); have n3_ := Aside0.mk ((by rw [hg]; exact (below_size (by exact zB1 HB.out GE299.out)) : w.heap.size ≤ gb300)); have n4_ := Aside0.mk ((by rw [hg]; exact (below_size (by exact zB1 HB.out GE299.out)) : w.heap.size ≤ gb300)); have n5_ := Aside0.mk ((by rw [hg]; exact Nat.ne_of_lt (blk_lt (g := gb299) (o := .cells #[.int .i64 a0_0, .int .i64 a0_1, .slice A0_2 l0_2.length c0_2] 38 (0, 0)) (by exact zK BK299.out)) : gb299 ≠ gb300)); have n6_ := Aside0.mk ((by rw [hg]; exact Nat.ne_of_gt (blk_lt (g := gb299) (o := .cells #[.int .i64 a0_0, .int .i64 a0_1, .slice A0_2 l0_2.length c0_2] 38 (0, 0)) (by exact zK BK299.out)) : gb300 ≠ gb299)); clear BK299; clear HB; have BK299 := n0_; have HB := n1_; have BK300 := n2_; have GW300 := n3_; have GE300 := n4_; have NB299_300 := n5_; have NB300_299 := n6_; clear n0_ n1_ n2_ n3_ n4_ n5_ n6_; clear hb hbox hg; have hnb18 := NB299_300.out; have hnc18 := NB300_299.out; obtain ⟨hcz19_0, hcz19_1, hcz19_2, hfz19_0, hfz19_1, hfz19_2⟩ := zc3f BK299.out; obtain ⟨hcz20_0, hcz20_1, hcz20_2, hfz20_0, hfz20_1, hfz20_2⟩ := zc3f BK300.out))
  go_ret
  exact ⟨by first | rfl | (simp [errW_none, errW_some] <;> rfl) | (simp [*, errW_none, errW_some] <;> rfl), by exact zB2 HB.out GE299.out GE300.out⟩

/-! ### laws_FnIndexOne: function 7 -/
mutual
def laws_FnIndexOne.j0 : Nat → List Int → List Int → Bool → Option (Bool)
 | 0, _, _, _ => none
 | k + 1, x0, x1, x16 => if x16 = true then (some true) else ((spec_DrawIndexText.f k x0).bind fun bt302 => ((spec_DrawIndexText.f k x1).bind fun bt308 => ((impl_IndexText.f k bt302.1 bt302.2.1 bt302.2.2).bind fun t314 => ((impl_IndexText.f k bt308.1 bt308.2.1 bt308.2.2).bind fun t315 => ((spec_IndexText.f k bt302.1 bt302.2.1 bt302.2.2).bind fun t316 => (if t314.toList = t316.toList then ((spec_IndexText.f k bt308.1 bt308.2.1 bt308.2.2).bind fun t317 => (if t315.toList = t317.toList then (if t314.toList = ([] : List UInt8) then (laws_FnIndexOne.j1 k t314 t315 true bt302.1 bt302.2.1 bt302.2.2 bt308.1 bt308.2.1 bt308.2.2) else (laws_FnIndexOne.j1 k t314 t315 (t315.toList == ([] : List UInt8)) bt302.1 bt302.2.1 bt302.2.2 bt308.1 bt308.2.1 bt308.2.2)) else (laws_FnIndexOne.j1 k t314 t315 true bt302.1 bt302.2.1 bt302.2.2 bt308.1 bt308.2.1 bt308.2.2))) else (laws_FnIndexOne.j1 k t314 t315 true bt302.1 bt302.2.1 bt302.2.2 bt308.1 bt308.2.1 bt308.2.2)))))))
def laws_FnIndexOne.j1 : Nat → ByteArray → ByteArray → Bool → Int → Int → List (S73) → Int → Int → List (S73) → Option (Bool)
 | 0, _, _, _, _, _, _, _, _, _ => none
 | k + 1, x7, x8, x42, x308000, x308001, x308002, x314000, x314001, x314002 => if x42 = true then ((spec_IndexText.f k x308000 x308001 x308002).bind fun t318 => (if x7.toList = t318.toList then ((spec_IndexText.f k x314000 x314001 x314002).bind fun t319 => (some (x8.toList == t319.toList))) else (none))) else ((laws_luIndex.f k x308000 x308001 x308002 x314000 x314001 x314002).bind fun t320 => (some ((x7.toList == x8.toList) == t320)))
end
def laws_FnIndexOne.f (k : Nat) (l0 : List Int) (l1 : List Int) : Option (Bool) := if (l0.length : Int) > 1048576 then (laws_FnIndexOne.j0 k l0 l1 true) else (laws_FnIndexOne.j0 k l0 l1 (decide ((l1.length : Int) > 1048576)))
theorem laws_FnIndexOne.mono_l : ∀ k, (∀ y0 y1 y2, LeO (laws_FnIndexOne.j0 k y0 y1 y2) (laws_FnIndexOne.j0 (k + 1) y0 y1 y2)) ∧ (∀ y0 y1 y2 y3 y4 y5 y6 y7 y8, LeO (laws_FnIndexOne.j1 k y0 y1 y2 y3 y4 y5 y6 y7 y8) (laws_FnIndexOne.j1 (k + 1) y0 y1 y2 y3 y4 y5 y6 y7 y8))
 | 0 => ⟨fun _ _ _ r h => by simp [laws_FnIndexOne.j0] at h, fun _ _ _ _ _ _ _ _ _ r h => by simp [laws_FnIndexOne.j1] at h⟩
 | k + 1 => by
  obtain ⟨ih0, ih1⟩ := laws_FnIndexOne.mono_l k
  refine ⟨?_, ?_⟩
  ·intro y0 y1 y2
   unfold laws_FnIndexOne.j0
   repeat' first
   | (with_reducible exact ih0 _ _ _)
   | (with_reducible exact ih1 _ _ _ _ _ _ _ _ _)
   | (with_reducible exact impl_IndexText.mono _ _ _ _)
   | (with_reducible exact laws_luIndex.mono _ _ _ _ _ _ _)
   | (with_reducible exact spec_DrawIndexText.mono _ _)
   | (with_reducible exact spec_IndexText.mono _ _ _ _)
   | (with_reducible exact LeO.refl _)
   | (with_reducible exact LeO.none _)
   | (with_reducible refine LeO.ite ?_ ?_)
   | (with_reducible refine LeO.bind ?_ (fun _ => ?_))
   | exact ih0 _ _ _
   | exact ih1 _ _ _ _ _ _ _ _ _
   | exact impl_IndexText.mono _ _ _ _
   | exact laws_luIndex.mono _ _ _ _ _ _ _
   | exact spec_DrawIndexText.mono _ _
   | exact spec_IndexText.mono _ _ _ _
   | exact LeO.none _
   | refine LeO.ite ?_ ?_
   | refine LeO.bind ?_ (fun _ => ?_)
  ·intro y0 y1 y2 y3 y4 y5 y6 y7 y8
   unfold laws_FnIndexOne.j1
   repeat' first
   | (with_reducible exact ih0 _ _ _)
   | (with_reducible exact ih1 _ _ _ _ _ _ _ _ _)
   | (with_reducible exact impl_IndexText.mono _ _ _ _)
   | (with_reducible exact laws_luIndex.mono _ _ _ _ _ _ _)
   | (with_reducible exact spec_DrawIndexText.mono _ _)
   | (with_reducible exact spec_IndexText.mono _ _ _ _)
   | (with_reducible exact LeO.refl _)
   | (with_reducible exact LeO.none _)
   | (with_reducible refine LeO.ite ?_ ?_)
   | (with_reducible refine LeO.bind ?_ (fun _ => ?_))
   | exact ih0 _ _ _
   | exact ih1 _ _ _ _ _ _ _ _ _
   | exact impl_IndexText.mono _ _ _ _
   | exact laws_luIndex.mono _ _ _ _ _ _ _
   | exact spec_DrawIndexText.mono _ _
   | exact spec_IndexText.mono _ _ _ _
   | exact LeO.none _
   | refine LeO.ite ?_ ?_
   | refine LeO.bind ?_ (fun _ => ?_)
theorem laws_FnIndexOne.mono : ∀ a0 a1 k, LeO (laws_FnIndexOne.f k a0 a1) (laws_FnIndexOne.f (k + 1) a0 a1) := by
 intro a0 a1 k
 obtain ⟨ih0, ih1⟩ := laws_FnIndexOne.mono_l k
 unfold laws_FnIndexOne.f
 repeat' first
   | (with_reducible exact ih0 _ _ _)
   | (with_reducible exact ih1 _ _ _ _ _ _ _ _ _)
   | (with_reducible exact impl_IndexText.mono _ _ _ _)
   | (with_reducible exact laws_luIndex.mono _ _ _ _ _ _ _)
   | (with_reducible exact spec_DrawIndexText.mono _ _)
   | (with_reducible exact spec_IndexText.mono _ _ _ _)
   | (with_reducible exact LeO.refl _)
   | (with_reducible exact LeO.none _)
   | (with_reducible refine LeO.ite ?_ ?_)
   | (with_reducible refine LeO.bind ?_ (fun _ => ?_))
   | exact ih0 _ _ _
   | exact ih1 _ _ _ _ _ _ _ _ _
   | exact impl_IndexText.mono _ _ _ _
   | exact laws_luIndex.mono _ _ _ _ _ _ _
   | exact spec_DrawIndexText.mono _ _
   | exact spec_IndexText.mono _ _ _ _
   | exact LeO.none _
   | refine LeO.ite ?_ ?_
   | refine LeO.bind ?_ (fun _ => ?_)
set_option maxHeartbeats 8000000 in
set_option maxRecDepth 100000 in
theorem laws_FnIndexOne.calls (k : Nat) (A0 : Option Addr) (c0 : Nat) (l0 : List Int) (A1 : Option Addr) (c1 : Nat) (l1 : List Int) (r : Bool) (w : World) (hr0 : Kd.C (Kd.int .u8) w A0 l0.length l0) (hc0 : l0.length ≤ c0) (hr1 : Kd.C (Kd.int .u8) w A1 l1.length l1) (hc1 : l1.length ≤ c1) (hLD : LaidW w) (h : laws_FnIndexOne.f k l0 l1 = some r) :
  Calls Tryd.prog 7 #[.slice A0 l0.length c0, .slice A1 l1.length c1] w fun e w' => e = .returned (.bool r) ∧ Below w.heap.size w w' := by
 have hu38 := Tryd.underlying38
 have HR0 := Aside0.mk hr0
 have HC0 := Aside0.mk hc0
 clear hr0 hc0
 have HR1 := Aside0.mk hr1
 have HC1 := Aside0.mk hc1
 clear hr1 hc1
 have HB := Aside0.mk (Below.refl w.heap.size w)
 have HLD := Aside0.mk hLD
 clear hLD
 have H : (if (l0.length : Int) > 1048576 then (laws_FnIndexOne.j0 k l0 l1 true) else (laws_FnIndexOne.j0 k l0 l1 (decide ((l1.length : Int) > 1048576)))) = some r := h
 clear h
 have HC3 := Aside0.mk H
 clear H
 go_enter Tryd.func7, Tryd.ntmps7
 go_upto_region 1 with (fail)
 go_cut [16] (fun v16 wc => ∃ (kq : Nat) (x16_2 : Bool), v16 = .bool x16_2 ∧ Aside0 (laws_FnIndexOne.j0 kq l0 l1 x16_2 = some r) ∧ Aside0 (kq ≤ k) ∧ Aside0 (Below w.heap.size w wc))
 case first =>
  have H := HC3.out
  clear HC3
  by_cases c4 : (l0.length : Int) > 1048576
  ·rw [if_pos c4] at H
   have c4b0 : decide (1048576 < (l0.length : Int)) = true := decide_eq_true c4
   have c4b1 : decide (1048576 < l0.length) = true := decide_eq_true (by omega)
   clear c4
   (first | rw [c4b0] | (simp only [i64_w, i32_w]; rw [c4b0]) | skip)
   have H' := Aside0.mk H
   clear H
   go_wp2
   go_meet
   case rel => exact ⟨_, (true), (by first | rfl | (simp; done) | (simp [*]; done)), H', ⟨by first | omega | exact Nat.le_refl _⟩, ⟨by exact zB HB.out⟩⟩
  ·rw [if_neg c4] at H
   have c4b0 : decide (1048576 < (l0.length : Int)) = false := decide_eq_false c4
   have c4b1 : decide (1048576 < l0.length) = false := decide_eq_false (by omega)
   clear c4
   (first | rw [c4b0] | (simp only [i64_w, i32_w]; rw [c4b0]) | skip)
   have H' := Aside0.mk H
   clear H
   go_wp2
   go_meet
   case rel => exact ⟨_, (decide ((l1.length : Int) > 1048576)), (by first | rfl | (simp; done) | (simp [*]; done)), H', ⟨by first | omega | exact Nat.le_refl _⟩, ⟨by exact zB HB.out⟩⟩
 case rest =>
  clear HC3
  try clear c1
  try clear p2
  try clear c4
  try clear c4b0
  try clear c4b1
  obtain ⟨kq, x16_2, rfl, HA, HJ2, HB⟩ := hcut
  cases kq with
  | zero => exact absurd HA.out (by simp [laws_FnIndexOne.j0])
  | succ kj2 =>
   have H := HA.out
   clear HA
   simp only [laws_FnIndexOne.j0] at H
   by_cases c5 : x16_2 = true
   ·subst c5
    have H1 : (some true) = some r := by rw [if_pos rfl] at H; exact H
    clear H
    have H := H1
    clear H1
    obtain rfl := Option.some.inj H
    go_wp2
    go_ret
    exact ⟨by first | rfl | (simp [errW_none, errW_some] <;> rfl) | (simp [*, errW_none, errW_some] <;> rfl), by exact zB HB.out⟩
   ·replace c5 := Bool.eq_false_iff.mpr c5
    subst c5
    have H1 : ((spec_DrawIndexText.f kj2 l0).bind fun bt302 => ((spec_DrawIndexText.f kj2 l1).bind fun bt308 => ((impl_IndexText.f kj2 bt302.1 bt302.2.1 bt302.2.2).bind fun t314 => ((impl_IndexText.f kj2 bt308.1 bt308.2.1 bt308.2.2).bind fun t315 => ((spec_IndexText.f kj2 bt302.1 bt302.2.1 bt302.2.2).bind fun t316 => (if t314.toList = t316.toList then ((spec_IndexText.f kj2 bt308.1 bt308.2.1 bt308.2.2).bind fun t317 => (if t315.toList = t317.toList then (if t314.toList = ([] : List UInt8) then (laws_FnIndexOne.j1 kj2 t314 t315 true bt302.1 bt302.2.1 bt302.2.2 bt308.1 bt308.2.1 bt308.2.2) else (laws_FnIndexOne.j1 kj2 t314 t315 (t315.toList == ([] : List UInt8)) bt302.1 bt302.2.1 bt302.2.2 bt308.1 bt308.2.1 bt308.2.2)) else (laws_FnIndexOne.j1 kj2 t314 t315 true bt302.1 bt302.2.1 bt302.2.2 bt308.1 bt308.2.1 bt308.2.2))) else (laws_FnIndexOne.j1 kj2 t314 t315 true bt302.1 bt302.2.1 bt302.2.2 bt308.1 bt308.2.1 bt308.2.2))))))) = some r := by rw [if_neg (show ¬ (false = true) by decide)] at H; exact H
    clear H
    have H := H1
    clear H1
    replace H := Option.bind_eq_some_iff.mp H
    obtain ⟨⟨t302, t303, t304⟩, A60, H⟩ := H
    replace H : ((spec_DrawIndexText.f kj2 l1).bind fun bt308 => ((impl_IndexText.f kj2 t302 t303 t304).bind fun t314 => ((impl_IndexText.f kj2 bt308.1 bt308.2.1 bt308.2.2).bind fun t315 => ((spec_IndexText.f kj2 t302 t303 t304).bind fun t316 => (if t314.toList = t316.toList then ((spec_IndexText.f kj2 bt308.1 bt308.2.1 bt308.2.2).bind fun t317 => (if t315.toList = t317.toList then (if t314.toList = ([] : List UInt8) then (laws_FnIndexOne.j1 kj2 t314 t315 true t302 t303 t304 bt308.1 bt308.2.1 bt308.2.2) else (laws_FnIndexOne.j1 kj2 t314 t315 (t315.toList == ([] : List UInt8)) t302 t303 t304 bt308.1 bt308.2.1 bt308.2.2)) else (laws_FnIndexOne.j1 kj2 t314 t315 true t302 t303 t304 bt308.1 bt308.2.1 bt308.2.2))) else (laws_FnIndexOne.j1 kj2 t314 t315 true t302 t303 t304 bt308.1 bt308.2.1 bt308.2.2)))))) = some r := H
    have A6 := Aside0.mk A60
    clear A60
    replace H := Option.bind_eq_some_iff.mp H
    obtain ⟨⟨t308, t309, t310⟩, A70, H⟩ := H
    replace H : ((impl_IndexText.f kj2 t302 t303 t304).bind fun t314 => ((impl_IndexText.f kj2 t308 t309 t310).bind fun t315 => ((spec_IndexText.f kj2 t302 t303 t304).bind fun t316 => (if t314.toList = t316.toList then ((spec_IndexText.f kj2 t308 t309 t310).bind fun t317 => (if t315.toList = t317.toList then (if t314.toList = ([] : List UInt8) then (laws_FnIndexOne.j1 kj2 t314 t315 true t302 t303 t304 t308 t309 t310) else (laws_FnIndexOne.j1 kj2 t314 t315 (t315.toList == ([] : List UInt8)) t302 t303 t304 t308 t309 t310)) else (laws_FnIndexOne.j1 kj2 t314 t315 true t302 t303 t304 t308 t309 t310))) else (laws_FnIndexOne.j1 kj2 t314 t315 true t302 t303 t304 t308 t309 t310))))) = some r := H
    have A7 := Aside0.mk A70
    clear A70
    replace H := Option.bind_eq_some_iff.mp H
    obtain ⟨t314, A80, H⟩ := H
    replace H : ((impl_IndexText.f kj2 t308 t309 t310).bind fun t315 => ((spec_IndexText.f kj2 t302 t303 t304).bind fun t316 => (if t314.toList = t316.toList then ((spec_IndexText.f kj2 t308 t309 t310).bind fun t317 => (if t315.toList = t317.toList then (if t314.toList = ([] : List UInt8) then (laws_FnIndexOne.j1 kj2 t314 t315 true t302 t303 t304 t308 t309 t310) else (laws_FnIndexOne.j1 kj2 t314 t315 (t315.toList == ([] : List UInt8)) t302 t303 t304 t308 t309 t310)) else (laws_FnIndexOne.j1 kj2 t314 t315 true t302 t303 t304 t308 t309 t310))) else (laws_FnIndexOne.j1 kj2 t314 t315 true t302 t303 t304 t308 t309 t310)))) = some r := H
    have A8 := Aside0.mk A80
    clear A80
    replace H := Option.bind_eq_some_iff.mp H
    obtain ⟨t315, A90, H⟩ := H
    replace H : ((spec_IndexText.f kj2 t302 t303 t304).bind fun t316 => (if t314.toList = t316.toList then ((spec_IndexText.f kj2 t308 t309 t310).bind fun t317 => (if t315.toList = t317.toList then (if t314.toList = ([] : List UInt8) then (laws_FnIndexOne.j1 kj2 t314 t315 true t302 t303 t304 t308 t309 t310) else (laws_FnIndexOne.j1 kj2 t314 t315 (t315.toList == ([] : List UInt8)) t302 t303 t304 t308 t309 t310)) else (laws_FnIndexOne.j1 kj2 t314 t315 true t302 t303 t304 t308 t309 t310))) else (laws_FnIndexOne.j1 kj2 t314 t315 true t302 t303 t304 t308 t309 t310))) = some r := H
    have A9 := Aside0.mk A90
    clear A90
    have HC10 := Aside0.mk H
    clear H
    go_upto_region 7 with (first | ((with_reducible refine gate_callee (f := 21) rfl ?_); refine goesL_ (some 18) rfl rfl Tryd.func21 (by kernel_rfl) rfl #[.slice A0 l0.length c0] rfl (by (try simp only [zm1, zm2, zm3]); first | done | rfl | (simp only [List.length_drop, List.length_take]; rfl)) ?_; (with_reducible refine (spec_DrawIndexText.calls kj2 _ _ l0 t302 t303 t304 _ ?side1 ?side2 A6.out).mono ?_); (case side1 => exact zC (Kd.C_below HR0.out HB.out)); (case side2 => exact HC0.out); rintro e w11 ⟨v305, rfl, ho0, hb⟩; refine ⟨_, rfl, ?_⟩; have n0_ := Aside0.mk (Kd.R_lower ho0 (below_size (by exact zB HB.out))); have n1_ := Aside0.mk (below_step (by exact zB HB.out) hb); clear HB; have HO306 := n0_; have HB := n1_; clear n0_ n1_; (try clear hb); (try clear hb2); (try clear hk); (try clear hi); (try clear ho0)) | ((with_reducible refine gate_dst (N := 5) rfl ?_); (try (refine gate_guard (by rfl) ?_; dsimp only)); refine box_event ?hg (N := 5) ?hd (cs := #[.int .i64 0, .int .i64 0, .slice none 0 0]) (t := 38) ?hr ?_; (case hd => rfl); (case hg => rfl); (case hr => first | (go_simp; done) | (go_simp; rfl)); intro gb307 hg w12 hbox hb; have n0_ := Aside0.mk (Kd.R_below (by exact zR HO306.out) hb); have n1_ := Aside0.mk (below_step (by exact zB HB.out) hb); have n2_ := Aside0.mk (hbox); have n3_ := Aside0.mk ((by rw [hg]; exact (below_size (by exact zB HB.out)) : w.heap.size ≤ gb307)); have n4_ := Aside0.mk ((by rw [hg]; exact (below_size (by exact zB HB.out)) : w.heap.size ≤ gb307)); clear HO306; clear HB; have HO306 := n0_; have HB := n1_; have BK307 := n2_; have GW307 := n3_; have GE307 := n4_; clear n0_ n1_ n2_ n3_ n4_; clear hb hbox hg; obtain ⟨hcz13_0, hcz13_1, hcz13_2, hfz13_0, hfz13_1, hfz13_2⟩ := zc3f BK307.out; obtain ⟨Ao14, co14, eo14⟩ := Kd.R_slice HO306.out; subst eo14) | ((with_reducible refine gate_callee (f := 21) rfl ?_); refine goesL_ (some 20) rfl rfl Tryd.func21 (by kernel_rfl) rfl #[.slice A1 l1.length c1] rfl (by (try simp only [zm1, zm2, zm3]); first | done | rfl | (simp only [List.length_drop, List.length_take]; rfl)) ?_; (with_reducible refine (spec_DrawIndexText.calls kj2 _ _ l1 t308 t309 t310 _ ?side1 ?side2 A7.out).mono ?_); (case side1 => exact Kd.C_below HR1.out (by exact zB1 HB.out GE307.out)); (case side2 => exact HC1.out); rintro e w15 ⟨v311, rfl, ho0, hb⟩; refine ⟨_, rfl, ?_⟩; have n0_ := Aside0.mk (Kd.R_elder' (by exact zR (Kd.R_mono (Kd.R_far (p := ⟨gb307, 2, none⟩) (Kd.R_far (p := ⟨gb307, 1, none⟩) (Kd.R_far (p := ⟨gb307, 0, none⟩) (Kd.R_types HO306.out BK307.out (by decide)) (fun _ hk => hk.2) (.int .i64 t302)) (fun _ hk => hk.2) (.int .i64 t303)) (fun _ hk => hk.2) (.slice Ao14 t304.length co14)) (fun _ h_ => h_.1))) (Kd.R_base ho0) hb); have n1_ := Aside0.mk (Kd.R_lower (Kd.R_new' ho0 (Kd.R_lt (by exact zR (Kd.R_mono (Kd.R_far (p := ⟨gb307, 2, none⟩) (Kd.R_far (p := ⟨gb307, 1, none⟩) (Kd.R_far (p := ⟨gb307, 0, none⟩) (Kd.R_types HO306.out BK307.out (by decide)) (fun _ hk => hk.2) (.int .i64 t302)) (fun _ hk => hk.2) (.int .i64 t303)) (fun _ hk => hk.2) (.slice Ao14 t304.length co14)) (fun _ h_ => h_.1))))) (below_size (by exact zB1 HB.out GE307.out))); have n2_ := Aside0.mk (blk_below (g := gb307) (o := .cells #[.int .i64 t302, .int .i64 t303, .slice Ao14 t304.length co14] 38 (0, 0)) (by (with_reducible repeat (first | refine blk_drewN ?_ _ | refine blk_drew ?_ | refine blk_alloc ?_ _)); refine blk_put (cs := #[.int .i64 t302, .int .i64 t303, .slice none 0 0]) ?_ 2 _ rfl; (with_reducible repeat (first | refine blk_drewN ?_ _ | refine blk_drew ?_ | refine blk_alloc ?_ _)); refine blk_put (cs := #[.int .i64 t302, .int .i64 0, .slice none 0 0]) ?_ 1 _ rfl; (with_reducible repeat (first | refine blk_drewN ?_ _ | refine blk_drew ?_ | refine blk_alloc ?_ _)); refine blk_put (cs := #[.int .i64 0, .int .i64 0, .slice none 0 0]) ?_ 0 _ rfl; exact zK BK307.out) hb); have n3_ := Aside0.mk (below_step (by exact zB1 HB.out GE307.out) hb); clear HO306; clear BK307; clear HB; have HO306 := n0_; have HO312 := n1_; have BK307 := n2_; have HB := n3_; clear n0_ n1_ n2_ n3_; (try clear hb); (try clear hb2); (try clear hk); (try clear hi); (try clear ho0)) | ((with_reducible refine gate_dst (N := 6) rfl ?_); (try (refine gate_guard (by rfl) ?_; dsimp only)); refine box_event ?hg (N := 6) ?hd (cs := #[.int .i64 0, .int .i64 0, .slice none 0 0]) (t := 38) ?hr ?_; (case hd => rfl); (case hg => rfl); (case hr => first | (go_simp; done) | (go_simp; rfl)); intro gb313 hg w16 hbox hb; have n0_ := Aside0.mk (Kd.R_below (by exact zR HO306.out) hb); have n1_ := Aside0.mk (Kd.R_below (by exact zR HO312.out) hb); have n2_ := Aside0.mk (blk_below (g := gb307) (o := .cells #[.int .i64 t302, .int .i64 t303, .slice Ao14 t304.length co14] 38 (0, 0)) (by exact zK BK307.out) hb); have n3_ := Aside0.mk (below_step (by exact zB1 HB.out GE307.out) hb); have n4_ := Aside0.mk (hbox); have n5_ := Aside0.mk ((by rw [hg]; exact (below_size (by exact zB1 HB.out GE307.out)) : w.heap.size ≤ gb313)); have n6_ := Aside0.mk ((by rw [hg]; exact (below_size (by exact zB1 HB.out GE307.out)) : w.heap.size ≤ gb313)); have n7_ := Aside0.mk ((by rw [hg]; exact Nat.ne_of_lt (blk_lt (g := gb307) (o := .cells #[.int .i64 t302, .int .i64 t303, .slice Ao14 t304.length co14] 38 (0, 0)) (by exact zK BK307.out)) : gb307 ≠ gb313)); have n8_ := Aside0.mk ((by rw [hg]; exact Nat.ne_of_gt (blk_lt (g := gb307) (o := .cells #[.int .i64 t302, .int .i64 t303, .slice Ao14 t304.length co14] 38 (0, 0)) (by exact zK BK307.out)) : gb313 ≠ gb307)); clear HO306; clear HO312; clear BK307; clear HB; have HO306 := n0_; have HO312 := n1_; have BK307 := n2_; have HB := n3_; have BK313 := n4_; have GW313 := n5_; have GE313 := n6_; have NB307_313 := n7_; have NB313_307 := n8_; clear n0_ n1_ n2_ n3_ n4_ n5_ n6_ n7_ n8_; clear hb hbox hg; have hnb17 := NB313_307.out; have hnc17 := NB307_313.out; obtain ⟨hcz18_0, hcz18_1, hcz18_2, hfz18_0, hfz18_1, hfz18_2⟩ := zc3f BK313.out; obtain ⟨Ao19, co19, eo19⟩ := Kd.R_slice HO312.out; subst eo19; obtain ⟨hcz20_0, hcz20_1, hcz20_2, hfz20_0, hfz20_1, hfz20_2⟩ := zc3f BK307.out) | ((with_reducible refine gate_callee (f := 15) rfl ?_); refine goesL_ (some 22) rfl rfl Tryd.func15 (by kernel_rfl) rfl #[.agg #[.int .i64 t302, .int .i64 t303, .slice Ao14 t304.length co14]] rfl (by (try simp only [zm1, zm2, zm3]); first | done | rfl | (simp only [List.length_drop, List.length_take]; rfl)) ?_; (with_reducible refine (impl_IndexText.calls kj2 t302 t303 _ _ t304 t314 _ ?side1 ?side2 ?sideL A8.out).mono ?_); (case sideL => exact HLD.out.on (by exact zB2 HB.out GE307.out GE313.out)); (case side1 => refine (Kd.R_reads' (e := 73) (base := w.heap.size) (ok := fun k_ => (True ∧ some k_ ≠ (.slice Ao19 t310.length co19 : Value).ownBlock)) (n := t304.length) (c := co14) ?_).2.2; exact (by exact zR (Kd.R_mono (Kd.R_far (p := ⟨gb313, 2, none⟩) (Kd.R_far (p := ⟨gb313, 1, none⟩) (Kd.R_far (p := ⟨gb313, 0, none⟩) (Kd.R_types HO306.out BK313.out (by decide)) (fun _ hk => hk.2) (.int .i64 t308)) (fun _ hk => hk.2) (.int .i64 t309)) (fun _ hk => hk.2) (.slice Ao19 t310.length co19)) (fun _ h_ => h_.1)))); (case side2 => exact (Kd.R_reads' HO306.out).2.1); rintro e w21 ⟨rfl, hb⟩; refine ⟨_, rfl, ?_⟩; have n0_ := Aside0.mk (Kd.R_below (by exact zR (Kd.R_mono (Kd.R_far (p := ⟨gb313, 2, none⟩) (Kd.R_far (p := ⟨gb313, 1, none⟩) (Kd.R_far (p := ⟨gb313, 0, none⟩) (Kd.R_types HO306.out BK313.out (by decide)) (fun _ hk => hk.2) (.int .i64 t308)) (fun _ hk => hk.2) (.int .i64 t309)) (fun _ hk => hk.2) (.slice Ao19 t310.length co19)) (fun _ h_ => h_.1))) hb); have n1_ := Aside0.mk (Kd.R_below (by exact zR (Kd.R_mono (Kd.R_far (p := ⟨gb313, 2, none⟩) (Kd.R_far (p := ⟨gb313, 1, none⟩) (Kd.R_far (p := ⟨gb313, 0, none⟩) (Kd.R_types HO312.out BK313.out (by decide)) (fun _ hk => hk.2) (.int .i64 t308)) (fun _ hk => hk.2) (.int .i64 t309)) (fun _ hk => hk.2) (.slice Ao19 t310.length co19)) (fun _ h_ => h_.1))) hb); have n2_ := Aside0.mk (blk_below (g := gb307) (o := .cells #[.int .i64 t302, .int .i64 t303, .slice Ao14 t304.length co14] 38 (0, 0)) (by (with_reducible repeat (first | refine blk_drewN ?_ _ | refine blk_drew ?_ | refine blk_alloc ?_ _)); refine blk_far ?_ NB307_313.out _; (with_reducible repeat (first | refine blk_drewN ?_ _ | refine blk_drew ?_ | refine blk_alloc ?_ _)); refine blk_far ?_ NB307_313.out _; (with_reducible repeat (first | refine blk_drewN ?_ _ | refine blk_drew ?_ | refine blk_alloc ?_ _)); refine blk_far ?_ NB307_313.out _; exact zK BK307.out) hb); have n3_ := Aside0.mk (blk_below (g := gb313) (o := .cells #[.int .i64 t308, .int .i64 t309, .slice Ao19 t310.length co19] 38 (0, 0)) (by (with_reducible repeat (first | refine blk_drewN ?_ _ | refine blk_drew ?_ | refine blk_alloc ?_ _)); refine blk_put (cs := #[.int .i64 t308, .int .i64 t309, .slice none 0 0]) ?_ 2 _ rfl; (with_reducible repeat (first | refine blk_drewN ?_ _ | refine blk_drew ?_ | refine blk_alloc ?_ _)); refine blk_put (cs := #[.int .i64 t308, .int .i64 0, .slice none 0 0]) ?_ 1 _ rfl; (with_reducible repeat (first | refine blk_drewN ?_ _ | refine blk_drew ?_ | refine blk_alloc ?_ _)); refine blk_put (cs := #[.int .i64 0, .int .i64 0, .slice none 0 0]) ?_ 0 _ rfl; exact zK BK313.out) hb); have n4_ := Aside0.mk (below_step (by exact zB2 HB.out GE307.out GE313.out) hb); clear HO306; clear HO312; clear BK307; clear BK313; clear HB; have HO306 := n0_; have HO312 := n1_; have BK307 := n2_; have BK313 := n3_; have HB := n4_; clear n0_ n1_ n2_ n3_ n4_; (try clear hb); (try clear hb2); (try clear hk); (try clear hi); obtain ⟨hcz22_0, hcz22_1, hcz22_2, hfz22_0, hfz22_1, hfz22_2⟩ := zc3f BK313.out) | ((with_reducible refine gate_callee (f := 15) rfl ?_); refine goesL_ (some 24) rfl rfl Tryd.func15 (by kernel_rfl) rfl #[.agg #[.int .i64 t308, .int .i64 t309, .slice Ao19 t310.length co19]] rfl (by (try simp only [zm1, zm2, zm3]); first | done | rfl | (simp only [List.length_drop, List.length_take]; rfl)) ?_; (with_reducible refine (impl_IndexText.calls kj2 t308 t309 _ _ t310 t315 _ ?side1 ?side2 ?sideL A9.out).mono ?_); (case sideL => exact HLD.out.on (by exact zB2 HB.out GE307.out GE313.out)); (case side1 => exact zC (Kd.R_reads' HO312.out).2.2); (case side2 => exact (Kd.R_reads' HO312.out).2.1); rintro e w23 ⟨rfl, hb⟩; refine ⟨_, rfl, ?_⟩; have n0_ := Aside0.mk (Kd.R_below (by exact zR HO306.out) hb); have n1_ := Aside0.mk (Kd.R_below (by exact zR HO312.out) hb); have n2_ := Aside0.mk (blk_below (g := gb307) (o := .cells #[.int .i64 t302, .int .i64 t303, .slice Ao14 t304.length co14] 38 (0, 0)) (by exact zK BK307.out) hb); have n3_ := Aside0.mk (blk_below (g := gb313) (o := .cells #[.int .i64 t308, .int .i64 t309, .slice Ao19 t310.length co19] 38 (0, 0)) (by exact zK BK313.out) hb); have n4_ := Aside0.mk (below_step (by exact zB2 HB.out GE307.out GE313.out) hb); clear HO306; clear HO312; clear BK307; clear BK313; clear HB; have HO306 := n0_; have HO312 := n1_; have BK307 := n2_; have BK313 := n3_; have HB := n4_; clear n0_ n1_ n2_ n3_ n4_; (try clear hb); (try clear hb2); (try clear hk); (try clear hi)))
    (try simp only [zp0, zp1, zp2, zp3, zp4])
    go_cut [42] (fun v42 wc => ∃ (kq : Nat) (x42_9 : Bool), v42 = .bool x42_9 ∧ Aside0 (laws_FnIndexOne.j1 kq t314 t315 x42_9 t302 t303 t304 t308 t309 t310 = some r) ∧ Aside0 (kq ≤ kj2) ∧ Aside0 (Kd.R k73 73 wc w.heap.size (fun k_ => some k_ ≠ ((.slice Ao19 t310.length co19) : Value).ownBlock) (.slice Ao14 t304.length co14) t304) ∧ Aside0 (Kd.R k73 73 wc w.heap.size (fun k_ => some k_ ≠ ((.slice Ao14 t304.length co14) : Value).ownBlock) (.slice Ao19 t310.length co19) t310) ∧ Aside0 (wc.heap[gb307]? = some (.cells #[.int .i64 t302, .int .i64 t303, (.slice Ao14 t304.length co14)] 38 (0, 0))) ∧ Aside0 (wc.heap[gb313]? = some (.cells #[.int .i64 t308, .int .i64 t309, (.slice Ao19 t310.length co19)] 38 (0, 0))) ∧ Aside0 (Below w.heap.size w wc))
    case first =>
     have H := HC10.out
     clear HC10
     replace H := Option.bind_eq_some_iff.mp H
     obtain ⟨t316, A240, H⟩ := H
     replace H : (if t314.toList = t316.toList then ((spec_IndexText.f kj2 t308 t309 t310).bind fun t317 => (if t315.toList = t317.toList then (if t314.toList = ([] : List UInt8) then (laws_FnIndexOne.j1 kj2 t314 t315 true t302 t303 t304 t308 t309 t310) else (laws_FnIndexOne.j1 kj2 t314 t315 (t315.toList == ([] : List UInt8)) t302 t303 t304 t308 t309 t310)) else (laws_FnIndexOne.j1 kj2 t314 t315 true t302 t303 t304 t308 t309 t310))) else (laws_FnIndexOne.j1 kj2 t314 t315 true t302 t303 t304 t308 t309 t310)) = some r := H
     have A24 := Aside0.mk A240
     clear A240
     by_cases c25 : t314.toList = t316.toList
     ·rw [if_pos c25] at H
      have c25b0 : (t314.toList == t316.toList) = true := beq_iff_eq.mpr c25
      have c25b1 : (t314.toList != t316.toList) = false := bne_eq_false_iff_eq.mpr c25
      clear c25
      (first | rw [c25b0] | (simp only [i64_w, i32_w]; rw [c25b0]) | skip)
      replace H := Option.bind_eq_some_iff.mp H
      obtain ⟨t317, A260, H⟩ := H
      replace H : (if t315.toList = t317.toList then (if t314.toList = ([] : List UInt8) then (laws_FnIndexOne.j1 kj2 t314 t315 true t302 t303 t304 t308 t309 t310) else (laws_FnIndexOne.j1 kj2 t314 t315 (t315.toList == ([] : List UInt8)) t302 t303 t304 t308 t309 t310)) else (laws_FnIndexOne.j1 kj2 t314 t315 true t302 t303 t304 t308 t309 t310)) = some r := H
      have A26 := Aside0.mk A260
      clear A260
      by_cases c27 : t315.toList = t317.toList
      ·rw [if_pos c27] at H
       have c27b0 : (t315.toList == t317.toList) = true := beq_iff_eq.mpr c27
       have c27b1 : (t315.toList != t317.toList) = false := bne_eq_false_iff_eq.mpr c27
       clear c27
       by_cases c28 : t314.toList = ([] : List UInt8)
       ·rw [if_pos c28] at H
        have c28b0 : (t314.toList == ([] : List UInt8)) = true := beq_iff_eq.mpr c28
        have c28b1 : (t314.toList != ([] : List UInt8)) = false := bne_eq_false_iff_eq.mpr c28
        clear c28
        have H' := Aside0.mk H
        clear H
        have hnb29 := NB307_313.out
        have hnc29 := NB313_307.out
        obtain ⟨hcz30_0, hcz30_1, hcz30_2, hfz30_0, hfz30_1, hfz30_2⟩ := zc3f BK307.out
        go_wp2_with (first | ((with_reducible refine gate_callee (f := 13) rfl ?_); refine goesL_ (some 27) rfl rfl Tryd.func13 (by kernel_rfl) rfl #[.agg #[.int .i64 t302, .int .i64 t303, .slice Ao14 t304.length co14]] rfl (by (try simp only [zm1, zm2, zm3]); first | done | rfl | (simp only [List.length_drop, List.length_take]; rfl)) ?_; (with_reducible refine (spec_IndexText.calls kj2 t302 t303 _ _ t304 t316 _ ?side1 ?side2 A24.out).mono ?_); (case side1 => exact zC (Kd.R_reads' HO306.out).2.2); (case side2 => exact (Kd.R_reads' HO306.out).2.1); rintro e w31 ⟨rfl, hb⟩; refine ⟨_, rfl, ?_⟩; have n0_ := Aside0.mk (Kd.R_below (by exact zR HO306.out) hb); have n1_ := Aside0.mk (Kd.R_below (by exact zR HO312.out) hb); have n2_ := Aside0.mk (blk_below (g := gb307) (o := .cells #[.int .i64 t302, .int .i64 t303, .slice Ao14 t304.length co14] 38 (0, 0)) (by exact zK BK307.out) hb); have n3_ := Aside0.mk (blk_below (g := gb313) (o := .cells #[.int .i64 t308, .int .i64 t309, .slice Ao19 t310.length co19] 38 (0, 0)) (by exact zK BK313.out) hb); have n4_ := Aside0.mk (below_step (by exact zB2 HB.out GE307.out GE313.out) hb); clear HO306; clear HO312; clear BK307; clear BK313; clear HB; have HO306 := n0_; have HO312 := n1_; have BK307 := n2_; have BK313 := n3_; have HB := n4_; clear n0_ n1_ n2_ n3_ n4_; (try clear hb); (try clear hb2); (try clear hk); (try clear hi); obtain ⟨hcz32_0, hcz32_1, hcz32_2, hfz32_0, hfz32_1, hfz32_2⟩ := zc3f BK313.out) | (go_at_call 13; (with_reducible refine (spec_IndexText.calls kj2 t308 t309 _ _ t310 t317 _ ?side1 ?side2 A26.out).mono ?_); (case side1 => exact zC (Kd.R_reads' HO312.out).2.2); (case side2 => exact (Kd.R_reads' HO312.out).2.1); rintro e w33 ⟨rfl, hb⟩; have n0_ := Aside0.mk (Kd.R_below (by exact zR HO306.out) hb); have n1_ := Aside0.mk (Kd.R_below (by exact zR HO312.out) hb); have n2_ := Aside0.mk (blk_below (g := gb307) (o := .cells #[.int .i64 t302, .int .i64 t303, .slice Ao14 t304.length co14] 38 (0, 0)) (by exact zK BK307.out) hb); have n3_ := Aside0.mk (blk_below (g := gb313) (o := .cells #[.int .i64 t308, .int .i64 t309, .slice Ao19 t310.length co19] 38 (0, 0)) (by exact zK BK313.out) hb); have n4_ := Aside0.mk (below_step (by exact zB2 HB.out GE307.out GE313.out) hb); clear HO306; clear HO312; clear BK307; clear BK313; clear HB; have HO306 := n0_; have HO312 := n1_; have BK307 := n2_; have BK313 := n3_; have HB := n4_; clear n0_ n1_ n2_ n3_ n4_; (try clear hb); (try clear hb2); (try clear hk); (try clear hi)))
        go_meet
        case rel => exact ⟨_, (true), (by first | rfl | (simp; done) | (simp [*]; done)), H', ⟨by have := HJ2.out; first | omega | exact Nat.le_refl _⟩, ⟨by exact zR (Kd.R_mono HO306.out (fun _ hk => hk.2))⟩, ⟨by exact zR (Kd.R_mono HO312.out (fun _ hk => hk.2))⟩, ⟨by exact zK BK307.out⟩, ⟨by exact zK BK313.out⟩, ⟨by exact zB2 HB.out GE307.out GE313.out⟩⟩
       ·rw [if_neg c28] at H
        have c28b0 : (t314.toList == ([] : List UInt8)) = false := beq_eq_false_iff_ne.mpr c28
        have c28b1 : (t314.toList != ([] : List UInt8)) = true := bne_iff_ne.mpr c28
        have H' := Aside0.mk H
        clear H
        have hnb34 := NB307_313.out
        have hnc34 := NB313_307.out
        obtain ⟨hcz35_0, hcz35_1, hcz35_2, hfz35_0, hfz35_1, hfz35_2⟩ := zc3f BK307.out
        go_wp2_with (first | ((with_reducible refine gate_callee (f := 13) rfl ?_); refine goesL_ (some 27) rfl rfl Tryd.func13 (by kernel_rfl) rfl #[.agg #[.int .i64 t302, .int .i64 t303, .slice Ao14 t304.length co14]] rfl (by (try simp only [zm1, zm2, zm3]); first | done | rfl | (simp only [List.length_drop, List.length_take]; rfl)) ?_; (with_reducible refine (spec_IndexText.calls kj2 t302 t303 _ _ t304 t316 _ ?side1 ?side2 A24.out).mono ?_); (case side1 => exact zC (Kd.R_reads' HO306.out).2.2); (case side2 => exact (Kd.R_reads' HO306.out).2.1); rintro e w36 ⟨rfl, hb⟩; refine ⟨_, rfl, ?_⟩; have n0_ := Aside0.mk (Kd.R_below (by exact zR HO306.out) hb); have n1_ := Aside0.mk (Kd.R_below (by exact zR HO312.out) hb); have n2_ := Aside0.mk (blk_below (g := gb307) (o := .cells #[.int .i64 t302, .int .i64 t303, .slice Ao14 t304.length co14] 38 (0, 0)) (by exact zK BK307.out) hb); have n3_ := Aside0.mk (blk_below (g := gb313) (o := .cells #[.int .i64 t308, .int .i64 t309, .slice Ao19 t310.length co19] 38 (0, 0)) (by exact zK BK313.out) hb); have n4_ := Aside0.mk (below_step (by exact zB2 HB.out GE307.out GE313.out) hb); clear HO306; clear HO312; clear BK307; clear BK313; clear HB; have HO306 := n0_; have HO312 := n1_; have BK307 := n2_; have BK313 := n3_; have HB := n4_; clear n0_ n1_ n2_ n3_ n4_; (try clear hb); (try clear hb2); (try clear hk); (try clear hi); obtain ⟨hcz37_0, hcz37_1, hcz37_2, hfz37_0, hfz37_1, hfz37_2⟩ := zc3f BK313.out) | (go_at_call 13; (with_reducible refine (spec_IndexText.calls kj2 t308 t309 _ _ t310 t317 _ ?side1 ?side2 A26.out).mono ?_); (case side1 => exact zC (Kd.R_reads' HO312.out).2.2); (case side2 => exact (Kd.R_reads' HO312.out).2.1); rintro e w38 ⟨rfl, hb⟩; have n0_ := Aside0.mk (Kd.R_below (by exact zR HO306.out) hb); have n1_ := Aside0.mk (Kd.R_below (by exact zR HO312.out) hb); have n2_ := Aside0.mk (blk_below (g := gb307) (o := .cells #[.int .i64 t302, .int .i64 t303, .slice Ao14 t304.length co14] 38 (0, 0)) (by exact zK BK307.out) hb); have n3_ := Aside0.mk (blk_below (g := gb313) (o := .cells #[.int .i64 t308, .int .i64 t309, .slice Ao19 t310.length co19] 38 (0, 0)) (by exact zK BK313.out) hb); have n4_ := Aside0.mk (below_step (by exact zB2 HB.out GE307.out GE313.out) hb); clear HO306; clear HO312; clear BK307; clear BK313; clear HB; have HO306 := n0_; have HO312 := n1_; have BK307 := n2_; have BK313 := n3_; have HB := n4_; clear n0_ n1_ n2_ n3_ n4_; (try clear hb); (try clear hb2); (try clear hk); (try clear hi)))
        go_meet
        case rel => exact ⟨_, ((t315.toList == ([] : List UInt8))), (by first | rfl | (simp; done) | (simp [*]; done)), H', ⟨by have := HJ2.out; first | omega | exact Nat.le_refl _⟩, ⟨by exact zR (Kd.R_mono HO306.out (fun _ hk => hk.2))⟩, ⟨by exact zR (Kd.R_mono HO312.out (fun _ hk => hk.2))⟩, ⟨by exact zK BK307.out⟩, ⟨by exact zK BK313.out⟩, ⟨by exact zB2 HB.out GE307.out GE313.out⟩⟩
      ·rw [if_neg c27] at H
       have c27b0 : (t315.toList == t317.toList) = false := beq_eq_false_iff_ne.mpr c27
       have c27b1 : (t315.toList != t317.toList) = true := bne_iff_ne.mpr c27
       have H' := Aside0.mk H
       clear H
       have hnb39 := NB307_313.out
       have hnc39 := NB313_307.out
       obtain ⟨hcz40_0, hcz40_1, hcz40_2, hfz40_0, hfz40_1, hfz40_2⟩ := zc3f BK307.out
       go_wp2_with (first | ((with_reducible refine gate_callee (f := 13) rfl ?_); refine goesL_ (some 27) rfl rfl Tryd.func13 (by kernel_rfl) rfl #[.agg #[.int .i64 t302, .int .i64 t303, .slice Ao14 t304.length co14]] rfl (by (try simp only [zm1, zm2, zm3]); first | done | rfl | (simp only [List.length_drop, List.length_take]; rfl)) ?_; (with_reducible refine (spec_IndexText.calls kj2 t302 t303 _ _ t304 t316 _ ?side1 ?side2 A24.out).mono ?_); (case side1 => exact zC (Kd.R_reads' HO306.out).2.2); (case side2 => exact (Kd.R_reads' HO306.out).2.1); rintro e w41 ⟨rfl, hb⟩; refine ⟨_, rfl, ?_⟩; have n0_ := Aside0.mk (Kd.R_below (by exact zR HO306.out) hb); have n1_ := Aside0.mk (Kd.R_below (by exact zR HO312.out) hb); have n2_ := Aside0.mk (blk_below (g := gb307) (o := .cells #[.int .i64 t302, .int .i64 t303, .slice Ao14 t304.length co14] 38 (0, 0)) (by exact zK BK307.out) hb); have n3_ := Aside0.mk (blk_below (g := gb313) (o := .cells #[.int .i64 t308, .int .i64 t309, .slice Ao19 t310.length co19] 38 (0, 0)) (by exact zK BK313.out) hb); have n4_ := Aside0.mk (below_step (by exact zB2 HB.out GE307.out GE313.out) hb); clear HO306; clear HO312; clear BK307; clear BK313; clear HB; have HO306 := n0_; have HO312 := n1_; have BK307 := n2_; have BK313 := n3_; have HB := n4_; clear n0_ n1_ n2_ n3_ n4_; (try clear hb); (try clear hb2); (try clear hk); (try clear hi); obtain ⟨hcz42_0, hcz42_1, hcz42_2, hfz42_0, hfz42_1, hfz42_2⟩ := zc3f BK313.out) | (go_at_call 13; (with_reducible refine (spec_IndexText.calls kj2 t308 t309 _ _ t310 t317 _ ?side1 ?side2 A26.out).mono ?_); (case side1 => exact zC (Kd.R_reads' HO312.out).2.2); (case side2 => exact (Kd.R_reads' HO312.out).2.1); rintro e w43 ⟨rfl, hb⟩; have n0_ := Aside0.mk (Kd.R_below (by exact zR HO306.out) hb); have n1_ := Aside0.mk (Kd.R_below (by exact zR HO312.out) hb); have n2_ := Aside0.mk (blk_below (g := gb307) (o := .cells #[.int .i64 t302, .int .i64 t303, .slice Ao14 t304.length co14] 38 (0, 0)) (by exact zK BK307.out) hb); have n3_ := Aside0.mk (blk_below (g := gb313) (o := .cells #[.int .i64 t308, .int .i64 t309, .slice Ao19 t310.length co19] 38 (0, 0)) (by exact zK BK313.out) hb); have n4_ := Aside0.mk (below_step (by exact zB2 HB.out GE307.out GE313.out) hb); clear HO306; clear HO312; clear BK307; clear BK313; clear HB; have HO306 := n0_; have HO312 := n1_; have BK307 := n2_; have BK313 := n3_; have HB := n4_; clear n0_ n1_ n2_ n3_ n4_; (try clear hb); (try clear hb2); (try clear hk); (try clear hi)))
       go_meet
       case rel => exact ⟨_, (true), (by first | rfl | (simp; done) | (simp [*]; done)), H', ⟨by have := HJ2.out; first | omega | exact Nat.le_refl _⟩, ⟨by exact zR (Kd.R_mono HO306.out (fun _ hk => hk.2))⟩, ⟨by exact zR (Kd.R_mono HO312.out (fun _ hk => hk.2))⟩, ⟨by exact zK BK307.out⟩, ⟨by exact zK BK313.out⟩, ⟨by exact zB2 HB.out GE307.out GE313.out⟩⟩
     ·rw [if_neg c25] at H
      have c25b0 : (t314.toList == t316.toList) = false := beq_eq_false_iff_ne.mpr c25
      have c25b1 : (t314.toList != t316.toList) = true := bne_iff_ne.mpr c25
      (first | rw [c25b0] | (simp only [i64_w, i32_w]; rw [c25b0]) | skip)
      have H' := Aside0.mk H
      clear H
      have hnb44 := NB307_313.out
      have hnc44 := NB313_307.out
      obtain ⟨hcz45_0, hcz45_1, hcz45_2, hfz45_0, hfz45_1, hfz45_2⟩ := zc3f BK307.out
      go_wp2_with (first | ((with_reducible refine gate_callee (f := 13) rfl ?_); refine goesL_ (some 27) rfl rfl Tryd.func13 (by kernel_rfl) rfl #[.agg #[.int .i64 t302, .int .i64 t303, .slice Ao14 t304.length co14]] rfl (by (try simp only [zm1, zm2, zm3]); first | done | rfl | (simp only [List.length_drop, List.length_take]; rfl)) ?_; (with_reducible refine (spec_IndexText.calls kj2 t302 t303 _ _ t304 t316 _ ?side1 ?side2 A24.out).mono ?_); (case side1 => exact zC (Kd.R_reads' HO306.out).2.2); (case side2 => exact (Kd.R_reads' HO306.out).2.1); rintro e w46 ⟨rfl, hb⟩; refine ⟨_, rfl, ?_⟩; have n0_ := Aside0.mk (Kd.R_below (by exact zR HO306.out) hb); have n1_ := Aside0.mk (Kd.R_below (by exact zR HO312.out) hb); have n2_ := Aside0.mk (blk_below (g := gb307) (o := .cells #[.int .i64 t302, .int .i64 t303, .slice Ao14 t304.length co14] 38 (0, 0)) (by exact zK BK307.out) hb); have n3_ := Aside0.mk (blk_below (g := gb313) (o := .cells #[.int .i64 t308, .int .i64 t309, .slice Ao19 t310.length co19] 38 (0, 0)) (by exact zK BK313.out) hb); have n4_ := Aside0.mk (below_step (by exact zB2 HB.out GE307.out GE313.out) hb); clear HO306; clear HO312; clear BK307; clear BK313; clear HB; have HO306 := n0_; have HO312 := n1_; have BK307 := n2_; have BK313 := n3_; have HB := n4_; clear n0_ n1_ n2_ n3_ n4_; (try clear hb); (try clear hb2); (try clear hk); (try clear hi)))
      go_meet
      case rel => exact ⟨_, (true), (by first | rfl | (simp; done) | (simp [*]; done)), H', ⟨by have := HJ2.out; first | omega | exact Nat.le_refl _⟩, ⟨by exact zR (Kd.R_mono HO306.out (fun _ hk => hk.2))⟩, ⟨by exact zR (Kd.R_mono HO312.out (fun _ hk => hk.2))⟩, ⟨by exact zK BK307.out⟩, ⟨by exact zK BK313.out⟩, ⟨by exact zB2 HB.out GE307.out GE313.out⟩⟩
    case rest =>
     clear HC10
     try clear c1
     try clear c2
     try clear p2
     try clear c3
     try clear c4
     try clear c4b0
     try clear c4b1
     try clear c5
     try clear c7
     try clear c13
     try clear c15
     try clear c17
     try clear c21
     try clear c25
     try clear c25b0
     try clear c25b1
     try clear c27
     try clear c27b0
     try clear c27b1
     try clear c28
     try clear c28b0
     try clear c28b1
     try clear c29
     try clear c34
     try clear c39
     try clear c44
     try clear hcz13_0
     try clear hcz13_1
     try clear hcz13_2
     try clear hcz18_0
     try clear hcz18_1
     try clear hcz18_2
     try clear hcz20_0
     try clear hcz20_1
     try clear hcz20_2
     try clear hcz22_0
     try clear hcz22_1
     try clear hcz22_2
     try clear hcz30_0
     try clear hcz30_1
     try clear hcz30_2
     try clear hcz32_0
     try clear hcz32_1
     try clear hcz32_2
     try clear hcz35_0
     try clear hcz35_1
     try clear hcz35_2
     try clear hcz37_0
     try clear hcz37_1
     try clear hcz37_2
     try clear hcz40_0
     try clear hcz40_1
     try clear hcz40_2
     try clear hcz42_0
     try clear hcz42_1
     try clear hcz42_2
     try clear hcz45_0
     try clear hcz45_1
     try clear hcz45_2
     try clear hfz13_0
     try clear hfz13_1
     try clear hfz13_2
     try clear hfz18_0
     try clear hfz18_1
     try clear hfz18_2
     try clear hfz20_0
     try clear hfz20_1
     try clear hfz20_2
     try clear hfz22_0
     try clear hfz22_1
     try clear hfz22_2
     try clear hfz30_0
     try clear hfz30_1
     try clear hfz30_2
     try clear hfz32_0
     try clear hfz32_1
     try clear hfz32_2
     try clear hfz35_0
     try clear hfz35_1
     try clear hfz35_2
     try clear hfz37_0
     try clear hfz37_1
     try clear hfz37_2
     try clear hfz40_0
     try clear hfz40_1
     try clear hfz40_2
     try clear hfz42_0
     try clear hfz42_1
     try clear hfz42_2
     try clear hfz45_0
     try clear hfz45_1
     try clear hfz45_2
     try clear p2
     obtain ⟨kq, x42_9, rfl, HA, HJ9, HO_308002, HO_314002, BK307, BK313, HB⟩ := hcut
     cases kq with
     | zero => exact absurd HA.out (by simp [laws_FnIndexOne.j1])
     | succ kj9 =>
      have H := HA.out
      clear HA
      simp only [laws_FnIndexOne.j1] at H
      by_cases c47 : x42_9 = true
      ·subst c47
       have H1 : ((spec_IndexText.f kj9 t302 t303 t304).bind fun t318 => (if t314.toList = t318.toList then ((spec_IndexText.f kj9 t308 t309 t310).bind fun t319 => (some (t315.toList == t319.toList))) else (none))) = some r := by rw [if_pos rfl] at H; exact H
       clear H
       have H := H1
       clear H1
       replace H := Option.bind_eq_some_iff.mp H
       obtain ⟨t318, A480, H⟩ := H
       replace H : (if t314.toList = t318.toList then ((spec_IndexText.f kj9 t308 t309 t310).bind fun t319 => (some (t315.toList == t319.toList))) else (none)) = some r := H
       have A48 := Aside0.mk A480
       clear A480
       by_cases c49 : t314.toList = t318.toList
       ·rw [if_pos c49] at H
        have c49b0 : (t314.toList == t318.toList) = true := beq_iff_eq.mpr c49
        have c49b1 : (t314.toList != t318.toList) = false := bne_eq_false_iff_eq.mpr c49
        clear c49
        replace H := Option.bind_eq_some_iff.mp H
        obtain ⟨t319, A500, H⟩ := H
        replace H : (some (t315.toList == t319.toList)) = some r := H
        have A50 := Aside0.mk A500
        clear A500
        obtain rfl := Option.some.inj H
        have hnb51 := NB307_313.out
        have hnc51 := NB313_307.out
        obtain ⟨hcz52_0, hcz52_1, hcz52_2, hfz52_0, hfz52_1, hfz52_2⟩ := zc3f BK307.out
        go_wp2_with (first | ((with_reducible refine gate_callee (f := 13) rfl ?_); refine goesL_ (some 45) rfl rfl Tryd.func13 (by kernel_rfl) rfl #[.agg #[.int .i64 t302, .int .i64 t303, .slice Ao14 t304.length co14]] rfl (by (try simp only [zm1, zm2, zm3]); first | done | rfl | (simp only [List.length_drop, List.length_take]; rfl)) ?_; (with_reducible refine (spec_IndexText.calls kj9 t302 t303 _ _ t304 t318 _ ?side1 ?side2 A48.out).mono ?_); (case side1 => exact zC (Kd.R_reads' HO_308002.out).2.2); (case side2 => exact (Kd.R_reads' HO_308002.out).2.1); rintro e w53 ⟨rfl, hb⟩; refine ⟨_, rfl, ?_⟩; have n0_ := Aside0.mk (Kd.R_below (by exact zR HO_308002.out) hb); have n1_ := Aside0.mk (Kd.R_below (by exact zR HO_314002.out) hb); have n2_ := Aside0.mk (blk_below (g := gb307) (o := .cells #[.int .i64 t302, .int .i64 t303, .slice Ao14 t304.length co14] 38 (0, 0)) (by exact zK BK307.out) hb); have n3_ := Aside0.mk (blk_below (g := gb313) (o := .cells #[.int .i64 t308, .int .i64 t309, .slice Ao19 t310.length co19] 38 (0, 0)) (by exact zK BK313.out) hb); have n4_ := Aside0.mk (below_step (by exact zB2 HB.out GE307.out GE313.out) hb); clear HO_308002; clear HO_314002; clear BK307; clear BK313; clear HB; have HO_308002 := n0_; have HO_314002 := n1_; have BK307 := n2_; have BK313 := n3_; have HB := n4_; clear n0_ n1_ n2_ n3_ n4_; (try clear hb); (try clear hb2); (try clear hk); (try clear hi); obtain ⟨hcz54_0, hcz54_1, hcz54_2, hfz54_0, hfz54_1, hfz54_2⟩ := zc3f BK313.out) | (go_at_call 13; (with_reducible refine (spec_IndexText.calls kj9 t308 t309 _ _ t310 t319 _ ?side1 ?side2 A50.out).mono ?_); (case side1 => exact zC (Kd.R_reads' HO_314002.out).2.2); (case side2 => exact (Kd.R_reads' HO_314002.out).2.1); rintro e w55 ⟨rfl, hb⟩; have n0_ := Aside0.mk (Kd.R_below (by exact zR HO_308002.out) hb); have n1_ := Aside0.mk (Kd.R_below (by exact zR HO_314002.out) hb); have n2_ := Aside0.mk (blk_below (g := gb307) (o := .cells #[.int .i64 t302, .int .i64 t303, .slice Ao14 t304.length co14] 38 (0, 0)) (by exact zK BK307.out) hb); have n3_ := Aside0.mk (blk_below (g := gb313) (o := .cells #[.int .i64 t308, .int .i64 t309, .slice Ao19 t310.length co19] 38 (0, 0)) (by exact zK BK313.out) hb); have n4_ := Aside0.mk (below_step (by exact zB2 HB.out GE307.out GE313.out) hb); clear HO_308002; clear HO_314002; clear BK307; clear BK313; clear HB; have HO_308002 := n0_; have HO_314002 := n1_; have BK307 := n2_; have BK313 := n3_; have HB := n4_; clear n0_ n1_ n2_ n3_ n4_; (try clear hb); (try clear hb2); (try clear hk); (try clear hi)))
        go_ret
        exact ⟨by first | rfl | (simp [errW_none, errW_some] <;> rfl) | (simp [*, errW_none, errW_some] <;> rfl), by exact zB2 HB.out GE307.out GE313.out⟩
       ·rw [if_neg c49] at H
        exact absurd H (by simp)
      ·replace c47 := Bool.eq_false_iff.mpr c47
       subst c47
       have H1 : ((laws_luIndex.f kj9 t302 t303 t304 t308 t309 t310).bind fun t320 => (some ((t314.toList == t315.toList) == t320))) = some r := by rw [if_neg (show ¬ (false = true) by decide)] at H; exact H
       clear H
       have H := H1
       clear H1
       replace H := Option.bind_eq_some_iff.mp H
       obtain ⟨t320, A560, H⟩ := H
       replace H : (some ((t314.toList == t315.toList) == t320)) = some r := H
       have A56 := Aside0.mk A560
       clear A560
       obtain rfl := Option.some.inj H
       have hnb57 := NB307_313.out
       have hnc57 := NB313_307.out
       obtain ⟨hcz58_0, hcz58_1, hcz58_2, hfz58_0, hfz58_1, hfz58_2⟩ := zc3f BK307.out
       obtain ⟨hcz59_0, hcz59_1, hcz59_2, hfz59_0, hfz59_1, hfz59_2⟩ := zc3f BK313.out
       go_wp2_with (first | ((with_reducible refine gate_callee (f := 22) rfl ?_); refine goesL_ (some 58) rfl rfl Tryd.func22 (by kernel_rfl) rfl #[.agg #[.int .i64 t302, .int .i64 t303, .slice Ao14 t304.length co14], .agg #[.int .i64 t308, .int .i64 t309, .slice Ao19 t310.length co19]] rfl (by (try simp only [zm1, zm2, zm3]); first | done | rfl | (simp only [List.length_drop, List.length_take]; rfl)) ?_; (with_reducible refine (laws_luIndex.calls kj9 t302 t303 _ _ t304 t308 t309 _ _ t310 t320 _ ?side1 ?side2 ?side3 ?side4 A56.out).mono ?_); (case side1 => exact zC (Kd.R_reads' HO_308002.out).2.2); (case side2 => exact (Kd.R_reads' HO_308002.out).2.1); (case side3 => exact zC (Kd.R_reads' HO_314002.out).2.2); (case side4 => exact (Kd.R_reads' HO_314002.out).2.1); rintro e w60 ⟨rfl, hb⟩; refine ⟨_, rfl, ?_⟩; have n0_ := Aside0.mk (Kd.R_below (by exact zR HO_308002.out) hb); have n1_ := Aside0.mk (Kd.R_below (by exact zR HO_314002.out) hb); have n2_ := Aside0.mk (blk_below (g := gb307) (o := .cells #[.int .i64 t302, .int .i64 t303, .slice Ao14 t304.length co14] 38 (0, 0)) (by exact zK BK307.out) hb); have n3_ := Aside0.mk (blk_below (g := gb313) (o := .cells #[.int .i64 t308, .int .i64 t309, .slice Ao19 t310.length co19] 38 (0, 0)) (by exact zK BK313.out) hb); have n4_ := Aside0.mk (below_step (by exact zB2 HB.out GE307.out GE313.out) hb); clear HO_308002; clear HO_314002; clear BK307; clear BK313; clear HB; have HO_308002 := n0_; have HO_314002 := n1_; have BK307 := n2_; have BK313 := n3_; have HB := n4_; clear n0_ n1_ n2_ n3_ n4_; (try clear hb); (try clear hb2); (try clear hk); (try clear hi)))
       go_ret
       exact ⟨by first | rfl | (simp [errW_none, errW_some] <;> rfl) | (simp [*, errW_none, errW_some] <;> rfl), by exact zB2 HB.out GE307.out GE313.out⟩

/-- THE ONE PURE STATEMENT of laws_FnIndexOne: yours. -/
def laws_FnIndexOne.Pure : Prop := ∀ (l0 : List Int) (l1 : List Int), l0.length ≤ maxLen → l0.length * 1 ≤ 140737488351232 → (∀ x ∈ l0, (Lit.int .u8 x).wf = true) → l1.length ≤ maxLen → l1.length * 1 ≤ 140737488351232 → (∀ x ∈ l1, (Lit.int .u8 x).wf = true) → ∃ k, laws_FnIndexOne.f k l0 l1 = some true
theorem laws_FnIndexOne.walk (P : laws_FnIndexOne.Pure) (a0 : Option Addr) (len0 cap0 : Nat) (z0 : List Int) (a1 : Option Addr) (len1 cap1 : Nat) (z1 : List Int) (w : World) (w0 : (a0 = none ∧ len0 = 0 ∧ cap0 = 0 ∧ z0 = []) ∨ ∃ x, a0 = some x ∧ len0 ≤ cap0 ∧ cap0 ≤ maxLen ∧ z0.length = cap0 ∧ (∀ i, i < z0.length → w.cell? (x.add i) = some (.int .u8 (z0.getD i 0))) ∧ ∀ n ∈ z0, (Lit.int .u8 n).wf = true) (y0 : len0 * 1 ≤ 140737488351232) (w1 : (a1 = none ∧ len1 = 0 ∧ cap1 = 0 ∧ z1 = []) ∨ ∃ x, a1 = some x ∧ len1 ≤ cap1 ∧ cap1 ≤ maxLen ∧ z1.length = cap1 ∧ (∀ i, i < z1.length → w.cell? (x.add i) = some (.int .u8 (z1.getD i 0))) ∧ ∀ n ∈ z1, (Lit.int .u8 n).wf = true) (y1 : len1 * 1 ≤ 140737488351232) (hLD : LaidW w) :
  Calls Tryd.prog 7 #[.slice a0 len0 cap0, .slice a1 len1 cap1] w fun e w' => e = .returned (.bool true) ∧ Below w.heap.size w w' := by
 obtain ⟨l0, rfl, hr0, hm0, hw0, hc0⟩ := ReadsInt.ofRowC w0
 obtain ⟨l1, rfl, hr1, hm1, hw1, hc1⟩ := ReadsInt.ofRowC w1
 obtain ⟨k, h⟩ := P l0 l1 hm0 y0 hw0 hm1 y1 hw1
 refine (laws_FnIndexOne.calls k _ _ l0 _ _ l1 true w (Kd.C_of_reads (d := (0 : Int)) (h1 := fun _ => rfl) hr0) hc0 (Kd.C_of_reads (d := (0 : Int)) (h1 := fun _ => rfl) hr1) hc1 hLD h).mono ?_
 rintro e w' ⟨rfl, hd⟩
 exact ⟨rfl, hd⟩

end Go.Proofs.YtlmgnnpmcdeclaaDoor.PFnIndexOne
